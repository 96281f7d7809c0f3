import Derived.Test.YtimalojaiaofkaaSqRingSteps8
set_option linter.unusedVariables false
set_option linter.unusedSimpArgs false
namespace Go.Proofs.Ytimalojaiaofkaa.Rng
open Go.RowKit Base Sp Flat Go.Proofs.YtimalojaiaofkaaW.PrintWords Go.Shelf Smp His
/-- Two queues are apart. -/
def Ap (F : Nat → Prop) (b : Nat) (G : Nat → Prop) (c : Nat) : Prop := (∀ k, F k → ¬ G k) ∧ ¬ F c ∧ ¬ G b ∧ b ≠ c
theorem Ap.symm {F G : Nat → Prop} {b c : Nat} (h : Ap F b G c) : Ap G c F b := ⟨fun k hg hf => h.1 k hf hg, h.2.2.1, h.2.1, fun e => h.2.2.2 e.symm⟩
theorem QS.beside {w w' : World} {F F' G : Nat → Prop} {b c : Nat} {n : Qn} {lost ev : Int} {xs : List Smp} (r : QS w G c n lost ev xs) (d : Ap F b G c) (m : Mod (HM F b) w w') (g : Grow F F' w) : QS w' G c n lost ev xs ∧ Ap F' b G c := by
  refine ⟨r.same m (fun k hk => hk.elim (fun e => ⟨e ▸ d.2.2.1, e ▸ d.2.2.2⟩) (fun hf => ⟨d.1 k hf, fun e => d.2.1 (e ▸ hf)⟩)), fun k hk hg => ?_, fun hc => ?_, d.2.2.1, d.2.2.2⟩
  · exact (g k hk).elim (fun hf => d.1 k hf hg) (fun h => absurd (r.old k hg) (Nat.not_lt.2 h))
  · exact (g c hc).elim (fun hf => d.2.1 hf) (fun h => absurd r.lt (Nat.not_lt.2 h))
/-- All of a queue is new. -/
def Fr (B : Nat) (F : Nat → Prop) (b : Nat) : Prop := B ≤ b ∧ ∀ k, F k → B ≤ k
theorem Fr.step {B : Nat} {w0 w w' : World} {F F' : Nat → Prop} {b : Nat} (f : Fr B F b) (hb : Below B w0 w) (hB : B ≤ w.heap.size) (m : Mod (HM F b) w w') (g : Grow F F' w) : Fr B F' b ∧ Below B w0 w' ∧ B ≤ w'.heap.size :=
  ⟨⟨f.1, fun k hk => (g k hk).elim (f.2 k) (Nat.le_trans hB)⟩, m.below hb hB (fun k hk => hk.elim (fun e => e ▸ f.1) (f.2 k)), Nat.le_trans hB m.size⟩
theorem pushm_0 (x : Smp) : pushm ⟨0, 0, false⟩ [] 0 0 x = ([], 1, 0) := by
  have : evm 0 [] 0 x = ([], 0) := if_neg (fun h => absurd h.2.1 (by decide))
  unfold pushm
  dsimp only
  rw [this]
  rfl
def sz (n : Int) (h : (Lit.int .u64 n).wf = true) : Smp := ⟨0, 0, 0, 0, n, List.replicate 17 0, ⟨#[]⟩, by refine ⟨by decide, by decide, by decide, by decide, h, ⟨rfl, fun k hk => ?_⟩, by decide⟩; rw [List.eq_of_mem_replicate hk]; decide⟩
set_option maxHeartbeats 4000000 in
set_option maxRecDepth 20000 in
theorem awake (w : World) : Calls Try.prog 43 #[] w fun e w' => e = .returned (.bool true) ∧ Below w.heap.size w w' := by
  have C0 := new 1 0 0 w (by decide) (by decide)
  have e1 := Lib.hid (show pushm ⟨mx0 1, mx0 0, (0 : Int) != 0⟩ [] 0 0 (sz 1 (by decide)) = ([sz 1 (by decide)], 0, 0) by kernel_rfl)
  have e2 := Lib.hid (show pushm ⟨mx0 1, mx0 0, (0 : Int) != 0⟩ [sz 1 (by decide)] 0 0 (sz 2 (by decide)) = ([sz 2 (by decide)], 1, 0) by kernel_rfl)
  have e3 := Lib.hid (show pushm ⟨mx0 1, mx0 0, (1 : Int) != 0⟩ [] 0 0 (sz 1 (by decide)) = ([sz 1 (by decide)], 0, 0) by kernel_rfl)
  have e4 := Lib.hid (show pushm ⟨mx0 1, mx0 0, (1 : Int) != 0⟩ [sz 1 (by decide)] 0 0 (sz 2 (by decide)) = ([sz 1 (by decide)], 1, 0) by kernel_rfl)
  go_enter Try.func43, Try.ntmps43
  go_wp2_with fail
  refine C0.mono ?_
  rintro e w1 ⟨rfl, q1, b1⟩
  have f1 : Fr w.heap.size (fun _ => False) w.heap.size := ⟨Nat.le_refl _, fun k h => h.elim⟩
  have C1 := new 1 0 1 w1 (by decide) (by decide)
  clear C0
  go_wp2_with fail
  refine C1.mono ?_
  rintro e w2 ⟨rfl, r2, b2⟩
  have q2 := q1.below b2
  have d2 : Ap (fun _ => False) w.heap.size (fun _ => False) w1.heap.size := ⟨fun k h => h.elim, fun h => h, fun h => h, Nat.ne_of_lt q1.lt⟩
  have g2 : Fr w.heap.size (fun _ => False) w1.heap.size := ⟨b1.size, fun k h => h.elim⟩
  have B2 := bstep b1 b2
  have z2 : w.heap.size ≤ w2.heap.size := B2.size
  have C2 := push q2 (sz 1 (by decide)) (by decide) (by decide) (by decide)
  rw [e1.out] at C2
  dsimp only at C2
  have HX := Lib.hid (And.intro r2 (And.intro d2 (And.intro g2 (And.intro B2 (And.intro z2 f1)))))
  generalize w1.heap.size = c at *
  clear C1 q1 q2 b1 b2 r2 d2 g2 B2 z2 f1 e1
  go_wp2_with fail
  refine C2.mono ?_
  rintro e w3 ⟨rfl, F3, q3, g3, m3⟩
  obtain ⟨r2, d2, k2, B2, z2, f1⟩ := HX.out
  obtain ⟨r3, d3⟩ := r2.beside d2 m3 g3
  obtain ⟨f3, B3, z3⟩ := f1.step B2 z2 m3 g3
  have C3 := push q3 (sz 2 (by decide)) (by decide) (by decide) (by decide)
  rw [e2.out] at C3
  dsimp only at C3
  have HX3 := Lib.hid (And.intro r3 (And.intro d3 (And.intro k2 (And.intro B3 (And.intro z3 f3)))))
  clear C2 HX q3 g3 m3 r2 d2 k2 B2 z2 f1 r3 d3 B3 z3 f3 e2
  go_wp2_with fail
  refine C3.mono ?_
  rintro e w4 ⟨rfl, F4, q4, g4, m4⟩
  obtain ⟨r3, d3, k2, B3, z3, f3⟩ := HX3.out
  obtain ⟨r4, d4⟩ := r3.beside d3 m4 g4
  obtain ⟨f4, B4, z4⟩ := f3.step B3 z3 m4 g4
  have C4 := push r4 (sz 1 (by decide)) (by decide) (by decide) (by decide)
  rw [e3.out] at C4
  dsimp only at C4
  have HX4 := Lib.hid (And.intro q4 (And.intro d4 (And.intro k2 (And.intro B4 (And.intro z4 f4)))))
  clear C3 HX3 q4 g4 m4 r3 d3 k2 B3 z3 f3 r4 d4 B4 z4 f4 e3
  go_wp2_with fail
  refine C4.mono ?_
  rintro e w5 ⟨rfl, F5, r5, g5, m5⟩
  obtain ⟨q4, d4, k2, B4, z4, f4⟩ := HX4.out
  obtain ⟨q5, d5⟩ := q4.beside d4.symm m5 g5
  obtain ⟨f5, B5, z5⟩ := k2.step B4 z4 m5 g5
  have C5 := push r5 (sz 2 (by decide)) (by decide) (by decide) (by decide)
  rw [e4.out] at C5
  dsimp only at C5
  have HX5 := Lib.hid (And.intro q5 (And.intro d5 (And.intro f5 (And.intro B5 (And.intro z5 f4)))))
  clear C4 HX4 r5 g5 m5 q4 d4 k2 B4 z4 f4 q5 d5 B5 z5 f5 e4
  go_wp2_with fail
  refine C5.mono ?_
  rintro e w6 ⟨rfl, F6, r6, g6, m6⟩
  generalize (Value.agg #[.int .i64 0, .int .i64 0, .int .u64 0, .int .u64 0, .int .u64 1, .int .u8 0, .int .u8 0, .int .u8 0, .int .u8 0, .int .u8 0, .int .u8 0, .int .u8 0, .int .u8 0, .int .u8 0, .int .u8 0, .int .u8 0, .int .u8 0, .int .u8 0, .int .u8 0, .int .u8 0, .int .u8 0, .int .u8 0, .string ⟨#[]⟩]) = s1
  generalize (Value.agg #[.int .i64 0, .int .i64 0, .int .u64 0, .int .u64 0, .int .u64 2, .int .u8 0, .int .u8 0, .int .u8 0, .int .u8 0, .int .u8 0, .int .u8 0, .int .u8 0, .int .u8 0, .int .u8 0, .int .u8 0, .int .u8 0, .int .u8 0, .int .u8 0, .int .u8 0, .int .u8 0, .int .u8 0, .int .u8 0, .string ⟨#[]⟩]) = s2
  obtain ⟨q5, d5, f5, B5, z5, f4⟩ := HX5.out
  obtain ⟨q6, d6⟩ := q5.beside d5 m6 g6
  obtain ⟨f6, B6, z6⟩ := f5.step B5 z5 m6 g6
  have C6 : Calls Try.prog 47 #[.pointer (some ⟨w.heap.size, 0, none⟩), .int .i64 2] w6 _ := take q6 (by decide) 2
  have HX6 := Lib.hid (And.intro r6 (And.intro d6.symm (And.intro f6 (And.intro B6 (And.intro z6 f4)))))
  have hlq := Lib.hid q6.lt
  clear C5 HX5 r6 g6 m6 q5 d5 f5 B5 z5 f4 q6 d6 B6 z6 f6
  go_wp2_with fail
  refine C6.mono ?_
  rintro e w7 ⟨va, rfl, ra, q7, m7⟩
  obtain ⟨r6, d6, f6, B6, z6, f4⟩ := HX6.out
  have g7 : Grow F4 F4 w6 := fun k hk => .inl hk
  obtain ⟨r7, d7⟩ := r6.beside d6 m7 g7
  obtain ⟨f7, B7, z7⟩ := f4.step B6 z6 m7 g7
  have C7 : Calls Try.prog 47 #[.pointer (some ⟨c, 0, none⟩), .int .i64 2] w7 _ := take r7 (by decide) 2
  have rc : c < w6.heap.size := r6.lt
  have hF6 : ∀ k, F6 k → k < w6.heap.size := r6.old
  have HX7 := Lib.hid (And.intro q7 (And.intro d7.symm (And.intro f6 (And.intro B7 (And.intro z7 (And.intro ra (And.intro rc hF6)))))))
  obtain ⟨Aa, ca, rfl, hz1, hz2⟩ := ra.slice
  clear hz1 hz2
  clear C6 HX6 q7 m7 r6 d6 f6 B6 z6 f4 g7 r7 d7 f7 B7 z7 rc hF6
  go_wp2_with fail
  refine C7.mono ?_
  rintro e w8 ⟨vb, rfl, rb, r8, m8⟩
  obtain ⟨q7, d7, f6, B7, z7, ra', rc, hF6⟩ := HX7.out
  have g8 : Grow F6 F6 w7 := fun k hk => .inl hk
  obtain ⟨q8, d8⟩ := q7.beside d7 m8 g8
  obtain ⟨f8, B8, z8⟩ := f6.step B7 z7 m8 g8
  have ra8 := ra'.same (w' := w8) (fun k hk => m8.block k hk.2 (fun hh => hh.elim (fun e => by omega) (fun hf => absurd (hF6 k hf) (Nat.not_lt.2 hk.1))))
  obtain ⟨ga, rfl⟩ := Row.addr ra8 (i := 0) (by decide)
  have ya : w8.cell? ⟨ga, 4, none⟩ = some (.int .u64 2) := ra8.range (i := 0) (by decide) 4 _ rfl
  obtain ⟨Ab, cb, rfl, hz1, hz2⟩ := rb.slice
  clear hz1 hz2
  obtain ⟨gb, rfl⟩ := Row.addr rb (i := 0) (by decide)
  have yb : w8.cell? ⟨gb, 4, none⟩ = some (.int .u64 1) := rb.range (i := 0) (by decide) 4 _ rfl
  obtain ⟨v8, k8, _⟩ := q8.at_
  have y8 : w8.cell? ⟨w.heap.size, 4, none⟩ = some (.int .u64 1) := blk_cell k8 4
  have HB := Lib.hid B8
  rw [show (([sz 2 (by decide)] : List Smp).take (2 : Int).toNat).length = 1 from rfl] at *
  rw [show (([sz 1 (by decide)] : List Smp).take (2 : Int).toNat).length = 1 from rfl] at *
  clear C7 HX7 q7 d7 f6 B7 z7 ra' rc hF6 g8 q8 d8 f8 B8 z8 ra8 rb r8 m8 ra k8
  go_wp2
  go_ret
  exact ⟨rfl, HB.out⟩
end Go.Proofs.Ytimalojaiaofkaa.Rng
namespace Go.Proofs.Ytimalojaiaofkaa.Rng
open Go.RowKit Base Sp Flat Go.Proofs.YtimalojaiaofkaaW.PrintWords Go.Shelf Smp His
set_option maxHeartbeats 4000000 in
set_option maxRecDepth 20000 in
theorem nones (x : Smp) (n now : Int) (w : World) :
    Calls Try.prog 14 #[.agg (cells x).toArray, .int .i64 n, .int .u64 now] w fun e w' => e = .returned (.bool true) ∧ Below w.heap.size w w' := by
  have bb : Below w.heap.size w ((w.alloc (.cells (cells x).toArray 60)).alloc (.cells #[.int .i64 0, .int .i64 0, .bool false, .slice none 0 0, .int .u64 0, .int .u64 0] 97)) := ((Below.refl _ _).alloc (Nat.le_refl _) _).alloc (by simp) _
  have n0 : ((w.alloc (.cells (cells x).toArray 60)).alloc (.cells #[.int .i64 0, .int .i64 0, .bool false, .slice none 0 0, .int .u64 0, .int .u64 0] 97)).heap[w.heap.size]? = some (.cells (cells x).toArray 60 (0, 0)) := blk_alloc (heap_alloc_new _ _) _
  have h0 : QS ((w.alloc (.cells (cells x).toArray 60)).alloc (.cells #[.int .i64 0, .int .i64 0, .bool false, .slice none 0 0, .int .u64 0, .int .u64 0] 97)) (fun _ => False) (w.heap.size + 1) ⟨0, 0, false⟩ 0 0 [] := by
    refine ⟨⟨.slice none 0 0, ?_, Row.nil _ _⟩, fun h => h, fun k h => h.elim, by decide, by decide, by decide, by decide⟩
    have := heap_alloc_new (w.alloc (.cells (cells x).toArray 60)) (.cells #[.int .i64 0, .int .i64 0, .bool false, .slice none 0 0, .int .u64 0, .int .u64 0] 97)
    simpa using this
  have f0 : Fr w.heap.size (fun _ => False) (w.heap.size + 1) := ⟨Nat.le_succ _, fun k h => h.elim⟩
  have r0 := box_range n0
  have hz0 := bb.size
  have H0 := Lib.hid (And.intro n0 (And.intro h0 (And.intro bb (And.intro f0 hz0))))
  generalize hq : w.heap.size + 1 = c at *
  clear n0 h0 bb f0 hz0
  go_enter Try.func14, Try.ntmps14
  go_wp2_with (first | ((with_reducible refine gate_dst (N := 12) rfl ?_); refine wpList_load_mid rfl 60 (.tmp 3) rfl w.heap.size 0 rfl (cells x) _ r0 Try.underlying60 rfl (size23 x) ?_) | fail)
  refine (push_nil x _).mono ?_
  rintro e w1 ⟨rfl, b1⟩
  have H1 := Lib.hid (And.intro (blk_below H0.out.1 b1) (And.intro (H0.out.2.1.below b1) (And.intro (bstep H0.out.2.2.1 b1) (And.intro H0.out.2.2.2.1 (Nat.le_trans H0.out.2.2.2.2 b1.size)))))
  clear b1 r0 H0
  go_wp2_with fail
  refine (expire_nil _ _ _).mono ?_
  rintro e w2 ⟨rfl, b2⟩
  have H2 := Lib.hid (And.intro (blk_below H1.out.1 b2) (And.intro (H1.out.2.1.below b2) (And.intro (bstep H1.out.2.2.1 b2) (And.intro H1.out.2.2.2.1 (Nat.le_trans H1.out.2.2.2.2 b2.size)))))
  clear b2 H1
  have r2 := box_range H2.out.1
  go_wp2_with fail
  refine (clear_nil _).mono ?_
  rintro e w3 ⟨rfl, rfl⟩
  have C3 := push H2.out.2.1 x (by decide) (by decide) (by decide)
  rw [pushm_0] at C3
  dsimp only at C3
  go_wp2_with (first | ((with_reducible refine gate_dst (N := 21) rfl ?_); refine wpList_load_mid rfl 60 (.tmp 3) rfl w.heap.size 0 rfl (cells x) _ r2 Try.underlying60 rfl (size23 x) ?_) | fail)
  refine C3.mono ?_
  rintro e w4 ⟨rfl, F4, q4, g4, m4⟩
  have S4 := H2.out.2.2.2.1.step H2.out.2.2.1 H2.out.2.2.2.2 m4 g4
  have C5 := len q4
  have C6 := lost q4
  have C7 := evicted q4
  have C8 := take q4 (by decide) n
  have H4 := Lib.hid S4
  have he : ((([] : List Smp).length : Nat) : Int) = 0 := rfl
  rw [List.take_nil, List.drop_nil] at C8
  rw [he] at C5
  clear C3 r2 H2 q4 g4 m4 S4 he
  go_wp2_with fail
  refine (len_nil _).mono ?_
  rintro e w5 ⟨rfl, rfl⟩
  go_wp2_with fail
  refine (lost_nil _).mono ?_
  rintro e w5 ⟨rfl, rfl⟩
  go_wp2_with fail
  refine (evicted_nil _).mono ?_
  rintro e w5 ⟨rfl, rfl⟩
  go_wp2_with fail
  refine (read_nil _ _).mono ?_
  rintro e w5 ⟨rfl, rfl⟩
  go_wp2_with fail
  refine (take_nil _ _).mono ?_
  rintro e w5 ⟨rfl, rfl⟩
  go_wp2_with fail
  refine C5.mono ?_
  rintro e w5 ⟨rfl, rfl⟩
  go_wp2_with fail
  refine C6.mono ?_
  rintro e w5 ⟨rfl, rfl⟩
  go_wp2_with fail
  refine C7.mono ?_
  rintro e w5 ⟨rfl, rfl⟩
  go_wp2_with fail
  refine C8.mono ?_
  rintro e w6 ⟨v6, rfl, r6, q6, m6⟩
  have S6 := Lib.hid (H4.out.1.step H4.out.2.1 H4.out.2.2 m6 (fun k hk => .inl hk)).2.1
  obtain ⟨A6, c6, rfl, h61, h62⟩ := r6.slice
  clear h61 h62 r6 q6 m6 C5 C6 C7 C8
  rw [show ([] : List Smp).length = 0 from rfl]
  go_wp2_with fail
  refine (awake _).mono ?_
  rintro e w9 ⟨rfl, b9⟩
  go_wp2
  go_ret
  exact ⟨rfl, bstep S6.out b9⟩
end Go.Proofs.Ytimalojaiaofkaa.Rng
namespace Go.Proofs.Ytimalojaiaofkaa.Rng
open Go.RowKit Base Sp Flat Go.Proofs.YtimalojaiaofkaaW.PrintWords Go.Shelf Smp His
/-- A step. -/
structure Rst where
  kind : Int
  s : Smp
  n : Int
  now : Int
  good : (Lit.int .i64 kind).wf = true ∧ (Lit.int .i64 n).wf = true ∧ (Lit.int .u64 now).wf = true
def rstc (x : Rst) : List Value := [.int .i64 x.kind] ++ (cells x.s ++ [.int .i64 x.n, .int .u64 x.now])
theorem rstc_len (x : Rst) : (rstc x).length = 26 := by
  unfold rstc
  rw [List.length_append, List.length_append, cells_len]
  rfl
theorem rstc_one (x : Rst) : ∀ u ∈ rstc x, u.oneCell' = true := by
  intro u hu
  unfold rstc at hu
  rcases List.mem_append.1 hu with hu | hu
  · rw [List.mem_singleton.1 hu]; rfl
  · rcases List.mem_append.1 hu with hu | hu
    · exact cells_one _ u hu
    · simp at hu
      rcases hu with rfl | rfl <;> rfl
def krst : Kd Rst where
  sz := 26
  E := []
  K := fun _ x cs => cs = rstc x
  M := fun _ _ _ x cs => cs = rstc x
  K_len := fun h => by rw [h]; exact rstc_len _
  K_one := fun h u hu => by rw [h] at hu; exact rstc_one _ u hu
  K_below := fun _ h => h
  K_of_M := fun h => h
  M_mono := fun _ h => h
  M_bound := fun h => h
  M_move := fun _ h => h
  M_lower := fun _ h => h
theorem rst_opens : Open.Opens Try.prog 84 krst (fun x => GSmp x.s) := by
  intro H enc w cs h
  have hp : Open.Opens Try.prog 84 (Kd.pair (Kd.int .i64) (Kd.pair ks (Kd.pair (Kd.int .i64) (Kd.int .u64)))) (Open.GPair (fun n => (Lit.int .i64 n).wf = true) (Open.GPair GSmp (Open.GPair (fun n => (Lit.int .i64 n).wf = true) (fun n => (Lit.int .u64 n).wf = true)))) := by
    refine Open.opens_struct Try.underlying84 (by kernel_rfl) ?_
    refine Open.fields_cons (Open.opens_int Try.underlying3) (by kernel_rfl) ?_
    refine Open.fields_cons opens (by kernel_rfl) ?_
    refine Open.fields_cons (Open.opens_int Try.underlying3) (by kernel_rfl) ?_
    exact Open.fields_last (Open.opens_int Try.underlying58) (by kernel_rfl)
  obtain ⟨⟨a, s, n, f⟩, hK, g1, g2, g3, g4⟩ := hp H enc w cs h
  obtain ⟨_, _, rfl, rfl, _, _, rfl, rfl, _, _, rfl, rfl, rfl⟩ := hK
  exact ⟨⟨a, s, n, f, g1, g3, g4⟩, rfl, g2⟩
/-- A step of the argument's list, cell by cell. -/
structure RstAt (w : World) (a : Addr) (x : Rst) : Prop where
  all : CellsAt w a (rstc x)
  kind : w.cell? a = some (.int .i64 x.kind)
  smp : w.rangeAt a.block (a.off + 1) (cells x.s)
  n : w.cell? ⟨a.block, a.off + 24, none⟩ = some (.int .i64 x.n)
  now : w.cell? ⟨a.block, a.off + 25, none⟩ = some (.int .u64 x.now)
theorem RstAt.of {w : World} {a : Addr} {x : Rst} (h : CellsAt w a (rstc x)) : RstAt w a x := by
  refine ⟨h, ?_, fun j v hj => ?_, ?_, ?_⟩
  · have := h 0 _ (show (rstc x)[0]? = some (.int .i64 x.kind) from rfl)
    unfold Addr.add at this
    simpa using this
  · have hj' : j < 23 := by rw [← cells_len x.s]; exact (List.getElem?_eq_some_iff.1 hj).1
    have := h (1 + j) v (by
      unfold rstc
      rw [List.getElem?_append_right (by simp), List.getElem?_append_left (by rw [cells_len]; simp; omega)]
      simpa using hj)
    rw [add_pos a (by omega)] at this
    rw [Nat.add_assoc]
    exact this
  · have := h 24 (.int .i64 x.n) (by
      unfold rstc
      rw [List.getElem?_append_right (by simp), List.getElem?_append_right (by rw [cells_len]; simp), cells_len]
      rfl)
    rwa [add_pos a (by omega)] at this
  · have := h 25 (.int .u64 x.now) (by
      unfold rstc
      rw [List.getElem?_append_right (by simp), List.getElem?_append_right (by rw [cells_len]; simp), cells_len]
      rfl)
    rwa [add_pos a (by omega)] at this
theorem RstAt.lt {w : World} {a : Addr} {x : Rst} (h : RstAt w a x) : a.block < w.heap.size := World.block_lt_of_cell? w a h.kind
theorem RstAt.below {w w' : World} {a : Addr} {x : Rst} {B : Nat} (h : RstAt w a x) (hb : Below B w w') (hl : a.block < B) : RstAt w' a x :=
  ⟨fun j v hj => cbel hb (h.all j v hj) (by rw [His.add_block]; exact hl), cbel hb h.kind hl, fun j v hj => cbel hb (h.smp j v hj) hl, cbel hb h.n hl, cbel hb h.now hl⟩
theorem rst_at {w : World} {A : Option Addr} {l : List Rst} (h : Kd.C krst w A l.length l) {i : Nat} (hi : i < l.length) : ∃ ad, A = some ad ∧ RstAt w (ad.add (i * 26)) l[i] := by
  obtain ⟨ad, e, hc⟩ := h.2.2 (by omega)
  refine ⟨ad, e, RstAt.of fun j v hj => ?_⟩
  obtain ⟨c, _, hK, hcell⟩ := hc i _ (List.getElem?_eq_getElem hi)
  have hK' : c = rstc l[i] := hK
  rw [His.add_add]
  exact hcell j v (by rw [hK']; exact hj)
theorem rst26 (x : Rst) : (Try.prog.info? 84).map (·.size) = some (rstc x).length := by rw [rstc_len]; kernel_rfl
/-- A step's cells in a new block. -/
theorem RstAt.box {w : World} {g : Nat} {t : TypeId} {x : Rst} (h : w.heap[g]? = some (.cells (rstc x).toArray t (0, 0))) : RstAt w ⟨g, 0, none⟩ x :=
  RstAt.of fun j v hj => by
    have e : (⟨g, 0, none⟩ : Addr).add j = ⟨g, j, none⟩ := by
      unfold Addr.add
      split
      · subst_vars; rfl
      · rw [Nat.zero_add]
    rw [e, blk_cell h, List.getElem?_toArray]
    exact hj
/-- A queue's whole state. -/
structure St where
  xs : List Smp
  lost : Int
  ev : Int
/-- What a step leaves. -/
def stepm (n : Qn) (q : St) (x : Rst) : St :=
  if x.kind = 1 then ⟨(pushm n q.xs q.lost q.ev x.s).1, (pushm n q.xs q.lost q.ev x.s).2.1, (pushm n q.xs q.lost q.ev x.s).2.2⟩
  else if x.kind = 2 then q
  else if x.kind = 3 then { q with xs := q.xs.drop x.n.toNat }
  else if x.kind = 4 then { q with xs := expm x.now x.n q.xs }
  else { q with xs := [] }
theorem expm_le (now f : Int) (xs : List Smp) : (expm now f xs).length ≤ xs.length := by
  unfold expm
  split
  · exact Nat.le_refl _
  · exact List.length_filter_le _ _
theorem evm_ev (d : Int) (xs : List Smp) (ev : Int) (x : Smp) : ev ≤ (evm d xs ev x).2 ∧ (evm d xs ev x).2 ≤ ev + 1 := by
  unfold evm
  split <;> dsimp only <;> omega
theorem pushm_le (n : Qn) (xs : List Smp) (lost ev : Int) (x : Smp) : (pushm n xs lost ev x).1.length ≤ xs.length + 1 ∧ lost ≤ (pushm n xs lost ev x).2.1 ∧ (pushm n xs lost ev x).2.1 ≤ lost + 1 ∧ ev ≤ (pushm n xs lost ev x).2.2 ∧ (pushm n xs lost ev x).2.2 ≤ ev + 1 := by
  have h1 := evm_le n.depth xs ev x
  have h2 := evm_ev n.depth xs ev x
  unfold pushm
  split
  · split
    · dsimp only; omega
    · dsimp only; rw [List.length_append, List.length_drop, List.length_singleton]; omega
  · dsimp only; rw [List.length_append, List.length_singleton]; omega
/-- Bounds that hold behind k steps. -/
def Bd (k : Nat) (q : St) : Prop := q.xs.length ≤ k ∧ 0 ≤ q.lost ∧ q.lost ≤ k ∧ 0 ≤ q.ev ∧ q.ev ≤ k
theorem stepm_bd {k : Nat} {n : Qn} {q : St} (h : Bd k q) (x : Rst) : Bd (k + 1) (stepm n q x) := by
  obtain ⟨h1, h2, h3, h4, h5⟩ := h
  have hp := pushm_le n q.xs q.lost q.ev x.s
  have he := expm_le x.now x.n q.xs
  unfold stepm
  split
  · exact ⟨by dsimp only; omega, by dsimp only; omega, by dsimp only; omega, by dsimp only; omega, by dsimp only; omega⟩
  · split
    · exact ⟨by omega, by omega, by omega, by omega, by omega⟩
    · split
      · refine ⟨?_, by dsimp only; omega, by dsimp only; omega, by dsimp only; omega, by dsimp only; omega⟩
        dsimp only
        rw [List.length_drop]
        omega
      · split
        · exact ⟨by dsimp only; omega, by dsimp only; omega, by dsimp only; omega, by dsimp only; omega, by dsimp only; omega⟩
        · exact ⟨Nat.zero_le _, by dsimp only; omega, by dsimp only; omega, by dsimp only; omega, by dsimp only; omega⟩
end Go.Proofs.Ytimalojaiaofkaa.Rng
namespace Go.Proofs.Ytimalojaiaofkaa.Rng
open Go.RowKit Base Sp Flat Go.Proofs.YtimalojaiaofkaaW.PrintWords Go.Shelf Smp His
theorem dr_eraseP (p : Smp → Bool) (xs : List Smp) : dropf p xs = xs.eraseP p := by
  rw [dropf_dr]
  induction xs with
  | nil => rfl
  | cons x r ih =>
    rw [List.eraseP_cons]
    unfold dr
    by_cases h : p x = true
    · simp [h]
    · simp [h, ih]
theorem evm_sub (d : Int) (xs : List Smp) (ev : Int) (x : Smp) : (evm d xs ev x).1.Sublist xs := by
  unfold evm
  split
  · dsimp only; rw [dr_eraseP]; exact List.eraseP_sublist
  · exact List.Sublist.refl _
theorem evm_bal (d : Int) (xs : List Smp) (ev : Int) (x : Smp) : ((evm d xs ev x).1.length : Int) + (evm d xs ev x).2 = (xs.length : Int) + ev := by
  unfold evm
  split
  · rename_i h
    dsimp only
    have hc : 0 < cntr x xs := by omega
    obtain ⟨y, hy, hp⟩ := List.countP_pos_iff.1 hc
    rw [dr_eraseP, List.length_eraseP_of_mem hy hp]
    have := List.length_pos_of_mem hy
    omega
  · rfl
/-- What holds of what waits, was pushed and taken. -/
structure Inv (q : St) (p t : Nat) (last : Int) : Prop where
  bal : (t : Int) + (q.xs.length : Int) + q.lost + q.ev = (p : Int)
  rise : q.xs.Pairwise (fun x y => x.seq < y.seq)
  lo : ∀ x ∈ q.xs, last < x.seq
  hi : ∀ x ∈ q.xs, x.seq ≤ (p : Int)
  lp : last ≤ (p : Int)
  l0 : 0 ≤ last
def St.push (n : Qn) (q : St) (x : Smp) : St := ⟨(pushm n q.xs q.lost q.ev x).1, (pushm n q.xs q.lost q.ev x).2.1, (pushm n q.xs q.lost q.ev x).2.2⟩
theorem Inv.push {n : Qn} {q : St} {p t : Nat} {last : Int} (h : Inv q p t last) (x : Smp) (hx : x.seq = ((p + 1 : Nat) : Int)) (hr : 0 ≤ n.room) : Inv (q.push n x) (p + 1) t last := by
  have hs := evm_sub n.depth q.xs q.ev x
  have hb := evm_bal n.depth q.xs q.ev x
  have hbal := h.bal
  have hlp := h.lp
  have app : ∀ ys : List Smp, ys.Sublist q.xs → (ys ++ [x]).Pairwise (fun x y => x.seq < y.seq) ∧ (∀ y ∈ ys ++ [x], last < y.seq) ∧ (∀ y ∈ ys ++ [x], y.seq ≤ ((p + 1 : Nat) : Int)) := by
    intro ys hy
    refine ⟨List.pairwise_append.2 ⟨h.rise.sublist hy, List.pairwise_singleton _ _, fun a ha b hb => ?_⟩, fun y hm => ?_, fun y hm => ?_⟩
    · rw [List.mem_singleton.1 hb, hx]
      have := h.hi a (hy.subset ha)
      omega
    · rcases List.mem_append.1 hm with hm | hm
      · exact h.lo y (hy.subset hm)
      · rw [List.mem_singleton.1 hm, hx]; omega
    · rcases List.mem_append.1 hm with hm | hm
      · have := h.hi y (hy.subset hm); omega
      · rw [List.mem_singleton.1 hm, hx]; exact Int.le_refl _
  unfold St.push pushm
  split
  · rename_i hf
    split
    · exact ⟨by dsimp only; omega, h.rise.sublist hs, fun y hy => h.lo y (hs.subset hy), fun y hy => by have := h.hi y (hs.subset hy); omega, by omega, h.l0⟩
    · rename_i hnr
      have hn0 : n.room ≠ 0 := fun e => hnr (.inr e)
      obtain ⟨h1, h2, h3⟩ := app _ ((List.drop_sublist 1 _).trans hs)
      refine ⟨?_, h1, h2, h3, by omega, h.l0⟩
      dsimp only
      rw [List.length_append, List.length_drop, List.length_singleton]
      omega
  · obtain ⟨h1, h2, h3⟩ := app _ hs
    refine ⟨?_, h1, h2, h3, by omega, h.l0⟩
    dsimp only
    rw [List.length_append, List.length_singleton]
    omega
/-- The last Seq of what was taken. -/
def lastq (last : Int) (out : List Smp) : Int := out.foldl (fun _ x => x.seq) last
theorem lastq_step (last : Int) (out : List Smp) (i : Nat) (hi : i < out.length) : lastq last (out.take (i + 1)) = out[i].seq := by
  unfold lastq
  rw [List.take_succ_eq_append_getElem hi, List.foldl_append]
  rfl
/-- Each taken sample's Seq is above the last. -/
theorem Inv.above {q : St} {p t : Nat} {last : Int} (h : Inv q p t last) (m : Nat) (i : Nat) (hi : i < (q.xs.take m).length) : lastq last ((q.xs.take m).take i) < (q.xs.take m)[i].seq := by
  have hp : (q.xs.take m).Pairwise (fun x y => x.seq < y.seq) := h.rise.sublist (List.take_sublist _ _)
  cases i with
  | zero => exact h.lo _ ((List.take_sublist _ _).subset (List.getElem_mem hi))
  | succ i =>
    rw [lastq_step last _ i (by omega)]
    exact List.pairwise_iff_getElem.1 hp i (i + 1) (by omega) hi (Nat.lt_succ_self i)
theorem Inv.take {q : St} {p t : Nat} {last : Int} (h : Inv q p t last) (m : Nat) : Inv { q with xs := q.xs.drop m } p (t + (q.xs.take m).length) (lastq last (q.xs.take m)) := by
  have hb := h.bal
  have hl : (q.xs.take m).length + (q.xs.drop m).length = q.xs.length := by rw [← List.length_append, List.take_append_drop]
  have hs : (q.xs.drop m).Sublist q.xs := List.drop_sublist _ _
  have key : lastq last (q.xs.take m) = last ∨ ∃ y ∈ q.xs.take m, lastq last (q.xs.take m) = y.seq := by
    rcases Nat.eq_zero_or_pos (q.xs.take m).length with h0 | h0
    · left; rw [List.length_eq_zero_iff.1 h0]; rfl
    · right
      have := lastq_step last (q.xs.take m) ((q.xs.take m).length - 1) (by omega)
      rw [Nat.sub_add_cancel h0, List.take_length] at this
      exact ⟨_, List.getElem_mem _, this⟩
  have hpw : (q.xs.take m ++ q.xs.drop m).Pairwise (fun x y => x.seq < y.seq) := by rw [List.take_append_drop]; exact h.rise
  refine ⟨by dsimp only; omega, h.rise.sublist hs, fun y hy => ?_, fun y hy => h.hi y (hs.subset hy), ?_, ?_⟩
  · rcases key with e | ⟨z, hz, e⟩
    · rw [e]; exact h.lo y (hs.subset hy)
    · rw [e]; exact (List.pairwise_append.1 hpw).2.2 z hz y hy
  · rcases key with e | ⟨z, hz, e⟩
    · rw [e]; exact h.lp
    · rw [e]; exact h.hi z ((List.take_sublist _ _).subset hz)
  · rcases key with e | ⟨z, hz, e⟩
    · rw [e]; exact h.l0
    · rw [e]; have := h.lo z ((List.take_sublist _ _).subset hz); have := h.l0; omega
end Go.Proofs.Ytimalojaiaofkaa.Rng
namespace Go.Proofs.Ytimalojaiaofkaa.Rng
open Go.RowKit Base Sp Flat Go.Proofs.YtimalojaiaofkaaW.PrintWords Go.Shelf Smp His
def zrst : Rst := ⟨0, zsmp, 0, 0, by decide⟩
theorem rbox_set {w : World} {g : Nat} {t : TypeId} {x y : Rst} (h : w.heap[g]? = some (.cells (rstc y).toArray t (0, 0))) : (w.setCells g 0 (rstc x)).heap[g]? = some (.cells (rstc x).toArray t (0, 0)) := by
  rw [setCells_heap g t (rstc x) 0 _ w h (by rw [rstc_len, rstc_len]; omega), List.take_zero, List.nil_append, List.drop_eq_nil_of_le (by rw [rstc_len, rstc_len]; omega), List.append_nil]
/-- A sample with a number. -/
def numb (k : Int) (h : (Lit.int .u64 k).wf = true) (s : Smp) : Smp := { s with seq := k, good := ⟨s.good.1, s.good.2.1, s.good.2.2.1, s.good.2.2.2.1, h, s.good.2.2.2.2.2⟩ }
def rnumb (k : Int) (h : (Lit.int .u64 k).wf = true) (x : Rst) : Rst := { x with s := numb k h x.s }
theorem rnumb_set (k : Int) (h : (Lit.int .u64 k).wf = true) (x : Rst) : (rstc x).toArray.setIfInBounds 5 (.int .u64 k) = (rstc (rnumb k h x)).toArray := by
  rw [List.setIfInBounds_toArray]
  rfl
theorem rbox_numb {w : World} {g : Nat} {t : TypeId} {x : Rst} (h : w.heap[g]? = some (.cells (rstc x).toArray t (0, 0))) (k : Int) (hk : (Lit.int .u64 k).wf = true) :
    (w.setCell ⟨g, 5, none⟩ (.int .u64 k)).heap[g]? = some (.cells (rstc (rnumb k hk x)).toArray t (0, 0)) := blk_put h 5 _ (rnumb_set k hk x)
theorem rbox_seq {w : World} {g : Nat} {t : TypeId} {x : Rst} (h : w.heap[g]? = some (.cells (rstc x).toArray t (0, 0))) : w.cell? ⟨g, 5, none⟩ = some (.int .u64 x.s.seq) := by
  rw [blk_cell h, List.getElem?_toArray]
  rfl
theorem three_of {k : IntKind} {xs : List Int} (h : xs.length = 3) : ∃ a b c, xs = [a, b, c] := by
  match xs, h with
  | [a, b, c], _ => exact ⟨a, b, c, rfl⟩
/-- Behind a round's box. -/
theorem rbox_alive {B : Nat} {w0 w8 w9 : World} {x : Rst} (hb : Below B w0 w8) (hB : B ≤ w8.heap.size) (hbox : w8.heap[B]? = some (.cells (rstc zrst).toArray 84 (0, 0))) (e : w9 = w8.setCells B 0 (rstc x)) :
    Below B w0 w9 ∧ w9.heap[B]? = some (.cells (rstc x).toArray 84 (0, 0)) := by
  subst e
  exact ⟨(setCells_mod w8 B 0 (rstc x)).below hb hB (fun k hk => Nat.le_of_eq (show k = B from hk).symm), rbox_set (x := x) hbox⟩
theorem sumw {t n p : Nat} {a b : Int} (h : (t : Int) + (n : Int) + a + b = (p : Int)) (ha : 0 ≤ a) (hb : 0 ≤ b) (hp : p ≤ 200) :
    wrap64 ((t : Int) + (n : Int)) = (t : Int) + (n : Int) ∧ IntKind.u64.wrap ((t : Int) + (n : Int)) = (t : Int) + (n : Int) ∧ IntKind.u64.wrap ((t : Int) + (n : Int) + a) = (t : Int) + (n : Int) + a ∧ IntKind.u64.wrap ((t : Int) + (n : Int) + a + b) = (p : Int) ∧ IntKind.u64.wrap (p : Int) = (p : Int) := by
  refine ⟨by unfold wrap64; omega, wrapu64 (by omega) (by omega), wrapu64 (by omega) (by omega), by rw [wrapu64 (by omega) (by omega)]; exact h, wrapu64 (by omega) (by omega)⟩
theorem lit_u64 {n : Int} (h0 : 0 ≤ n) (h1 : n < 18446744073709551616) : (Lit.int .u64 n).wf = true := by
  simp only [Lit.wf, Bool.and_eq_true, decide_eq_true_eq]
  have e1 : IntKind.u64.min = 0 := by decide
  have e2 : IntKind.u64.max = 18446744073709551615 := by decide
  omega
theorem inv0 : Inv ⟨[], 0, 0⟩ 0 0 0 := ⟨rfl, List.Pairwise.nil, fun x h => absurd h List.not_mem_nil, fun x h => absurd h List.not_mem_nil, Int.le_refl _, Int.le_refl _⟩
set_option maxHeartbeats 4000000 in
set_option maxRecDepth 20000 in
theorem order (k0 k1 k2 : Int) (A : Option Addr) (cap : Nat) (l : List Rst) (w : World) (hC : Kd.C krst w A l.length l) (h0 : k0 < 9223372036854775808) (h1 : k1 < 9223372036854775808) :
    Calls Try.prog 11 #[.agg #[.int .i64 k0, .int .i64 k1, .int .i64 k2], .slice A l.length cap] w fun e w' => e = .returned (.bool true) ∧ Below w.heap.size w w' := by
  have bb1 : Below w.heap.size w (w.alloc (.cells #[.int .i64 k0, .int .i64 k1, .int .i64 k2] 79)) := (Below.refl _ _).alloc (Nat.le_refl _) _
  by_cases hl : (l.length : Int) > 200
  · have hl1 : (200 : Int) < (l.length : Int) := by omega
    clear hl h0 h1
    go_enter Try.func11, Try.ntmps11
    go_wp2_with fail
    refine (awake _).mono ?_
    rintro e w1 ⟨rfl, b1⟩
    go_wp2
    go_ret
    exact ⟨rfl, bstep bb1 b1⟩
  · have hl1 : ¬ (200 : Int) < (l.length : Int) := by omega
    have n0 := heap_alloc_new w (.cells #[.int .i64 k0, .int .i64 k1, .int .i64 k2] 79)
    have c0 : (w.alloc (.cells #[.int .i64 k0, .int .i64 k1, .int .i64 k2] 79)).cell? ⟨w.heap.size, 0, none⟩ = some (.int .i64 k0) := blk_cell n0 0
    have c1 : (w.alloc (.cells #[.int .i64 k0, .int .i64 k1, .int .i64 k2] 79)).cell? ⟨w.heap.size, 1, none⟩ = some (.int .i64 k1) := blk_cell n0 1
    have c2 : (w.alloc (.cells #[.int .i64 k0, .int .i64 k1, .int .i64 k2] 79)).cell? ⟨w.heap.size, 2, none⟩ = some (.int .i64 k2) := blk_cell n0 2
    have C0 := new k0 k1 k2 (w.alloc (.cells #[.int .i64 k0, .int .i64 k1, .int .i64 k2] 79)) h0 h1
    have HC := Lib.hid hC
    have HL : Hid (l.length ≤ 200) := Lib.hid (by omega)
    have HB1 := Lib.hid bb1
    have fc : Fr w.heap.size (fun _ => False) (w.alloc (.cells #[.int .i64 k0, .int .i64 k1, .int .i64 k2] 79)).heap.size := ⟨bb1.size, fun k h => h.elim⟩
    have FC := Lib.hid fc
    obtain ⟨c, hc⟩ : ∃ c, c = (w.alloc (.cells #[.int .i64 k0, .int .i64 k1, .int .i64 k2] 79)).heap.size := ⟨_, rfl⟩
    have hB : ∀ w2, Below c (w.alloc (.cells #[.int .i64 k0, .int .i64 k1, .int .i64 k2] 79)) w2 → Below w.heap.size w w2 := fun w2 h => bstep HB1.out (hc ▸ h)
    have hBB := Lib.hid hB
    rw [← hc] at C0 FC
    clear hl hC n0 h0 h1 fc bb1 hB hc
    generalize hn : (⟨mx0 k0, mx0 k1, k2 != 0⟩ : Qn) = n at C0
    clear hn
    go_enter Try.func11, Try.ntmps11
    go_wp2_with fail
    refine C0.mono ?_
    rintro e w2 ⟨rfl, q2, b2⟩
    have B2 : Below w.heap.size w w2 := hBB.out w2 b2
    have HQ2 := Lib.hid (And.intro q2 (And.intro FC.out B2))
    clear C0 b2 B2 q2 hBB FC HB1 c0 c1 c2
    go_wp2
    go_loopw [6, 7, 8, 9] (fun v6 v7 v8 v9 wr => ∃ (i p t : Nat) (last : Int) (q : St) (F : Nat → Prop), v6 = .int .i64 (p : Int) ∧ v7 = .int .i64 (t : Int) ∧ v8 = .int .u64 last ∧ v9 = .int .i64 (i : Int) ∧ i ≤ l.length ∧ p ≤ i ∧ Inv q p t last ∧ 0 ≤ q.lost ∧ 0 ≤ q.ev ∧ QS wr F c n q.lost q.ev q.xs ∧ Fr w.heap.size F c ∧ Below w.heap.size w wr) (fun _ _ _ v9 _ => l.length - (intOf v9).toNat)
    case atStart => exact ⟨0, 0, 0, 0, ⟨[], 0, 0⟩, fun _ => False, rfl, rfl, rfl, rfl, Nat.zero_le _, Nat.le_refl _, inv0, Int.le_refl _, Int.le_refl _, HQ2.out.1, HQ2.out.2.1, HQ2.out.2.2⟩
    case round =>
      obtain ⟨i, p, t, last, q, F, rfl, rfl, rfl, rfl, hi, hp, hI, hlo, hev, hq, hf, bb⟩ := hrel
      by_cases hlt : i < l.length
      · obtain ⟨ad, rfl, st⟩ := rst_at HC.out hlt
        have stw := st.below bb st.lt
        have q0 : (0 : Int) ≤ (i : Int) := by omega
        have q1 : (i : Int) < (l.length : Int) := by omega
        obtain ⟨p1, hp1e⟩ : ∃ p1, p1 = p + 1 := ⟨_, rfl⟩
        have hwi : wrap64 ((i : Int) + 1) = ((i + 1 : Nat) : Int) := by have := HL.out; unfold wrap64; omega
        have hwp : wrap64 ((p : Int) + 1) = (p1 : Int) := by have := HL.out; unfold wrap64; omega
        have hup : IntKind.u64.wrap (p1 : Int) = (p1 : Int) := wrapu64 (by omega) (by have := HL.out; omega)
        have hup2 : IntKind.u64.wrap ((p : Int) + 1) = (p1 : Int) := by rw [← hup]; congr 1; omega
        have HP1 := Lib.hid hp1e
        have HW : (Lit.int .u64 (p1 : Int)).wf = true := lit_u64 (by omega) (by have := HL.out; omega)
        have hi1 : Hid (i + 1 ≤ l.length) := Lib.hid (by omega)
        have hms : Hid (l.length - (intOf (.int .i64 ((i + 1 : Nat) : Int))).toNat < l.length - (intOf (.int .i64 (i : Int))).toNat) := Lib.hid (meas _ _ hlt)
        have hp200 : Hid (p ≤ 200 ∧ p1 ≤ 200) := Lib.hid (by have := HL.out; omega)
        have HP2a := Lib.hid (show p1 ≤ i + 1 by omega)
        have HP2b := Lib.hid (show p ≤ i + 1 by omega)
        have HI0 := Lib.hid hI
        have HN0 := Lib.hid (And.intro hlo hev)
        have HQ0 := Lib.hid hq
        have HF0 := Lib.hid hf
        have BB0 := Lib.hid bb
        have hlen : Hid ((q.xs.length + 1) * 80 ≤ 140737488355328 ∧ (0 ≤ q.ev ∧ q.ev < 1000000000) ∧ (0 ≤ q.lost ∧ q.lost < 1000000000)) := Lib.hid (by
          have h1 := hI.bal
          have h2 := HL.out
          have h3 : q.xs.length ≤ 200 := by omega
          exact ⟨by omega, ⟨hev, by omega⟩, ⟨hlo, by omega⟩⟩)
        generalize l[i] = x at st stw
        clear hlt hi hI hlo hev hq hf bb st hp hp1e
        by_cases hk1 : x.kind = 1
        · have HP2 := HP2a
          go_wp2_with (first | ((with_reducible refine gate_dst (N := 34) rfl ?_); refine load_any (by kernel_rfl) 84 (.tmp 33) rfl _ rfl (rstc x) _ stw.all Try.underlying84 rfl (rst26 x) ?_; clear stw) | ((with_reducible refine gate_dst (N := 10) rfl ?_); refine box_event rfl (N := 10) rfl (cs := (rstc zrst).toArray) (t := 84) ?hr ?_; (case hr => go_simp; rfl); intro gb hgb w8 hbox hb; subst hgb) | ((with_reducible refine gate_store (p := 10) (v := .tmp 34) rfl ?_); refine store_ev rfl 84 (.tmp 10) (.tmp 34) rfl wr.heap.size 0 (rstc x) rfl rfl (there_of hbox (by rw [rstc_len, rstc_len]; omega)) (rst26 x) (rstc_one x) ?_; intro w9 hw9; obtain ⟨B9, n9⟩ := rbox_alive hb hb.size hbox hw9; have y0 := (RstAt.box n9).kind; (rw [hk1] at y0; have y5 := rbox_seq n9; have z5 := blk_frozen n9 5; have n47 := rbox_numb n9 (p1 : Int) HW; have r47 : (w9.setCell ⟨wr.heap.size, 5, none⟩ (.int .u64 (p1 : Int))).rangeAt wr.heap.size 1 (cells (numb (p1 : Int) HW x.s)) := (RstAt.box n47).smp); clear hb hbox hw9)| ((with_reducible refine gate_dst (N := 47) rfl ?_); refine wpList_load_mid rfl 60 (.tmp 46) rfl wr.heap.size 1 rfl (cells (numb (p1 : Int) HW x.s)) _ r47 Try.underlying60 rfl (size23 _) ?_) | fail)
          have B10 : Below wr.heap.size wr (w9.setCell ⟨wr.heap.size, 5, none⟩ (.int .u64 (p1 : Int))) := ((Mod.refl (fun k => k = wr.heap.size) w9).set (p := ⟨wr.heap.size, 5, none⟩) (.inl rfl) _).below B9 B9.size (fun k hk => Nat.le_of_eq (show k = wr.heap.size from hk).symm)
          have C1 : Calls Try.prog 45 _ _ (fun e w' => e = .returned (.tuple #[]) ∧ ∃ F', QS w' F' c n (q.push n (numb (p1 : Int) HW x.s)).lost (q.push n (numb (p1 : Int) HW x.s)).ev (q.push n (numb (p1 : Int) HW x.s)).xs ∧ Grow F F' _ ∧ Mod (HM F c) _ w') := push (HQ0.out.below B10) (numb (p1 : Int) HW x.s) hlen.out.1 hlen.out.2.1 hlen.out.2.2
          have bb10 := bstep BB0.out B10
          have hn1 := pushm_le n q.xs q.lost q.ev (numb (p1 : Int) HW x.s)
          have hn2 : 0 ≤ (q.push n (numb (p1 : Int) HW x.s)).lost ∧ 0 ≤ (q.push n (numb (p1 : Int) HW x.s)).ev := ⟨Int.le_trans HN0.out.1 hn1.2.1, Int.le_trans HN0.out.2 hn1.2.2.2.1⟩
          have hI2 : Inv (q.push n (numb (p1 : Int) HW x.s)) p1 t last := by
            have := HI0.out.push (n := n) (numb (p1 : Int) HW x.s) (by rw [← HP1.out]; rfl) HQ0.out.r0
            rwa [← HP1.out] at this
          have H2 := Lib.hid (And.intro hn2 (And.intro hI2 bb10))
          generalize q.push n (numb (p1 : Int) HW x.s) = q' at C1 H2
          generalize w9.setCell ⟨wr.heap.size, 5, none⟩ (.int .u64 (p1 : Int)) = w10 at *
          clear B9 n9 y0 y5 z5 n47 r47 hn1 hn2 hI2 bb10
          refine C1.mono ?_
          rintro e w11 ⟨rfl, F', q2, g2, m2⟩
          obtain ⟨hf2, bb2, _⟩ := HF0.out.step H2.out.2.2 H2.out.2.2.size m2 g2
          have hn2 := H2.out.1
          have hI2 := H2.out.2.1
          have hn3 := hp200.out.2
          clear C1 g2 m2 B10
          have HI := Lib.hid hI2
          have HF := Lib.hid hf2
          have BB := Lib.hid bb2
          have C5 := len q2
          have C6 := lost q2
          have C7 := evicted q2
          obtain ⟨s1, s2, s3, s4, s5⟩ := sumw HI.out.bal hn2.1 hn2.2 hn3
          have HQ := Lib.hid q2
          have HN := Lib.hid hn2
          have HP := Lib.hid hn3
          clear hI2 hf2 bb2 q2 hn2 hn3
          go_wp2_with fail
          refine C5.mono ?_
          rintro e w5 ⟨rfl, rfl⟩
          go_wp2_with fail
          refine C6.mono ?_
          rintro e w5 ⟨rfl, rfl⟩
          go_wp2_with fail
          refine C7.mono ?_
          rintro e w5 ⟨rfl, rfl⟩
          clear C5 C6 C7
          go_wp2
          rw [show (i : Int) + 1 = ((i + 1 : Nat) : Int) from rfl]
          refine ⟨⟨i + 1, p1, t, last, q', F', rfl, rfl, rfl, rfl, hi1.out, HP2.out, HI.out, HN.out.1, HN.out.2, HQ.out, HF.out, BB.out⟩, hms.out⟩
        · by_cases hk3 : x.kind = 3
          · have HP2 := HP2b
            have hl80 : q.xs.length * 80 ≤ 140737488355328 := Nat.le_trans (Nat.mul_le_mul_right _ (Nat.le_succ _)) hlen.out.1
            go_wp2_with (first | ((with_reducible refine gate_dst (N := 34) rfl ?_); refine load_any (by kernel_rfl) 84 (.tmp 33) rfl _ rfl (rstc x) _ stw.all Try.underlying84 rfl (rst26 x) ?_; clear stw) | ((with_reducible refine gate_dst (N := 10) rfl ?_); refine box_event rfl (N := 10) rfl (cs := (rstc zrst).toArray) (t := 84) ?hr ?_; (case hr => go_simp; rfl); intro gb hgb w8 hbox hb; subst hgb) | ((with_reducible refine gate_store (p := 10) (v := .tmp 34) rfl ?_); refine store_ev rfl 84 (.tmp 10) (.tmp 34) rfl wr.heap.size 0 (rstc x) rfl rfl (there_of hbox (by rw [rstc_len, rstc_len]; omega)) (rst26 x) (rstc_one x) ?_; intro w9 hw9; obtain ⟨B9, n9⟩ := rbox_alive hb hb.size hbox hw9; have y0 := (RstAt.box n9).kind; (rw [hk3] at y0; have y24 := (RstAt.box n9).n; have hg9 := blk_lt n9); clear hb hbox hw9) | fail)
            have q9 := HQ0.out.below B9
            have C1 := read q9 hl80 x.n
            have bb9 := Lib.hid (bstep BB0.out B9)
            have HI3 := Lib.hid (HI0.out.take x.n.toNat)
            have C2a := Lib.hid (fun (w10 : World) (b10 : Below w9.heap.size w9 w10) => take (q9.below b10) hl80 x.n)
            have hol : Hid ((q.xs.take x.n.toNat).length ≤ 200) := Lib.hid (by
              have h1 := HI0.out.bal
              have h2 := HN0.out
              have h3 := hp200.out
              rw [List.length_take]
              have h4 := Nat.min_le_right x.n.toNat q.xs.length
              omega)
            have HAB := Lib.hid (fun j hj => HI0.out.above x.n.toNat j hj)
            have HF9 := Lib.hid q9
            generalize q.xs.take x.n.toNat = out at *
            clear q9 B9 n9 y0 hl80
            refine C1.mono ?_
            rintro e w10 ⟨v10, rfl, r10, b10⟩
            have y24b : w10.cell? ⟨wr.heap.size, 24, none⟩ = some (.int .i64 x.n) := cbel b10 y24 hg9
            have C2 := C2a.out w10 b10
            have HR10 := Lib.hid (And.intro r10 b10)
            obtain ⟨A10, c10, rfl, h101, h102⟩ := r10.slice
            clear h101 h102 r10 C1 C2a b10 y24
            go_wp2_with fail
            refine C2.mono ?_
            rintro e w11 ⟨v11, rfl, r11, q11, m11⟩
            have r10b := HR10.out.1.same (w' := w11) (fun k hk => m11.block k hk.2 (fun hh => hh.elim (fun e => absurd (e ▸ HF9.out.lt) (Nat.not_lt.2 hk.1)) (fun hf => absurd (HF9.out.old k hf) (Nat.not_lt.2 hk.1))))
            have C3 := rsame r10b r11
            rw [decide_eq_true rfl] at C3
            obtain ⟨_, bb11, hs11⟩ := HF0.out.step (bb9.out.trans (HR10.out.2.mono (Nat.le_trans BB0.out.size (Nat.le_of_lt hg9)))) (Nat.le_trans bb9.out.size HR10.out.2.size) m11 (fun k hk => .inl hk)
            have HX := Lib.hid (And.intro r11 (And.intro q11 (And.intro bb11 hs11)))
            obtain ⟨A11, c11, rfl, h111, h112⟩ := r11.slice
            clear h111 h112 C2 r10b r11 q11 m11 bb11 hs11 y24b
            go_wp2_with fail
            refine C3.mono ?_
            rintro e w12 ⟨rfl, b12⟩
            have HX2 := Lib.hid (And.intro (HX.out.1.below b12) (And.intro (HX.out.2.1.below b12) (bstep HX.out.2.2.1 b12)))
            clear C3 b12 HX
            generalize wr.heap.size = g0 at *
            go_wp2
            go_loopw [8, 13] (fun v8 v13 wz => ∃ j : Nat, v8 = .int .u64 (lastq last (out.take j)) ∧ v13 = .int .i64 (j : Int) ∧ j ≤ out.length ∧ wz = w12) (fun _ v13 _ => out.length - (intOf v13).toNat)
            case atStart => exact ⟨0, rfl, rfl, Nat.zero_le _, rfl⟩
            case round =>
              obtain ⟨j, rfl, rfl, hj, rfl⟩ := hrel
              by_cases hjl : j < out.length
              · obtain ⟨g, rfl⟩ := Row.addr HX2.out.1 hjl
                have ys := HX2.out.1.range hjl 4 _ rfl
                have hab := HAB.out j hjl
                have hls := Lib.hid (lastq_step last out j hjl)
                have hjl2 := Lib.hid hjl
                have hr0 : (0 : Int) ≤ (j : Int) := by omega
                have hr1 : (j : Int) < (out.length : Int) := by omega
                have HWJ : Hid (wrap64 ((j : Int) + 1) = ((j + 1 : Nat) : Int)) := Lib.hid (by have := hol.out; unfold wrap64; omega)
                generalize out[j].seq = sq1 at ys hab hls
                generalize lastq last (out.take j) = L at *
                clear hjl hj
                go_wp2
                rw [HWJ.out]
                exact ⟨⟨j + 1, by rw [hls.out], rfl, hjl2.out, trivial⟩, meas _ _ hjl2.out⟩
              · have hje : out.take j = out := List.take_of_length_le (by omega)
                rw [hje]
                have hr1 : ¬ (j : Int) < (out.length : Int) := by omega
                have hwt : wrap64 ((t : Int) + (out.length : Int)) = ((t + out.length : Nat) : Int) := by
                  have h1 := HI3.out.bal
                  have h2 := hp200.out
                  have h3 := HN0.out
                  dsimp only at h1
                  unfold wrap64
                  omega
                have q2 := HX2.out.2.1
                have bb2 := HX2.out.2.2
                have hI2 := HI3.out
                have hf2 := HF0.out
                have hn2 := HN0.out
                have hn3 := hp200.out.1
                generalize q.xs.drop x.n.toNat = ds at *
                obtain ⟨t1, ht1⟩ : ∃ t1, t1 = t + out.length := ⟨_, rfl⟩
                rw [← ht1] at hwt hI2
                clear ht1 hj hjl hje
                have HI := Lib.hid hI2
                have HF := Lib.hid hf2
                have BB := Lib.hid bb2
                have C5 := len q2
                have C6 := lost q2
                have C7 := evicted q2
                obtain ⟨s1, s2, s3, s4, s5⟩ := sumw HI.out.bal hn2.1 hn2.2 hn3
                have HQ := Lib.hid q2
                have HN := Lib.hid hn2
                have HP := Lib.hid hn3
                clear hI2 hf2 bb2 q2 hn2 hn3
                go_wp2_with fail
                refine C5.mono ?_
                rintro e w5 ⟨rfl, rfl⟩
                go_wp2_with fail
                refine C6.mono ?_
                rintro e w5 ⟨rfl, rfl⟩
                go_wp2_with fail
                refine C7.mono ?_
                rintro e w5 ⟨rfl, rfl⟩
                clear C5 C6 C7
                go_wp2
                rw [show (i : Int) + 1 = ((i + 1 : Nat) : Int) from rfl]
                refine ⟨⟨i + 1, p, t1, (lastq last out), { q with xs := ds }, F, rfl, rfl, rfl, rfl, hi1.out, HP2.out, HI.out, HN.out.1, HN.out.2, HQ.out, HF.out, BB.out⟩, hms.out⟩
          · have HP2 := HP2b
            have hk1' : (x.kind == 1) = false := beq_eq_false_iff_ne.2 hk1
            have hk3' : (x.kind == 3) = false := beq_eq_false_iff_ne.2 hk3
            go_wp2_with (first | ((with_reducible refine gate_dst (N := 34) rfl ?_); refine load_any (by kernel_rfl) 84 (.tmp 33) rfl _ rfl (rstc x) _ stw.all Try.underlying84 rfl (rst26 x) ?_; clear stw) | ((with_reducible refine gate_dst (N := 10) rfl ?_); refine box_event rfl (N := 10) rfl (cs := (rstc zrst).toArray) (t := 84) ?hr ?_; (case hr => go_simp; rfl); intro gb hgb w8 hbox hb; subst hgb) | ((with_reducible refine gate_store (p := 10) (v := .tmp 34) rfl ?_); refine store_ev rfl 84 (.tmp 10) (.tmp 34) rfl wr.heap.size 0 (rstc x) rfl rfl (there_of hbox (by rw [rstc_len, rstc_len]; omega)) (rst26 x) (rstc_one x) ?_; intro w9 hw9; obtain ⟨B9, n9⟩ := rbox_alive hb hb.size hbox hw9; have y0 := (RstAt.box n9).kind; skip; clear hb hbox hw9) | fail)
            have q2 := HQ0.out.below B9
            have bb2 := bstep BB0.out B9
            have hI2 := HI0.out
            have hf2 := HF0.out
            have hn2 := HN0.out
            have hn3 := hp200.out.1
            clear B9 n9 y0
            have HI := Lib.hid hI2
            have HF := Lib.hid hf2
            have BB := Lib.hid bb2
            have C5 := len q2
            have C6 := lost q2
            have C7 := evicted q2
            obtain ⟨s1, s2, s3, s4, s5⟩ := sumw HI.out.bal hn2.1 hn2.2 hn3
            have HQ := Lib.hid q2
            have HN := Lib.hid hn2
            have HP := Lib.hid hn3
            clear hI2 hf2 bb2 q2 hn2 hn3
            go_wp2_with fail
            refine C5.mono ?_
            rintro e w5 ⟨rfl, rfl⟩
            go_wp2_with fail
            refine C6.mono ?_
            rintro e w5 ⟨rfl, rfl⟩
            go_wp2_with fail
            refine C7.mono ?_
            rintro e w5 ⟨rfl, rfl⟩
            clear C5 C6 C7
            go_wp2
            rw [show (i : Int) + 1 = ((i + 1 : Nat) : Int) from rfl]
            refine ⟨⟨i + 1, p, t, last, q, F, rfl, rfl, rfl, rfl, hi1.out, HP2.out, HI.out, HN.out.1, HN.out.2, HQ.out, HF.out, BB.out⟩, hms.out⟩
      · have q1 : ¬ (i : Int) < (l.length : Int) := by omega
        clear hq hf hlt hi hI hp
        go_wp2_with fail
        refine (awake _).mono ?_
        rintro e w9 ⟨rfl, b9⟩
        go_wp2
        go_ret
        exact ⟨rfl, bstep bb b9⟩
end Go.Proofs.Ytimalojaiaofkaa.Rng
namespace Go.Proofs.Ytimalojaiaofkaa.Rng
open Go.RowKit Base Sp Flat Go.Proofs.YtimalojaiaofkaaW.PrintWords Go.Shelf Smp His
/-! The reference's queue: a value, whose list reads so (Rd ks). -/
section
variable {P : Program} {op : Oper} {a : Act} {w : World}
theorem load_yields_any {ty : TypeId} {x : Operand} (ho : op.op = .load ty x) {p : Addr} (hx : a.eval x = .pointer (some p)) {cs : List Value} {d : TypeDesc} (hc : CellsAt w p cs)
    (hu : P.underlying ty = some d) (hd : d.isRow = true) (hi : (P.info? ty).map (·.size) = some cs.length) : (execOp a.eval op).run P w = .ok (.value (.agg cs.toArray)) w := by
  unfold execOp
  simp only [ho, hx, Instr.loadAt, Instr.sureAddr, Sem.run_bind, Sem.run_pure, Result.andThen_ok, loadVar_any p ty cs d hc hu hd hi]
end
theorem rd_at {w : World} {F : Nat → Prop} {A : Option Addr} {n c : Nat} {xs : List Smp} (h : Rd ks w F (.slice A n c) xs) {i : Nat} (hi : i < xs.length) : ∃ ad, A = some ad ∧ CellsAt w (ad.add (i * 23)) (cells xs[i]) := by
  obtain ⟨A', c', e, hl, hC, hA⟩ := h
  injection e with e1 _ _
  subst e1
  obtain ⟨ad, e, hc⟩ := hC.2.2 (by omega)
  refine ⟨ad, e, fun j v hj => ?_⟩
  obtain ⟨c, _, hK, hcell⟩ := hc i _ (List.getElem?_eq_getElem hi)
  have hK' : c = cells xs[i] := hK
  rw [His.add_add]
  exact hcell j v (by rw [hK']; exact hj)
theorem rd_below {w w' : World} {F : Nat → Prop} {v : Value} {xs : List Smp} (h : Rd ks w F v xs) (hb : Below w.heap.size w w') : Rd ks w' F v xs := by
  obtain ⟨A, c, e, hl, hC, hA⟩ := h
  exact ⟨A, c, e, hl, Kd.C_below hC hb, hA⟩
/-- A row of samples reads so. -/
theorem row_rd {w : World} {F : Nat → Prop} {v : Value} {xs : List Smp} (h : Row w F v xs) : Rd ks w F v xs := by
  have hm := h.small
  have hmm : maxLen = 9223372036854775807 := rfl
  obtain ⟨A, c, rfl, hc, hA⟩ := h.slice
  refine ⟨A, c, rfl, hc, ⟨rfl, by omega, fun hn => ?_⟩, fun a ha => (hA a ha).2.1⟩
  obtain ⟨g, rfl⟩ := Row.addr h hn
  refine ⟨_, rfl, fun j p hj => ?_⟩
  have hjl := (List.getElem?_eq_some_iff.1 hj).1
  have hjp := (List.getElem?_eq_some_iff.1 hj).2
  refine ⟨cells p, cells_len p, rfl, fun i u hi => ?_⟩
  have := h.range hjl i u (by rw [hjp]; exact hi)
  rw [add_plain]
  exact this
set_option maxHeartbeats 1000000 in
set_option maxRecDepth 20000 in
theorem rsame2 {w : World} {F G : Nat → Prop} {v u : Value} {xs ys : List Smp} (h : Rd ks w F v xs) (h' : Rd ks w G u ys) :
    Calls Try.prog 34 #[v, u] w fun e w' => e = .returned (.bool (decide (xs = ys))) ∧ Below w.heap.size w w' := by
  have b1 := Below.refl w.heap.size w
  have HL := Lib.hid h.max
  have HA := Lib.hid h
  have HB := Lib.hid h'
  obtain ⟨A, c, rfl, _, _, _⟩ := h
  obtain ⟨B, c', rfl, _, _, _⟩ := h'
  by_cases hl : xs.length = ys.length
  · have hlq : ((xs.length : Int) != (ys.length : Int)) = false := bne_eq_false_iff_eq.2 (by omega)
    have HE := Lib.hid hl
    go_enter Try.func34, Try.ntmps34
    go_wp2
    go_loopw [5] (fun v5 wr => ∃ i : Nat, v5 = .int .i64 (i : Int) ∧ i ≤ xs.length ∧ Hid (xs.take i = ys.take i) ∧ Below w.heap.size w wr) (fun v5 _ => xs.length - (intOf v5).toNat)
    case atStart => exact ⟨0, rfl, Nat.zero_le _, Lib.hid rfl, b1⟩
    case round =>
      clear b1
      obtain ⟨i, rfl, hi, ht, bb⟩ := hrel
      by_cases hlt : i < xs.length
      · have h0 : (0 : Int) ≤ (i : Int) := by omega
        have hlt1 : (i : Int) < (xs.length : Int) := by omega
        have hlt' : i < ys.length := by omega
        have hlt3 : (i : Int) < (ys.length : Int) := by omega
        obtain ⟨ad, rfl, q1⟩ := rd_at (rd_below HA.out bb) hlt
        obtain ⟨bd, rfl, q2⟩ := rd_at (rd_below HB.out bb) hlt'
        have hwi : wrap64 ((i : Int) + 1) = ((i + 1 : Nat) : Int) := by have := HL.out; unfold wrap64; omega
        have hlt2 := Lib.hid hlt
        have hstep : xs[i] = ys[i] → xs.take (i + 1) = ys.take (i + 1) := fun e => by rw [List.take_succ_eq_append_getElem hlt, List.take_succ_eq_append_getElem hlt', ht.out]; exact congrArg (fun z => ys.take i ++ [z]) e
        have hno : xs[i] ≠ ys[i] → xs ≠ ys := fun e hh => e (by simp only [hh])
        generalize xs[i] = x at q1 hstep hno
        generalize ys[i] = y at q2 hstep hno
        have hq := fun W => smp_neq x y W
        have HH := Lib.hid bb
        clear hlt hi bb hl hlt' ht
        by_cases he : x = y
        · have hs2 := Lib.hid (hstep he)
          rw [decide_eq_true he] at hq
          clear hstep hno he
          go_wp2_with fail
          refine Reg.wp_plan (S := fun w' => CellsAt w' (ad.add (i * 23)) (cells x) ∧ CellsAt w' (bd.add (i * 23)) (cells y)) 9 (.fl 0 (.fl 1 (.fl 2 (.fl 3 (.fl 4 (.fl 5 (.fl 6 (.fl 7 (.fl 8 .done))))))))) (by kernel_rfl) (by kernel_rfl) (by kernel_rfl) (by kernel_rfl) (fun _ _ _ d _ h => by cases d <;> exact h) ?_ (fun hHeld => ?_)
          · exact ⟨q1, q2⟩
          refine Reg.G_on (o := { dst := some 17, op := Op.move (Operand.tmp 0), type := 56, pos := "ref.go:69", after := #[], guard := Option.none }) (v := ?_) (by rfl) ?_ (fun wS hSw => ?_) ?_
          rotate_left
          · kernel_rfl
          · (try dsimp only at hSw); go_simp; (try with_reducible rfl)
          try simp only [Act.put, List.setIfInBounds_toArray, List.set_cons_zero, List.set_cons_succ]
          refine Reg.G_on (o := { dst := some 18, op := Op.move (Operand.tmp 5), type := 3, pos := "ref.go:69", after := #[], guard := Option.none }) (v := ?_) (by rfl) ?_ (fun wS hSw => ?_) ?_
          rotate_left
          · kernel_rfl
          · (try dsimp only at hSw); go_simp; (try with_reducible rfl)
          try simp only [Act.put, List.setIfInBounds_toArray, List.set_cons_zero, List.set_cons_succ]
          refine Reg.G_on (o := { dst := some 19, op := Op.indexAddr 56 (Operand.tmp 17) (Operand.tmp 18), type := 0, pos := "ref.go:69", after := #[{ on := 0, ground := Ground.data }, { on := 1, ground := Ground.data }], guard := Option.none }) (v := ?_) (by rfl) ?_ (fun wS hSw => ?_) ?_
          rotate_left
          · kernel_rfl
          · (try dsimp only at hSw); go_simp; (try with_reducible rfl)
          try simp only [Act.put, List.setIfInBounds_toArray, List.set_cons_zero, List.set_cons_succ]
          refine Reg.G_on (o := { dst := some 20, op := Op.load 60 (Operand.tmp 19), type := 60, pos := "ref.go:69", after := #[{ on := 2, ground := Ground.data }], guard := Option.none }) (v := .agg (cells x).toArray) (by rfl) ?_ (fun wS hSw => ?_) ?_
          · kernel_rfl
          · exact load_yields_any rfl rfl hSw.1 Try.underlying60 rfl (size23 x)
          try simp only [Act.put, List.setIfInBounds_toArray, List.set_cons_zero, List.set_cons_succ]
          refine Reg.G_on (o := { dst := some 21, op := Op.move (Operand.tmp 1), type := 56, pos := "ref.go:69", after := #[], guard := Option.none }) (v := ?_) (by rfl) ?_ (fun wS hSw => ?_) ?_
          rotate_left
          · kernel_rfl
          · (try dsimp only at hSw); go_simp; (try with_reducible rfl)
          try simp only [Act.put, List.setIfInBounds_toArray, List.set_cons_zero, List.set_cons_succ]
          refine Reg.G_on (o := { dst := some 22, op := Op.move (Operand.tmp 5), type := 3, pos := "ref.go:69", after := #[], guard := Option.none }) (v := ?_) (by rfl) ?_ (fun wS hSw => ?_) ?_
          rotate_left
          · kernel_rfl
          · (try dsimp only at hSw); go_simp; (try with_reducible rfl)
          try simp only [Act.put, List.setIfInBounds_toArray, List.set_cons_zero, List.set_cons_succ]
          refine Reg.G_on (o := { dst := some 23, op := Op.indexAddr 56 (Operand.tmp 21) (Operand.tmp 22), type := 0, pos := "ref.go:69", after := #[{ on := 4, ground := Ground.data }, { on := 5, ground := Ground.data }], guard := Option.none }) (v := ?_) (by rfl) ?_ (fun wS hSw => ?_) ?_
          rotate_left
          · kernel_rfl
          · (try dsimp only at hSw); go_simp; (try with_reducible rfl)
          try simp only [Act.put, List.setIfInBounds_toArray, List.set_cons_zero, List.set_cons_succ]
          refine Reg.G_on (o := { dst := some 24, op := Op.load 60 (Operand.tmp 23), type := 60, pos := "ref.go:69", after := #[{ on := 6, ground := Ground.data }], guard := Option.none }) (v := .agg (cells y).toArray) (by rfl) ?_ (fun wS hSw => ?_) ?_
          · kernel_rfl
          · exact load_yields_any rfl rfl hSw.2 Try.underlying60 rfl (size23 y)
          try simp only [Act.put, List.setIfInBounds_toArray, List.set_cons_zero, List.set_cons_succ]
          refine Reg.G_on (o := { dst := some 25, op := Op.binOp BinOp.neq 60 (Operand.tmp 20) (Operand.tmp 24) 60, type := 4, pos := "ref.go:69", after := #[{ on := 3, ground := Ground.data }, { on := 7, ground := Ground.data }], guard := Option.none }) (v := .bool (!true)) (by rfl) ?_ (fun wS hSw => ?_) ?_
          · kernel_rfl
          · exact eql_yields rfl rfl rfl gd_smp (hq _)
          try simp only [Act.put, List.setIfInBounds_toArray, List.set_cons_zero, List.set_cons_succ]
          refine Reg.G_done ?_
          clear hHeld
          go_wp2
          rw [hwi]
          exact ⟨⟨i + 1, rfl, hlt2.out, hs2, HH.out.drew⟩, meas _ _ hlt2.out⟩
        · have hs2 : Hid (decide (xs = ys) = false) := Lib.hid (decide_eq_false (hno he))
          rw [decide_eq_false he] at hq
          clear hstep hno he
          go_wp2_with fail
          refine Reg.wp_plan (S := fun w' => CellsAt w' (ad.add (i * 23)) (cells x) ∧ CellsAt w' (bd.add (i * 23)) (cells y)) 9 (.fl 0 (.fl 1 (.fl 2 (.fl 3 (.fl 4 (.fl 5 (.fl 6 (.fl 7 (.fl 8 .done))))))))) (by kernel_rfl) (by kernel_rfl) (by kernel_rfl) (by kernel_rfl) (fun _ _ _ d _ h => by cases d <;> exact h) ?_ (fun hHeld => ?_)
          · exact ⟨q1, q2⟩
          refine Reg.G_on (o := { dst := some 17, op := Op.move (Operand.tmp 0), type := 56, pos := "ref.go:69", after := #[], guard := Option.none }) (v := ?_) (by rfl) ?_ (fun wS hSw => ?_) ?_
          rotate_left
          · kernel_rfl
          · (try dsimp only at hSw); go_simp; (try with_reducible rfl)
          try simp only [Act.put, List.setIfInBounds_toArray, List.set_cons_zero, List.set_cons_succ]
          refine Reg.G_on (o := { dst := some 18, op := Op.move (Operand.tmp 5), type := 3, pos := "ref.go:69", after := #[], guard := Option.none }) (v := ?_) (by rfl) ?_ (fun wS hSw => ?_) ?_
          rotate_left
          · kernel_rfl
          · (try dsimp only at hSw); go_simp; (try with_reducible rfl)
          try simp only [Act.put, List.setIfInBounds_toArray, List.set_cons_zero, List.set_cons_succ]
          refine Reg.G_on (o := { dst := some 19, op := Op.indexAddr 56 (Operand.tmp 17) (Operand.tmp 18), type := 0, pos := "ref.go:69", after := #[{ on := 0, ground := Ground.data }, { on := 1, ground := Ground.data }], guard := Option.none }) (v := ?_) (by rfl) ?_ (fun wS hSw => ?_) ?_
          rotate_left
          · kernel_rfl
          · (try dsimp only at hSw); go_simp; (try with_reducible rfl)
          try simp only [Act.put, List.setIfInBounds_toArray, List.set_cons_zero, List.set_cons_succ]
          refine Reg.G_on (o := { dst := some 20, op := Op.load 60 (Operand.tmp 19), type := 60, pos := "ref.go:69", after := #[{ on := 2, ground := Ground.data }], guard := Option.none }) (v := .agg (cells x).toArray) (by rfl) ?_ (fun wS hSw => ?_) ?_
          · kernel_rfl
          · exact load_yields_any rfl rfl hSw.1 Try.underlying60 rfl (size23 x)
          try simp only [Act.put, List.setIfInBounds_toArray, List.set_cons_zero, List.set_cons_succ]
          refine Reg.G_on (o := { dst := some 21, op := Op.move (Operand.tmp 1), type := 56, pos := "ref.go:69", after := #[], guard := Option.none }) (v := ?_) (by rfl) ?_ (fun wS hSw => ?_) ?_
          rotate_left
          · kernel_rfl
          · (try dsimp only at hSw); go_simp; (try with_reducible rfl)
          try simp only [Act.put, List.setIfInBounds_toArray, List.set_cons_zero, List.set_cons_succ]
          refine Reg.G_on (o := { dst := some 22, op := Op.move (Operand.tmp 5), type := 3, pos := "ref.go:69", after := #[], guard := Option.none }) (v := ?_) (by rfl) ?_ (fun wS hSw => ?_) ?_
          rotate_left
          · kernel_rfl
          · (try dsimp only at hSw); go_simp; (try with_reducible rfl)
          try simp only [Act.put, List.setIfInBounds_toArray, List.set_cons_zero, List.set_cons_succ]
          refine Reg.G_on (o := { dst := some 23, op := Op.indexAddr 56 (Operand.tmp 21) (Operand.tmp 22), type := 0, pos := "ref.go:69", after := #[{ on := 4, ground := Ground.data }, { on := 5, ground := Ground.data }], guard := Option.none }) (v := ?_) (by rfl) ?_ (fun wS hSw => ?_) ?_
          rotate_left
          · kernel_rfl
          · (try dsimp only at hSw); go_simp; (try with_reducible rfl)
          try simp only [Act.put, List.setIfInBounds_toArray, List.set_cons_zero, List.set_cons_succ]
          refine Reg.G_on (o := { dst := some 24, op := Op.load 60 (Operand.tmp 23), type := 60, pos := "ref.go:69", after := #[{ on := 6, ground := Ground.data }], guard := Option.none }) (v := .agg (cells y).toArray) (by rfl) ?_ (fun wS hSw => ?_) ?_
          · kernel_rfl
          · exact load_yields_any rfl rfl hSw.2 Try.underlying60 rfl (size23 y)
          try simp only [Act.put, List.setIfInBounds_toArray, List.set_cons_zero, List.set_cons_succ]
          refine Reg.G_on (o := { dst := some 25, op := Op.binOp BinOp.neq 60 (Operand.tmp 20) (Operand.tmp 24) 60, type := 4, pos := "ref.go:69", after := #[{ on := 3, ground := Ground.data }, { on := 7, ground := Ground.data }], guard := Option.none }) (v := .bool (!false)) (by rfl) ?_ (fun wS hSw => ?_) ?_
          · kernel_rfl
          · exact eql_yields rfl rfl rfl gd_smp (hq _)
          try simp only [Act.put, List.setIfInBounds_toArray, List.set_cons_zero, List.set_cons_succ]
          refine Reg.G_done ?_
          clear hHeld
          go_wp2
          go_ret
          exact ⟨by rw [hs2.out]; rfl, HH.out.drew⟩
      · have hlt1 : ¬ (i : Int) < (xs.length : Int) := by omega
        have hres : Hid (decide (xs = ys) = true) := Lib.hid (decide_eq_true (by
          have := ht.out
          rwa [List.take_of_length_le (by omega), List.take_of_length_le (by have := HE.out; omega)] at this))
        clear hlt hi hl ht
        go_wp2
        go_ret
        exact ⟨by rw [hres.out]; rfl, bb⟩
  · have hlq : ((xs.length : Int) != (ys.length : Int)) = true := bne_iff_ne.2 (by omega)
    have hres : Hid (decide (xs = ys) = false) := Lib.hid (decide_eq_false (fun e => hl (by rw [e])))
    clear hl
    go_enter Try.func34, Try.ntmps34
    go_wp2
    go_ret
    exact ⟨by rw [hres.out]; rfl, b1⟩
/-- Of another one's instance, as the document says. -/
def ritr (s x : Smp) : Bool := decide (x.op = 1) && (decide (x.writer = s.writer) && decide (x.key = s.key))
theorem ritr_itr {s : Smp} (h : s.op = 1) : ritr s = itr s := by
  funext x
  unfold ritr itr
  rw [h]
set_option maxRecDepth 20000 in
set_option maxHeartbeats 1000000 in
theorem rits (x s : Smp) (W : World) :
    Calls Try.prog 99 #[.agg (cells x).toArray, .agg (cells s).toArray] W fun e w' => e = .returned (.bool (ritr s x)) ∧ Below W.heap.size W w' := by
  have b1 : Below W.heap.size W ((W.alloc (.cells (cells x).toArray 60)).alloc (.cells (cells s).toArray 60)) := ((Below.refl _ _).alloc (Nat.le_refl _) _).alloc (by simp) _
  have n0 := heap_alloc_new W (.cells (cells x).toArray 60)
  have n1 := blk_alloc n0 (.cells (cells s).toArray 60)
  have n2 : ((W.alloc (.cells (cells x).toArray 60)).alloc (.cells (cells s).toArray 60)).heap[W.heap.size + 1]? = some (.cells (cells s).toArray 60 (0, 0)) := by
    have := heap_alloc_new (W.alloc (.cells (cells x).toArray 60)) (.cells (cells s).toArray 60)
    simpa using this
  have c0 : ((W.alloc (.cells (cells x).toArray 60)).alloc (.cells (cells s).toArray 60)).cell? ⟨W.heap.size, 0, none⟩ = some (.int .i64 x.op) := blk_cell n1 0
  have c1 : ((W.alloc (.cells (cells x).toArray 60)).alloc (.cells (cells s).toArray 60)).cell? ⟨W.heap.size, 1, none⟩ = some (.int .i64 x.writer) := blk_cell n1 1
  have d1 : ((W.alloc (.cells (cells x).toArray 60)).alloc (.cells (cells s).toArray 60)).cell? ⟨W.heap.size + 1, 1, none⟩ = some (.int .i64 s.writer) := blk_cell n2 1
  have r1 := box_key n1
  have r2 := box_key n2
  have hq := fun w => keys_eql x.key s.key (smp_key x) (smp_key s) w
  unfold ritr
  generalize x.op = xo at *
  generalize x.writer = xw at *
  generalize s.writer = sw at *
  clear n0 n1 n2
  by_cases ho : xo = 1
  · have ho1 : (xo == 1) = true := beq_iff_eq.2 ho
    rw [decide_eq_true ho, Bool.true_and]
    by_cases hw : xw = sw
    · have hw1 : (xw == sw) = true := beq_iff_eq.2 hw
      rw [decide_eq_true hw, Bool.true_and]
      clear ho hw
      go_enter Try.func99, Try.ntmps99
      go_wp2_with (first | ((with_reducible refine gate_dst (N := 17) rfl ?_); refine load_guarded (by kernel_rfl) 53 (.tmp 16) rfl _ 5 rfl _ _ r1 Try.underlying53 rfl (key17 _ (key_len x)) ?_) | ((with_reducible refine gate_dst (N := 19) rfl ?_); refine load_guarded (by kernel_rfl) 53 (.tmp 18) rfl _ 5 rfl _ _ r2 Try.underlying53 rfl (key17 _ (key_len s)) ?_) | ((with_reducible refine gate_dst (N := 20) rfl ?_); refine eql_guarded (by kernel_rfl) .eql 53 53 (.tmp 17) (.tmp 19) rfl _ _ rfl rfl gd_key _ (hq _) ?_))
      go_ret
      exact ⟨rfl, b1⟩
    · have hw1 : (xw == sw) = false := beq_eq_false_iff_ne.2 hw
      rw [decide_eq_false hw, Bool.false_and]
      clear ho hw
      go_enter Try.func99, Try.ntmps99
      go_wp2
      go_ret
      exact ⟨rfl, b1⟩
  · have ho1 : (xo == 1) = false := beq_eq_false_iff_ne.2 ho
    rw [decide_eq_false ho, Bool.false_and]
    clear ho
    go_enter Try.func99, Try.ntmps99
    go_wp2
    go_ret
    exact ⟨rfl, b1⟩
/-- The reference's queue, as a value. -/
def rqv (n : Qn) (v : Value) (lost ev : Int) : Value := .agg #[.int .i64 n.room, .int .i64 n.depth, .bool n.newest, v, .int .u64 lost, .int .u64 ev]
set_option maxRecDepth 20000 in
set_option maxHeartbeats 2000000 in
theorem rnew (r d k : Int) (w : World) : Calls Try.prog 53 #[.int .i64 r, .int .i64 d, .int .i64 k] w fun e w' => e = .returned (rqv ⟨mx0 r, mx0 d, k != 0⟩ (.slice none 0 0) 0 0) ∧ Below w.heap.size w w' := by
  have b0 : Below w.heap.size w (w.alloc (.cells #[.int .i64 (mx0 r), .int .i64 (mx0 d), .bool (k != 0), .slice none 0 0, .int .u64 0, .int .u64 0] 89)) := (Below.refl _ _).alloc (Nat.le_refl _) _
  unfold rqv
  generalize hq : (k != 0) = q at *
  unfold mx0 at *
  by_cases h1 : r < 0
  · have q1 : r ≤ 0 := by omega
    by_cases h2 : d < 0
    · have q2 : d ≤ 0 := by omega
      rw [if_pos h1, if_pos h2] at *
      go_enter Try.func53, Try.ntmps53
      go_wp2
      exact bodyPost_ret (v := .agg #[.int .i64 0, .int .i64 0, .bool q, .slice none 0 0, .int .u64 0, .int .u64 0]) (by simp [results, Try.results53, go_sem]) rfl ⟨rfl, b0⟩
    · rw [if_pos h1, if_neg h2] at *
      by_cases h3 : 0 < d
      · go_enter Try.func53, Try.ntmps53
        go_wp2
        exact bodyPost_ret (v := .agg #[.int .i64 0, .int .i64 d, .bool q, .slice none 0 0, .int .u64 0, .int .u64 0]) (by simp [results, Try.results53, go_sem]) rfl ⟨rfl, b0⟩
      · obtain rfl : d = 0 := by omega
        go_enter Try.func53, Try.ntmps53
        go_wp2
        exact bodyPost_ret (v := .agg #[.int .i64 0, .int .i64 0, .bool q, .slice none 0 0, .int .u64 0, .int .u64 0]) (by simp [results, Try.results53, go_sem]) rfl ⟨rfl, b0⟩
  · by_cases h2 : d < 0
    · have q2 : d ≤ 0 := by omega
      rw [if_neg h1, if_pos h2] at *
      by_cases h3 : 0 < r
      · go_enter Try.func53, Try.ntmps53
        go_wp2
        exact bodyPost_ret (v := .agg #[.int .i64 r, .int .i64 0, .bool q, .slice none 0 0, .int .u64 0, .int .u64 0]) (by simp [results, Try.results53, go_sem]) rfl ⟨rfl, b0⟩
      · obtain rfl : r = 0 := by omega
        go_enter Try.func53, Try.ntmps53
        go_wp2
        exact bodyPost_ret (v := .agg #[.int .i64 0, .int .i64 0, .bool q, .slice none 0 0, .int .u64 0, .int .u64 0]) (by simp [results, Try.results53, go_sem]) rfl ⟨rfl, b0⟩
    · rw [if_neg h1, if_neg h2] at *
      by_cases h3 : 0 < r
      · by_cases h4 : 0 < d
        · go_enter Try.func53, Try.ntmps53
          go_wp2
          exact bodyPost_ret (v := .agg #[.int .i64 r, .int .i64 d, .bool q, .slice none 0 0, .int .u64 0, .int .u64 0]) (by simp [results, Try.results53, go_sem]) rfl ⟨rfl, b0⟩
        · obtain rfl : d = 0 := by omega
          go_enter Try.func53, Try.ntmps53
          go_wp2
          exact bodyPost_ret (v := .agg #[.int .i64 r, .int .i64 0, .bool q, .slice none 0 0, .int .u64 0, .int .u64 0]) (by simp [results, Try.results53, go_sem]) rfl ⟨rfl, b0⟩
      · obtain rfl : r = 0 := by omega
        by_cases h4 : 0 < d
        · go_enter Try.func53, Try.ntmps53
          go_wp2
          exact bodyPost_ret (v := .agg #[.int .i64 0, .int .i64 d, .bool q, .slice none 0 0, .int .u64 0, .int .u64 0]) (by simp [results, Try.results53, go_sem]) rfl ⟨rfl, b0⟩
        · obtain rfl : d = 0 := by omega
          go_enter Try.func53, Try.ntmps53
          go_wp2
          exact bodyPost_ret (v := .agg #[.int .i64 0, .int .i64 0, .bool q, .slice none 0 0, .int .u64 0, .int .u64 0]) (by simp [results, Try.results53, go_sem]) rfl ⟨rfl, b0⟩
set_option maxRecDepth 20000 in
theorem rread {w : World} {F : Nat → Prop} {v : Value} {xs : List Smp} (n : Qn) (lost ev : Int) (h : Rd ks w F v xs) (m : Int) :
    Calls Try.prog 55 #[rqv n v lost ev, .int .i64 m] w fun e w' => ∃ v', e = .returned v' ∧ Rd ks w' F v' (xs.take m.toNat) ∧ Below w.heap.size w w' := by
  have HH := Lib.hid h
  obtain ⟨A, c, rfl, hc, hC9, hA9⟩ := h
  clear hC9 hA9
  obtain ⟨k, hk⟩ : ∃ k, k = min m.toNat xs.length := ⟨_, rfl⟩
  have hkl : k ≤ xs.length := hk ▸ Nat.min_le_right _ _
  have hte : xs.take m.toNat = xs.take k := by
    rw [hk]
    rcases Nat.le_total m.toNat xs.length with hh | hh
    · rw [Nat.min_eq_left hh]
    · rw [Nat.min_eq_right hh, List.take_of_length_le hh, List.take_length]
  rw [hte]
  have b0 : Below w.heap.size w (w.alloc (.cells #[.int .i64 n.room, .int .i64 n.depth, .bool n.newest, .slice A xs.length c, .int .u64 lost, .int .u64 ev] 89)) := (Below.refl _ _).alloc (Nat.le_refl _) _
  have HT := Lib.hid (And.intro (rd_below (HH.out.take hkl) b0) b0)
  clear b0
  unfold rqv
  have hc0 : (0 : Int) ≤ (c : Int) := Int.natCast_nonneg _
  have hci : (xs.length : Int) ≤ (c : Int) := by omega
  by_cases h1 : (xs.length : Int) < m
  · obtain rfl : k = xs.length := by omega
    clear hk hkl hte
    by_cases h2 : 0 < (xs.length : Int)
    · go_enter Try.func55, Try.ntmps55
      go_wp2
      go_ret
      exact ⟨_, rfl, HT.out.1, HT.out.2⟩
    · obtain rfl : xs = [] := List.eq_nil_of_length_eq_zero (by omega)
      simp only [List.length_nil, Int.natCast_zero] at *
      clear h2 hci hc
      go_enter Try.func55, Try.ntmps55
      go_wp2
      go_ret
      exact ⟨_, rfl, HT.out.1, HT.out.2⟩
  · by_cases h2 : 0 < m
    · obtain ⟨m1, rfl⟩ : ∃ m1 : Nat, m = (m1 : Int) := ⟨m.toNat, by omega⟩
      obtain rfl : k = m1 := by omega
      have h3 : (k : Int) ≤ (c : Int) := by omega
      have h4 : k ≤ c := by omega
      clear hk hte hkl
      go_enter Try.func55, Try.ntmps55
      go_wp2
      go_ret
      exact ⟨_, rfl, HT.out.1, HT.out.2⟩
    · obtain rfl : k = 0 := by omega
      clear hk hte hkl
      go_enter Try.func55, Try.ntmps55
      go_wp2
      go_ret
      exact ⟨_, rfl, HT.out.1, HT.out.2⟩
/-- The queue's cells. -/
def qcs (n : Qn) (v : Value) (lost ev : Int) : List Value := [.int .i64 n.room, .int .i64 n.depth, .bool n.newest, v, .int .u64 lost, .int .u64 ev]
def zq : Array Value := #[.int .i64 0, .int .i64 0, .bool false, .slice none 0 0, .int .u64 0, .int .u64 0]
theorem size6 (n : Qn) (v : Value) (lost ev : Int) : (Try.prog.info? 89).map (·.size) = some (qcs n v lost ev).length := by kernel_rfl
theorem qcs_one (n : Qn) (A : Option Addr) (k c : Nat) (lost ev : Int) : ∀ u ∈ qcs n (.slice A k c) lost ev, u.oneCell' = true := by
  intro u hu
  unfold qcs at hu
  simp at hu
  rcases hu with rfl | rfl | rfl | rfl | rfl | rfl <;> rfl
theorem q_store {w9 w10 : World} {g : Nat} {t : TypeId} {cur : Array Value} (hs : cur.size = 6) (h : w9.heap[g]? = some (.cells cur t (0, 0))) (n : Qn) (v : Value) (lost ev : Int) (e : w10 = w9.setCells g 0 (qcs n v lost ev)) :
    w10.heap[g]? = some (.cells (qcs n v lost ev).toArray t (0, 0)) ∧ ∀ {B : Nat} {w0 : World}, Below B w0 w9 → B ≤ g → B ≤ w9.heap.size → Below B w0 w10 := by
  subst e
  refine ⟨?_, fun hb hg hB => (setCells_mod w9 g 0 _).below hb hB (fun k hk => by rw [show k = g from hk]; exact hg)⟩
  obtain ⟨l⟩ := cur
  rw [setCells_heap g t (qcs n v lost ev) 0 l w9 h (by rw [show l.length = 6 from hs]; exact Nat.le_refl _), List.take_zero, List.nil_append, List.drop_eq_nil_of_le (by rw [show l.length = 6 from hs]; exact Nat.le_refl _), List.append_nil]
theorem two_new (w : World) (a b : Array Value) (t s : TypeId) : ((w.alloc (.cells a t)).alloc (.cells b s)).heap[w.heap.size]? = some (.cells a t (0, 0)) ∧ ((w.alloc (.cells a t)).alloc (.cells b s)).heap[w.heap.size + 1]? = some (.cells b s (0, 0)) ∧ Below w.heap.size w ((w.alloc (.cells a t)).alloc (.cells b s)) := by
  refine ⟨blk_alloc (heap_alloc_new _ _) _, ?_, ((Below.refl _ _).alloc (Nat.le_refl _) _).alloc (by simp) _⟩
  have := heap_alloc_new (w.alloc (.cells a t)) (.cells b s)
  simpa using this
theorem three_new (w : World) (a b c : Array Value) (t s r : TypeId) : (((w.alloc (.cells a t)).alloc (.cells b s)).alloc (.cells c r)).heap[w.heap.size]? = some (.cells a t (0, 0)) ∧ (((w.alloc (.cells a t)).alloc (.cells b s)).alloc (.cells c r)).heap[w.heap.size + 1]? = some (.cells b s (0, 0)) ∧ (((w.alloc (.cells a t)).alloc (.cells b s)).alloc (.cells c r)).heap[w.heap.size + 2]? = some (.cells c r (0, 0)) ∧ Below w.heap.size w (((w.alloc (.cells a t)).alloc (.cells b s)).alloc (.cells c r)) := by
  obtain ⟨h1, h2, h3⟩ := two_new w a b t s
  refine ⟨blk_alloc h1 _, blk_alloc h2 _, ?_, h3.alloc (by simp; omega) _⟩
  have := heap_alloc_new ((w.alloc (.cells a t)).alloc (.cells b s)) (.cells c r)
  simpa using this
theorem q_there {w : World} {g : Nat} {t : TypeId} {cur : Array Value} (hs : cur.size = 6) (h : w.heap[g]? = some (.cells cur t (0, 0))) (n : Qn) (v : Value) (lost ev : Int) : w.there g 0 (qcs n v lost ev).length := by
  obtain ⟨l⟩ := cur
  exact there_of h (by rw [show l.length = 6 from hs]; exact Nat.le_refl _)
theorem q_lit (n : Qn) (v : Value) (lost ev : Int) : Value.agg #[.int .i64 n.room, .int .i64 n.depth, .bool n.newest, v, .int .u64 lost, .int .u64 ev] = .agg (qcs n v lost ev).toArray := rfl
set_option maxRecDepth 20000 in
set_option maxHeartbeats 1000000 in
theorem rtake {w : World} {F : Nat → Prop} {v : Value} {xs : List Smp} (n : Qn) (lost ev : Int) (h : Rd ks w F v xs) (hF : ∀ k, F k → k < w.heap.size) (m : Int) :
    Calls Try.prog 56 #[rqv n v lost ev, .int .i64 m] w fun e w' => ∃ v1 v2, e = .returned (.tuple #[rqv n v1 lost ev, v2]) ∧ Rd ks w' F v1 (xs.drop m.toNat) ∧ Rd ks w' F v2 (xs.take m.toNat) ∧ Below w.heap.size w w' := by
  have HH := Lib.hid h
  have HF := Lib.hid hF
  clear hF
  have C1 := fun w' (hb : Below w.heap.size w w') => rread n lost ev (rd_below HH.out hb) m
  obtain ⟨A, c, rfl, hc, hC9, hA9⟩ := h
  clear hC9 hA9
  obtain ⟨h1, h2, b0⟩ := two_new w #[.int .i64 n.room, .int .i64 n.depth, .bool n.newest, .slice A xs.length c, .int .u64 lost, .int .u64 ev] zq 89 89
  unfold zq at *
  unfold rqv at *
  have H0 := Lib.hid (And.intro h1 (And.intro h2 b0))
  clear h1 h2
  go_enter Try.func56, Try.ntmps56
  go_wp2_with fail
  refine (C1 _ b0).mono ?_
  rintro e w2 ⟨v2, rfl, r2, b2⟩
  have g1 := blk_below H0.out.1 b2
  have g2 := blk_below H0.out.2.1 b2
  have bb2 := bstep H0.out.2.2 b2
  have hd : xs.drop m.toNat = xs.drop (xs.take m.toNat).length := by
    rw [List.length_take]
    rcases Nat.le_total m.toNat xs.length with hh | hh
    · rw [Nat.min_eq_left hh]
    · rw [Nat.min_eq_right hh, List.drop_length, List.drop_eq_nil_of_le hh]
  have hkl : (xs.take m.toNat).length ≤ xs.length := by rw [List.length_take]; exact Nat.min_le_right _ _
  have HR2 := Lib.hid (And.intro r2 (And.intro (HH.out.drop hkl) (And.intro hd bb2)))
  obtain ⟨A2, cap2, rfl, hc2, hC9, hA9⟩ := r2
  clear hC9 hA9 hd C1 b0 b2 bb2
  generalize (xs.take m.toNat).length = k at *
  have c0 : w2.cell? ⟨w.heap.size, 0, none⟩ = some (.int .i64 n.room) := blk_cell g1 0
  have c1 : w2.cell? ⟨w.heap.size, 1, none⟩ = some (.int .i64 n.depth) := blk_cell g1 1
  have c2 : w2.cell? ⟨w.heap.size, 2, none⟩ = some (.bool n.newest) := blk_cell g1 2
  have c3 : w2.cell? ⟨w.heap.size, 3, none⟩ = some (.slice A xs.length c) := blk_cell g1 3
  have c4 : w2.cell? ⟨w.heap.size, 4, none⟩ = some (.int .u64 lost) := blk_cell g1 4
  have c5 : w2.cell? ⟨w.heap.size, 5, none⟩ = some (.int .u64 ev) := blk_cell g1 5
  have z3 := blk_frozen g1 3
  have k1 : (k : Int) ≤ (xs.length : Int) := by omega
  have k2 : (xs.length : Int) ≤ (c : Int) := by omega
  have k3 : (0 : Int) ≤ (k : Int) := by omega
  clear hkl hc hc2
  by_cases hck : c = k
  · have HX := HR2.out.2.1
    rw [if_pos hck] at HX
    have HX1 := Lib.hid (And.intro HR2.out.2.2.1 HX)
    subst hck
    rw [Nat.sub_self] at HX1
    clear HX
    have hne : w.heap.size + 1 ≠ w.heap.size := Nat.succ_ne_self _
    have g3 := (Below.heap_setCell w2 ⟨w.heap.size, 3, none⟩ (.slice A (xs.length - c) 0) (w.heap.size + 1) hne).trans g2
    have b3 := HR2.out.2.2.2.setCell (p := ⟨w.heap.size, 3, none⟩) (Nat.le_refl _) (.slice A (xs.length - c) 0)
    have s3 : (w2.setCell ⟨w.heap.size, 3, none⟩ (.slice A (xs.length - c) 0)).heap.size = w2.heap.size := by simp [World.setCell]
    have HG := Lib.hid (And.intro g3 (And.intro b3 s3))
    clear g3 b3 s3 hne
    have HT9 := q_there (cur := #[.int .i64 0, .int .i64 0, .bool false, .slice none 0 0, .int .u64 0, .int .u64 0]) rfl HG.out.1 n (.slice A (xs.length - c) 0) lost ev
    go_wp2_with (first | ((with_reducible refine gate_store (p := 4) (v := .tmp 16) rfl ?_); refine Hid.out (p := _) ?_) | fail)
    refine Lib.hid ?_
    refine store_ev rfl 89 (.tmp 4) (.tmp 16) rfl (w.heap.size + 1) 0 (qcs n (.slice A (xs.length - c) 0) lost ev) rfl (q_lit n (.slice A (xs.length - c) 0) lost ev) ?_ ?_ ?_ ?_
    · exact HT9
    · exact size6 _ _ _ _
    · exact qcs_one _ _ _ _ _ _
    intro w9 hw9
    obtain ⟨n9, K9⟩ := q_store (cur := #[.int .i64 0, .int .i64 0, .bool false, .slice none 0 0, .int .u64 0, .int .u64 0]) rfl HG.out.1 n (.slice A (xs.length - c) 0) lost ev hw9
    have B9 := K9 HG.out.2.1 (Nat.le_succ _) HG.out.2.1.size
    have HY := Lib.hid (And.intro (rd_below HX1.out.2 B9) (And.intro (HR2.out.1.same flat_ks (w' := w9) (fun k hk => (B9.block k (HF.out k hk)).trans (HR2.out.2.2.2.block k (HF.out k hk)).symm)) B9))
    clear c0 c1 c2 c3 c4 c5 z3 K9 B9 hw9 HT9
    have c0 : w9.cell? ⟨w.heap.size + 1, 0, none⟩ = some (.int .i64 n.room) := blk_cell n9 0
    have c1 : w9.cell? ⟨w.heap.size + 1, 1, none⟩ = some (.int .i64 n.depth) := blk_cell n9 1
    have c2 : w9.cell? ⟨w.heap.size + 1, 2, none⟩ = some (.bool n.newest) := blk_cell n9 2
    have c3 : w9.cell? ⟨w.heap.size + 1, 3, none⟩ = some (.slice A (xs.length - c) 0) := blk_cell n9 3
    have c4 : w9.cell? ⟨w.heap.size + 1, 4, none⟩ = some (.int .u64 lost) := blk_cell n9 4
    have c5 : w9.cell? ⟨w.heap.size + 1, 5, none⟩ = some (.int .u64 ev) := blk_cell n9 5
    go_wp2
    exact bodyPost_ret (v := .tuple #[.agg #[.int .i64 n.room, .int .i64 n.depth, .bool n.newest, .slice A (xs.length - c) 0, .int .u64 lost, .int .u64 ev], .slice A2 c cap2]) (by simp [results, Try.results56, go_sem, c0, c1, c2, c3, c4, c5]) rfl ⟨_, _, rfl, by rw [HX1.out.1]; exact HY.out.1, HY.out.2.1, HY.out.2.2⟩
  · have HX := HR2.out.2.1
    rw [if_neg hck] at HX
    have HX1 := Lib.hid (And.intro HR2.out.2.2.1 HX)
    clear HX
    have hne : w.heap.size + 1 ≠ w.heap.size := Nat.succ_ne_self _
    have g3 := (Below.heap_setCell w2 ⟨w.heap.size, 3, none⟩ (.slice (A.map (·.add (k * 23))) (xs.length - k) (c - k)) (w.heap.size + 1) hne).trans g2
    have b3 := HR2.out.2.2.2.setCell (p := ⟨w.heap.size, 3, none⟩) (Nat.le_refl _) (.slice (A.map (·.add (k * 23))) (xs.length - k) (c - k))
    have s3 : (w2.setCell ⟨w.heap.size, 3, none⟩ (.slice (A.map (·.add (k * 23))) (xs.length - k) (c - k))).heap.size = w2.heap.size := by simp [World.setCell]
    have HG := Lib.hid (And.intro g3 (And.intro b3 s3))
    clear g3 b3 s3 hne
    have HT9 := q_there (cur := #[.int .i64 0, .int .i64 0, .bool false, .slice none 0 0, .int .u64 0, .int .u64 0]) rfl HG.out.1 n (.slice (A.map (·.add (k * 23))) (xs.length - k) (c - k)) lost ev
    go_wp2_with (first | ((with_reducible refine gate_store (p := 4) (v := .tmp 16) rfl ?_); refine Hid.out (p := _) ?_) | fail)
    refine Lib.hid ?_
    refine store_ev rfl 89 (.tmp 4) (.tmp 16) rfl (w.heap.size + 1) 0 (qcs n (.slice (A.map (·.add (k * 23))) (xs.length - k) (c - k)) lost ev) rfl (q_lit n (.slice (A.map (·.add (k * 23))) (xs.length - k) (c - k)) lost ev) ?_ ?_ ?_ ?_
    · exact HT9
    · exact size6 _ _ _ _
    · exact qcs_one _ _ _ _ _ _
    intro w9 hw9
    obtain ⟨n9, K9⟩ := q_store (cur := #[.int .i64 0, .int .i64 0, .bool false, .slice none 0 0, .int .u64 0, .int .u64 0]) rfl HG.out.1 n (.slice (A.map (·.add (k * 23))) (xs.length - k) (c - k)) lost ev hw9
    have B9 := K9 HG.out.2.1 (Nat.le_succ _) HG.out.2.1.size
    have HY := Lib.hid (And.intro (rd_below HX1.out.2 B9) (And.intro (HR2.out.1.same flat_ks (w' := w9) (fun k hk => (B9.block k (HF.out k hk)).trans (HR2.out.2.2.2.block k (HF.out k hk)).symm)) B9))
    clear c0 c1 c2 c3 c4 c5 z3 K9 B9 hw9 HT9
    have c0 : w9.cell? ⟨w.heap.size + 1, 0, none⟩ = some (.int .i64 n.room) := blk_cell n9 0
    have c1 : w9.cell? ⟨w.heap.size + 1, 1, none⟩ = some (.int .i64 n.depth) := blk_cell n9 1
    have c2 : w9.cell? ⟨w.heap.size + 1, 2, none⟩ = some (.bool n.newest) := blk_cell n9 2
    have c3 : w9.cell? ⟨w.heap.size + 1, 3, none⟩ = some (.slice (A.map (·.add (k * 23))) (xs.length - k) (c - k)) := blk_cell n9 3
    have c4 : w9.cell? ⟨w.heap.size + 1, 4, none⟩ = some (.int .u64 lost) := blk_cell n9 4
    have c5 : w9.cell? ⟨w.heap.size + 1, 5, none⟩ = some (.int .u64 ev) := blk_cell n9 5
    go_wp2
    exact bodyPost_ret (v := .tuple #[.agg #[.int .i64 n.room, .int .i64 n.depth, .bool n.newest, .slice (A.map (·.add (k * 23))) (xs.length - k) (c - k), .int .u64 lost, .int .u64 ev], .slice A2 k cap2]) (by simp [results, Try.results56, go_sem, c0, c1, c2, c3, c4, c5]) rfl ⟨_, _, rfl, by rw [HX1.out.1]; exact HY.out.1, HY.out.2.1, HY.out.2.2⟩
end Go.Proofs.Ytimalojaiaofkaa.Rng
