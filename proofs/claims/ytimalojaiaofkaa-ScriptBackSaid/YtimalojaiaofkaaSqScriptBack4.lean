import Derived.Test.YtimalojaiaofkaaPScriptTakesx0
import Derived.Test.YtimalojaiaofkaaPScriptTakesx1
import Derived.Test.YtimalojaiaofkaaSqScriptBack3
set_option linter.unusedVariables false
set_option linter.unusedSimpArgs false
namespace Go.Proofs.Ytimalojaiaofkaa.PScriptTakes
open Go.RowKit Go.Proofs.YtimalojaiaofkaaW.PrintWords Go.Proofs.YtimalojaiaofkaaW.PrintLast Go.Proofs.YtimalojaiaofkaaW.PrintMore
attribute [local go_sem] max2_int min2_int max_two min_two max_three min_three max_four min_four   -- for this text's walks alone

attribute [local go_sem high] eqA43
/-! ### broadsheetref45_Take: function 27 -/
mutual
def broadsheetref45_Take.l0 : Nat → ByteArray → List (S41) → Int → Option ((List (S41)) × Int)
  | 0, _, _, _ => none
  | k + 1, x0, x4, x5 => if x5 < (x0.size : Int) then (if (x4.length : Int) = 1024 then (some (([] : List (S41)), 3)) else (if 0 ≤ x5 then (broadsheetref45_Take.l1 k x0 x4 (wrap64 (x5 + 1)) (wrap64 (bt x0 x5)) 0 ([] : List (S43))) else (none))) else (some (x4, 0))
def broadsheetref45_Take.l1 : Nat → ByteArray → List (S41) → Int → Int → Int → List (S43) → Option ((List (S41)) × Int)
  | 0, _, _, _, _, _, _ => none
  | k + 1, x0, x4, x5, x7, x8, x184000 => if x8 < x7 then ((broadsheetref45_one.f k x0 x5).bind fun bt184 => (if bt184.2.2.2.2 = 0 then (if x184000.length < 4398046511104 then (broadsheetref45_Take.l1 k x0 x4 bt184.2.2.2.1 x7 (wrap64 (x8 + 1)) (x184000 ++ [(⟨bt184.1, bt184.2.1, bt184.2.2.1⟩ : S43)])) else (none)) else (some (([] : List (S41)), bt184.2.2.2.2)))) else (if x4.length < 5864062014805 then (broadsheetref45_Take.l0 k x0 (x4 ++ [(⟨x184000⟩ : S41)]) x5) else (none))
end
def broadsheetref45_Take.f (k : Nat) (a0 : ByteArray) : Option ((List (S41)) × Int) := broadsheetref45_Take.l0 k a0 ([] : List (S41)) 0
theorem broadsheetref45_Take.mono_l : ∀ k, (∀ y0 y1 y2, LeO (broadsheetref45_Take.l0 k y0 y1 y2) (broadsheetref45_Take.l0 (k + 1) y0 y1 y2)) ∧ (∀ y0 y1 y2 y3 y4 y5, LeO (broadsheetref45_Take.l1 k y0 y1 y2 y3 y4 y5) (broadsheetref45_Take.l1 (k + 1) y0 y1 y2 y3 y4 y5))
  | 0 => ⟨fun _ _ _ r h => by simp [broadsheetref45_Take.l0] at h, fun _ _ _ _ _ _ r h => by simp [broadsheetref45_Take.l1] at h⟩
  | k + 1 => by
    obtain ⟨ih0, ih1⟩ := broadsheetref45_Take.mono_l k
    refine ⟨?_, ?_⟩
    · intro y0 y1 y2
      unfold broadsheetref45_Take.l0
      repeat' first
      | (with_reducible exact ih0 _ _ _)
      | (with_reducible exact ih1 _ _ _ _ _ _)
      | (with_reducible exact broadsheetref45_one.mono _ _ _)
      | (with_reducible exact LeO.refl _)
      | (with_reducible exact LeO.none _)
      | (with_reducible refine LeO.ite ?_ ?_)
      | (with_reducible refine LeO.bind ?_ (fun _ => ?_))
      | exact ih0 _ _ _
      | exact ih1 _ _ _ _ _ _
      | exact broadsheetref45_one.mono _ _ _
      | exact LeO.none _
      | refine LeO.ite ?_ ?_
      | refine LeO.bind ?_ (fun _ => ?_)
    · intro y0 y1 y2 y3 y4 y5
      unfold broadsheetref45_Take.l1
      repeat' first
      | (with_reducible exact ih0 _ _ _)
      | (with_reducible exact ih1 _ _ _ _ _ _)
      | (with_reducible exact broadsheetref45_one.mono _ _ _)
      | (with_reducible exact LeO.refl _)
      | (with_reducible exact LeO.none _)
      | (with_reducible refine LeO.ite ?_ ?_)
      | (with_reducible refine LeO.bind ?_ (fun _ => ?_))
      | exact ih0 _ _ _
      | exact ih1 _ _ _ _ _ _
      | exact broadsheetref45_one.mono _ _ _
      | exact LeO.none _
      | refine LeO.ite ?_ ?_
      | refine LeO.bind ?_ (fun _ => ?_)
theorem broadsheetref45_Take.mono : ∀ a0 k, LeO (broadsheetref45_Take.f k a0) (broadsheetref45_Take.f (k + 1) a0) := by
  intro a0 k
  obtain ⟨ih0, ih1⟩ := broadsheetref45_Take.mono_l k
  unfold broadsheetref45_Take.f
  repeat' first
      | (with_reducible exact ih0 _ _ _)
      | (with_reducible exact ih1 _ _ _ _ _ _)
      | (with_reducible exact broadsheetref45_one.mono _ _ _)
      | (with_reducible exact LeO.refl _)
      | (with_reducible exact LeO.none _)
      | (with_reducible refine LeO.ite ?_ ?_)
      | (with_reducible refine LeO.bind ?_ (fun _ => ?_))
      | exact ih0 _ _ _
      | exact ih1 _ _ _ _ _ _
      | exact broadsheetref45_one.mono _ _ _
      | exact LeO.none _
      | refine LeO.ite ?_ ?_
      | refine LeO.bind ?_ (fun _ => ?_)
set_option maxHeartbeats 8000000 in
set_option maxRecDepth 100000 in
theorem broadsheetref45_Take.calls (k : Nat) (a0 : ByteArray) (r1 : List (S41)) (r2 : Int) (w : World) (h : broadsheetref45_Take.f k a0 = some (r1, r2)) :
    Calls Try.prog 27 #[.string a0] w fun e w' => ∃ v0_ : Value, e = .returned (.tuple #[v0_, .int .i64 r2]) ∧ Kd.S k41 41 w' w.heap.size (fun _ => True) v0_ r1 ∧ Below w.heap.size w w' := by
  have hu41 := Try.underlying41
  have hu43 := Try.underlying43
  have HB := Aside0.mk (Below.refl w.heap.size w)
  have H : (broadsheetref45_Take.l0 k a0 ([] : List (S41)) 0) = some (r1, r2) := h
  clear h
  have H' := Aside0.mk H
  clear H
  go_enter Try.func27, Try.ntmps27
  go_wp2
  go_loopg [4, 5] k (fun kq v4 v5 w' => ∃ (x4_1 : List (S41)) (x5_1 : Int), v5 = .int .i64 x5_1 ∧ Aside0 (broadsheetref45_Take.l0 kq a0 x4_1 x5_1 = some (r1, r2)) ∧ Aside0 (kq ≤ k) ∧ Aside0 (Kd.S k41 41 w' w.heap.size (fun _ => True) v4 x4_1) ∧ Aside0 (Below w.heap.size w w'))
  case atStart => exact ⟨(([] : List (S41))), (0), (by first | rfl | (simp; done) | (simp [*]; done)), H', ⟨Nat.le_refl _⟩, ⟨by first | exact Kd.S_nil _ _ _ _ _ | exact Kd.N_nil _ _ _ _ _ | exact Kd.V_nil _ _ _ _ _ | exact Kd.Q_nil _ _ _ _ _ | exact Kd.R_nil _ _ _ _ _⟩, ⟨by repeat (first | (with_reducible first | exact HB.out | apply below_alloc | apply pw_below_drewN | apply below_drew1) | exact HB.out)⟩⟩
  case round =>
    clear H'
    obtain ⟨x4_1, x5_1, rfl, HA, HK1, HO_4, HB⟩ := hrel
    cases gk with
    | zero => exact absurd HA.out (by simp [broadsheetref45_Take.l0])
    | succ k1 =>
      have H := HA.out
      clear HA
      simp only [broadsheetref45_Take.l0] at H
      by_cases c2 : x5_1 < (a0.size : Int)
      · rw [if_pos c2] at H
        have c2b0 : decide (x5_1 < (a0.size : Int)) = true := decide_eq_true c2
        clear c2
        by_cases c3 : (x4_1.length : Int) = 1024
        · rw [if_pos c3] at H
          have c3b0 : ((x4_1.length : Int) == 1024) = true := beq_iff_eq.mpr c3
          have c3b1 : ((x4_1.length : Int) != 1024) = false := bne_eq_false_iff_eq.mpr c3
          clear c3
          simp only [Option.some.injEq, Prod.mk.injEq] at H
          obtain ⟨rfl, rfl⟩ := H
          obtain ⟨Ao4, co4, eo4⟩ := Kd.S_slice HO_4.out
          subst eo4
          go_wp2
          go_ret2
          exact ⟨_, by first | rfl | (simp [errW_none, errW_some] <;> rfl) | (simp [*, errW_none, errW_some] <;> rfl), by first | exact Kd.S_nil _ _ _ _ _ | exact Kd.N_nil _ _ _ _ _ | exact Kd.V_nil _ _ _ _ _ | exact Kd.Q_nil _ _ _ _ _ | exact Kd.R_nil _ _ _ _ _, by repeat (first | (with_reducible first | exact HB.out | apply below_alloc | apply pw_below_drewN | apply below_drew1) | exact HB.out)⟩
        · rw [if_neg c3] at H
          have c3b0 : ((x4_1.length : Int) == 1024) = false := beq_eq_false_iff_ne.mpr c3
          have c3b1 : ((x4_1.length : Int) != 1024) = true := bne_iff_ne.mpr c3
          by_cases c5 : 0 ≤ x5_1
          · rw [if_pos c5] at H
            have c5b0 : decide (0 ≤ x5_1) = true := decide_eq_true c5
            clear c5
            have H' := Aside0.mk H
            clear H
            obtain ⟨Ao7, co7, eo7⟩ := Kd.S_slice HO_4.out
            subst eo7
            go_wp2_with (first | ((with_reducible refine gate_dst (N := 6) rfl ?_); refine box_event ?hg (N := 6) ?hd (cs := #[.slice none 0 0]) (t := 41) ?hr ?_; (case hd => rfl); (case hg => rfl); (case hr => first | (go_simp; done) | (go_simp; rfl)); intro gb183 hg w8 hbox hb; have n0_ := Aside0.mk (Kd.S_below (Kd.S_elderB (by (with_reducible repeat (first | apply Kd.S_alloc | apply Kd.S_drewN | apply Kd.S_drew)); exact HO_4.out) gb183 (Nat.le_of_eq hg.symm)) hb); have n1_ := Aside0.mk (below_step (by repeat (first | (with_reducible first | exact HB.out | apply below_alloc | apply pw_below_drewN | apply below_drew1) | exact HB.out)) hb); have n2_ := Aside0.mk (hbox); have n3_ := Aside0.mk ((by rw [hg]; exact (below_size (by repeat (first | (with_reducible first | exact HB.out | apply below_alloc | apply pw_below_drewN | apply below_drew1) | exact HB.out))) : w.heap.size ≤ gb183)); have n4_ := Aside0.mk ((by rw [hg]; exact (below_size (by repeat (first | (with_reducible first | exact HB.out | apply below_alloc | apply pw_below_drewN | apply below_drew1) | exact HB.out))) : w.heap.size ≤ gb183)); clear HO_4; clear HB; have HO_4 := n0_; have HB := n1_; have BK183 := n2_; have GW183 := n3_; have GE183 := n4_; clear n0_ n1_ n2_ n3_ n4_; clear hb hbox hg; have p6 : 0 ≤ (x5_1 : Int) := of_decide_eq_true (by first | (with_reducible assumption) | assumption); have q6 : x5_1 < (a0.size : Int) := of_decide_eq_true (by first | (with_reducible assumption) | assumption); have hx6 := bt_at a0 x5_1; replace p6 := eq_true p6; replace q6 := eq_true q6))
            go_loopg [5, 8] k1 (fun kq v5 v8 w' => ∃ (x5_2 : Int) (x8_2 : Int) (x184000_2 : List (S43)) (u184000 : Value), v5 = .int .i64 x5_2 ∧ v8 = .int .i64 x8_2 ∧ Aside0 (broadsheetref45_Take.l1 kq a0 x4_1 x5_2 (wrap64 (bt a0 x5_1)) x8_2 x184000_2 = some (r1, r2)) ∧ Aside0 (kq ≤ k1) ∧ Aside0 (Kd.S k41 41 w' w.heap.size (fun k_ => some k_ ≠ (u184000 : Value).ownBlock ∧ k_ ≠ gb183) (.slice Ao7 x4_1.length co7) x4_1) ∧ Aside0 (Kd.R k43 43 w' w.heap.size (fun _ => True) u184000 x184000_2) ∧ Aside0 (w'.heap[gb183]? = some (.cells #[u184000] 41 (0, 0))) ∧ Aside0 (Below w.heap.size w w'))
            case atStart => exact ⟨(wrap64 (x5_1 + 1)), (0), (([] : List (S43))), (.slice none 0 0), (by first | rfl | (simp; done) | (simp [*]; done)), (by first | rfl | (simp; done) | (simp [*]; done)), H', ⟨Nat.le_refl _⟩, ⟨by (with_reducible repeat (first | apply Kd.S_alloc | apply Kd.S_drewN | apply Kd.S_drew)); exact Kd.S_mono HO_4.out (fun _ hk => ⟨(by simp [Value.ownBlock]), hk.2⟩)⟩, ⟨by first | exact Kd.R_nil _ _ _ _ _ | exact Kd.N_nil _ _ _ _ _ | exact Kd.V_nil _ _ _ _ _ | exact Kd.Q_nil _ _ _ _ _ | exact Kd.S_nil _ _ _ _ _⟩, ⟨by (with_reducible repeat (first | refine blk_drewN ?_ _ | refine blk_drew ?_ | refine blk_alloc ?_ _)); exact BK183.out⟩, ⟨by repeat (first | (with_reducible first | exact HB.out | apply below_alloc | apply pw_below_drewN | apply below_drew1 | refine below_set ?_ GE183.out) | exact HB.out)⟩⟩
            case round =>
              clear H'
              try clear c2
              try clear c2b0
              try clear p2
              try clear c3
              try clear c3b0
              try clear c3b1
              try clear c5
              try clear c5b0
              try clear p6
              try clear q6
              try clear hx6
              try clear p6
              try clear q6
              obtain ⟨x5_2, x8_2, x184000_2, u184000, rfl, rfl, HA, HK2, HO_4, HO_184000, BK183, HB⟩ := hrel
              cases gk with
              | zero => exact absurd HA.out (by simp [broadsheetref45_Take.l1])
              | succ k2 =>
                have H := HA.out
                clear HA
                simp only [broadsheetref45_Take.l1] at H
                by_cases c9 : x8_2 < (wrap64 (bt a0 x5_1))
                · rw [if_pos c9] at H
                  have c9b0 : decide (x8_2 < (wrap64 (bt a0 x5_1))) = true := decide_eq_true c9
                  clear c9
                  replace H := Option.bind_eq_some_iff.mp H
                  obtain ⟨⟨t184, t185, t186, t187, t188⟩, A100, H⟩ := H
                  replace H : (if t188 = 0 then (if x184000_2.length < 4398046511104 then (broadsheetref45_Take.l1 k2 a0 x4_1 t187 (wrap64 (bt a0 x5_1)) (wrap64 (x8_2 + 1)) (x184000_2 ++ [(⟨t184, t185, t186⟩ : S43)])) else (none)) else (some (([] : List (S41)), t188))) = some (r1, r2) := H
                  have A10 := Aside0.mk A100
                  clear A100
                  by_cases c11 : t188 = 0
                  · rw [if_pos c11] at H
                    have c11b0 : (t188 == 0) = true := beq_iff_eq.mpr c11
                    have c11b1 : (t188 != 0) = false := bne_eq_false_iff_eq.mpr c11
                    clear c11
                    by_cases c12 : x184000_2.length < 4398046511104
                    · rw [if_pos c12] at H
                      have LMc12 := Aside0.mk c12
                      clear c12
                      obtain ⟨y190, hy190⟩ : ∃ y_ : List (S43), y_ = (x184000_2 ++ [(⟨t184, t185, t186⟩ : S43)]) := ⟨_, rfl⟩
                      replace H : (broadsheetref45_Take.l1 k2 a0 x4_1 t187 (wrap64 (bt a0 x5_1)) (wrap64 (x8_2 + 1)) y190) = some (r1, r2) := by first | (rw [hy190]; with_reducible exact H) | (have H2_ := (Option.bind_some _ _).symm.trans H; rw [hy190]; with_reducible exact H2_) | (have H2_ := (Option.bind_some _ _).symm.trans H; with_reducible exact H2_) | with_reducible exact H | (rw [hy190]; exact H) | exact H
                      have Ny190 := Aside0.mk hy190
                      clear hy190
                      have H' := Aside0.mk H
                      clear H
                      go_wp2_with (first | ((with_reducible refine gate_callee (f := 68) rfl ?_); refine goesL_ (some 33) rfl rfl Try.func68 (by kernel_rfl) rfl #[.string a0, .int .i64 x5_2] rfl (by (try simp only [List.map_toArray, List.map_cons, List.map_nil]); first | done | rfl | (simp only [List.length_drop, List.length_take]; rfl)) ?_; (with_reducible refine (broadsheetref45_one.calls k2 a0 x5_2 t184 t185 t186 t187 t188 _ A10.out).mono ?_); rintro e w13 ⟨rfl, hb⟩; refine ⟨_, rfl, ?_⟩; have n0_ := Aside0.mk (Kd.S_below (by (with_reducible repeat (first | apply Kd.S_alloc | apply Kd.S_drewN | apply Kd.S_drew)); exact HO_4.out) hb); have n1_ := Aside0.mk (Kd.R_below (by (with_reducible repeat (first | apply Kd.R_alloc | apply Kd.R_drewN | apply Kd.R_drew)); exact HO_184000.out) hb); have n2_ := Aside0.mk (blk_below (g := gb183) (o := .cells #[u184000] 41 (0, 0)) (by (with_reducible repeat (first | refine blk_drewN ?_ _ | refine blk_drew ?_ | refine blk_alloc ?_ _)); exact BK183.out) hb); have n3_ := Aside0.mk (below_step (by repeat (first | (with_reducible first | exact HB.out | apply below_alloc | apply pw_below_drewN | apply below_drew1 | refine below_set ?_ GE183.out) | exact HB.out)) hb); clear HO_4; clear HO_184000; clear BK183; clear HB; have HO_4 := n0_; have HO_184000 := n1_; have BK183 := n2_; have HB := n3_; clear n0_ n1_ n2_ n3_; (try clear hb); (try clear hb2); (try clear hk); (try clear hi)) | ((with_reducible refine gate_dst (N := 9) rfl ?_); refine box_event ?hg (N := 9) ?hd (cs := #[.int .i64 0, .int .i64 0, .string (⟨#[]⟩ : ByteArray)]) (t := 43) ?hr ?_; (case hd => rfl); (case hg => rfl); (case hr => first | (go_simp; done) | (go_simp; rfl)); intro gb189 hg w14 hbox hb; have n0_ := Aside0.mk (Kd.S_below (Kd.S_elderB (by (with_reducible repeat (first | apply Kd.S_alloc | apply Kd.S_drewN | apply Kd.S_drew)); exact HO_4.out) gb189 (Nat.le_of_eq hg.symm)) hb); have n1_ := Aside0.mk (Kd.R_below (Kd.R_elderB (by (with_reducible repeat (first | apply Kd.R_alloc | apply Kd.R_drewN | apply Kd.R_drew)); exact HO_184000.out) gb189 (Nat.le_of_eq hg.symm)) hb); have n2_ := Aside0.mk (blk_below (g := gb183) (o := .cells #[u184000] 41 (0, 0)) (by (with_reducible repeat (first | refine blk_drewN ?_ _ | refine blk_drew ?_ | refine blk_alloc ?_ _)); exact BK183.out) hb); have n3_ := Aside0.mk (below_step (by repeat (first | (with_reducible first | exact HB.out | apply below_alloc | apply pw_below_drewN | apply below_drew1 | refine below_set ?_ GE183.out) | exact HB.out)) hb); have n4_ := Aside0.mk (hbox); have n5_ := Aside0.mk ((by rw [hg]; exact (below_size (by repeat (first | (with_reducible first | exact HB.out | apply below_alloc | apply pw_below_drewN | apply below_drew1 | refine below_set ?_ GE183.out) | exact HB.out))) : w.heap.size ≤ gb189)); have n6_ := Aside0.mk ((by rw [hg]; exact (below_size (by repeat (first | (with_reducible first | exact HB.out | apply below_alloc | apply pw_below_drewN | apply below_drew1 | refine below_set ?_ GE183.out) | exact HB.out))) : w.heap.size ≤ gb189)); have n7_ := Aside0.mk ((by rw [hg]; exact Nat.ne_of_lt (blk_lt (g := gb183) (o := .cells #[u184000] 41 (0, 0)) (by (with_reducible repeat (first | refine blk_drewN ?_ _ | refine blk_drew ?_ | refine blk_alloc ?_ _)); exact BK183.out)) : gb183 ≠ gb189)); have n8_ := Aside0.mk ((by rw [hg]; exact Nat.ne_of_gt (blk_lt (g := gb183) (o := .cells #[u184000] 41 (0, 0)) (by (with_reducible repeat (first | refine blk_drewN ?_ _ | refine blk_drew ?_ | refine blk_alloc ?_ _)); exact BK183.out)) : gb189 ≠ gb183)); clear HO_4; clear HO_184000; clear BK183; clear HB; have HO_4 := n0_; have HO_184000 := n1_; have BK183 := n2_; have HB := n3_; have BK189 := n4_; have GW189 := n5_; have GE189 := n6_; have NB183_189 := n7_; have NB189_183 := n8_; clear n0_ n1_ n2_ n3_ n4_ n5_ n6_ n7_ n8_; clear hb hbox hg; have hnb15 := NB189_183.out; have hnc15 := NB183_189.out; have hcz16_0 : w14.cell? ⟨gb189, 0, none⟩ = some (.int .i64 0) := (blk_cell BK189.out 0).trans rfl; have hcz16_1 : w14.cell? ⟨gb189, 1, none⟩ = some (.int .i64 0) := (blk_cell BK189.out 1).trans rfl; have hcz16_2 : w14.cell? ⟨gb189, 2, none⟩ = some (.string (⟨#[]⟩ : ByteArray)) := (blk_cell BK189.out 2).trans rfl; have hfz16_0 := blk_frozen BK189.out 0; have hfz16_1 := blk_frozen BK189.out 1; have hfz16_2 := blk_frozen BK189.out 2; have hcz17_0 : w14.cell? ⟨gb183, 0, none⟩ = some (u184000) := (blk_cell BK183.out 0).trans rfl; have hfz17_0 := blk_frozen BK183.out 0) | ((with_reducible refine gate_builtin (b := .append) (xs := #[.tmp 41, .tmp 43]) rfl ?_); at_builtin; refine Kd.R_append k43 (w0 := w) w.heap.size rfl (.tmp 41) (.tmp 43) 39 43 (.agg #[(.int .i64 0), (.int .i64 0), (.string ⟨#[]⟩)]) 32 rfl Try.underlying39 info43 rfl (by decide) (by omega) u184000 x184000_2 (⟨t184, t185, t186⟩ : S43) [.int .i64 t184, .int .i64 t185, .string t186] (fun k_ => k_ ≠ gb189) (fun _ => False) rfl (by first | (go_simp; done) | (go_simp; rfl)) ?aP (fun _ hk => hk.elim) ?aF ?aO ?aB ?aS ?aL ?_; (case aP => exact k43_mkM _ _ _ (⟨t184, t185, t186⟩ : S43)); (case aB => exact (by repeat (first | (with_reducible first | exact HB.out | apply below_alloc | apply pw_below_drewN | apply below_drew1 | refine below_set ?_ GE183.out | refine below_set ?_ GE189.out) | exact HB.out))); (case aF => exact (fun k_ hk => Kd.freshB (g := gb189) (o := .cells #[.int .i64 t184, .int .i64 t185, .string t186] 43 (0, 0)) (by (with_reducible repeat (first | refine blk_drewN ?_ _ | refine blk_drew ?_ | refine blk_alloc ?_ _)); refine blk_put (cs := #[.int .i64 t184, .int .i64 t185, .string (⟨#[]⟩ : ByteArray)]) ?_ 2 _ rfl; (with_reducible repeat (first | refine blk_drewN ?_ _ | refine blk_drew ?_ | refine blk_alloc ?_ _)); refine blk_put (cs := #[.int .i64 t184, .int .i64 0, .string (⟨#[]⟩ : ByteArray)]) ?_ 1 _ rfl; (with_reducible repeat (first | refine blk_drewN ?_ _ | refine blk_drew ?_ | refine blk_alloc ?_ _)); refine blk_put (cs := #[.int .i64 0, .int .i64 0, .string (⟨#[]⟩ : ByteArray)]) ?_ 0 _ rfl; (with_reducible repeat (first | refine blk_drewN ?_ _ | refine blk_drew ?_ | refine blk_alloc ?_ _)); exact BK189.out) k_ hk)); (case aO => exact (by (with_reducible repeat (first | apply Kd.R_alloc | apply Kd.R_drewN | apply Kd.R_drew)); exact Kd.R_mono (Kd.R_far (p := ⟨gb189, 2, none⟩) (Kd.R_far (p := ⟨gb189, 1, none⟩) (Kd.R_far (p := ⟨gb189, 0, none⟩) (Kd.R_mono HO_184000.out (fun k_ hk => (⟨hk, hk.2⟩ : _ ∧ k_ ≠ gb189))) (fun _ hk => hk.2) (.int .i64 t184)) (fun _ hk => hk.2) (.int .i64 t185)) (fun _ hk => hk.2) (.string t186)) (fun _ hk => hk.1.2))); (case aS => exact (below_size (by repeat (first | (with_reducible first | exact HB.out | apply below_alloc | apply pw_below_drewN | apply below_drew1 | refine below_set ?_ GE183.out | refine below_set ?_ GE189.out) | exact HB.out)))); (case aL => have := LMc12.out; omega); intro v191 w18 ho hb hg hat; rw [← Ny190.out] at ho; have n0_ := Aside0.mk (Kd.S_after (ok := (fun k_ => k_ ≠ gb183 ∧ k_ ≠ gb189)) (by (with_reducible repeat (first | apply Kd.S_alloc | apply Kd.S_drewN | apply Kd.S_drew)); exact Kd.S_mono (Kd.S_far (p := ⟨gb189, 2, none⟩) (Kd.S_far (p := ⟨gb189, 1, none⟩) (Kd.S_far (p := ⟨gb189, 0, none⟩) (Kd.S_mono HO_4.out (fun k_ hk => (⟨hk, hk.2⟩ : _ ∧ k_ ≠ gb189))) (fun _ hk => hk.2) (.int .i64 t184)) (fun _ hk => hk.2) (.int .i64 t185)) (fun _ hk => hk.2) (.string t186)) (fun _ hk => ⟨⟨hk.1.1.2, hk.1.2⟩, hk.1.1.1⟩)) hg hat); have n1_ := Aside0.mk (blk_grown (g := gb183) (o := .cells #[u184000] 41 (0, 0)) (by (with_reducible repeat (first | refine blk_drewN ?_ _ | refine blk_drew ?_ | refine blk_alloc ?_ _)); refine blk_far ?_ NB183_189.out _; (with_reducible repeat (first | refine blk_drewN ?_ _ | refine blk_drew ?_ | refine blk_alloc ?_ _)); refine blk_far ?_ NB183_189.out _; (with_reducible repeat (first | refine blk_drewN ?_ _ | refine blk_drew ?_ | refine blk_alloc ?_ _)); refine blk_far ?_ NB183_189.out _; (with_reducible repeat (first | refine blk_drewN ?_ _ | refine blk_drew ?_ | refine blk_alloc ?_ _)); exact BK183.out) hg (Kd.R_ne HO_184000.out BK183.out (by decide))); have n2_ := Aside0.mk (blk_grown (g := gb189) (o := .cells #[.int .i64 t184, .int .i64 t185, .string t186] 43 (0, 0)) (by (with_reducible repeat (first | refine blk_drewN ?_ _ | refine blk_drew ?_ | refine blk_alloc ?_ _)); refine blk_put (cs := #[.int .i64 t184, .int .i64 t185, .string (⟨#[]⟩ : ByteArray)]) ?_ 2 _ rfl; (with_reducible repeat (first | refine blk_drewN ?_ _ | refine blk_drew ?_ | refine blk_alloc ?_ _)); refine blk_put (cs := #[.int .i64 t184, .int .i64 0, .string (⟨#[]⟩ : ByteArray)]) ?_ 1 _ rfl; (with_reducible repeat (first | refine blk_drewN ?_ _ | refine blk_drew ?_ | refine blk_alloc ?_ _)); refine blk_put (cs := #[.int .i64 0, .int .i64 0, .string (⟨#[]⟩ : ByteArray)]) ?_ 0 _ rfl; (with_reducible repeat (first | refine blk_drewN ?_ _ | refine blk_drew ?_ | refine blk_alloc ?_ _)); exact BK189.out) hg (Kd.R_away HO_184000.out (fun _ hk => hk.2))); have n3_ := Aside0.mk (hb); have n4_ := Aside0.mk (ho); clear HO_4; clear BK183; clear BK189; clear HB; clear HO_184000; have HO_4 := n0_; have BK183 := n1_; have BK189 := n2_; have HB := n3_; have HO192 := n4_; clear n0_ n1_ n2_ n3_ n4_; clear ho hb hg hat; obtain ⟨Ao19, co19, eo19⟩ := Kd.R_slice HO192.out; subst eo19; have hcz20_0 : w18.cell? ⟨gb183, 0, none⟩ = some (u184000) := (blk_cell BK183.out 0).trans rfl; have hfz20_0 := blk_frozen BK183.out 0))
                      go_roundg k2
                      case measure => have := HK1.out; have := HK2.out; omega
                      case rel => exact ⟨(t187), (wrap64 (x8_2 + 1)), (y190), (.slice Ao19 y190.length co19), (by first | rfl | (simp; done) | (simp [*]; done)), (by first | rfl | (simp; done) | (simp [*]; done)), H', ⟨by have := HK1.out; have := HK2.out; omega⟩, ⟨by (with_reducible repeat (first | apply Kd.S_alloc | apply Kd.S_drewN | apply Kd.S_drew)); exact Kd.S_mono (Kd.S_far (p := ⟨gb183, 0, none⟩) (Kd.S_mono HO_4.out (fun k_ hk => (⟨hk, hk.1.1⟩ : _ ∧ k_ ≠ gb183))) (fun _ hk => hk.2) (.slice Ao19 y190.length co19)) (fun _ hk => ⟨hk.1.2, hk.1.1.1⟩)⟩, ⟨by (with_reducible repeat (first | apply Kd.R_alloc | apply Kd.R_drewN | apply Kd.R_drew)); exact Kd.R_mono (Kd.R_far (p := ⟨gb183, 0, none⟩) (Kd.R_types HO192.out BK183.out (by decide)) (fun _ hk => hk.2) (.slice Ao19 y190.length co19)) (fun _ hk => trivial)⟩, ⟨by (with_reducible repeat (first | refine blk_drewN ?_ _ | refine blk_drew ?_ | refine blk_alloc ?_ _)); refine blk_put (cs := #[u184000]) ?_ 0 _ rfl; (with_reducible repeat (first | refine blk_drewN ?_ _ | refine blk_drew ?_ | refine blk_alloc ?_ _)); exact BK183.out⟩, ⟨by repeat (first | (with_reducible first | exact HB.out | apply below_alloc | apply pw_below_drewN | apply below_drew1 | refine below_set ?_ GE183.out | refine below_set ?_ GE189.out) | exact HB.out)⟩⟩
                    · rw [if_neg c12] at H
                      exact absurd H (by simp)
                  · rw [if_neg c11] at H
                    have c11b0 : (t188 == 0) = false := beq_eq_false_iff_ne.mpr c11
                    have c11b1 : (t188 != 0) = true := bne_iff_ne.mpr c11
                    simp only [Option.some.injEq, Prod.mk.injEq] at H
                    obtain ⟨rfl, rfl⟩ := H
                    go_wp2_with (first | ((with_reducible refine gate_callee (f := 68) rfl ?_); refine goesL_ (some 33) rfl rfl Try.func68 (by kernel_rfl) rfl #[.string a0, .int .i64 x5_2] rfl (by (try simp only [List.map_toArray, List.map_cons, List.map_nil]); first | done | rfl | (simp only [List.length_drop, List.length_take]; rfl)) ?_; (with_reducible refine (broadsheetref45_one.calls k2 a0 x5_2 t184 t185 t186 t187 t188 _ A10.out).mono ?_); rintro e w21 ⟨rfl, hb⟩; refine ⟨_, rfl, ?_⟩; have n0_ := Aside0.mk (Kd.S_below (by (with_reducible repeat (first | apply Kd.S_alloc | apply Kd.S_drewN | apply Kd.S_drew)); exact HO_4.out) hb); have n1_ := Aside0.mk (Kd.R_below (by (with_reducible repeat (first | apply Kd.R_alloc | apply Kd.R_drewN | apply Kd.R_drew)); exact HO_184000.out) hb); have n2_ := Aside0.mk (blk_below (g := gb183) (o := .cells #[u184000] 41 (0, 0)) (by (with_reducible repeat (first | refine blk_drewN ?_ _ | refine blk_drew ?_ | refine blk_alloc ?_ _)); exact BK183.out) hb); have n3_ := Aside0.mk (below_step (by repeat (first | (with_reducible first | exact HB.out | apply below_alloc | apply pw_below_drewN | apply below_drew1 | refine below_set ?_ GE183.out) | exact HB.out)) hb); clear HO_4; clear HO_184000; clear BK183; clear HB; have HO_4 := n0_; have HO_184000 := n1_; have BK183 := n2_; have HB := n3_; clear n0_ n1_ n2_ n3_; (try clear hb); (try clear hb2); (try clear hk); (try clear hi)) | ((with_reducible refine gate_dst (N := 9) rfl ?_); refine box_event ?hg (N := 9) ?hd (cs := #[.int .i64 0, .int .i64 0, .string (⟨#[]⟩ : ByteArray)]) (t := 43) ?hr ?_; (case hd => rfl); (case hg => rfl); (case hr => first | (go_simp; done) | (go_simp; rfl)); intro gb189 hg w22 hbox hb; have n0_ := Aside0.mk (Kd.S_below (Kd.S_elderB (by (with_reducible repeat (first | apply Kd.S_alloc | apply Kd.S_drewN | apply Kd.S_drew)); exact HO_4.out) gb189 (Nat.le_of_eq hg.symm)) hb); have n1_ := Aside0.mk (Kd.R_below (Kd.R_elderB (by (with_reducible repeat (first | apply Kd.R_alloc | apply Kd.R_drewN | apply Kd.R_drew)); exact HO_184000.out) gb189 (Nat.le_of_eq hg.symm)) hb); have n2_ := Aside0.mk (blk_below (g := gb183) (o := .cells #[u184000] 41 (0, 0)) (by (with_reducible repeat (first | refine blk_drewN ?_ _ | refine blk_drew ?_ | refine blk_alloc ?_ _)); exact BK183.out) hb); have n3_ := Aside0.mk (below_step (by repeat (first | (with_reducible first | exact HB.out | apply below_alloc | apply pw_below_drewN | apply below_drew1 | refine below_set ?_ GE183.out) | exact HB.out)) hb); have n4_ := Aside0.mk (hbox); have n5_ := Aside0.mk ((by rw [hg]; exact (below_size (by repeat (first | (with_reducible first | exact HB.out | apply below_alloc | apply pw_below_drewN | apply below_drew1 | refine below_set ?_ GE183.out) | exact HB.out))) : w.heap.size ≤ gb189)); have n6_ := Aside0.mk ((by rw [hg]; exact (below_size (by repeat (first | (with_reducible first | exact HB.out | apply below_alloc | apply pw_below_drewN | apply below_drew1 | refine below_set ?_ GE183.out) | exact HB.out))) : w.heap.size ≤ gb189)); have n7_ := Aside0.mk ((by rw [hg]; exact Nat.ne_of_lt (blk_lt (g := gb183) (o := .cells #[u184000] 41 (0, 0)) (by (with_reducible repeat (first | refine blk_drewN ?_ _ | refine blk_drew ?_ | refine blk_alloc ?_ _)); exact BK183.out)) : gb183 ≠ gb189)); have n8_ := Aside0.mk ((by rw [hg]; exact Nat.ne_of_gt (blk_lt (g := gb183) (o := .cells #[u184000] 41 (0, 0)) (by (with_reducible repeat (first | refine blk_drewN ?_ _ | refine blk_drew ?_ | refine blk_alloc ?_ _)); exact BK183.out)) : gb189 ≠ gb183)); clear HO_4; clear HO_184000; clear BK183; clear HB; have HO_4 := n0_; have HO_184000 := n1_; have BK183 := n2_; have HB := n3_; have BK189 := n4_; have GW189 := n5_; have GE189 := n6_; have NB183_189 := n7_; have NB189_183 := n8_; clear n0_ n1_ n2_ n3_ n4_ n5_ n6_ n7_ n8_; clear hb hbox hg; have hnb23 := NB189_183.out; have hnc23 := NB183_189.out; have hcz24_0 : w22.cell? ⟨gb189, 0, none⟩ = some (.int .i64 0) := (blk_cell BK189.out 0).trans rfl; have hcz24_1 : w22.cell? ⟨gb189, 1, none⟩ = some (.int .i64 0) := (blk_cell BK189.out 1).trans rfl; have hcz24_2 : w22.cell? ⟨gb189, 2, none⟩ = some (.string (⟨#[]⟩ : ByteArray)) := (blk_cell BK189.out 2).trans rfl; have hfz24_0 := blk_frozen BK189.out 0; have hfz24_1 := blk_frozen BK189.out 1; have hfz24_2 := blk_frozen BK189.out 2))
                    go_ret2
                    exact ⟨_, by first | rfl | (simp [errW_none, errW_some] <;> rfl) | (simp [*, errW_none, errW_some] <;> rfl), by first | exact Kd.S_nil _ _ _ _ _ | exact Kd.N_nil _ _ _ _ _ | exact Kd.V_nil _ _ _ _ _ | exact Kd.Q_nil _ _ _ _ _ | exact Kd.R_nil _ _ _ _ _, by repeat (first | (with_reducible first | exact HB.out | apply below_alloc | apply pw_below_drewN | apply below_drew1 | refine below_set ?_ GE183.out | refine below_set ?_ GE189.out) | exact HB.out)⟩
                · rw [if_neg c9] at H
                  have c9b0 : decide (x8_2 < (wrap64 (bt a0 x5_1))) = false := decide_eq_false c9
                  clear c9
                  by_cases c25 : x4_1.length < 5864062014805
                  · rw [if_pos c25] at H
                    have LMc25 := Aside0.mk c25
                    clear c25
                    obtain ⟨y193, hy193⟩ : ∃ y_ : List (S41), y_ = (x4_1 ++ [(⟨x184000_2⟩ : S41)]) := ⟨_, rfl⟩
                    replace H : (broadsheetref45_Take.l0 k2 a0 y193 x5_2) = some (r1, r2) := by first | (rw [hy193]; with_reducible exact H) | (have H2_ := (Option.bind_some _ _).symm.trans H; rw [hy193]; with_reducible exact H2_) | (have H2_ := (Option.bind_some _ _).symm.trans H; with_reducible exact H2_) | with_reducible exact H | (rw [hy193]; exact H) | exact H
                    have Ny193 := Aside0.mk hy193
                    clear hy193
                    have H' := Aside0.mk H
                    clear H
                    have hcz26_0 : wr.cell? ⟨gb183, 0, none⟩ = some (u184000) := (blk_cell BK183.out 0).trans rfl
                    have hfz26_0 := blk_frozen BK183.out 0
                    obtain ⟨Ao28, co28, eo28⟩ := Kd.R_slice HO_184000.out
                    subst eo28
                    go_wp2_with (first | ((with_reducible refine gate_builtin (b := .append) (xs := #[.tmp 47, .tmp 49]) rfl ?_); at_builtin; refine Kd.S_append k41 (w0 := w) w.heap.size rfl (.tmp 47) (.tmp 49) 35 41 (.agg #[(.slice none 0 0)]) 24 rfl Try.underlying35 info41 rfl (by decide) (by omega) (.slice Ao7 x4_1.length co7) x4_1 (⟨x184000_2⟩ : S41) [.slice Ao28 x184000_2.length co28] (fun k_ => k_ ≠ gb183) (fun k_ => some k_ = (.slice Ao28 x184000_2.length co28 : Value).ownBlock) rfl rfl ?aP (fun k_ hk_ => ((Kd.R_mono (ok' := fun k_ => ((fun k_ => k_ ≠ gb183)) k_ ∧ some k_ ≠ (.slice Ao7 x4_1.length co7 : Value).ownBlock) (Kd.R_types (Kd.R_apart' (HO_184000.out) (Kd.S_typed HO_4.out) (by decide)) BK183.out (by decide)) (fun k_ hk => ⟨hk.2, hk.1.2⟩))).1 k_ hk_.symm) ?aF ?aO ?aB ?aS ?aL ?_; (case aP => exact k41_mkM _ _ _ (⟨x184000_2⟩ : S41) (Kd.R_mono (Kd.R_tight rfl (Kd.R_mono (ok' := fun k_ => ((fun k_ => k_ ≠ gb183)) k_ ∧ some k_ ≠ (.slice Ao7 x4_1.length co7 : Value).ownBlock) (Kd.R_types (Kd.R_apart' (HO_184000.out) (Kd.S_typed HO_4.out) (by decide)) BK183.out (by decide)) (fun k_ hk => ⟨hk.2, hk.1.2⟩))) (fun _ h_ => h_))); (case aB => exact (by repeat (first | (with_reducible first | exact HB.out | apply below_alloc | apply pw_below_drewN | apply below_drew1 | refine below_set ?_ GE183.out) | exact HB.out))); (case aF => exact (fun k_ hk => Kd.freshB (g := gb183) (o := .cells #[.slice Ao28 x184000_2.length co28] 41 (0, 0)) (by (with_reducible repeat (first | refine blk_drewN ?_ _ | refine blk_drew ?_ | refine blk_alloc ?_ _)); exact BK183.out) k_ hk)); (case aO => exact (by (with_reducible repeat (first | apply Kd.S_alloc | apply Kd.S_drewN | apply Kd.S_drew)); exact Kd.S_mono HO_4.out (fun k_ hk => ⟨hk.2, fun e_ => hk.1 e_⟩))); (case aS => exact (below_size (by repeat (first | (with_reducible first | exact HB.out | apply below_alloc | apply pw_below_drewN | apply below_drew1 | refine below_set ?_ GE183.out) | exact HB.out)))); (case aL => have := LMc25.out; omega); intro v194 w27 ho hb hg hat; rw [← Ny193.out] at ho; have n0_ := Aside0.mk (blk_grown (g := gb183) (o := .cells #[.slice Ao28 x184000_2.length co28] 41 (0, 0)) (by (with_reducible repeat (first | refine blk_drewN ?_ _ | refine blk_drew ?_ | refine blk_alloc ?_ _)); exact BK183.out) hg (Kd.S_away HO_4.out (fun _ hk => hk.2))); have n1_ := Aside0.mk (hb); have n2_ := Aside0.mk (ho); clear BK183; clear HB; clear HO_4; clear HO_184000; have BK183 := n0_; have HB := n1_; have HO195 := n2_; clear n0_ n1_ n2_; clear ho hb hg hat))
                    go_roundg k2
                    case measure => have := HK1.out; have := HK2.out; omega
                    case rel => exact ⟨(y193), (x5_2), (by first | rfl | (simp; done) | (simp [*]; done)), H', ⟨by have := HK1.out; have := HK2.out; omega⟩, ⟨by (with_reducible repeat (first | apply Kd.S_alloc | apply Kd.S_drewN | apply Kd.S_drew)); exact Kd.S_mono HO195.out (fun _ hk => trivial)⟩, ⟨by repeat (first | (with_reducible first | exact HB.out | apply below_alloc | apply pw_below_drewN | apply below_drew1 | refine below_set ?_ GE183.out) | exact HB.out)⟩⟩
                  · rw [if_neg c25] at H
                    exact absurd H (by simp)
          · rw [if_neg c5] at H
            exact absurd H (by simp)
      · rw [if_neg c2] at H
        have c2b0 : decide (x5_1 < (a0.size : Int)) = false := decide_eq_false c2
        clear c2
        simp only [Option.some.injEq, Prod.mk.injEq] at H
        obtain ⟨rfl, rfl⟩ := H
        go_wp2
        go_ret2
        exact ⟨_, by first | rfl | (simp [errW_none, errW_some] <;> rfl) | (simp [*, errW_none, errW_some] <;> rfl), by (with_reducible repeat (first | apply Kd.S_alloc | apply Kd.S_drewN | apply Kd.S_drew)); exact HO_4.out, by repeat (first | (with_reducible first | exact HB.out | apply below_alloc | apply pw_below_drewN | apply below_drew1) | exact HB.out)⟩

/-! ### broadsheetref45_Same: function 28 -/
mutual
def broadsheetref45_Same.l0 : Nat → List (S41) → List (S41) → Int → Option (Bool)
  | 0, _, _, _ => none
  | k + 1, x0, x1, x5 => if x5 < (x0.length : Int) then (if 0 ≤ x5 then (if x5 < (x1.length : Int) then (if (((rd_T41 x0 x5).f0).length : Int) = (((rd_T41 x1 x5).f0).length : Int) then (broadsheetref45_Same.l1 k x0 x1 x5 0) else (some false)) else (none)) else (none)) else (some true)
def broadsheetref45_Same.l1 : Nat → List (S41) → List (S41) → Int → Int → Option (Bool)
  | 0, _, _, _, _ => none
  | k + 1, x0, x1, x5, x6 => if 0 ≤ x5 then (if x5 < (x0.length : Int) then (if x6 < (((rd_T41 x0 x5).f0).length : Int) then (if 0 ≤ x6 then (if x5 < (x1.length : Int) then (if x6 < (((rd_T41 x1 x5).f0).length : Int) then (if (!(((rd_T43 ((rd_T41 x0 x5).f0) x6).f0) == ((rd_T43 ((rd_T41 x1 x5).f0) x6).f0)) || (!(((rd_T43 ((rd_T41 x0 x5).f0) x6).f1) == ((rd_T43 ((rd_T41 x1 x5).f0) x6).f1)) || (!((((rd_T43 ((rd_T41 x0 x5).f0) x6).f2).toList) == (((rd_T43 ((rd_T41 x1 x5).f0) x6).f2).toList))))) = true then (some false) else (broadsheetref45_Same.l1 k x0 x1 x5 (wrap64 (x6 + 1)))) else (none)) else (none)) else (none)) else (broadsheetref45_Same.l0 k x0 x1 (wrap64 (x5 + 1)))) else (none)) else (none)
end
def broadsheetref45_Same.f (k : Nat) (l0 : List (S41)) (l1 : List (S41)) : Option (Bool) := if (l0.length : Int) = (l1.length : Int) then (broadsheetref45_Same.l0 k l0 l1 0) else (some false)
theorem broadsheetref45_Same.mono_l : ∀ k, (∀ y0 y1 y2, LeO (broadsheetref45_Same.l0 k y0 y1 y2) (broadsheetref45_Same.l0 (k + 1) y0 y1 y2)) ∧ (∀ y0 y1 y2 y3, LeO (broadsheetref45_Same.l1 k y0 y1 y2 y3) (broadsheetref45_Same.l1 (k + 1) y0 y1 y2 y3))
  | 0 => ⟨fun _ _ _ r h => by simp [broadsheetref45_Same.l0] at h, fun _ _ _ _ r h => by simp [broadsheetref45_Same.l1] at h⟩
  | k + 1 => by
    obtain ⟨ih0, ih1⟩ := broadsheetref45_Same.mono_l k
    refine ⟨?_, ?_⟩
    · intro y0 y1 y2
      unfold broadsheetref45_Same.l0
      repeat' first
      | (with_reducible exact ih0 _ _ _)
      | (with_reducible exact ih1 _ _ _ _)
      | (with_reducible exact LeO.refl _)
      | (with_reducible exact LeO.none _)
      | (with_reducible refine LeO.ite ?_ ?_)
      | (with_reducible refine LeO.bind ?_ (fun _ => ?_))
      | exact ih0 _ _ _
      | exact ih1 _ _ _ _
      | exact LeO.none _
      | refine LeO.ite ?_ ?_
      | refine LeO.bind ?_ (fun _ => ?_)
    · intro y0 y1 y2 y3
      unfold broadsheetref45_Same.l1
      repeat' first
      | (with_reducible exact ih0 _ _ _)
      | (with_reducible exact ih1 _ _ _ _)
      | (with_reducible exact LeO.refl _)
      | (with_reducible exact LeO.none _)
      | (with_reducible refine LeO.ite ?_ ?_)
      | (with_reducible refine LeO.bind ?_ (fun _ => ?_))
      | exact ih0 _ _ _
      | exact ih1 _ _ _ _
      | exact LeO.none _
      | refine LeO.ite ?_ ?_
      | refine LeO.bind ?_ (fun _ => ?_)
theorem broadsheetref45_Same.mono : ∀ a0 a1 k, LeO (broadsheetref45_Same.f k a0 a1) (broadsheetref45_Same.f (k + 1) a0 a1) := by
  intro a0 a1 k
  obtain ⟨ih0, ih1⟩ := broadsheetref45_Same.mono_l k
  unfold broadsheetref45_Same.f
  repeat' first
      | (with_reducible exact ih0 _ _ _)
      | (with_reducible exact ih1 _ _ _ _)
      | (with_reducible exact LeO.refl _)
      | (with_reducible exact LeO.none _)
      | (with_reducible refine LeO.ite ?_ ?_)
      | (with_reducible refine LeO.bind ?_ (fun _ => ?_))
      | exact ih0 _ _ _
      | exact ih1 _ _ _ _
      | exact LeO.none _
      | refine LeO.ite ?_ ?_
      | refine LeO.bind ?_ (fun _ => ?_)
set_option maxHeartbeats 8000000 in
set_option maxRecDepth 100000 in
theorem broadsheetref45_Same.calls (k : Nat) (A0 : Option Addr) (c0 : Nat) (l0 : List (S41)) (A1 : Option Addr) (c1 : Nat) (l1 : List (S41)) (r : Bool) (w : World) (hr0 : Kd.C k41 w A0 l0.length l0) (hc0 : l0.length ≤ c0) (hr1 : Kd.C k41 w A1 l1.length l1) (hc1 : l1.length ≤ c1) (h : broadsheetref45_Same.f k l0 l1 = some r) :
    Calls Try.prog 28 #[.slice A0 l0.length c0, .slice A1 l1.length c1] w fun e w' => e = .returned (.bool r) ∧ Drawn0 w w' := by
  have hu43 := Try.underlying43
  have HR0 := Aside0.mk hr0
  have HC0 := Aside0.mk hc0
  clear hr0 hc0
  have HR1 := Aside0.mk hr1
  have HC1 := Aside0.mk hc1
  clear hr1 hc1
  have H : (if (l0.length : Int) = (l1.length : Int) then (broadsheetref45_Same.l0 k l0 l1 0) else (some false)) = some r := h
  clear h
  by_cases c3 : (l0.length : Int) = (l1.length : Int)
  · rw [if_pos c3] at H
    have c3b0 : ((l0.length : Int) == (l1.length : Int)) = true := beq_iff_eq.mpr c3
    have c3b1 : ((l0.length : Int) != (l1.length : Int)) = false := bne_eq_false_iff_eq.mpr c3
    have c3b2 : (l0.length == l1.length) = true := by first | simpa using c3 | (simp at c3 ⊢; omega)
    clear c3
    have H' := Aside0.mk H
    clear H
    go_enter Try.func28, Try.ntmps28
    go_wp2
    repeat (go_quiet (fail); try go_wp2)
    go_loopg [5] k (fun kq v5 w' => ∃ (x5_1 : Int), v5 = .int .i64 x5_1 ∧ Aside0 (broadsheetref45_Same.l0 kq l0 l1 x5_1 = some r) ∧ Aside0 (kq ≤ k) ∧ Drawn0 w w')
    case atStart => exact ⟨(0), (by first | rfl | (simp; done) | (simp [*]; done)), H', ⟨Nat.le_refl _⟩, by repeat (first | exact Drawn0.refl _ | apply Drawn0.step)⟩
    case round =>
      clear H'
      try clear c1
      try clear c2
      try clear p2
      try clear c3
      try clear c3b0
      try clear c3b1
      try clear c3b2
      obtain ⟨x5_1, rfl, HA, HK1, ⟨m1, rfl⟩⟩ := hrel
      cases gk with
      | zero => exact absurd HA.out (by simp [broadsheetref45_Same.l0])
      | succ k1 =>
        have H := HA.out
        clear HA
        simp only [broadsheetref45_Same.l0] at H
        by_cases c4 : x5_1 < (l0.length : Int)
        · rw [if_pos c4] at H
          have c4b0 : decide (x5_1 < (l0.length : Int)) = true := decide_eq_true c4
          clear c4
          by_cases c5 : 0 ≤ x5_1
          · rw [if_pos c5] at H
            have c5b0 : decide (0 ≤ x5_1) = true := decide_eq_true c5
            clear c5
            by_cases c6 : x5_1 < (l1.length : Int)
            · rw [if_pos c6] at H
              have c6b0 : decide (x5_1 < (l1.length : Int)) = true := decide_eq_true c6
              clear c6
              by_cases c7 : (((rd_T41 l0 x5_1).f0).length : Int) = (((rd_T41 l1 x5_1).f0).length : Int)
              · rw [if_pos c7] at H
                have c7b0 : ((((rd_T41 l0 x5_1).f0).length : Int) == (((rd_T41 l1 x5_1).f0).length : Int)) = true := beq_iff_eq.mpr c7
                have c7b1 : ((((rd_T41 l0 x5_1).f0).length : Int) != (((rd_T41 l1 x5_1).f0).length : Int)) = false := bne_eq_false_iff_eq.mpr c7
                have c7b2 : (((rd_T41 l0 x5_1).f0).length == ((rd_T41 l1 x5_1).f0).length) = true := by first | simpa using c7 | (simp at c7 ⊢; omega)
                clear c7
                have H' := Aside0.mk H
                clear H
                have p196 : 0 ≤ (x5_1 : Int) := of_decide_eq_true (by first | (with_reducible assumption) | assumption)
                have q196 : x5_1 < (l0.length : Int) := of_decide_eq_true (by first | (with_reducible assumption) | assumption)
                obtain ⟨ad196, A196_0, c196_0, e196, hx196_0, hl196_0, hi196_0⟩ := at_T41 HR0.out x5_1 p196 q196
                cases e196
                have HR196_0 := Aside0.mk hi196_0
                have HC196_0 := Aside0.mk hl196_0
                clear hi196_0 hl196_0
                replace p196 := eq_true p196
                replace q196 := eq_true q196
                have p197 : 0 ≤ (x5_1 : Int) := of_decide_eq_true (by first | (with_reducible assumption) | assumption)
                have q197 : x5_1 < (l1.length : Int) := of_decide_eq_true (by first | (with_reducible assumption) | assumption)
                obtain ⟨ad197, A197_0, c197_0, e197, hx197_0, hl197_0, hi197_0⟩ := at_T41 HR1.out x5_1 p197 q197
                cases e197
                have HR197_0 := Aside0.mk hi197_0
                have HC197_0 := Aside0.mk hl197_0
                clear hi197_0 hl197_0
                replace p197 := eq_true p197
                replace q197 := eq_true q197
                go_wp2
                repeat (go_quiet (fail); try go_wp2)
                go_loopg [6] k1 (fun kq v6 w' => ∃ (x6_2 : Int), v6 = .int .i64 x6_2 ∧ Aside0 (broadsheetref45_Same.l1 kq l0 l1 x5_1 x6_2 = some r) ∧ Aside0 (kq ≤ k1) ∧ Drawn0 w w')
                case atStart => exact ⟨(0), (by first | rfl | (simp; done) | (simp [*]; done)), H', ⟨Nat.le_refl _⟩, by repeat (first | exact Drawn0.refl _ | apply Drawn0.step)⟩
                case round =>
                  clear H'
                  try clear c1
                  try clear p1
                  try clear q1
                  try clear hx1
                  try clear c2
                  try clear p2
                  try clear c3
                  try clear c3b0
                  try clear c3b1
                  try clear c3b2
                  try clear c4
                  try clear c4b0
                  try clear c5
                  try clear c5b0
                  try clear c6
                  try clear c6b0
                  try clear c7
                  try clear c7b0
                  try clear c7b1
                  try clear c7b2
                  try clear hx196_0
                  try clear hx197_0
                  try clear p196
                  try clear p197
                  try clear p2
                  try clear q196
                  try clear q197
                  obtain ⟨x6_2, rfl, HA, HK2, ⟨m2, rfl⟩⟩ := hrel
                  cases gk with
                  | zero => exact absurd HA.out (by simp [broadsheetref45_Same.l1])
                  | succ k2 =>
                    have H := HA.out
                    clear HA
                    simp only [broadsheetref45_Same.l1] at H
                    by_cases c8 : 0 ≤ x5_1
                    · rw [if_pos c8] at H
                      have c8b0 : decide (0 ≤ x5_1) = true := decide_eq_true c8
                      clear c8
                      by_cases c9 : x5_1 < (l0.length : Int)
                      · rw [if_pos c9] at H
                        have c9b0 : decide (x5_1 < (l0.length : Int)) = true := decide_eq_true c9
                        clear c9
                        by_cases c10 : x6_2 < (((rd_T41 l0 x5_1).f0).length : Int)
                        · rw [if_pos c10] at H
                          have c10b0 : decide (x6_2 < (((rd_T41 l0 x5_1).f0).length : Int)) = true := decide_eq_true c10
                          clear c10
                          by_cases c11 : 0 ≤ x6_2
                          · rw [if_pos c11] at H
                            have c11b0 : decide (0 ≤ x6_2) = true := decide_eq_true c11
                            clear c11
                            by_cases c12 : x5_1 < (l1.length : Int)
                            · rw [if_pos c12] at H
                              have c12b0 : decide (x5_1 < (l1.length : Int)) = true := decide_eq_true c12
                              clear c12
                              by_cases c13 : x6_2 < (((rd_T41 l1 x5_1).f0).length : Int)
                              · rw [if_pos c13] at H
                                have c13b0 : decide (x6_2 < (((rd_T41 l1 x5_1).f0).length : Int)) = true := decide_eq_true c13
                                clear c13
                                by_cases c14 : (!(((rd_T43 ((rd_T41 l0 x5_1).f0) x6_2).f0) == ((rd_T43 ((rd_T41 l1 x5_1).f0) x6_2).f0)) || (!(((rd_T43 ((rd_T41 l0 x5_1).f0) x6_2).f1) == ((rd_T43 ((rd_T41 l1 x5_1).f0) x6_2).f1)) || (!((((rd_T43 ((rd_T41 l0 x5_1).f0) x6_2).f2).toList) == (((rd_T43 ((rd_T41 l1 x5_1).f0) x6_2).f2).toList))))) = true
                                · rw [if_pos c14] at H
                                  have c14b0 : (!(((rd_T43 ((rd_T41 l0 x5_1).f0) x6_2).f0) == ((rd_T43 ((rd_T41 l1 x5_1).f0) x6_2).f0)) || (!(((rd_T43 ((rd_T41 l0 x5_1).f0) x6_2).f1) == ((rd_T43 ((rd_T41 l1 x5_1).f0) x6_2).f1)) || (!((((rd_T43 ((rd_T41 l0 x5_1).f0) x6_2).f2).toList) == (((rd_T43 ((rd_T41 l1 x5_1).f0) x6_2).f2).toList))))) = true := c14
                                  clear c14
                                  obtain rfl := Option.some.inj H
                                  have p198 : 0 ≤ (x5_1 : Int) := of_decide_eq_true (by first | (with_reducible assumption) | assumption)
                                  have q198 : x5_1 < (l0.length : Int) := of_decide_eq_true (by first | (with_reducible assumption) | assumption)
                                  obtain ⟨ad198, A198_0, c198_0, e198, hx198_0, hl198_0, hi198_0⟩ := at_T41 HR0.out x5_1 p198 q198
                                  obtain rfl : ad196 = ad198 := (by injection e198)
                                  have HR198_0 := Aside0.mk hi198_0
                                  have HC198_0 := Aside0.mk hl198_0
                                  clear hi198_0 hl198_0
                                  replace p198 := eq_true p198
                                  replace q198 := eq_true q198
                                  have p199 : 0 ≤ (x5_1 : Int) := of_decide_eq_true (by first | (with_reducible assumption) | assumption)
                                  have q199 : x5_1 < (l0.length : Int) := of_decide_eq_true (by first | (with_reducible assumption) | assumption)
                                  obtain ⟨ad199, A199_0, c199_0, e199, hx199_0, hl199_0, hi199_0⟩ := at_T41 HR0.out x5_1 p199 q199
                                  obtain rfl : ad196 = ad199 := (by injection e199)
                                  have HR199_0 := Aside0.mk hi199_0
                                  have HC199_0 := Aside0.mk hl199_0
                                  clear hi199_0 hl199_0
                                  replace p199 := eq_true p199
                                  replace q199 := eq_true q199
                                  have ea_ := Option.some.inj (hx198_0.symm.trans hx199_0)
                                  injection ea_ with ea_ en_ ec_
                                  subst ea_
                                  subst ec_
                                  clear en_
                                  have p200 : 0 ≤ (x6_2 : Int) := of_decide_eq_true (by first | (with_reducible assumption) | assumption)
                                  have q200 : x6_2 < (((rd_T41 l0 x5_1).f0).length : Int) := of_decide_eq_true (by first | (with_reducible assumption) | assumption)
                                  obtain ⟨ad200, e200, hx200_0, hx200_1, hx200_2⟩ := at_T43 HR199_0.out x6_2 p200 q200
                                  cases e200
                                  replace p200 := eq_true p200
                                  replace q200 := eq_true q200
                                  have p201 : 0 ≤ (x5_1 : Int) := of_decide_eq_true (by first | (with_reducible assumption) | assumption)
                                  have q201 : x5_1 < (l1.length : Int) := of_decide_eq_true (by first | (with_reducible assumption) | assumption)
                                  obtain ⟨ad201, A201_0, c201_0, e201, hx201_0, hl201_0, hi201_0⟩ := at_T41 HR1.out x5_1 p201 q201
                                  obtain rfl : ad197 = ad201 := (by injection e201)
                                  have HR201_0 := Aside0.mk hi201_0
                                  have HC201_0 := Aside0.mk hl201_0
                                  clear hi201_0 hl201_0
                                  replace p201 := eq_true p201
                                  replace q201 := eq_true q201
                                  have p202 : 0 ≤ (x6_2 : Int) := of_decide_eq_true (by first | (with_reducible assumption) | assumption)
                                  have q202 : x6_2 < (((rd_T41 l1 x5_1).f0).length : Int) := of_decide_eq_true (by first | (with_reducible assumption) | assumption)
                                  obtain ⟨ad202, e202, hx202_0, hx202_1, hx202_2⟩ := at_T43 HR201_0.out x6_2 p202 q202
                                  cases e202
                                  replace p202 := eq_true p202
                                  replace q202 := eq_true q202
                                  go_wp2
                                  repeat (go_quiet (fail); try go_wp2)
                                  go_ret
                                  exact ⟨by first | rfl | (simp; done) | (simp [*]; done), by repeat (first | exact Drawn0.refl _ | apply Drawn0.step)⟩
                                · rw [if_neg c14] at H
                                  have c14b0 : (!(((rd_T43 ((rd_T41 l0 x5_1).f0) x6_2).f0) == ((rd_T43 ((rd_T41 l1 x5_1).f0) x6_2).f0)) || (!(((rd_T43 ((rd_T41 l0 x5_1).f0) x6_2).f1) == ((rd_T43 ((rd_T41 l1 x5_1).f0) x6_2).f1)) || (!((((rd_T43 ((rd_T41 l0 x5_1).f0) x6_2).f2).toList) == (((rd_T43 ((rd_T41 l1 x5_1).f0) x6_2).f2).toList))))) = false := by simpa using c14
                                  clear c14
                                  have H' := Aside0.mk H
                                  clear H
                                  have p198 : 0 ≤ (x5_1 : Int) := of_decide_eq_true (by first | (with_reducible assumption) | assumption)
                                  have q198 : x5_1 < (l0.length : Int) := of_decide_eq_true (by first | (with_reducible assumption) | assumption)
                                  obtain ⟨ad198, A198_0, c198_0, e198, hx198_0, hl198_0, hi198_0⟩ := at_T41 HR0.out x5_1 p198 q198
                                  obtain rfl : ad196 = ad198 := (by injection e198)
                                  have HR198_0 := Aside0.mk hi198_0
                                  have HC198_0 := Aside0.mk hl198_0
                                  clear hi198_0 hl198_0
                                  replace p198 := eq_true p198
                                  replace q198 := eq_true q198
                                  have p199 : 0 ≤ (x5_1 : Int) := of_decide_eq_true (by first | (with_reducible assumption) | assumption)
                                  have q199 : x5_1 < (l0.length : Int) := of_decide_eq_true (by first | (with_reducible assumption) | assumption)
                                  obtain ⟨ad199, A199_0, c199_0, e199, hx199_0, hl199_0, hi199_0⟩ := at_T41 HR0.out x5_1 p199 q199
                                  obtain rfl : ad196 = ad199 := (by injection e199)
                                  have HR199_0 := Aside0.mk hi199_0
                                  have HC199_0 := Aside0.mk hl199_0
                                  clear hi199_0 hl199_0
                                  replace p199 := eq_true p199
                                  replace q199 := eq_true q199
                                  have ea_ := Option.some.inj (hx198_0.symm.trans hx199_0)
                                  injection ea_ with ea_ en_ ec_
                                  subst ea_
                                  subst ec_
                                  clear en_
                                  have p200 : 0 ≤ (x6_2 : Int) := of_decide_eq_true (by first | (with_reducible assumption) | assumption)
                                  have q200 : x6_2 < (((rd_T41 l0 x5_1).f0).length : Int) := of_decide_eq_true (by first | (with_reducible assumption) | assumption)
                                  obtain ⟨ad200, e200, hx200_0, hx200_1, hx200_2⟩ := at_T43 HR199_0.out x6_2 p200 q200
                                  cases e200
                                  replace p200 := eq_true p200
                                  replace q200 := eq_true q200
                                  have p201 : 0 ≤ (x5_1 : Int) := of_decide_eq_true (by first | (with_reducible assumption) | assumption)
                                  have q201 : x5_1 < (l1.length : Int) := of_decide_eq_true (by first | (with_reducible assumption) | assumption)
                                  obtain ⟨ad201, A201_0, c201_0, e201, hx201_0, hl201_0, hi201_0⟩ := at_T41 HR1.out x5_1 p201 q201
                                  obtain rfl : ad197 = ad201 := (by injection e201)
                                  have HR201_0 := Aside0.mk hi201_0
                                  have HC201_0 := Aside0.mk hl201_0
                                  clear hi201_0 hl201_0
                                  replace p201 := eq_true p201
                                  replace q201 := eq_true q201
                                  have p202 : 0 ≤ (x6_2 : Int) := of_decide_eq_true (by first | (with_reducible assumption) | assumption)
                                  have q202 : x6_2 < (((rd_T41 l1 x5_1).f0).length : Int) := of_decide_eq_true (by first | (with_reducible assumption) | assumption)
                                  obtain ⟨ad202, e202, hx202_0, hx202_1, hx202_2⟩ := at_T43 HR201_0.out x6_2 p202 q202
                                  cases e202
                                  replace p202 := eq_true p202
                                  replace q202 := eq_true q202
                                  go_wp2
                                  repeat (go_quiet (fail); try go_wp2)
                                  go_roundg k2
                                  case measure => have := HK1.out; have := HK2.out; omega
                                  case rel => exact ⟨(wrap64 (x6_2 + 1)), (by first | rfl | (simp; done) | (simp [*]; done)), H', ⟨by have := HK1.out; have := HK2.out; omega⟩, by repeat (first | exact Drawn0.refl _ | apply Drawn0.step)⟩
                              · rw [if_neg c13] at H
                                exact absurd H (by simp)
                            · rw [if_neg c12] at H
                              exact absurd H (by simp)
                          · rw [if_neg c11] at H
                            exact absurd H (by simp)
                        · rw [if_neg c10] at H
                          have c10b0 : decide (x6_2 < (((rd_T41 l0 x5_1).f0).length : Int)) = false := decide_eq_false c10
                          clear c10
                          have H' := Aside0.mk H
                          clear H
                          have p198 : 0 ≤ (x5_1 : Int) := of_decide_eq_true (by first | (with_reducible assumption) | assumption)
                          have q198 : x5_1 < (l0.length : Int) := of_decide_eq_true (by first | (with_reducible assumption) | assumption)
                          obtain ⟨ad198, A198_0, c198_0, e198, hx198_0, hl198_0, hi198_0⟩ := at_T41 HR0.out x5_1 p198 q198
                          obtain rfl : ad196 = ad198 := (by injection e198)
                          have HR198_0 := Aside0.mk hi198_0
                          have HC198_0 := Aside0.mk hl198_0
                          clear hi198_0 hl198_0
                          replace p198 := eq_true p198
                          replace q198 := eq_true q198
                          go_wp2
                          repeat (go_quiet (fail); try go_wp2)
                          go_roundg k2
                          case measure => have := HK1.out; have := HK2.out; omega
                          case rel => exact ⟨(wrap64 (x5_1 + 1)), (by first | rfl | (simp; done) | (simp [*]; done)), H', ⟨by have := HK1.out; have := HK2.out; omega⟩, by repeat (first | exact Drawn0.refl _ | apply Drawn0.step)⟩
                      · rw [if_neg c9] at H
                        exact absurd H (by simp)
                    · rw [if_neg c8] at H
                      exact absurd H (by simp)
              · rw [if_neg c7] at H
                have c7b0 : ((((rd_T41 l0 x5_1).f0).length : Int) == (((rd_T41 l1 x5_1).f0).length : Int)) = false := beq_eq_false_iff_ne.mpr c7
                have c7b1 : ((((rd_T41 l0 x5_1).f0).length : Int) != (((rd_T41 l1 x5_1).f0).length : Int)) = true := bne_iff_ne.mpr c7
                have c7b2 : (((rd_T41 l0 x5_1).f0).length == ((rd_T41 l1 x5_1).f0).length) = false := by first | simpa using c7 | (simp at c7 ⊢; omega)
                obtain rfl := Option.some.inj H
                have p196 : 0 ≤ (x5_1 : Int) := of_decide_eq_true (by first | (with_reducible assumption) | assumption)
                have q196 : x5_1 < (l0.length : Int) := of_decide_eq_true (by first | (with_reducible assumption) | assumption)
                obtain ⟨ad196, A196_0, c196_0, e196, hx196_0, hl196_0, hi196_0⟩ := at_T41 HR0.out x5_1 p196 q196
                cases e196
                have HR196_0 := Aside0.mk hi196_0
                have HC196_0 := Aside0.mk hl196_0
                clear hi196_0 hl196_0
                replace p196 := eq_true p196
                replace q196 := eq_true q196
                have p197 : 0 ≤ (x5_1 : Int) := of_decide_eq_true (by first | (with_reducible assumption) | assumption)
                have q197 : x5_1 < (l1.length : Int) := of_decide_eq_true (by first | (with_reducible assumption) | assumption)
                obtain ⟨ad197, A197_0, c197_0, e197, hx197_0, hl197_0, hi197_0⟩ := at_T41 HR1.out x5_1 p197 q197
                cases e197
                have HR197_0 := Aside0.mk hi197_0
                have HC197_0 := Aside0.mk hl197_0
                clear hi197_0 hl197_0
                replace p197 := eq_true p197
                replace q197 := eq_true q197
                go_wp2
                repeat (go_quiet (fail); try go_wp2)
                go_ret
                exact ⟨by first | rfl | (simp; done) | (simp [*]; done), by repeat (first | exact Drawn0.refl _ | apply Drawn0.step)⟩
            · rw [if_neg c6] at H
              exact absurd H (by simp)
          · rw [if_neg c5] at H
            exact absurd H (by simp)
        · rw [if_neg c4] at H
          have c4b0 : decide (x5_1 < (l0.length : Int)) = false := decide_eq_false c4
          clear c4
          obtain rfl := Option.some.inj H
          go_wp2
          repeat (go_quiet (fail); try go_wp2)
          go_ret
          exact ⟨by first | rfl | (simp; done) | (simp [*]; done), by repeat (first | exact Drawn0.refl _ | apply Drawn0.step)⟩
  · rw [if_neg c3] at H
    have c3b0 : ((l0.length : Int) == (l1.length : Int)) = false := beq_eq_false_iff_ne.mpr c3
    have c3b1 : ((l0.length : Int) != (l1.length : Int)) = true := bne_iff_ne.mpr c3
    have c3b2 : (l0.length == l1.length) = false := by first | simpa using c3 | (simp at c3 ⊢; omega)
    obtain rfl := Option.some.inj H
    go_enter Try.func28, Try.ntmps28
    go_wp2
    repeat (go_quiet (fail); try go_wp2)
    go_ret
    exact ⟨by first | rfl | (simp; done) | (simp [*]; done), by repeat (first | exact Drawn0.refl _ | apply Drawn0.step)⟩

-- NOT PRINTED: function 6 (broadsheetlaw45_ScriptTakes)

end Go.Proofs.Ytimalojaiaofkaa.PScriptTakes
namespace Go.Proofs.Ytimalojaiaofkaa.PScriptTakes
open Go.RowKit Go.Proofs.YtimalojaiaofkaaW.PrintWords Go.Proofs.YtimalojaiaofkaaW.PrintLast Go.Proofs.YtimalojaiaofkaaW.PrintMore Go.Proofs.Ytimalojaiaofkaa Base Wd
theorem num0 (b : ByteArray) (a s : Int) (k : Nat) (hk : 12 ≤ k) (hs : sz s = true) (hz : b.size ≤ 4611686018427387904) (h0 : 0 ≤ a) (h1 : a ≤ b.size) :
    script_taker_number.f k b a 0 s = some (if a + s ≤ b.size then ((takev b a s).1, b, a + s, 0) else (0, b, a, 2)) := by
  unfold script_taker_number.f
  have hs2 := sz_cases hs
  have hw : wrap64 (a + s) = a + s := by unfold wrap64; omega
  rw [if_pos rfl, WdT.take_eq b a s k hk (by omega) (by omega) (by omega), if_pos hs, Option.bind_some]
  by_cases h : a + s ≤ b.size
  · rw [if_pos h, if_pos (takev_in (by omega) (by omega) h), hw]
  · rw [if_neg h, if_neg (takev_out (by omega) h)]
theorem num1 (b : ByteArray) (a e s : Int) (k : Nat) (he : e ≠ 0) : script_taker_number.f k b a e s = some (0, b, a, e) := by
  unfold script_taker_number.f
  rw [if_neg he]
theorem byt (b : ByteArray) (a e n : Int) (k : Nat) (h0 : 0 ≤ a) (h1 : a ≤ b.size) (h2 : 0 ≤ n) (h3 : n ≤ 1000000) (hz : b.size ≤ 4611686018427387904) :
    script_taker_bytes.f k b a e n = some ((bys b a e n).1, b, (bys b a e n).2.1, (bys b a e n).2.2) := by
  unfold script_taker_bytes.f
  rw [if_pos ⟨h0, h1, h2, h3, hz⟩]
theorem byt1 (b : ByteArray) (a e : Int) (k : Nat) (he : e ≠ 0) (h0 : 0 ≤ a) (h1 : a ≤ b.size) (hz : b.size ≤ 4611686018427387904) : script_taker_bytes.f k b a e (wrap64 0) = some (⟨#[]⟩, b, a, e) := by
  have hw : wrap64 0 = 0 := by unfold wrap64; omega
  rw [hw, byt b a e 0 k h0 h1 (Int.le_refl _) (by decide) hz]
  unfold bys
  rw [if_neg he]
theorem tkM_in {b : ByteArray} {a s : Int} (h0 : 0 ≤ a) (h : a + s ≤ b.size) : tkM b a s = ((takev b a s).1, a + s) := by
  unfold tkM
  rw [if_neg (by omega), if_pos h]
theorem tkM_out {b : ByteArray} {a s : Int} (h0 : 0 ≤ a) (h : ¬ a + s ≤ b.size) : tkM b a s = (0, -1) := by
  unfold tkM
  rw [if_neg (by omega), if_neg h]
/-- The end of an action: its bytes. -/
theorem end_ (b : ByteArray) (a : Int) (k : Nat) (K n : Int) (hk : 12 ≤ k) (hz : b.size ≤ 4611686018427387904) (h0 : 0 ≤ a) (h1 : a ≤ b.size) :
    ∃ r3 a' e', ((script_taker_number.f k b a 0 2).bind fun bt => ((script_taker_bytes.f k bt.2.1 bt.2.2.1 bt.2.2.2 (wrap64 (bt.1))).bind fun bt2 => (some (K, n, bt2.1, bt2.2.1, bt2.2.2.1, bt2.2.2.2)))) = some (K, n, r3, b, a', e') ∧
      e' = (if (tkM b a 2).2 < 0 ∨ (tkM b a 2).1 > (b.size : Int) - (tkM b a 2).2 then 2 else 0) ∧ (e' = 0 → r3 = b.extract (tkM b a 2).2.toNat ((tkM b a 2).2 + (tkM b a 2).1).toNat ∧ a' = (tkM b a 2).2 + (tkM b a 2).1) := by
  rw [num0 b a 2 k hk rfl hz h0 h1]
  have hr := takev_range b a 2 rfl
  have hp : pw 2 = 65536 := rfl
  by_cases h : a + 2 ≤ b.size
  · rw [tkM_in h0 h, if_pos h, Option.bind_some]
    dsimp only
    have hw : wrap64 (takev b a 2).1 = (takev b a 2).1 := by unfold wrap64; omega
    rw [hw, byt b (a + 2) 0 _ k (by omega) h hr.1 (by omega) hz, Option.bind_some]
    dsimp only
    refine ⟨_, _, _, rfl, ?_, ?_⟩
    · unfold bys
      rw [if_pos rfl]
      by_cases hn : (takev b a 2).1 > (b.size : Int) - (a + 2)
      · rw [if_pos hn, if_pos (.inr hn)]
      · rw [if_neg hn, if_neg (fun h => h.elim (fun h => by omega) hn)]
    · intro he
      unfold bys at he ⊢
      rw [if_pos rfl] at he ⊢
      by_cases hn : (takev b a 2).1 > (b.size : Int) - (a + 2)
      · rw [if_pos hn] at he; exact absurd (show (2 : Int) = 0 from he) (by decide)
      · rw [if_neg hn]
        exact ⟨rfl, rfl⟩
  · rw [tkM_out h0 h, if_neg h, Option.bind_some]
    dsimp only
    rw [byt1 b a 2 k (by decide) h0 h1 hz, Option.bind_some]
    exact ⟨_, _, _, rfl, by rw [if_pos (.inl (by decide))], fun h => absurd (show (2 : Int) = 0 from h) (by decide)⟩
/-- The end of an action that went wrong. -/
theorem bad_ (b : ByteArray) (a e : Int) (k : Nat) (K n : Int) (he : e ≠ 0) (hz : b.size ≤ 4611686018427387904) (h0 : 0 ≤ a) (h1 : a ≤ b.size) :
    ((script_taker_number.f k b a e 2).bind fun bt => ((script_taker_bytes.f k bt.2.1 bt.2.2.1 bt.2.2.2 (wrap64 (bt.1))).bind fun bt2 => (some (K, n, bt2.1, bt2.2.1, bt2.2.2.1, bt2.2.2.2)))) = some (K, n, ⟨#[]⟩, b, a, e) := by
  rw [num1 b a e 2 k he, Option.bind_some]
  dsimp only
  rw [byt1 b a e k he h0 h1 hz, Option.bind_some]
theorem act_ev (b : ByteArray) (a : Int) (hz : b.size ≤ 4611686018427387904) (h0 : 0 ≤ a) (h1 : a ≤ b.size) :
    ∃ r1 r2 r3 a' e', script_taker_act.f 20 b a 0 = some (r1, r2, r3, b, a', e') ∧ e' = (oneM b a).2.2.2.2 ∧ (e' = 0 → (r1, r2, r3, a', (0 : Int)) = oneM b a) := by
  unfold script_taker_act.f
  rw [num0 b a 1 20 (by decide) rfl hz h0 h1]
  have hr := takev_range b a 1 rfl
  have hp : pw 1 = 256 := rfl
  unfold oneM
  by_cases h : a + 1 ≤ b.size
  · rw [tkM_in h0 h, if_pos h, Option.bind_some]
    dsimp only
    have hw : wrap64 (takev b a 1).1 = (takev b a 1).1 := by unfold wrap64; omega
    rw [hw, if_pos rfl]
    have hnn : ¬ a + 1 < 0 := by omega
    simp only [if_neg hnn]
    generalize (takev b a 1).1 = K at *
    by_cases c1 : K = 1
    · subst c1
      have hs := takev_range b (a + 1) 4 rfl
      simp only [script_taker_act.j0, script_taker_act.j1, ↓reduceIte, Bool.false_eq_true, ne_eq, not_true_eq_false, false_and]
      rw [num0 b (a + 1) 4 18 (by decide) rfl hz (by omega) h]
      by_cases h4 : a + 1 + 4 ≤ b.size
      · rw [tkM_in (by omega) h4, if_pos h4, Option.bind_some]
        dsimp only
        rw [WdST.sign_4, Option.bind_some]
        obtain ⟨r3, a', e', hf, he, hh⟩ := end_ b (a + 1 + 4) 18 1 (sgn (takev b (a + 1) 4).1 4) (by decide) hz (by omega) h4
        refine ⟨_, _, _, _, _, hf, ?_, ?_⟩
        · rw [he]
          split <;> rfl
        · intro h0
          obtain ⟨rfl, rfl⟩ := hh h0
          rw [h0] at he
          by_cases hc : (tkM b (a + 1 + 4) 2).2 < 0 ∨ (tkM b (a + 1 + 4) 2).1 > (b.size : Int) - (tkM b (a + 1 + 4) 2).2
          · rw [if_pos hc] at he; exact absurd he (by decide)
          · rw [if_neg hc]
      · rw [tkM_out (by omega) h4, if_neg h4, Option.bind_some]
        dsimp only
        rw [WdST.sign_4, Option.bind_some, bad_ b (a + 1) 2 18 1 _ (by decide) hz (by omega) h]
        have hm : tkM b (-1) 2 = (0, -1) := rfl
        rw [hm]
        exact ⟨_, _, _, _, _, rfl, rfl, fun h => absurd (show (2 : Int) = 0 from h) (by decide)⟩
    · by_cases c2 : K = 2
      · subst c2
        have h21 : ¬ (2 : Int) = 1 := by decide
        have hb : ((2 : Int) != 2) = false := by decide
        simp only [script_taker_act.j0, script_taker_act.j1, ↓reduceIte, Bool.false_eq_true, ne_eq, not_true_eq_false, and_false, if_neg h21, hb]
        obtain ⟨r3, a', e', hf, he, hh⟩ := end_ b (a + 1) 18 2 0 (by decide) hz (by omega) h
        refine ⟨_, _, _, _, _, hf, ?_, ?_⟩
        · rw [he]
          split <;> rfl
        · intro h0
          obtain ⟨rfl, rfl⟩ := hh h0
          rw [h0] at he
          by_cases hc : (tkM b (a + 1) 2).2 < 0 ∨ (tkM b (a + 1) 2).1 > (b.size : Int) - (tkM b (a + 1) 2).2
          · rw [if_pos hc] at he; exact absurd he (by decide)
          · rw [if_neg hc]
      · have hb : (K != 2) = true := bne_iff_ne.2 c2
        have hk : K ≠ 1 ∧ K ≠ 2 := ⟨c1, c2⟩
        simp only [script_taker_act.j0, script_taker_act.j1, ↓reduceIte, if_neg c1, hb, if_pos hk]
        rw [bad_ b (a + 1) 4 18 K 0 (by decide) hz (by omega) h]
        exact ⟨_, _, _, _, _, rfl, rfl, fun h => absurd (show (4 : Int) = 0 from h) (by decide)⟩
  · rw [tkM_out h0 h, if_neg h, Option.bind_some]
    dsimp only
    rw [if_neg (by decide)]
    have hw0 : wrap64 0 = 0 := by unfold wrap64; omega
    have h01 : ¬ (0 : Int) = 1 := by decide
    simp only [script_taker_act.j0, script_taker_act.j1, Bool.false_eq_true, ↓reduceIte, hw0, if_neg h01]
    rw [bad_ b a 2 18 0 0 (by decide) hz h0 h1, if_pos (show (-1 : Int) < 0 by decide)]
    exact ⟨_, _, _, _, _, rfl, rfl, fun h => absurd (show (2 : Int) = 0 from h) (by decide)⟩
end Go.Proofs.Ytimalojaiaofkaa.PScriptTakes
namespace Go.Proofs.Ytimalojaiaofkaa.PScriptTakes
open Go.RowKit Go.Proofs.YtimalojaiaofkaaW.PrintWords Go.Proofs.YtimalojaiaofkaaW.PrintLast Go.Proofs.YtimalojaiaofkaaW.PrintMore Go.Proofs.Ytimalojaiaofkaa Base Wd
def oneA (b : ByteArray) (a : Int) : S43 := ⟨(oneM b a).1, (oneM b a).2.1, (oneM b a).2.2.1⟩
/-- So many actions from a place on: the actions, the place behind, what is wrong. -/
def acts (b : ByteArray) : Nat → Int → List S43 → List S43 × Int × Int
  | 0, a, l => (l, a, 0)
  | n + 1, a, l => if (oneM b a).2.2.2.2 = 0 then acts b n (oneM b a).2.2.2.1 (l ++ [oneA b a]) else (l, a, (oneM b a).2.2.2.2)
def turns (b : ByteArray) : Nat → Int → List S41 → List S41 × Int
  | 0, a, l => if a < b.size then ([], 3) else (l, 0)
  | n + 1, a, l => if a < b.size then
      (if (acts b (bt b a).toNat (a + 1) []).2.2 = 0 then turns b n (acts b (bt b a).toNat (a + 1) []).2.1 (l ++ [⟨(acts b (bt b a).toNat (a + 1) []).1⟩]) else ([], (acts b (bt b a).toNat (a + 1) []).2.2))
    else (l, 0)
theorem one_at {b : ByteArray} {a : Int} (h : (oneM b a).2.2.2.2 = 0) : 0 ≤ (oneM b a).2.2.2.1 ∧ (oneM b a).2.2.2.1 ≤ b.size := by
  unfold oneM at h ⊢
  by_cases c1 : (tkM b a 1).2 < 0
  · rw [if_pos c1] at h; exact absurd (show (2 : Int) = 0 from h) (by decide)
  · rw [if_neg c1] at h ⊢
    by_cases c2 : (tkM b a 1).1 ≠ 1 ∧ (tkM b a 1).1 ≠ 2
    · rw [if_pos c2] at h; exact absurd (show (4 : Int) = 0 from h) (by decide)
    · rw [if_neg c2] at h ⊢
      generalize (if (tkM b a 1).1 = 1 then (tkM b (tkM b a 1).2 4).2 else (tkM b a 1).2) = q at *
      have hr := tk_range b q 2 rfl
      by_cases c3 : (tkM b q 2).2 < 0 ∨ (tkM b q 2).1 > (b.size : Int) - (tkM b q 2).2
      · rw [if_pos c3] at h; exact absurd (show (2 : Int) = 0 from h) (by decide)
      · rw [if_neg c3]
        dsimp only
        omega
end Go.Proofs.Ytimalojaiaofkaa.PScriptTakes
namespace Go.Proofs.Ytimalojaiaofkaa.PScriptTakes
open Go.RowKit Go.Proofs.YtimalojaiaofkaaW.PrintWords Go.Proofs.YtimalojaiaofkaaW.PrintLast Go.Proofs.YtimalojaiaofkaaW.PrintMore Go.Proofs.Ytimalojaiaofkaa Base Wd
theorem one_f (b : ByteArray) (a : Int) (k : Nat) (hz : b.size ≤ 4611686018427387904) (h0 : 0 ≤ a) (h1 : a ≤ b.size) : broadsheetref45_one.f k b a = some (oneM b a) := by
  unfold broadsheetref45_one.f
  rw [if_pos ⟨hz, h0, h1⟩]
theorem rl1 (b : ByteArray) (hz : b.size ≤ 4611686018427387904) (out : List S41) (ho : out.length ≤ 2000) (m : Nat) (hm : m ≤ 255) (R : List S43 → Int → List S41 × Int)
    (hc : ∀ (l : List S43) (a : Int), 0 ≤ a → a ≤ b.size → Ev (fun k => broadsheetref45_Take.l0 k b (out ++ [(⟨l⟩ : S41)]) a) (R l a)) : ∀ (d j : Nat) (a : Int) (acc : List S43), j + d = m → acc.length = j → 0 ≤ a → a ≤ b.size →
      Ev (fun k => broadsheetref45_Take.l1 k b out a (m : Int) (j : Int) acc) (if (acts b d a acc).2.2 = 0 then R (acts b d a acc).1 (acts b d a acc).2.1 else ([], (acts b d a acc).2.2))
  | 0, j, a, acc, h, hl, h0, h1 => by
    rw [acts, if_pos rfl]
    refine Ev.step (fun k => ?_) (hc acc a h0 h1)
    simp only [broadsheetref45_Take.l1]
    rw [if_neg (by omega), if_pos (by omega)]
  | d + 1, j, a, acc, h, hl, h0, h1 => by
    have hf := one_f b a
    rw [acts]
    by_cases he : (oneM b a).2.2.2.2 = 0
    · have ha := one_at he
      rw [if_pos he]
      have hw : wrap64 ((j : Int) + 1) = ((j + 1 : Nat) : Int) := by unfold wrap64; omega
      have ih := rl1 b hz out ho m hm R hc d (j + 1) (oneM b a).2.2.2.1 (acc ++ [oneA b a]) (by omega) (by rw [List.length_append, List.length_singleton, hl]) ha.1 ha.2
      refine Ev.step (fun k => ?_) ih
      simp only [broadsheetref45_Take.l1]
      rw [if_pos (by omega), hf k hz h0 h1, Option.bind_some, if_pos he, if_pos (by omega), hw]
      rfl
    · rw [if_neg he, if_neg he]
      refine Ev.step (f := fun _ => some _) (fun k => ?_) (Ev.now _)
      simp only [broadsheetref45_Take.l1]
      rw [if_pos (by omega), hf k hz h0 h1, Option.bind_some, if_neg he]
theorem rl0 (b : ByteArray) (hz : b.size ≤ 4611686018427387904) : ∀ (d : Nat) (a : Int) (out : List S41), d + out.length = 1024 → 0 ≤ a → a ≤ b.size → Ev (fun k => broadsheetref45_Take.l0 k b out a) (turns b d a out)
  | 0, a, out, h, h0, h1 => by
    rw [turns]
    refine Ev.step (f := fun _ => some _) (fun k => ?_) (Ev.now _)
    simp only [broadsheetref45_Take.l0]
    by_cases c : a < b.size
    · rw [if_pos c, if_pos c, if_pos (by omega)]
    · rw [if_neg c, if_neg c]
  | d + 1, a, out, h, h0, h1 => by
    rw [turns]
    by_cases c : a < b.size
    · rw [if_pos c]
      have hb := bt_range b a
      have hw : wrap64 (bt b a) = ((bt b a).toNat : Int) := by unfold wrap64; omega
      have hw1 : wrap64 (a + 1) = a + 1 := by unfold wrap64; omega
      have := rl1 b hz out (by omega) (bt b a).toNat (by omega) (fun l a' => turns b d a' (out ++ [(⟨l⟩ : S41)])) (fun l a' p q => rl0 b hz d a' (out ++ [(⟨l⟩ : S41)]) (by rw [List.length_append, List.length_singleton]; omega) p q) (bt b a).toNat 0 (a + 1) [] (by omega) rfl (by omega) (by omega)
      refine Ev.step (fun k => ?_) this
      simp only [broadsheetref45_Take.l0]
      rw [if_pos c, if_neg (by omega), if_pos h0, hw, hw1]
      rfl
    · rw [if_neg c]
      refine Ev.step (f := fun _ => some _) (fun k => ?_) (Ev.now _)
      simp only [broadsheetref45_Take.l0]
      rw [if_neg c]
theorem rtake_ev (b : ByteArray) (hz : b.size ≤ 4611686018427387904) : Ev (fun k => broadsheetref45_Take.f k b) (turns b 1024 0 []) :=
  rl0 b hz 1024 0 [] rfl (Int.le_refl _) (by omega)
end Go.Proofs.Ytimalojaiaofkaa.PScriptTakes
