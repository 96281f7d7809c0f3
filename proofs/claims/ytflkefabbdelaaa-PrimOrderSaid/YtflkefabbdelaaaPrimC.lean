import Derived.Test.YtflkefabbdelaaaPrim4
import Derived.Test.YtflkefabbdelaaaShelf
import Derived.Test.YtflkefabbdelaaaPPrimDatax2
set_option linter.unusedVariables false
set_option linter.unusedSimpArgs false
namespace Go.Proofs.Ytflkefabbdelaaa.Prim
open Go.RowKit Base Flat Go.Proofs.YtflkefabbdelaaaW.PrintWords Go.Proofs.YtflkefabbdelaaaW.PrintLast Go.Proofs.YtflkefabbdelaaaW.PrintMore Wd Go.Proofs.Ytflkefabbdelaaa.PPrimData
/-- How two numbers stand. -/
def cmi (x y : Int) : Int := if x < y then -1 else if x > y then 1 else 0
theorem cmu_eq (x y : Int) : cmp_Compare_uint64.f x y = some (cmi x y) := by
  unfold cmp_Compare_uint64.f cmp_isNaN_uint64.f cmi
  simp only [bne_self_eq_false, Option.bind_some, Bool.false_eq_true, if_false]
  repeat' split
  all_goals rfl
/-- How two data stand. -/
def dcmp (k1 : Int) (s1 : Bool) (n1 : Int) (t1 : ByteArray) (k2 : Int) (s2 : Bool) (n2 : Int) (t2 : ByteArray) : Int :=
  if k1 ≠ k2 then cmi k1 k2 else if k1 = 2 then Lib.compareBytes t1.data.toList t2.data.toList else if k1 = 3 then cmi n1 n2 else if k1 ≠ 1 then 0
  else if ng s1 n1 then (if ng s2 n2 then cmi n2 n1 else -1) else if ng s2 n2 then 1 else cmi n1 n2
theorem below_ (k : Int) (s : Bool) (n : Int) (t : ByteArray) (h0 : 0 ≤ n) (w : World) : Calls Try.prog 34 #[.agg #[.int .i64 k, .bool s, .int .u64 n, .string t]] w fun e w' => e = .returned (.bool (ng s n)) ∧ Below w.heap.size w w' := by
  have b0 : Below w.heap.size w (w.alloc (.cells #[.int .i64 k, .bool s, .int .u64 n, .string t] 29)) := (Below.refl _ _).alloc (Nat.le_refl _) _
  cases s with
  | false =>
    rw [show ng false n = false from rfl]
    go_enter Try.func34, Try.ntmps34
    go_wp2
    go_ret
    exact ⟨rfl, b0⟩
  | true =>
    by_cases hn : n = 0
    · subst hn
      rw [show ng true 0 = false from rfl]
      go_enter Try.func34, Try.ntmps34
      go_wp2
      go_ret
      exact ⟨rfl, b0⟩
    · have hg : (0 : Int) < n := by omega
      rw [show ng true n = true from by unfold ng; simpa using hn]
      go_enter Try.func34, Try.ntmps34
      go_wp2
      go_ret
      exact ⟨rfl, b0⟩
theorem boxed (w : World) (A B : Array Value) (t : TypeId) : ((w.alloc (.cells A t)).alloc (.cells B t)).heap[w.heap.size]? = some (.cells A t (0, 0)) ∧ ((w.alloc (.cells A t)).alloc (.cells B t)).heap[w.heap.size + 1]? = some (.cells B t (0, 0)) ∧ Below w.heap.size w ((w.alloc (.cells A t)).alloc (.cells B t)) := by
  have h1 := heap_alloc_new (w.alloc (.cells A t)) (.cells B t)
  have e : (w.alloc (.cells A t)).heap.size = w.heap.size + 1 := by simp
  rw [e] at h1
  refine ⟨?_, h1, ((Below.refl _ _).alloc (Nat.le_refl _) _).alloc (by rw [e]; omega) _⟩
  rw [Below.heap_alloc _ _ _ (by rw [e]; omega)]
  exact heap_alloc_new w _
set_option maxRecDepth 20000 in
set_option maxHeartbeats 2000000 in
theorem cmp_ (k1 : Int) (s1 : Bool) (n1 : Int) (t1 : ByteArray) (k2 : Int) (s2 : Bool) (n2 : Int) (t2 : ByteArray) (h1 : 0 ≤ n1) (h2 : 0 ≤ n2) (w : World) :
    Calls Try.prog 23 #[.agg #[.int .i64 k1, .bool s1, .int .u64 n1, .string t1], .agg #[.int .i64 k2, .bool s2, .int .u64 n2, .string t2]] w fun e w' => e = .returned (.int .i64 (dcmp k1 s1 n1 t1 k2 s2 n2 t2)) ∧ Below w.heap.size w w' := by
  obtain ⟨hA, hB, b0⟩ := boxed w #[.int .i64 k1, .bool s1, .int .u64 n1, .string t1] #[.int .i64 k2, .bool s2, .int .u64 n2, .string t2] 29
  by_cases q1 : k1 = k2
  · subst q1
    by_cases q2 : k1 = 2
    · subst q2
      rw [show dcmp 2 s1 n1 t1 2 s2 n2 t2 = Lib.compareBytes t1.data.toList t2.data.toList from rfl]
      go_enter Try.func23, Try.ntmps23
      go_wp2_with fail
      refine (Try.strings_Compare t1 t2 _).mono ?_
      rintro e' v' ⟨rfl, rfl⟩
      go_wp2
      go_ret
      exact ⟨rfl, b0⟩
    · by_cases q3 : k1 = 3
      · subst q3
        have HU := fun w => cmp_Compare_uint64.calls n1 n2 _ w (cmu_eq n1 n2)
        rw [show dcmp 3 s1 n1 t1 3 s2 n2 t2 = cmi n1 n2 from rfl]
        go_enter Try.func23, Try.ntmps23
        go_wp2_with fail
        refine (HU _).mono ?_
        rintro e' v' ⟨rfl, dr⟩
        go_wp2
        go_ret
        exact ⟨rfl, b0.trans (dr.below.mono b0.size)⟩
      · by_cases q4 : k1 = 1
        · subst q4
          have HA := fun w => below_ 1 s1 n1 t1 h1 w
          have HB := fun w => below_ 1 s2 n2 t2 h2 w
          have HU := fun w => cmp_Compare_uint64.calls n1 n2 _ w (cmu_eq n1 n2)
          have HV := fun w => cmp_Compare_uint64.calls n2 n1 _ w (cmu_eq n2 n1)
          have hd : dcmp 1 s1 n1 t1 1 s2 n2 t2 = if ng s1 n1 then (if ng s2 n2 then cmi n2 n1 else -1) else if ng s2 n2 then 1 else cmi n1 n2 := rfl
          rw [hd]
          clear hd q2 q3 h1 h2
          generalize ng s1 n1 = g1 at *
          generalize ng s2 n2 = g2 at *
          cases g1 with
          | true =>
            rw [if_pos rfl]
            cases g2 with
            | true =>
              rw [if_pos rfl]
              go_enter Try.func23, Try.ntmps23
              go_wp2_with fail
              refine (HA _).mono ?_
              rintro e' v ⟨rfl, b1⟩
              have hA := (b1.block _ (blk_lt hA)).trans hA
              have hB := (b1.block _ (blk_lt hB)).trans hB
              have b0 := b0.trans (b1.mono b0.size)
              clear b1
              have a0 : v.cell? ⟨w.heap.size, 0, none⟩ = some (.int .i64 1) := blk_cell hA 0
              have a1 : v.cell? ⟨w.heap.size, 1, none⟩ = some (.bool s1) := blk_cell hA 1
              have a2 : v.cell? ⟨w.heap.size, 2, none⟩ = some (.int .u64 n1) := blk_cell hA 2
              have a3 : v.cell? ⟨w.heap.size, 3, none⟩ = some (.string t1) := blk_cell hA 3
              have c0 : v.cell? ⟨w.heap.size + 1, 0, none⟩ = some (.int .i64 1) := blk_cell hB 0
              have c1 : v.cell? ⟨w.heap.size + 1, 1, none⟩ = some (.bool s2) := blk_cell hB 1
              have c2 : v.cell? ⟨w.heap.size + 1, 2, none⟩ = some (.int .u64 n2) := blk_cell hB 2
              have c3 : v.cell? ⟨w.heap.size + 1, 3, none⟩ = some (.string t2) := blk_cell hB 3
              go_wp2_with fail
              refine (HB _).mono ?_
              rintro e' v ⟨rfl, b1⟩
              have hA := (b1.block _ (blk_lt hA)).trans hA
              have hB := (b1.block _ (blk_lt hB)).trans hB
              have b0 := b0.trans (b1.mono b0.size)
              clear b1
              have a0 : v.cell? ⟨w.heap.size, 0, none⟩ = some (.int .i64 1) := blk_cell hA 0
              have a1 : v.cell? ⟨w.heap.size, 1, none⟩ = some (.bool s1) := blk_cell hA 1
              have a2 : v.cell? ⟨w.heap.size, 2, none⟩ = some (.int .u64 n1) := blk_cell hA 2
              have a3 : v.cell? ⟨w.heap.size, 3, none⟩ = some (.string t1) := blk_cell hA 3
              have c0 : v.cell? ⟨w.heap.size + 1, 0, none⟩ = some (.int .i64 1) := blk_cell hB 0
              have c1 : v.cell? ⟨w.heap.size + 1, 1, none⟩ = some (.bool s2) := blk_cell hB 1
              have c2 : v.cell? ⟨w.heap.size + 1, 2, none⟩ = some (.int .u64 n2) := blk_cell hB 2
              have c3 : v.cell? ⟨w.heap.size + 1, 3, none⟩ = some (.string t2) := blk_cell hB 3
              go_wp2_with fail
              refine (HV _).mono ?_
              rintro e' v' ⟨rfl, dr⟩
              go_wp2
              go_ret
              exact ⟨rfl, b0.trans (dr.below.mono b0.size)⟩
            | false =>
              rw [if_neg (by decide)]
              go_enter Try.func23, Try.ntmps23
              go_wp2_with fail
              refine (HA _).mono ?_
              rintro e' v ⟨rfl, b1⟩
              have hA := (b1.block _ (blk_lt hA)).trans hA
              have hB := (b1.block _ (blk_lt hB)).trans hB
              have b0 := b0.trans (b1.mono b0.size)
              clear b1
              have a0 : v.cell? ⟨w.heap.size, 0, none⟩ = some (.int .i64 1) := blk_cell hA 0
              have a1 : v.cell? ⟨w.heap.size, 1, none⟩ = some (.bool s1) := blk_cell hA 1
              have a2 : v.cell? ⟨w.heap.size, 2, none⟩ = some (.int .u64 n1) := blk_cell hA 2
              have a3 : v.cell? ⟨w.heap.size, 3, none⟩ = some (.string t1) := blk_cell hA 3
              have c0 : v.cell? ⟨w.heap.size + 1, 0, none⟩ = some (.int .i64 1) := blk_cell hB 0
              have c1 : v.cell? ⟨w.heap.size + 1, 1, none⟩ = some (.bool s2) := blk_cell hB 1
              have c2 : v.cell? ⟨w.heap.size + 1, 2, none⟩ = some (.int .u64 n2) := blk_cell hB 2
              have c3 : v.cell? ⟨w.heap.size + 1, 3, none⟩ = some (.string t2) := blk_cell hB 3
              go_wp2_with fail
              refine (HB _).mono ?_
              rintro e' v ⟨rfl, b1⟩
              have hA := (b1.block _ (blk_lt hA)).trans hA
              have hB := (b1.block _ (blk_lt hB)).trans hB
              have b0 := b0.trans (b1.mono b0.size)
              clear b1
              have a0 : v.cell? ⟨w.heap.size, 0, none⟩ = some (.int .i64 1) := blk_cell hA 0
              have a1 : v.cell? ⟨w.heap.size, 1, none⟩ = some (.bool s1) := blk_cell hA 1
              have a2 : v.cell? ⟨w.heap.size, 2, none⟩ = some (.int .u64 n1) := blk_cell hA 2
              have a3 : v.cell? ⟨w.heap.size, 3, none⟩ = some (.string t1) := blk_cell hA 3
              have c0 : v.cell? ⟨w.heap.size + 1, 0, none⟩ = some (.int .i64 1) := blk_cell hB 0
              have c1 : v.cell? ⟨w.heap.size + 1, 1, none⟩ = some (.bool s2) := blk_cell hB 1
              have c2 : v.cell? ⟨w.heap.size + 1, 2, none⟩ = some (.int .u64 n2) := blk_cell hB 2
              have c3 : v.cell? ⟨w.heap.size + 1, 3, none⟩ = some (.string t2) := blk_cell hB 3
              go_wp2_with fail
              refine (HA _).mono ?_
              rintro e' v ⟨rfl, b1⟩
              have hA := (b1.block _ (blk_lt hA)).trans hA
              have hB := (b1.block _ (blk_lt hB)).trans hB
              have b0 := b0.trans (b1.mono b0.size)
              clear b1
              have a0 : v.cell? ⟨w.heap.size, 0, none⟩ = some (.int .i64 1) := blk_cell hA 0
              have a1 : v.cell? ⟨w.heap.size, 1, none⟩ = some (.bool s1) := blk_cell hA 1
              have a2 : v.cell? ⟨w.heap.size, 2, none⟩ = some (.int .u64 n1) := blk_cell hA 2
              have a3 : v.cell? ⟨w.heap.size, 3, none⟩ = some (.string t1) := blk_cell hA 3
              have c0 : v.cell? ⟨w.heap.size + 1, 0, none⟩ = some (.int .i64 1) := blk_cell hB 0
              have c1 : v.cell? ⟨w.heap.size + 1, 1, none⟩ = some (.bool s2) := blk_cell hB 1
              have c2 : v.cell? ⟨w.heap.size + 1, 2, none⟩ = some (.int .u64 n2) := blk_cell hB 2
              have c3 : v.cell? ⟨w.heap.size + 1, 3, none⟩ = some (.string t2) := blk_cell hB 3
              go_wp2
              go_ret
              exact ⟨rfl, b0⟩
          | false =>
            rw [if_neg (by decide)]
            cases g2 with
            | true =>
              rw [if_pos rfl]
              go_enter Try.func23, Try.ntmps23
              go_wp2_with fail
              refine (HA _).mono ?_
              rintro e' v ⟨rfl, b1⟩
              have hA := (b1.block _ (blk_lt hA)).trans hA
              have hB := (b1.block _ (blk_lt hB)).trans hB
              have b0 := b0.trans (b1.mono b0.size)
              clear b1
              have a0 : v.cell? ⟨w.heap.size, 0, none⟩ = some (.int .i64 1) := blk_cell hA 0
              have a1 : v.cell? ⟨w.heap.size, 1, none⟩ = some (.bool s1) := blk_cell hA 1
              have a2 : v.cell? ⟨w.heap.size, 2, none⟩ = some (.int .u64 n1) := blk_cell hA 2
              have a3 : v.cell? ⟨w.heap.size, 3, none⟩ = some (.string t1) := blk_cell hA 3
              have c0 : v.cell? ⟨w.heap.size + 1, 0, none⟩ = some (.int .i64 1) := blk_cell hB 0
              have c1 : v.cell? ⟨w.heap.size + 1, 1, none⟩ = some (.bool s2) := blk_cell hB 1
              have c2 : v.cell? ⟨w.heap.size + 1, 2, none⟩ = some (.int .u64 n2) := blk_cell hB 2
              have c3 : v.cell? ⟨w.heap.size + 1, 3, none⟩ = some (.string t2) := blk_cell hB 3
              go_wp2_with fail
              refine (HA _).mono ?_
              rintro e' v ⟨rfl, b1⟩
              have hA := (b1.block _ (blk_lt hA)).trans hA
              have hB := (b1.block _ (blk_lt hB)).trans hB
              have b0 := b0.trans (b1.mono b0.size)
              clear b1
              have a0 : v.cell? ⟨w.heap.size, 0, none⟩ = some (.int .i64 1) := blk_cell hA 0
              have a1 : v.cell? ⟨w.heap.size, 1, none⟩ = some (.bool s1) := blk_cell hA 1
              have a2 : v.cell? ⟨w.heap.size, 2, none⟩ = some (.int .u64 n1) := blk_cell hA 2
              have a3 : v.cell? ⟨w.heap.size, 3, none⟩ = some (.string t1) := blk_cell hA 3
              have c0 : v.cell? ⟨w.heap.size + 1, 0, none⟩ = some (.int .i64 1) := blk_cell hB 0
              have c1 : v.cell? ⟨w.heap.size + 1, 1, none⟩ = some (.bool s2) := blk_cell hB 1
              have c2 : v.cell? ⟨w.heap.size + 1, 2, none⟩ = some (.int .u64 n2) := blk_cell hB 2
              have c3 : v.cell? ⟨w.heap.size + 1, 3, none⟩ = some (.string t2) := blk_cell hB 3
              go_wp2_with fail
              refine (HB _).mono ?_
              rintro e' v ⟨rfl, b1⟩
              have hA := (b1.block _ (blk_lt hA)).trans hA
              have hB := (b1.block _ (blk_lt hB)).trans hB
              have b0 := b0.trans (b1.mono b0.size)
              clear b1
              have a0 : v.cell? ⟨w.heap.size, 0, none⟩ = some (.int .i64 1) := blk_cell hA 0
              have a1 : v.cell? ⟨w.heap.size, 1, none⟩ = some (.bool s1) := blk_cell hA 1
              have a2 : v.cell? ⟨w.heap.size, 2, none⟩ = some (.int .u64 n1) := blk_cell hA 2
              have a3 : v.cell? ⟨w.heap.size, 3, none⟩ = some (.string t1) := blk_cell hA 3
              have c0 : v.cell? ⟨w.heap.size + 1, 0, none⟩ = some (.int .i64 1) := blk_cell hB 0
              have c1 : v.cell? ⟨w.heap.size + 1, 1, none⟩ = some (.bool s2) := blk_cell hB 1
              have c2 : v.cell? ⟨w.heap.size + 1, 2, none⟩ = some (.int .u64 n2) := blk_cell hB 2
              have c3 : v.cell? ⟨w.heap.size + 1, 3, none⟩ = some (.string t2) := blk_cell hB 3
              go_wp2
              go_ret
              exact ⟨rfl, b0⟩
            | false =>
              rw [if_neg (by decide)]
              go_enter Try.func23, Try.ntmps23
              go_wp2_with fail
              refine (HA _).mono ?_
              rintro e' v ⟨rfl, b1⟩
              have hA := (b1.block _ (blk_lt hA)).trans hA
              have hB := (b1.block _ (blk_lt hB)).trans hB
              have b0 := b0.trans (b1.mono b0.size)
              clear b1
              have a0 : v.cell? ⟨w.heap.size, 0, none⟩ = some (.int .i64 1) := blk_cell hA 0
              have a1 : v.cell? ⟨w.heap.size, 1, none⟩ = some (.bool s1) := blk_cell hA 1
              have a2 : v.cell? ⟨w.heap.size, 2, none⟩ = some (.int .u64 n1) := blk_cell hA 2
              have a3 : v.cell? ⟨w.heap.size, 3, none⟩ = some (.string t1) := blk_cell hA 3
              have c0 : v.cell? ⟨w.heap.size + 1, 0, none⟩ = some (.int .i64 1) := blk_cell hB 0
              have c1 : v.cell? ⟨w.heap.size + 1, 1, none⟩ = some (.bool s2) := blk_cell hB 1
              have c2 : v.cell? ⟨w.heap.size + 1, 2, none⟩ = some (.int .u64 n2) := blk_cell hB 2
              have c3 : v.cell? ⟨w.heap.size + 1, 3, none⟩ = some (.string t2) := blk_cell hB 3
              go_wp2_with fail
              refine (HA _).mono ?_
              rintro e' v ⟨rfl, b1⟩
              have hA := (b1.block _ (blk_lt hA)).trans hA
              have hB := (b1.block _ (blk_lt hB)).trans hB
              have b0 := b0.trans (b1.mono b0.size)
              clear b1
              have a0 : v.cell? ⟨w.heap.size, 0, none⟩ = some (.int .i64 1) := blk_cell hA 0
              have a1 : v.cell? ⟨w.heap.size, 1, none⟩ = some (.bool s1) := blk_cell hA 1
              have a2 : v.cell? ⟨w.heap.size, 2, none⟩ = some (.int .u64 n1) := blk_cell hA 2
              have a3 : v.cell? ⟨w.heap.size, 3, none⟩ = some (.string t1) := blk_cell hA 3
              have c0 : v.cell? ⟨w.heap.size + 1, 0, none⟩ = some (.int .i64 1) := blk_cell hB 0
              have c1 : v.cell? ⟨w.heap.size + 1, 1, none⟩ = some (.bool s2) := blk_cell hB 1
              have c2 : v.cell? ⟨w.heap.size + 1, 2, none⟩ = some (.int .u64 n2) := blk_cell hB 2
              have c3 : v.cell? ⟨w.heap.size + 1, 3, none⟩ = some (.string t2) := blk_cell hB 3
              go_wp2_with fail
              refine (HB _).mono ?_
              rintro e' v ⟨rfl, b1⟩
              have hA := (b1.block _ (blk_lt hA)).trans hA
              have hB := (b1.block _ (blk_lt hB)).trans hB
              have b0 := b0.trans (b1.mono b0.size)
              clear b1
              have a0 : v.cell? ⟨w.heap.size, 0, none⟩ = some (.int .i64 1) := blk_cell hA 0
              have a1 : v.cell? ⟨w.heap.size, 1, none⟩ = some (.bool s1) := blk_cell hA 1
              have a2 : v.cell? ⟨w.heap.size, 2, none⟩ = some (.int .u64 n1) := blk_cell hA 2
              have a3 : v.cell? ⟨w.heap.size, 3, none⟩ = some (.string t1) := blk_cell hA 3
              have c0 : v.cell? ⟨w.heap.size + 1, 0, none⟩ = some (.int .i64 1) := blk_cell hB 0
              have c1 : v.cell? ⟨w.heap.size + 1, 1, none⟩ = some (.bool s2) := blk_cell hB 1
              have c2 : v.cell? ⟨w.heap.size + 1, 2, none⟩ = some (.int .u64 n2) := blk_cell hB 2
              have c3 : v.cell? ⟨w.heap.size + 1, 3, none⟩ = some (.string t2) := blk_cell hB 3
              go_wp2_with fail
              refine (HU _).mono ?_
              rintro e' v' ⟨rfl, dr⟩
              go_wp2
              go_ret
              exact ⟨rfl, b0.trans (dr.below.mono b0.size)⟩
        · rw [show dcmp k1 s1 n1 t1 k1 s2 n2 t2 = 0 from by unfold dcmp; rw [if_neg (fun h => h rfl), if_neg q2, if_neg q3, if_pos q4]]
          go_enter Try.func23, Try.ntmps23
          go_wp2
          go_ret
          exact ⟨rfl, b0⟩
  · rw [show dcmp k1 s1 n1 t1 k2 s2 n2 t2 = cmi k1 k2 from by unfold dcmp; rw [if_pos q1]]
    go_enter Try.func23, Try.ntmps23
    go_wp2_with fail
    refine (Try.cmp_Compare_int k1 k2 _).mono ?_
    rintro e' v' ⟨rfl, rfl⟩
    go_wp2
    go_ret
    exact ⟨rfl, b0⟩
end Go.Proofs.Ytflkefabbdelaaa.Prim
