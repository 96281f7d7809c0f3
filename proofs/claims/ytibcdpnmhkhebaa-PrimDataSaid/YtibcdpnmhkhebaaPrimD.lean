import Derived.Test.YtibcdpnmhkhebaaPrimC
set_option linter.unusedVariables false
set_option linter.unusedSimpArgs false
namespace Go.Proofs.Ytibcdpnmhkhebaa.Prim
open Go.RowKit Base Flat Go.Proofs.YtibcdpnmhkhebaaW.PrintWords Go.Proofs.YtibcdpnmhkhebaaW.PrintLast Go.Proofs.YtibcdpnmhkhebaaW.PrintMore Wd
def thr (a b : Bool) : Int := if a then -1 else if b then 1 else 0
theorem three_ (a b : Bool) (w : World) : Calls Try.prog 84 #[.bool a, .bool b] w fun e w' => e = .returned (.int .i64 (thr a b)) ∧ w = w' := by
  cases a with
  | true =>
    rw [show thr true b = -1 from rfl]
    go_enter Try.func84, Try.ntmps84
    go_wp2
    go_ret
    exact ⟨rfl, rfl⟩
  | false =>
    cases b with
    | true =>
      rw [show thr false true = 1 from rfl]
      go_enter Try.func84, Try.ntmps84
      go_wp2
      go_ret
      exact ⟨rfl, rfl⟩
    | false =>
      rw [show thr false false = 0 from rfl]
      go_enter Try.func84, Try.ntmps84
      go_wp2
      go_ret
      exact ⟨rfl, rfl⟩
theorem thr_cmi (x y : Int) : thr (decide (x < y)) (decide (x > y)) = cmi x y := by
  unfold thr cmi
  by_cases h : x < y
  · rw [decide_eq_true h, if_pos rfl, if_pos h]
  · rw [decide_eq_false h, if_neg (by decide), if_neg h]
    by_cases h2 : x > y
    · rw [decide_eq_true h2, if_pos rfl, if_pos h2]
    · rw [decide_eq_false h2, if_neg (by decide), if_neg h2]
theorem thr_imc (x y : Int) : thr (decide (x > y)) (decide (x < y)) = cmi y x := by
  rw [← thr_cmi]
theorem thr_bytes : ∀ a b : List UInt8, thr (Op.bytesLess a b) (!Op.bytesLess a b && !(a == b)) = Lib.compareBytes a b
  | [], [] => rfl
  | [], _ :: _ => rfl
  | _ :: _, [] => rfl
  | x :: a, y :: b => by
    have ih := thr_bytes a b
    simp only [Op.bytesLess, Lib.compareBytes, List.cons_beq_cons]
    by_cases h : x < y
    · rw [if_pos h, decide_eq_true h]
      rfl
    · rw [if_neg h, decide_eq_false h]
      by_cases h2 : y < x
      · have hne : (x == y) = false := by
          have : ¬ x = y := fun he => by subst he; exact h h2
          simpa using this
        rw [if_pos h2, hne]
        rfl
      · have he : x = y := by
          have h3 := UInt8.not_lt.1 h
          have h4 := UInt8.not_lt.1 h2
          exact UInt8.le_antisymm h4 h3
        subst he
        rw [if_neg h2, beq_self_eq_true, Bool.false_or, Bool.true_and, Bool.true_and]
        exact ih
theorem side (s : Bool) (n : Int) (h : 0 ≤ n) : (s = true ∧ 0 < n ∧ ng s n = true) ∨ (s = true ∧ ¬ 0 < n ∧ ng s n = false) ∨ (s = false ∧ ng s n = false) := by
  cases s with
  | false => exact .inr (.inr ⟨rfl, rfl⟩)
  | true =>
    by_cases hn : n = 0
    · subst hn
      exact .inr (.inl ⟨rfl, by decide, rfl⟩)
    · exact .inl ⟨rfl, by omega, by unfold ng; simpa using hn⟩
set_option maxRecDepth 20000 in
set_option maxHeartbeats 4000000 in
theorem rcmp_ (k1 : Int) (s1 : Bool) (n1 : Int) (t1 : ByteArray) (k2 : Int) (s2 : Bool) (n2 : Int) (t2 : ByteArray) (h1 : 0 ≤ n1) (h2 : 0 ≤ n2) (w : World) :
    Calls Try.prog 44 #[.agg #[.int .i64 k1, .bool s1, .int .u64 n1, .string t1], .agg #[.int .i64 k2, .bool s2, .int .u64 n2, .string t2]] w fun e w' => e = .returned (.int .i64 (dcmp k1 s1 n1 t1 k2 s2 n2 t2)) ∧ Below w.heap.size w w' := by
  obtain ⟨hA, hB, b0⟩ := boxed w #[.int .i64 k1, .bool s1, .int .u64 n1, .string t1] #[.int .i64 k2, .bool s2, .int .u64 n2, .string t2] 31
  clear hA hB
  by_cases q1 : k1 = k2
  · subst q1
    by_cases q2 : k1 = 2
    · subst q2
      have HT := fun w => three_ (Op.bytesLess t1.toList t2.toList) (!Op.bytesLess t1.toList t2.toList && !(t1.toList == t2.toList)) w
      rw [thr_bytes] at HT
      rw [show dcmp 2 s1 n1 t1 2 s2 n2 t2 = Lib.compareBytes t1.toList t2.toList from by rw [ByteArray.toList_eq, ByteArray.toList_eq]; rfl]
      go_enter Try.func44, Try.ntmps44
      go_wp2_with fail
      refine (HT _).mono ?_
      rintro e' v' ⟨rfl, rfl⟩
      go_wp2
      go_ret
      exact ⟨rfl, b0⟩
    · by_cases q3 : k1 = 3
      · subst q3
        have HT := fun w => three_ (decide (n1 < n2)) (decide (n1 > n2)) w
        rw [thr_cmi] at HT
        rw [show dcmp 3 s1 n1 t1 3 s2 n2 t2 = cmi n1 n2 from rfl]
        go_enter Try.func44, Try.ntmps44
        go_wp2_with fail
        refine (HT _).mono ?_
        rintro e' v' ⟨rfl, rfl⟩
        go_wp2
        go_ret
        exact ⟨rfl, b0⟩
      · by_cases q4 : k1 = 1
        · subst q4
          have HT1 := fun w => three_ (decide (n1 < n2)) (decide (n1 > n2)) w
          have HT2 := fun w => three_ (decide (n1 > n2)) (decide (n1 < n2)) w
          have HT3 := fun w => three_ true false w
          have HT4 := fun w => three_ false true w
          rw [thr_cmi] at HT1
          rw [thr_imc] at HT2
          rw [show thr true false = -1 from rfl] at HT3
          rw [show thr false true = 1 from rfl] at HT4
          have hd : dcmp 1 s1 n1 t1 1 s2 n2 t2 = if ng s1 n1 then (if ng s2 n2 then cmi n2 n1 else -1) else if ng s2 n2 then 1 else cmi n1 n2 := rfl
          rw [hd]
          clear hd q2 q3
          rcases side s1 n1 h1 with ⟨rfl, hx, e1⟩ | ⟨rfl, hx, e1⟩ | ⟨rfl, e1⟩ <;> rcases side s2 n2 h2 with ⟨rfl, hy, e2⟩ | ⟨rfl, hy, e2⟩ | ⟨rfl, e2⟩
          · rw [e1, e2, if_pos rfl, if_pos rfl]
            clear e1 e2 h1 h2
            have HT := HT2
            clear HT1 HT2 HT3 HT4
            go_enter Try.func44, Try.ntmps44
            go_wp2_with fail
            refine (HT _).mono ?_
            rintro e' v' ⟨rfl, rfl⟩
            go_wp2
            go_ret
            exact ⟨rfl, b0⟩
          · rw [e1, e2, if_pos rfl, if_neg (by decide)]
            clear e1 e2 h1 h2
            have HT := HT3
            clear HT1 HT2 HT3 HT4
            go_enter Try.func44, Try.ntmps44
            go_wp2_with fail
            refine (HT _).mono ?_
            rintro e' v' ⟨rfl, rfl⟩
            go_wp2
            go_ret
            exact ⟨rfl, b0⟩
          · rw [e1, e2, if_pos rfl, if_neg (by decide)]
            clear e1 e2 h1 h2
            have HT := HT3
            clear HT1 HT2 HT3 HT4
            go_enter Try.func44, Try.ntmps44
            go_wp2_with fail
            refine (HT _).mono ?_
            rintro e' v' ⟨rfl, rfl⟩
            go_wp2
            go_ret
            exact ⟨rfl, b0⟩
          · rw [e1, e2, if_neg (by decide), if_pos rfl]
            clear e1 e2 h1 h2
            have HT := HT4
            clear HT1 HT2 HT3 HT4
            go_enter Try.func44, Try.ntmps44
            go_wp2_with fail
            refine (HT _).mono ?_
            rintro e' v' ⟨rfl, rfl⟩
            go_wp2
            go_ret
            exact ⟨rfl, b0⟩
          · rw [e1, e2, if_neg (by decide), if_neg (by decide)]
            clear e1 e2 h1 h2
            have HT := HT1
            clear HT1 HT2 HT3 HT4
            go_enter Try.func44, Try.ntmps44
            go_wp2_with fail
            refine (HT _).mono ?_
            rintro e' v' ⟨rfl, rfl⟩
            go_wp2
            go_ret
            exact ⟨rfl, b0⟩
          · rw [e1, e2, if_neg (by decide), if_neg (by decide)]
            clear e1 e2 h1 h2
            have HT := HT1
            clear HT1 HT2 HT3 HT4
            go_enter Try.func44, Try.ntmps44
            go_wp2_with fail
            refine (HT _).mono ?_
            rintro e' v' ⟨rfl, rfl⟩
            go_wp2
            go_ret
            exact ⟨rfl, b0⟩
          · rw [e1, e2, if_neg (by decide), if_pos rfl]
            clear e1 e2 h1 h2
            have HT := HT4
            clear HT1 HT2 HT3 HT4
            go_enter Try.func44, Try.ntmps44
            go_wp2_with fail
            refine (HT _).mono ?_
            rintro e' v' ⟨rfl, rfl⟩
            go_wp2
            go_ret
            exact ⟨rfl, b0⟩
          · rw [e1, e2, if_neg (by decide), if_neg (by decide)]
            clear e1 e2 h1 h2
            have HT := HT1
            clear HT1 HT2 HT3 HT4
            go_enter Try.func44, Try.ntmps44
            go_wp2_with fail
            refine (HT _).mono ?_
            rintro e' v' ⟨rfl, rfl⟩
            go_wp2
            go_ret
            exact ⟨rfl, b0⟩
          · rw [e1, e2, if_neg (by decide), if_neg (by decide)]
            clear e1 e2 h1 h2
            have HT := HT1
            clear HT1 HT2 HT3 HT4
            go_enter Try.func44, Try.ntmps44
            go_wp2_with fail
            refine (HT _).mono ?_
            rintro e' v' ⟨rfl, rfl⟩
            go_wp2
            go_ret
            exact ⟨rfl, b0⟩
        · rw [show dcmp k1 s1 n1 t1 k1 s2 n2 t2 = 0 from by unfold dcmp; rw [if_neg (fun h => h rfl), if_neg q2, if_neg q3, if_pos q4]]
          go_enter Try.func44, Try.ntmps44
          go_wp2
          go_ret
          exact ⟨rfl, b0⟩
  · have HT := fun w => three_ (decide (k1 < k2)) (decide (k1 > k2)) w
    rw [thr_cmi] at HT
    rw [show dcmp k1 s1 n1 t1 k2 s2 n2 t2 = cmi k1 k2 from by unfold dcmp; rw [if_pos q1]]
    go_enter Try.func44, Try.ntmps44
    go_wp2_with fail
    refine (HT _).mono ?_
    rintro e' v' ⟨rfl, rfl⟩
    go_wp2
    go_ret
    exact ⟨rfl, b0⟩
end Go.Proofs.Ytibcdpnmhkhebaa.Prim
