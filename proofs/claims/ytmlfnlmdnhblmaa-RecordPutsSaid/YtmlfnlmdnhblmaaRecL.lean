import Derived.Test.YtmlfnlmdnhblmaaRecR
import Derived.Test.YtmlfnlmdnhblmaaBldB
set_option linter.unusedVariables false
set_option linter.unusedSimpArgs false
namespace Go.Proofs.Ytmlfnlmdnhblmaa.Rec
open Go.RowKit Base Sp Flat Go.Proofs.YtmlfnlmdnhblmaaW.PrintWords Go.Proofs.YtmlfnlmdnhblmaaW.PrintLast Go.Proofs.YtmlfnlmdnhblmaaW.PrintMore Wd Al Buf Smp
/-- Cells at an address, whatever it is. -/
def CellsAt (w : World) (a : Addr) (cs : List Value) : Prop := ∀ j v, cs[j]? = some v → w.cell? (a.add j) = some v
section
variable {P : Program} {ops : Array Oper} {rest : List Oper} {op : Oper} {a : Act} {w W : World} {Q : Exit → Act → World → Prop}
theorem loadVar_any (p : Addr) (ty : TypeId) (cs : List Value) (d : TypeDesc) (hc : CellsAt w p cs) (hu : P.underlying ty = some d) (hd : d.isRow = true) (hi : (P.info? ty).map (·.size) = some cs.length) :
    (loadVar ty p).run P w = .ok (.agg cs.toArray) w := by
  have hl : (loadCells p cs.length).run P w = .ok cs.toArray w := run_loadCells_list (P := P) w p cs hc
  cases hq : P.info? ty with
  | none => simp [hq] at hi
  | some i =>
    have hs : i.size = cs.length := by simpa [hq] using hi
    have hagg : (isAgg ty).run P w = .ok true w := by
      unfold isAgg
      rw [Sem.run_bind, run_underlying hu w]
      cases d <;> simp_all
    simp [loadVar, Sem.run_bind, hagg, sizeOf, typeInfo, hq, hs, hl]
theorem load_any (hw : Region.wanted op (yielded ops a.tmps) = true) (ty : TypeId) (x : Operand) (ho : op.op = .load ty x) (p : Addr) (hx : a.eval x = .pointer (some p)) (cs : List Value) (d : TypeDesc) (hc : CellsAt w p cs)
    (hu : P.underlying ty = some d) (hd : d.isRow = true) (hi : (P.info? ty).map (·.size) = some cs.length) (h : wpList P ops Q rest (a.put op.dst (.agg cs.toArray)) w) : wpList P ops Q (op :: rest) a w := by
  refine wpList_step fun K hK => ?_
  rw [if_pos hw]
  unfold Oper.wp execOp
  simp only [ho, hx, Instr.loadAt, Instr.sureAddr, Sem.run_bind, Sem.run_pure, Result.andThen_ok, loadVar_any p ty cs d hc hu hd hi]
  exact hK _ _ h
theorem load_yields_any {ty : TypeId} {x : Operand} (ho : op.op = .load ty x) {p : Addr} (hx : a.eval x = .pointer (some p)) {cs : List Value} {d : TypeDesc} (hc : CellsAt w p cs)
    (hu : P.underlying ty = some d) (hd : d.isRow = true) (hi : (P.info? ty).map (·.size) = some cs.length) : (execOp a.eval op).run P w = .ok (.value (.agg cs.toArray)) w := by
  unfold execOp
  simp only [ho, hx, Instr.loadAt, Instr.sureAddr, Sem.run_bind, Sem.run_pure, Result.andThen_ok, loadVar_any p ty cs d hc hu hd hi]
theorem store_ev (hgd : op.guard = none) (ty : TypeId) (x y : Operand) (ho : op.op = .store ty x y) (b o : Nat) (cs : List Value) (hx : a.eval x = .pointer (some ⟨b, o, none⟩)) (hy : a.eval y = .agg cs.toArray)
    (ht : W.there b o cs.length) (hi : (P.info? ty).map (·.size) = some cs.length) (h1 : ∀ u ∈ cs, u.oneCell' = true) (h : ∀ w1, w1 = W.setCells b o cs → wpList P ops Q rest (a.put op.dst undef) w1) : wpList P ops Q (op :: rest) a W :=
  wpList_store_mid hgd ty x y ho b o cs.toArray hx hy (by simpa using ht) (by simpa using hi) (all_oneCell_toArray h1) (h _ (by simp))
end
theorem add_add (a : Addr) (i j : Nat) : (a.add i).add j = a.add (i + j) := by
  unfold Addr.add
  by_cases h1 : i = 0 <;> by_cases h2 : j = 0 <;> simp [h1, h2, Nat.add_assoc]
theorem rd_at {w : World} {F : Nat → Prop} {A : Option Addr} {n c : Nat} {xs : List Smp} (h : Rd ks w F (.slice A n c) xs) {i : Nat} (hi : i < xs.length) : ∃ ad, A = some ad ∧ CellsAt w (ad.add (i * 23)) (cells xs[i]) := by
  obtain ⟨A', c', e, hl, hC, hA⟩ := h
  injection e with e1 _ _
  subst e1
  obtain ⟨ad, e, hc⟩ := hC.2.2 (by omega)
  refine ⟨ad, e, fun j v hj => ?_⟩
  obtain ⟨c, _, hK, hcell⟩ := hc i _ (List.getElem?_eq_getElem hi)
  have hK' : c = cells xs[i] := hK
  rw [add_add]
  exact hcell j v (by rw [hK']; exact hj)
theorem rd_below {w w' : World} {F : Nat → Prop} {v : Value} {xs : List Smp} (h : Rd ks w F v xs) (hb : Below w.heap.size w w') : Rd ks w' F v xs := by
  obtain ⟨A, c, e, hl, hC, hA⟩ := h
  exact ⟨A, c, e, hl, Kd.C_below hC hb, hA⟩
theorem meas (n k : Nat) (h : k < n) : n - (intOf (Value.int IntKind.i64 ((k + 1 : Nat) : Int))).toNat < n - (intOf (Value.int IntKind.i64 (k : Int))).toNat := by simp [intOf]; omega
/-- A sample's data cell. -/
theorem data_at {w : World} {a : Addr} {x : Smp} (h : CellsAt w a (cells x)) : w.cell? ⟨a.block, a.off + 22, none⟩ = some (.string x.data) := by
  have := h 22 (.string x.data) ?_
  · unfold Addr.add at this
    rwa [if_neg (by decide)] at this
  unfold cells head
  rw [List.getElem?_append_right (by simp), List.getElem?_append_right (by rw [nums_length, key_len]; simp), nums_length, key_len]
  rfl
/-- What much answers. -/
def Mu (w : World) (n : Nat) (e : Ending) (w' : World) : Prop := ∃ r : Bool, e = .returned (.bool r) ∧ (r = false → n ≤ 100) ∧ Below w.heap.size w w'
set_option maxRecDepth 20000 in
set_option maxHeartbeats 2000000 in
theorem much {F : Nat → Prop} {w : World} {v : Value} {xs : List Smp} (h : Rd ks w F v xs) :
    Calls Try.prog 5 #[v] w (Mu w xs.length) := by
  have b1 := Below.refl w.heap.size w
  have HL := Lib.hid h.max
  have HA := Lib.hid h
  obtain ⟨A, c, rfl, _, _, _⟩ := h
  go_enter Try.func5, Try.ntmps5
  go_wp2
  go_loopw [3, 4] (fun v3 v4 wr => ∃ (i : Nat) (n : Int), v4 = .int .i64 (i : Int) ∧ v3 = .int .i64 n ∧ i ≤ xs.length ∧ Below w.heap.size w wr) (fun _ v4 _ => xs.length - (intOf v4).toNat)
  case atStart => exact ⟨0, 0, rfl, rfl, Nat.zero_le _, b1⟩
  case round =>
    clear b1
    obtain ⟨i, n, rfl, rfl, hi, bb⟩ := hrel
    by_cases hlt : i < xs.length
    · have h0 : (0 : Int) ≤ (i : Int) := by omega
      have hlt1 : (i : Int) < (xs.length : Int) := by omega
      obtain ⟨ad, rfl, q1⟩ := rd_at (rd_below HA.out bb) hlt
      have c22 := data_at q1
      have hwi : wrap64 ((i : Int) + 1) = ((i + 1 : Nat) : Int) := by have := HL.out; unfold wrap64; omega
      have hm := meas _ _ hlt
      have hlt2 := Lib.hid hlt
      generalize xs[i] = x at q1 c22
      clear q1 hlt hi
      go_wp2
      rw [hwi]
      exact ⟨⟨i + 1, _, rfl, rfl, hlt2.out, bb⟩, hm⟩
    · have hk : i = xs.length := by omega
      subst hk
      clear hlt hi
      by_cases hb : (100 : Int) < (xs.length : Int)
      · go_wp2
        go_ret
        exact ⟨_, rfl, fun hh => by simp [hb] at hh, bb⟩
      · have HN : Hid (xs.length ≤ 100) := Lib.hid (by omega)
        go_wp2
        go_ret
        exact ⟨_, rfl, fun _ => HN.out, bb⟩
end Go.Proofs.Ytmlfnlmdnhblmaa.Rec
