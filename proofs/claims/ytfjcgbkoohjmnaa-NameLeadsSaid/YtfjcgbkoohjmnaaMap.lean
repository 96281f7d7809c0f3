import Derived.Test.YtfjcgbkoohjmnaaBase
import Derived.MapKept
set_option linter.unusedVariables false
set_option linter.unusedSimpArgs false
namespace Go.Proofs.Ytfjcgbkoohjmnaa.MapS
open Go.RowKit Base Instr
/-- Entries of string keys, in the order of their coming. -/
def ents (val : Nat → Value) : List ByteArray → Nat → List MapEntry
  | [], _ => []
  | s :: r, i => { key := .string s, val := val i, born := i } :: ents val r (i + 1)
/-- The first place of a text. -/
def idx (s : ByteArray) : List ByteArray → Nat → Option Nat
  | [], _ => none
  | x :: r, i => if s == x then some i else idx s r (i + 1)
theorem findNow_ents (val : Nat → Value) (s : ByteArray) : ∀ (l : List ByteArray) (i j : Nat), findNow .string (.string s) (ents val l i) j = some ((idx s l i).map fun n => (n - i + j, val n))
  | [], i, j => rfl
  | x :: r, i, j => by
    have ih := findNow_ents val s r (i + 1) (j + 1)
    rw [ents, findNow, idx]
    simp only [sameNow]
    cases h : (s == x) with
    | true => simp
    | false =>
      simp only [Bool.false_eq_true, if_false]
      rw [ih]
      congr 1
      cases hx : idx s r (i + 1) with
      | none => rfl
      | some n =>
        have hn : i + 1 ≤ n := by
          have : ∀ (l : List ByteArray) (a : Nat), idx s l a = some n → a ≤ n := by
            intro l
            induction l with
            | nil => intro a h; simp [idx] at h
            | cons y l ih =>
              intro a h
              unfold idx at h
              split at h
              · injection h with h; omega
              · have := ih (a + 1) h; omega
          exact this r (i + 1) hx
        simp only [Option.map_some, Option.some.injEq, Prod.mk.injEq, and_true]
        omega
/-- A block laid anew. -/
def setM (w : World) (b : Nat) (o : Obj) : World := { w with heap := w.heap.setIfInBounds b o }
theorem setM_at {w : World} {b : Nat} {o : Obj} (h : b < w.heap.size) : (setM w b o).heap[b]? = some o := by
  unfold setM
  simp [h]
theorem setM_size (w : World) (b : Nat) (o : Obj) : (setM w b o).heap.size = w.heap.size := by
  unfold setM
  simp
theorem setM_below {B : Nat} {a w : World} {b : Nat} (o : Obj) (h : Below B a w) (hb : B ≤ b) : Below B a (setM w b o) :=
  h.trans ⟨rfl, rfl, rfl, by rw [setM_size]; exact Nat.le_refl _, fun j hj => by
    unfold setM
    rw [Array.getElem?_setIfInBounds_ne (by omega)]⟩
section
variable {P : Program} {w : World} {t k e : TypeId} {b : Nat} {val : Nat → Value} {l : List ByteArray} {c : Nat} {z : Value}
theorem run_check (hk : P.underlying k = some .string) (emp : Bool) (s : ByteArray) (w : World) : (checkKey emp 10000 k (.string s)).run P w = .ok () w := by
  show (checkKey emp (9999 + 1) k (.string s)).run P w = _
  rw [checkKey]
  simp [run_underlying hk]
theorem run_find (hk : P.underlying k = some .string) (s : ByteArray) (w : World) : (findKey k (.string s) (ents val l 0)).run P w = .ok ((idx s l 0).map fun n => (n, val n)) w := by
  have h := findNow_ents val s l 0 0
  have h2 : (fun n : Nat => (n - 0 + 0, val n)) = fun n => (n, val n) := by funext n; simp
  rw [h2] at h
  unfold findKey
  simp [run_underlying hk, h]
theorem run_lookup_none (ht : P.underlying t = some (.map k e)) (hk : P.underlying k = some .string) (hb : w.heap[b]? = some (.map (ents val l 0).toArray c)) (s : ByteArray) (h : idx s l 0 = none) (hz : (zeroValue e).run P w = .ok z w) :
    (lookup t (.map (some b)) (.string s) true).run P w = .ok (.tuple #[z, .bool false]) w := by
  unfold lookup
  simp [run_underlying ht, MapKept.run_getObj_map hb, run_check hk, run_find hk, h, hz, Result.andThen]
theorem run_lookup_some (ht : P.underlying t = some (.map k e)) (hk : P.underlying k = some .string) (hb : w.heap[b]? = some (.map (ents val l 0).toArray c)) (s : ByteArray) {n : Nat} (h : idx s l 0 = some n) :
    (lookup t (.map (some b)) (.string s) true).run P w = .ok (.tuple #[val n, .bool true]) w := by
  unfold lookup
  simp [run_underlying ht, MapKept.run_getObj_map hb, run_check hk, run_find hk, h, Result.andThen]
theorem ents_snoc (val : Nat → Value) (s : ByteArray) : ∀ (l : List ByteArray) (i : Nat), ents val (l ++ [s]) i = ents val l i ++ [{ key := .string s, val := val (i + l.length), born := i + l.length }]
  | [], i => rfl
  | x :: r, i => by
    have := ents_snoc val s r (i + 1)
    simp only [List.cons_append, ents, this, List.length_cons]
    rw [show i + 1 + r.length = i + (r.length + 1) from by omega]
theorem run_update_new (ht : P.underlying t = some (.map k e)) (hk : P.underlying k = some .string) (hb : w.heap[b]? = some (.map (ents val l 0).toArray l.length)) (s : ByteArray) (h : idx s l 0 = none) :
    (mapUpdate t (.map (some b)) (.string s) (val l.length)).run P w = .ok () (setM w b (.map (ents val (l ++ [s]) 0).toArray (l ++ [s]).length)) := by
  unfold setM
  unfold mapUpdate
  simp [run_underlying ht, MapKept.run_getObj_map hb, run_check hk, run_find hk, h, MapKept.run_setObj_map _ hb, Result.andThen, ents_snoc]
end
end Go.Proofs.Ytfjcgbkoohjmnaa.MapS
