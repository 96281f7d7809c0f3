import Derived.Test.YtkijeknopnjamaaSampling2
import Derived.Test.YtkijeknopnjamaaPSamplingStepsx1
set_option linter.unusedVariables false
set_option linter.unusedSimpArgs false
namespace Go.Proofs.Ytkijeknopnjamaa.Sampling
open Go.RowKit Base Go.Proofs.Ytkijeknopnjamaa.PSamplingSteps Go.Proofs.YtkijeknopnjamaaW.PrintWords Go.Proofs.YtkijeknopnjamaaW.PrintLast
/-- A step. -/
structure Stp where
  r : Bool
  s : ByteArray
  n : Int
def kst : Kd Stp := Kd.iso (Kd.pair Kd.bool (Kd.pair Kd.string (Kd.int .u64))) (fun x => (x.r, x.s, x.n))
theorem kst_open {w : World} {x : Stp} {cs : List Value} (h : kst.K w x cs) : cs = [.bool x.r, .string x.s, .int .u64 x.n] := by
  obtain ⟨_, _, rfl, rfl, ⟨_, _, rfl, rfl, rfl⟩⟩ := h
  exact rfl
theorem step_cells {w : World} {A : Option Addr} {l : List Stp} (h : Kd.C kst w A l.length l) (i : Nat) (hi : i < l.length) :
    ∃ ad : Addr, A = some ad ∧ w.cell? (ad.add (i * 3)) = some (.bool l[i].r) ∧ w.cell? ⟨(ad.add (i * 3)).block, (ad.add (i * 3)).off + 1, none⟩ = some (.string l[i].s) ∧ w.cell? ⟨(ad.add (i * 3)).block, (ad.add (i * 3)).off + 2, none⟩ = some (.int .u64 l[i].n) := by
  obtain ⟨ad, c, e, _, hK, hc0⟩ := Kd.C_get h ⟨false, ByteArray.empty, 0⟩ (i : Int) (by omega) (by omega)
  rw [Int.toNat_natCast] at hc0 hK
  have hc : ∀ j u, c[j]? = some u → w.cell? (ad.add (i * 3 + j)) = some u := hc0
  obtain rfl := kst_open hK
  have hx : l.getD i ⟨false, ByteArray.empty, 0⟩ = l[i] := by rw [List.getD_eq_getElem?_getD, List.getElem?_eq_getElem hi]; rfl
  rw [hx] at hc
  exact ⟨ad, e, hc 0 _ rfl, by rw [← add_field _ _ 1 (by omega)]; exact hc 1 _ rfl, by rw [← add_field _ _ 2 (by omega)]; exact hc 2 _ rfl⟩
abbrev Msg := S104
abbrev kmsg := k104
abbrev tmsg : Nat := 104
/-- What the port has, of all that were written. -/
def St (l : List Msg) (t : Bool) (s : ByteArray) (f : Int) : Prop :=
  (l = [] ∧ t = false ∧ s = ByteArray.empty ∧ f = 0) ∨ (∃ l0 : List Msg, l = l0 ++ [⟨s, f⟩] ∧ t = true ∧ 0 ≤ f)
theorem ref_none (n : Int) : broadsheetref32_Read.f [] n = some (⟨#[]⟩, 0, 18) := rfl
theorem ref_last (l : List Msg) (s : ByteArray) (f n : Int) (hl : l.length ≤ 300) (hn : n < 18446744073709551616) (hf : 0 ≤ f) : broadsheetref32_Read.f (l ++ [⟨s, f⟩]) n = some (s, age n f, 0) := by
  have e : wrap64 (((l ++ [(⟨s, f⟩ : Msg)]).length : Int) - 1) = (l.length : Int) := by
    rw [List.length_append, List.length_singleton]
    unfold wrap64
    omega
  have hl2 : (l ++ [(⟨s, f⟩ : Msg)]).length = l.length + 1 := by simp
  unfold broadsheetref32_Read.f
  rw [e, if_neg (by omega), if_pos (by omega), if_pos (by omega)]
  have hr : rd_T104 (l ++ [(⟨s, f⟩ : Msg)]) (l.length : Int) = ⟨s, f⟩ := by
    unfold rd_T104
    simp [List.getD_eq_getElem?_getD]
  rw [hr]
  unfold broadsheetref30_Age.f age
  by_cases h : f > n
  · rw [if_pos h, if_pos (by omega)]
    rfl
  · rw [if_neg h]
    show some (s, IntKind.u64.wrap (n - f), (0 : Int)) = _
    rw [wrapu64 (by omega) (by omega)]
    by_cases h2 : n ≤ f
    · rw [if_pos h2, show n - f = 0 from by omega]
    · rw [if_neg h2]
theorem ref_write (l : List Msg) (z n : Int) (s : ByteArray) (hl : l.length ≤ 300) : broadsheetref32_Write.f l z s n = some (if (s.size : Int) > mx z then (l, 3) else (l ++ [⟨s, n⟩], 0)) := by
  unfold broadsheetref32_Write.f
  have e : Go.Proofs.YtkijeknopnjamaaW.PrintWords.mx z 0 = mx z := rfl
  rw [e]
  by_cases h : (s.size : Int) > mx z
  · rw [if_pos h, if_pos h]
  · rw [if_neg h, if_neg h, Option.bind_some, if_pos (by simp; omega), Option.bind_some, if_pos (by simp; omega)]
    rfl
end Go.Proofs.Ytkijeknopnjamaa.Sampling
