import Derived.Test.YtkijeknopnjamaaQueuing4
import Derived.Test.YtkijeknopnjamaaOpenS
set_option linter.unusedVariables false
set_option linter.unusedSimpArgs false
namespace Go.Proofs.Ytkijeknopnjamaa.Open
open Go.RowKit Base Go.Proofs.YtkijeknopnjamaaW.PrintWords
theorem qstep_opens : Opens Try.prog 64 Queuing.kq (GPair (fun n => (Lit.int .i64 n).wf = true) (fun s : ByteArray => s.size ≤ maxLen)) := by
  unfold Queuing.kq
  refine opens_struct Try.underlying64 (by kernel_rfl) ?_
  refine fields_cons (opens_int Try.underlying3) (by kernel_rfl) ?_
  exact fields_last (opens_string Try.underlying9) (by kernel_rfl)
theorem three_i64 {H : Type} {enc : TypeId × Value → H} {P : Program} {w : World} {t e : TypeId} {cs : Array Value} (hu : P.underlying t = some (.array 3 e)) (he : P.underlying e = some (.int .i64)) (hn : P.cellsOf t = 3 ∧ P.cellsOf e = 1) (hs : cs.size = P.cellsOf t) (h : Tr enc P w t cs.toList) :
    ∃ x y z, cs = #[.int .i64 x, .int .i64 y, .int .i64 z] ∧ (-9223372036854775808 ≤ x ∧ x < 9223372036854775808) ∧ (-9223372036854775808 ≤ y ∧ y < 9223372036854775808) ∧ (-9223372036854775808 ≤ z ∧ z < 9223372036854775808) := by
  obtain ⟨h1, h2⟩ := hn
  rw [h1] at hs
  obtain ⟨_, h⟩ := tr_array hu h
  rw [h2] at h
  obtain ⟨l⟩ := cs
  match l, hs with
  | [a, b, c], _ =>
    obtain ⟨x, e0, w0⟩ := tr_int he (h 0 (by omega))
    obtain ⟨y, e1, w1⟩ := tr_int he (h 1 (by omega))
    obtain ⟨z, e2, w2⟩ := tr_int he (h 2 (by omega))
    simp at e0 e1 e2
    exact ⟨x, y, z, by rw [e0, e1, e2], wf_i64 w0, wf_i64 w1, wf_i64 w2⟩
end Go.Proofs.Ytkijeknopnjamaa.Open
