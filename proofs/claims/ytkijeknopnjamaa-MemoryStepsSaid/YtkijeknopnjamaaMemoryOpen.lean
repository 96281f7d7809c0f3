import Derived.Test.YtkijeknopnjamaaMemory5
import Derived.Test.YtkijeknopnjamaaOpenS
set_option linter.unusedVariables false
set_option linter.unusedSimpArgs false
namespace Go.Proofs.Ytkijeknopnjamaa.Open
open Go.RowKit Base Go.Proofs.YtkijeknopnjamaaW.PrintWords
theorem mstep_opens : Opens Try.prog 47 Memory.ks (GPair (fun _ => True) (GPair (fun n => (Lit.int .i64 n).wf = true) (GPair (fun n => (Lit.int .i64 n).wf = true) (fun s : ByteArray => s.size ≤ reachBytes)))) := by
  unfold Memory.ks
  refine opens_struct Try.underlying47 (by kernel_rfl) ?_
  refine fields_cons (opens_bool Try.underlying4) (by kernel_rfl) ?_
  refine fields_cons (opens_int Try.underlying3) (by kernel_rfl) ?_
  refine fields_cons (opens_int Try.underlying3) (by kernel_rfl) ?_
  exact fields_last (opens_string Try.underlying9) (by kernel_rfl)
theorem mlen {n : Nat} (h : n * Try.prog.bytesOf 47 ≤ reachBytes) : (n : Int) < 140737488351233 := by
  have e : Try.prog.bytesOf 47 = 40 := by kernel_rfl
  have e2 : reachBytes = 140737488351232 := rfl
  rw [e, e2] at h
  omega
end Go.Proofs.Ytkijeknopnjamaa.Open
