import Derived.Test.YtjlgkebecpagjaaPart5
import Derived.Test.YtjlgkebecpagjaaOpenS
set_option linter.unusedVariables false
set_option linter.unusedSimpArgs false
namespace Go.Proofs.Ytjlgkebecpagjaa.Open
open Go.RowKit Base Go.Proofs.YtjlgkebecpagjaaW.PrintWords
theorem pstep_opens : Opens Try.prog 38 Part.ks (GPair (fun n => (Lit.int .i64 n).wf = true) (fun n => (Lit.int .i64 n).wf = true)) := by
  unfold Part.ks
  refine opens_struct Try.underlying38 (by kernel_rfl) ?_
  refine fields_cons (opens_int Try.underlying3) (by kernel_rfl) ?_
  exact fields_last (opens_int Try.underlying3) (by kernel_rfl)
theorem label_opens : Opens Try.prog 31 (Kd.pair (Kd.int .i64) (Kd.int .u64)) (GPair (fun n => (Lit.int .i64 n).wf = true) (fun n => (Lit.int .u64 n).wf = true)) := by
  refine opens_struct Try.underlying31 (by kernel_rfl) ?_
  refine fields_cons (opens_int Try.underlying3) (by kernel_rfl) ?_
  exact fields_last (opens_int Try.underlying22) (by kernel_rfl)
theorem part_opens : Opens Try.prog 33 (Kd.pair Kd.string (Kd.pair (Kd.pair (Kd.int .i64) (Kd.int .u64)) (Kd.pair (Kd.int .i64) (Kd.int .i64)))) (GPair (fun s : ByteArray => s.size ≤ reachBytes) (GPair (GPair (fun n => (Lit.int .i64 n).wf = true) (fun n => (Lit.int .u64 n).wf = true)) (GPair (fun n => (Lit.int .i64 n).wf = true) (fun n => (Lit.int .i64 n).wf = true)))) := by
  refine opens_struct Try.underlying33 (by kernel_rfl) ?_
  refine fields_cons (opens_string Try.underlying9) (by kernel_rfl) ?_
  refine fields_cons label_opens (by kernel_rfl) ?_
  refine fields_cons (opens_int Try.underlying3) (by kernel_rfl) ?_
  exact fields_last (opens_int Try.underlying3) (by kernel_rfl)
end Go.Proofs.Ytjlgkebecpagjaa.Open
