import Derived.Test.YtibcdpnmhkhebaaAlPuts
import Derived.Test.YtibcdpnmhkhebaaOpenS
set_option linter.unusedVariables false
set_option linter.unusedSimpArgs false
namespace Go.Proofs.Ytibcdpnmhkhebaa.Open
open Go.RowKit Base Go.Proofs.YtibcdpnmhkhebaaW.PrintWords
theorem apart_opens : Opens Try.prog 71 Al.kp (GPair (fun _ => True) (GPair (fun n => (Lit.int .u64 n).wf = true) (GPair (fun n => (Lit.int .i64 n).wf = true) (fun s : ByteArray => s.size ≤ reachBytes)))) := by
  unfold Al.kp
  refine opens_struct Try.underlying71 (by kernel_rfl) ?_
  refine fields_cons (opens_bool Try.underlying4) (by kernel_rfl) ?_
  refine fields_cons (opens_int Try.underlying22) (by kernel_rfl) ?_
  refine fields_cons (opens_int Try.underlying3) (by kernel_rfl) ?_
  exact fields_last (opens_string Try.underlying9) (by kernel_rfl)
end Go.Proofs.Ytibcdpnmhkhebaa.Open
