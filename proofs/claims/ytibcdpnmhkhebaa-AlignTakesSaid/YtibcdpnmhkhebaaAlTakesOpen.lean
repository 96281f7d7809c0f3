import Derived.Test.YtibcdpnmhkhebaaAlTakes
import Derived.Test.YtibcdpnmhkhebaaOpenS
set_option linter.unusedVariables false
set_option linter.unusedSimpArgs false
namespace Go.Proofs.Ytibcdpnmhkhebaa.Open
open Go.RowKit Base Go.Proofs.YtibcdpnmhkhebaaW.PrintWords
theorem ask_opens : Opens Try.prog 94 Cur.ka (GPair (fun _ => True) (fun n => (Lit.int .i64 n).wf = true)) := by
  unfold Cur.ka
  refine opens_struct Try.underlying94 (by kernel_rfl) ?_
  refine fields_cons (opens_bool Try.underlying4) (by kernel_rfl) ?_
  exact fields_last (opens_int Try.underlying3) (by kernel_rfl)
end Go.Proofs.Ytibcdpnmhkhebaa.Open
