import Derived.Test.YtimalojaiaofkaaSched3
import Derived.Test.YtimalojaiaofkaaOpenS
set_option linter.unusedVariables false
set_option linter.unusedSimpArgs false
namespace Go.Proofs.Ytimalojaiaofkaa.Open
open Go.RowKit Base Go.Proofs.YtimalojaiaofkaaW.PrintWords
theorem win_opens : Opens Try.prog 32 SchedP.kS (fun x => GPair (fun n => (Lit.int .i64 n).wf = true) (fun n => (Lit.int .i64 n).wf = true) (x.f0, x.f1)) := by
  unfold SchedP.kS Go.Proofs.Ytimalojaiaofkaa.PSchedChecks.k32
  refine opens_iso (d := Kd.pair (Kd.int .i64) (Kd.int .i64)) ?_ (fun x : SchedP.S => (x.f0, x.f1)) (fun a => ⟨a.1, a.2⟩) (fun _ => rfl)
  refine opens_struct Try.underlying32 (by kernel_rfl) ?_
  refine fields_cons (opens_int Try.underlying3) (by kernel_rfl) ?_
  exact fields_last (opens_int Try.underlying3) (by kernel_rfl)
end Go.Proofs.Ytimalojaiaofkaa.Open
