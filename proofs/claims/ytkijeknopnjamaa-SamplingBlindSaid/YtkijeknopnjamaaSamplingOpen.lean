import Derived.Test.YtkijeknopnjamaaSampling3
import Derived.Test.YtkijeknopnjamaaOpenS
set_option linter.unusedVariables false
set_option linter.unusedSimpArgs false
namespace Go.Proofs.Ytkijeknopnjamaa.Open
open Go.RowKit Base Go.Proofs.YtkijeknopnjamaaW.PrintWords
theorem step_opens : Opens Try.prog 29 Sampling.kst (fun x => GPair (fun _ => True) (GPair (fun s : ByteArray => s.size ≤ maxLen) (fun n => (Lit.int .u64 n).wf = true)) (x.r, x.s, x.n)) := by
  unfold Sampling.kst
  refine opens_iso (d := Kd.pair Kd.bool (Kd.pair Kd.string (Kd.int .u64))) ?_ (fun x : Sampling.Stp => (x.r, x.s, x.n)) (fun a => ⟨a.1, a.2.1, a.2.2⟩) (fun _ => rfl)
  refine opens_struct Try.underlying29 (by kernel_rfl) ?_
  refine fields_cons (opens_bool Try.underlying4) (by kernel_rfl) ?_
  refine fields_cons (opens_string Try.underlying9) (by kernel_rfl) ?_
  exact fields_last (opens_int Try.underlying27) (by kernel_rfl)
end Go.Proofs.Ytkijeknopnjamaa.Open
