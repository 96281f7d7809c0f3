import Derived.Test.YtimalojaiaofkaaScr5
import Derived.Test.YtimalojaiaofkaaOpenS
set_option linter.unusedVariables false
set_option linter.unusedSimpArgs false
namespace Go.Proofs.Ytimalojaiaofkaa.Open
open Go.RowKit Base Go.Proofs.YtimalojaiaofkaaW.PrintWords Go.Proofs.Ytimalojaiaofkaa.PScriptPuts
def GAct (x : S43) : Prop := GPair (fun n => (Lit.int .i64 n).wf = true) (GPair (fun n => (Lit.int .i64 n).wf = true) (fun s : ByteArray => s.size ≤ reachBytes)) (x.f0, x.f1, x.f2)
theorem act_opens : Opens Try.prog 43 k43 GAct := by
  unfold k43
  refine opens_iso (d := Kd.pair (Kd.int .i64) (Kd.pair (Kd.int .i64) Kd.string)) ?_ (fun x : S43 => (x.f0, x.f1, x.f2)) (fun a => ⟨a.1, a.2.1, a.2.2⟩) (fun _ => rfl)
  refine opens_struct Try.underlying43 (by kernel_rfl) ?_
  refine fields_cons (opens_int Try.underlying3) (by kernel_rfl) ?_
  refine fields_cons (opens_int Try.underlying3) (by kernel_rfl) ?_
  exact fields_last (opens_string Try.underlying9) (by kernel_rfl)
def GActs (l : List S43) : Prop := (l.length ≤ maxLen ∧ l.length * Try.prog.bytesOf 43 ≤ reachBytes) ∧ ∀ a ∈ l, GAct a
def GTurn (x : S41) : Prop := GActs x.f0
theorem turn_opens : Opens Try.prog 41 k41 GTurn := by
  unfold k41
  refine opens_iso (d := Kd.slice 43 k43) (G := GActs) ?_ (fun x : S41 => x.f0) (fun a => ⟨a⟩) (fun _ => rfl)
  refine opens_struct Try.underlying41 (by kernel_rfl) ?_
  exact fields_last (opens_slice Try.underlying39 act_opens (by kernel_rfl)) (by kernel_rfl)
theorem act_rng {x : S43} (h : GAct x) : Scr.Rng x := by
  have h2 : -9223372036854775808 ≤ x.f1 ∧ x.f1 < 9223372036854775808 := wf_i64 h.2.1
  have e2 : reachBytes = 140737488351232 := rfl
  have h3 : x.f2.size ≤ reachBytes := h.2.2
  rw [e2] at h3
  exact ⟨h2.1, h2.2, by omega⟩
theorem turns_small {l : List S41} (h : l.length * Try.prog.bytesOf 41 ≤ reachBytes) (hG : ∀ x ∈ l, GTurn x) : l.length ≤ 140737488355328 ∧ ∀ x ∈ l, x.f0.length ≤ 140737488355328 ∧ ∀ a ∈ x.f0, Scr.Rng a := by
  have e : Try.prog.bytesOf 41 = 24 := by kernel_rfl
  have e1 : Try.prog.bytesOf 43 = 32 := by kernel_rfl
  have e2 : reachBytes = 140737488351232 := rfl
  rw [e, e2] at h
  refine ⟨by omega, fun x hx => ⟨?_, fun a ha => act_rng ((hG x hx).2 a ha)⟩⟩
  have h3 := (hG x hx).1.2
  rw [e1, e2] at h3
  omega
end Go.Proofs.Ytimalojaiaofkaa.Open
