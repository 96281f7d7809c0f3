import Derived.Test.YtfjcgbkoohjmnaaOpenS
set_option linter.unusedVariables false
set_option linter.unusedSimpArgs false
namespace Go.Proofs.Ytfjcgbkoohjmnaa.Open
open Go.RowKit Base Go.Proofs.YtfjcgbkoohjmnaaW.PrintWords
def kqos : Kd (Int × Int × Int × Int × Int × Int × Int) := (Kd.pair (Kd.int .i64) (Kd.pair (Kd.int .i64) (Kd.pair (Kd.int .i64) (Kd.pair (Kd.int .i64) (Kd.pair (Kd.int .i64) (Kd.pair (Kd.int .i64) (Kd.int .i64)))))))
theorem kqos_open {w : World} {x : Int × Int × Int × Int × Int × Int × Int} {cs : List Value} (h : kqos.K w x cs) : cs = [.int .i64 x.1, .int .i64 x.2.1, .int .i64 x.2.2.1, .int .i64 x.2.2.2.1, .int .i64 x.2.2.2.2.1, .int .i64 x.2.2.2.2.2.1, .int .i64 x.2.2.2.2.2.2] := by
  obtain ⟨_, _, rfl, rfl, ⟨_, _, rfl, rfl, ⟨_, _, rfl, rfl, ⟨_, _, rfl, rfl, ⟨_, _, rfl, rfl, ⟨_, _, rfl, rfl, rfl⟩⟩⟩⟩⟩⟩ := h
  exact rfl
theorem qos_opens : Opens Try.prog 49 kqos (GPair (fun n => (Lit.int .i64 n).wf = true) (GPair (fun n => (Lit.int .i64 n).wf = true) (GPair (fun n => (Lit.int .i64 n).wf = true) (GPair (fun n => (Lit.int .i64 n).wf = true) (GPair (fun n => (Lit.int .i64 n).wf = true) (GPair (fun n => (Lit.int .i64 n).wf = true) (fun n => (Lit.int .i64 n).wf = true))))))) := by
  unfold kqos
  refine opens_struct Try.underlying49 (by kernel_rfl) ?_
  refine fields_cons (opens_int Try.underlying3) (by kernel_rfl) ?_
  refine fields_cons (opens_int Try.underlying3) (by kernel_rfl) ?_
  refine fields_cons (opens_int Try.underlying3) (by kernel_rfl) ?_
  refine fields_cons (opens_int Try.underlying3) (by kernel_rfl) ?_
  refine fields_cons (opens_int Try.underlying3) (by kernel_rfl) ?_
  refine fields_cons (opens_int Try.underlying3) (by kernel_rfl) ?_
  exact fields_last (opens_int Try.underlying3) (by kernel_rfl)
theorem qos_arg {H : Type} {enc : TypeId × Value → H} {w : World} {r : Reach} {base : Nat} {v : Value} {d : DataW H} {ps : List MemPlace}
    (hok : Value.okWide Try.prog w r base 49 v) (h : DataW.Trod enc Try.prog w 0 (fun _ => true) true 49 v d ps) :
    ∃ a b c d e f g : Int, v = .agg #[.int .i64 a, .int .i64 b, .int .i64 c, .int .i64 d, .int .i64 e, .int .i64 f, .int .i64 g] ∧ -9223372036854775808 ≤ f := by
  obtain ⟨⟨a, b, c, d, e, f, g⟩, cs, rfl, hK, hG⟩ := struct_arg Try.underlying49 qos_opens hok h
  have he := kqos_open hK
  refine ⟨a, b, c, d, e, f, g, ?_, (wf_i64 hG.2.2.2.2.2.1).1⟩
  congr 1
  exact Array.toList_inj.1 he
end Go.Proofs.Ytfjcgbkoohjmnaa.Open
