import Derived.Test.YtehojcocnndniaaOpenS
set_option linter.unusedVariables false
set_option linter.unusedSimpArgs false
namespace Go.Proofs.Ytehojcocnndniaa.Open
open Go.RowKit Base Go.Proofs.YtehojcocnndniaaW.PrintWords
def krec : Kd (Int × Int × Int × Int × Int × Int) := (Kd.pair (Kd.int .i64) (Kd.pair (Kd.int .i64) (Kd.pair (Kd.int .i64) (Kd.pair (Kd.int .i64) (Kd.pair (Kd.int .i64) (Kd.int .i64))))))
theorem krec_open {w : World} {x : Int × Int × Int × Int × Int × Int} {cs : List Value} (h : krec.K w x cs) : cs = [.int .i64 x.1, .int .i64 x.2.1, .int .i64 x.2.2.1, .int .i64 x.2.2.2.1, .int .i64 x.2.2.2.2.1, .int .i64 x.2.2.2.2.2] := by
  obtain ⟨_, _, rfl, rfl, ⟨_, _, rfl, rfl, ⟨_, _, rfl, rfl, ⟨_, _, rfl, rfl, ⟨_, _, rfl, rfl, rfl⟩⟩⟩⟩⟩ := h
  exact rfl
theorem rec_opens : Opens Try.prog 38 krec (GPair (fun n => (Lit.int .i64 n).wf = true) (GPair (fun n => (Lit.int .i64 n).wf = true) (GPair (fun n => (Lit.int .i64 n).wf = true) (GPair (fun n => (Lit.int .i64 n).wf = true) (GPair (fun n => (Lit.int .i64 n).wf = true) (fun n => (Lit.int .i64 n).wf = true)))))) := by
  unfold krec
  refine opens_struct Try.underlying38 (by kernel_rfl) ?_
  refine fields_cons (opens_int Try.underlying3) (by kernel_rfl) ?_
  refine fields_cons (opens_int Try.underlying3) (by kernel_rfl) ?_
  refine fields_cons (opens_int Try.underlying3) (by kernel_rfl) ?_
  refine fields_cons (opens_int Try.underlying3) (by kernel_rfl) ?_
  refine fields_cons (opens_int Try.underlying3) (by kernel_rfl) ?_
  exact fields_last (opens_int Try.underlying3) (by kernel_rfl)
def Lt63 (n : Int) : Prop := n < 9223372036854775808
set_option maxRecDepth 20000 in
theorem rec_arg {H : Type} {enc : TypeId × Value → H} {w : World} {r : Reach} {base : Nat} {v : Value} {d : DataW H} {ps : List MemPlace}
    (hok : Value.okWide Try.prog w r base 38 v) (h : TrodZ enc Try.prog w 38 v d ps) :
    ∃ a b c d e f : Int, v = .agg #[.int .i64 a, .int .i64 b, .int .i64 c, .int .i64 d, .int .i64 e, .int .i64 f] ∧ Lt63 a ∧ Lt63 b ∧ Lt63 c ∧ Lt63 d ∧ Lt63 e ∧ Lt63 f := by
  obtain ⟨⟨a, b, c, d, e, f⟩, cs, rfl, hK, hG⟩ := struct_arg Try.underlying38 rec_opens hok h
  have he := krec_open hK
  refine ⟨a, b, c, d, e, f, ?_, (wf_i64 hG.1).2, (wf_i64 hG.2.1).2, (wf_i64 hG.2.2.1).2, (wf_i64 hG.2.2.2.1).2, (wf_i64 hG.2.2.2.2.1).2, (wf_i64 hG.2.2.2.2.2).2⟩
  congr 1
  exact Array.toList_inj.1 he
end Go.Proofs.Ytehojcocnndniaa.Open
