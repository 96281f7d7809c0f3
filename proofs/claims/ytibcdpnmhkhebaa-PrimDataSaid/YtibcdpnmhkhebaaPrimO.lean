import Derived.Test.YtibcdpnmhkhebaaOpenS
set_option linter.unusedVariables false
set_option linter.unusedSimpArgs false
namespace Go.Proofs.Ytibcdpnmhkhebaa.Open
open Go.RowKit Base Go.Proofs.YtibcdpnmhkhebaaW.PrintWords
def kdat : Kd (Int × Bool × Int × ByteArray) := (Kd.pair (Kd.int .i64) (Kd.pair Kd.bool (Kd.pair (Kd.int .u64) Kd.string)))
theorem kdat_open {w : World} {x : Int × Bool × Int × ByteArray} {cs : List Value} (h : kdat.K w x cs) : cs = [.int .i64 x.1, .bool x.2.1, .int .u64 x.2.2.1, .string x.2.2.2] := by
  obtain ⟨_, _, rfl, rfl, ⟨_, _, rfl, rfl, ⟨_, _, rfl, rfl, rfl⟩⟩⟩ := h
  exact rfl
theorem dat_opens : Opens Try.prog 31 kdat (GPair (fun n => (Lit.int .i64 n).wf = true) (GPair (fun _ => True) (GPair (fun n => (Lit.int .u64 n).wf = true) (fun s => s.size ≤ reachBytes)))) := by
  unfold kdat
  refine opens_struct Try.underlying31 (by kernel_rfl) ?_
  refine fields_cons (opens_int Try.underlying3) (by kernel_rfl) ?_
  refine fields_cons (opens_bool Try.underlying4) (by kernel_rfl) ?_
  refine fields_cons (opens_int Try.underlying22) (by kernel_rfl) ?_
  exact fields_last (opens_string Try.underlying9) (by kernel_rfl)
def U64 (n : Int) : Prop := 0 ≤ n ∧ n < 18446744073709551616
set_option maxRecDepth 20000 in
theorem data_arg {H : Type} {enc : TypeId × Value → H} {w : World} {r : Reach} {base : Nat} {v : Value} {d : DataW H} {ps : List MemPlace}
    (hok : Value.okWide Try.prog w r base 51 v) (h : TrodZ enc Try.prog w 51 v d ps) :
    ∃ (k1 : Int) (s1 : Bool) (n1 : Int) (t1 : ByteArray) (k2 : Int) (s2 : Bool) (n2 : Int) (t2 : ByteArray), v = .agg #[.int .i64 k1, .bool s1, .int .u64 n1, .string t1, .int .i64 k2, .bool s2, .int .u64 n2, .string t2] ∧ U64 n1 ∧ U64 n2 := by
  obtain ⟨cs, rfl, hs, ht⟩ := agg_array Try.underlying51 hok h
  obtain ⟨hl, hi⟩ := tr_array Try.underlying51 ht
  have e4 : Try.prog.cellsOf 31 = 4 := by kernel_rfl
  have e8 : Try.prog.cellsOf 51 = 8 := by kernel_rfl
  have h0 := hi 0 (by decide)
  have h1 := hi 1 (by decide)
  rw [e4] at h0 h1
  rw [e8] at hl
  obtain ⟨⟨k1, s1, n1, t1⟩, ka, ga⟩ := dat_opens H enc w _ h0
  obtain ⟨⟨k2, s2, n2, t2⟩, kb, gb⟩ := dat_opens H enc w _ h1
  have ea := kdat_open ka
  have eb := kdat_open kb
  refine ⟨k1, s1, n1, t1, k2, s2, n2, t2, ?_, wf_u64 ga.2.2.1, wf_u64 gb.2.2.1⟩
  congr 1
  apply Array.toList_inj.1
  have e1 : cs.toList = (cs.toList.drop (0 * 4)).take 4 ++ (cs.toList.drop (1 * 4)).take 4 := by
    rw [List.take_of_length_le (l := cs.toList.drop (1 * 4)) (by rw [List.length_drop, hl]; decide)]
    exact (List.take_append_drop 4 cs.toList).symm
  rw [e1, ea, eb]
  rfl
end Go.Proofs.Ytibcdpnmhkhebaa.Open
