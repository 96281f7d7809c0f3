/- For every input MemoryApart of layer 31 returns true, and its arguments read as before. No condition. -/
import Derived.Test.YtkijeknopnjamaaRows
import Derived.Test.YtkijeknopnjamaaMemory6
import Derived.Test.YtkijeknopnjamaaMemoryOpen
import Derived.OpenShut
import Derived.ShutString
import Derived.ChangeOld
import Derived.SizedLaws
set_option linter.unusedVariables false
set_option linter.unusedSimpArgs false
namespace Go.Proofs.Ytkijeknopnjamaa.memoryApart
open Go.ChangeShapes Go.WideShapes Go.ChangeAt Go.RowKit
open Go.ChangeMaps (open_string shut_string)
open Go.Proofs.Ytkijeknopnjamaa Go.Proofs.Ytkijeknopnjamaa.Base
set_option linter.unusedVariables false
theorem own : ownKnob Try.prog.godebug = Option.none := by kernel_rfl
theorem laidOut : laidOutB Try.prog = true := by kernel_rfl
set_option maxRecDepth 100000 in
theorem lifted (os : Os) (started : os.Started) (H : Type) (enc : TypeId × Value → H) :
    ReturnsInHanded {} Try.checked os 6 .any (Rows.memoryApartSpec.pre6 enc Try.prog Try.f6 Rows.memoryApartRow.domain false) (Rows.memoryApartSpec.post enc Try.prog Try.f6 false true false false) := by
  refine returnsInHanded_of_change_sized (C := Try.checked) own started (by kernel_rfl) Try.func6
    (ChangeSpec.witness6 (enc := enc) (C := Try.checked) false ⟨#[], #[.int .i64 0, .slice none 0 0, .agg #[.bool false, .int .i64 0, .int .i64 0, .string ByteArray.empty]], []⟩ 8 (by kernel_rfl) (by kernel_rfl) (by kernel_rfl) (by kernel_rfl)) ?_
  intro W base args ds gs before hval0 hW hcnd hsz0 _
  have hsz : (DataW.weightsEach Try.prog (Try.f6.params.toList ++ Rows.memoryApartSpec.plain.varTypes Try.prog) (ds ++ gs)).all (· ≤ reachBytes) = true := hsz0
  have hval : ∀ (j : Nat) t v, Try.f6.params[j]? = some t → args[j]? = some v → Value.okWide Try.prog W .any base t v := hval0
  have hW' := hW
  obtain ⟨p, q, hA0, hV, rfl, hfz, hnd⟩ := hW
  have hA : DataW.TrodAll enc Try.prog W 0 (fun _ => true) true Try.f6.params.toList args.toList ds p := hA0
  rw [Try.params6] at hA hval hsz
  obtain ⟨v0, vs0, d0, ds0, p0, q0, hargs, rfl, rfl, h0, r0⟩ := trodAll_cons hA
  obtain ⟨v1, vs1, d1, ds1, p1, q1, rfl, rfl, rfl, h1, r1⟩ := trodAll_cons r0
  obtain ⟨v2, vs2, d2, ds2, p2, q2, rfl, rfl, rfl, h2, r2⟩ := trodAll_cons r1
  obtain ⟨rfl, rfl, rfl⟩ := trodAll_nil r2
  obtain rfl : args = #[v0, v1, v2] := by cases args; simp_all
  obtain ⟨rfl, rfl⟩ := trodVars_none hV
  obtain ⟨a0, rfl, rfl, rfl, w0⟩ := open_int Try.underlying3 (hval 0 3 v0 rfl rfl) h0
  have b0 := wf_i64 w0
  have ok1 := (hval 1 45 v1 rfl rfl)
  have lt1 : ∀ x ∈ p1, x.block < W.heap.size := by obtain ⟨m, hm⟩ := h1; exact DataW.trod_lt m _ _ _ hm
  have k1 : Open.TrodZ enc Try.prog W 45 v1 d1 p1 := ⟨h1, fun n hn => by simpa using List.all_eq_true.1 hsz _ (DataW.weights_mem_each (j := 1) (t := 45) rfl rfl n hn)⟩
  have ok2 := (hval 2 47 v2 rfl rfl)
  have lt2 : ∀ x ∈ p2, x.block < W.heap.size := by obtain ⟨m, hm⟩ := h2; exact DataW.trod_lt m _ _ _ hm
  have k2 : Open.TrodZ enc Try.prog W 47 v2 d2 p2 := ⟨h2, fun n hn => by simpa using List.all_eq_true.1 hsz _ (DataW.weights_mem_each (j := 2) (t := 47) rfl rfl n hn)⟩
  clear hA0 hval0 hsz0
  obtain ⟨A, c, l, rfl, hC, _, hlen, hG⟩ := Open.slice_arg Try.underlying45 Open.mstep_opens (by kernel_rfl) ok1 k1
  obtain ⟨⟨xb, at_, xn, s⟩, cs, rfl, hK, hG2⟩ := Open.struct_arg Try.underlying47 Open.mstep_opens ok2 k2
  obtain ⟨_, _, e0, rfl, _, _, e1, rfl, _, _, e2, rfl, e3⟩ := hK
  obtain rfl : cs = #[.bool xb, .int .i64 at_, .int .i64 xn, .string s] := by
    apply Array.ext'
    rw [e0, e1, e2, e3]
    rfl
  have hs : ∀ x ∈ l, x.2.2.2.size ≤ 140737488351232 := fun x hx => (hG x hx).2.2.2
  have ha : at_ < 9223372036854775808 := (wf_i64 hG2.2.1).2
  refine (Memory.apart a0 A c l xb at_ xn s W hC (Open.mlen hlen.2) hs ha).mono fun e W' ⟨he, bel⟩ => ?_
  subst he
  exact ⟨_, rfl, _, _, _, [], _, [], hW', trodAll_mk1 (shut_bool Try.underlying4 _), (trodAll_cons_mk (shut_int Try.underlying3 w0) (trodAll_cons_mk (Below.trod laidOut (by kernel_rfl) (of_decide_eq_true (by kernel_rfl)) (k1).1 bel lt1) (trodAll_cons_mk (Below.trod laidOut (by kernel_rfl) (of_decide_eq_true (by kernel_rfl)) (k2).1 bel lt2) trodAll_mk0))), rfl, bel.frame _, fun h => by cases h⟩
theorem over : Rows.memoryApartRow.holds Try.pinned (OpenSpec.ofChange Rows.memoryApartSpec) :=
  OpenClaim.holds_of_wide 6 Try.f6 rfl rfl rfl rfl rfl rfl rfl ⟨rfl, rfl, rfl, rfl, rfl⟩ rfl rfl rfl rfl rfl (by kernel_rfl) Try.func6 (by kernel_rfl)
    (of_decide_eq_true (by kernel_rfl)) (by unfold Func.isWrapper; first | (rw [if_pos (by decide +kernel)]; kernel_rfl) | (rw [if_neg (by decide +kernel)]; exact ⟨rfl, rfl⟩))
    (fun os started H enc _ => lifted os started H enc)
theorem proved : Rows.MemoryApartSaid := over
#print axioms proved
end Go.Proofs.Ytkijeknopnjamaa.memoryApart
namespace Go.Proofs.Ytkijeknopnjamaa
/-- The row, under a short name, for the claim. -/
theorem memoryApart_holds : Rows.MemoryApartSaid := memoryApart.proved
end Go.Proofs.Ytkijeknopnjamaa
