import Derived.Test.YtmlfnlmdnhblmaaOpen
set_option linter.unusedVariables false
set_option linter.unusedSimpArgs false
namespace Go.Proofs.Ytmlfnlmdnhblmaa.Open
open Go.RowKit Base
section
variable {H : Type} {enc : TypeId × Value → H} {P : Program} {w : World}
theorem u8_of {n : Int} (h : (Lit.int .u8 n).wf = true) : ∃ c : UInt8, n = (c.toNat : Int) := by
  obtain ⟨h0, h1⟩ := wf_u8 h
  refine ⟨UInt8.ofNat n.toNat, ?_⟩
  rw [UInt8.toNat_ofNat']
  omega
theorem four_u8 {t e : TypeId} {cs : Array Value} (hu : P.underlying t = some (.array 4 e)) (he : P.underlying e = some (.int .u8)) (hn : P.cellsOf t = 4 ∧ P.cellsOf e = 1) (hs : cs.size = P.cellsOf t) (h : Tr enc P w t cs.toList) :
    ∃ f : Nat → UInt8, cs = #[.int .u8 ((f 0).toNat : Int), .int .u8 ((f 1).toNat : Int), .int .u8 ((f 2).toNat : Int), .int .u8 ((f 3).toNat : Int)] := by
  obtain ⟨h1, h2⟩ := hn
  rw [h1] at hs
  obtain ⟨_, h⟩ := tr_array hu h
  rw [h2] at h
  obtain ⟨l⟩ := cs
  match l, hs with
  | [a, b, c, d], _ =>
    obtain ⟨x, e0, w0⟩ := tr_int he (h 0 (by omega))
    obtain ⟨y, e1, w1⟩ := tr_int he (h 1 (by omega))
    obtain ⟨z, e2, w2⟩ := tr_int he (h 2 (by omega))
    obtain ⟨u, e3, w3⟩ := tr_int he (h 3 (by omega))
    obtain ⟨x, rfl⟩ := u8_of w0
    obtain ⟨y, rfl⟩ := u8_of w1
    obtain ⟨z, rfl⟩ := u8_of w2
    obtain ⟨u, rfl⟩ := u8_of w3
    simp at e0 e1 e2 e3
    exact ⟨fun i => if i = 0 then x else if i = 1 then y else if i = 2 then z else u, by rw [e0, e1, e2, e3]; rfl⟩
end
end Go.Proofs.Ytmlfnlmdnhblmaa.Open
