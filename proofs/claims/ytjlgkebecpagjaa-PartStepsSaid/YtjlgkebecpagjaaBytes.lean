import Derived.Test.YtjlgkebecpagjaaBase
import Derived.Lib.ConvBytes
import Derived.Laws.BytesArg
set_option linter.unusedVariables false
set_option linter.unusedSimpArgs false
namespace Go.Proofs.Ytjlgkebecpagjaa.Row8
open Go.RowKit Base
/-- n bytes in block g, of a row that may be written. -/
def Row (w : World) (g n : Nat) (l : List UInt8) : Prop :=
  l.length = n ∧ ∀ j, j < n → w.cell? ⟨g, j, none⟩ = some (.int .u8 ((l.getD j 0).toNat : Int)) ∧ w.frozen? ⟨g, j, none⟩ = false
theorem set {w : World} {g n j : Nat} {l : List UInt8} (h : Row w g n l) (hj : j < n) (c : UInt8) : Row (w.setCell ⟨g, j, none⟩ (.int .u8 (c.toNat : Int))) g n (l.set j c) := by
  refine ⟨by rw [List.length_set, h.1], fun i hi => ⟨?_, ?_⟩⟩
  · by_cases e : j = i
    · subst e
      rw [List.getD_eq_getElem?_getD, List.getElem?_set_self (by rw [h.1]; exact hi)]
      exact csame (h.2 j hj).1
    · rw [List.getD_eq_getElem?_getD, List.getElem?_set_ne e, ← List.getD_eq_getElem?_getD]
      exact coff (h.2 i hi).1 e
  · rw [World.frozen?_setCell]
    exact (h.2 i hi).2
theorem far {w : World} {g n : Nat} {l : List UInt8} (h : Row w g n l) {p : Addr} (hp : p.block ≠ g) (v : Value) : Row (w.setCell p v) g n l :=
  ⟨h.1, fun j hj => ⟨cfar (h.2 j hj).1 hp, by rw [World.frozen?_setCell]; exact (h.2 j hj).2⟩⟩
theorem start (w : World) (e : TypeId) (s : ByteArray) : Row (Lib.bytesWorld w e s) w.heap.size s.size s.data.toList := by
  refine ⟨by simp, fun j hj => ⟨Lib.bytesWorld_cell w e s j hj, ?_⟩⟩
  have h := Lib.bytesWorld_at_new w e s
  have hs : s.size ≤ (Lib.bytesCells w e s).size := by simp [Lib.bytesCells]
  simp only [World.frozen?, h]
  have : ¬ (Lib.bytesCells w e s).size ≤ j := by omega
  simp [this]
theorem below {w w' : World} {B g n : Nat} {l : List UInt8} (h : Row w g n l) (hb : Below B w w') (hg : g < B) : Row w' g n l :=
  ⟨h.1, fun j hj => ⟨cbel hb (h.2 j hj).1 hg, fbel hb (h.2 j hj).2 hg⟩⟩
theorem str_of (l : List UInt8) : strOfNums (l.map fun c => (c.toNat : Int)) = ⟨l.toArray⟩ := by
  unfold strOfNums
  rw [List.map_map]
  have : ((fun n : Int => UInt8.ofNat n.toNat) ∘ fun c : UInt8 => (c.toNat : Int)) = id := by
    funext c
    simp
  rw [this, List.map_id]
theorem string {P : Program} {w : World} {src dst e : TypeId} {g n c : Nat} {l : List UInt8} (hs : P.underlying src = some (.slice e)) (he : P.underlying e = some (.int .u8)) (hd : P.underlying dst = some .string)
    (h : Row w g n l) : (convert src dst (.slice (some ⟨g, 0, none⟩) n c)).run P w = .ok (.string ⟨l.toArray⟩) w := by
  rw [run_convert_bytes_arg (P := P) w src e hs he g 0 n c (l.map fun c => (c.toNat : Int)) (by simp [h.1]) (fun i hi => ?_) dst hd, str_of]
  rw [Nat.zero_add, (h.2 i hi).1]
  have hl : i < l.length := by rw [h.1]; exact hi
  simp [List.getD_eq_getElem?_getD, List.getElem?_eq_getElem hl]
theorem u8_xor (x y : UInt8) : bits .xor .u8 (x.toNat : Int) (y.toNat : Int) = ((x ^^^ y).toNat : Int) := by
  have e : ∀ z : UInt8, BitVec.ofInt 8 (z.toNat : Int) = z.toBitVec := fun z => by
    rw [BitVec.ofInt_natCast]
    apply BitVec.eq_of_toNat_eq
    simp
  have hw : ∀ z : UInt8, IntKind.u8.wrap (z.toNat : Int) = (z.toNat : Int) := fun z => by
    have := z.toNat_lt
    simp [IntKind.wrap, IntKind.bits, IntKind.signed]
    omega
  have hx : ((x.toBitVec ^^^ y.toBitVec).toNat : Int) = ((x ^^^ y).toNat : Int) := rfl
  show IntKind.u8.wrap ((BitVec.ofInt 8 (x.toNat : Int) ^^^ BitVec.ofInt 8 (y.toNat : Int)).toNat : Int) = _
  rw [e, e, hx, hw]
end Go.Proofs.Ytjlgkebecpagjaa.Row8
