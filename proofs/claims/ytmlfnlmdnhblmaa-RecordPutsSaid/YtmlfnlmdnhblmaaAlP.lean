import Derived.Test.YtmlfnlmdnhblmaaBuf
set_option linter.unusedVariables false
set_option linter.unusedSimpArgs false
namespace Go.Proofs.Ytmlfnlmdnhblmaa.Al
open Go.RowKit Base Sp Go.Proofs.YtmlfnlmdnhblmaaW.PrintWords Go.Proofs.YtmlfnlmdnhblmaaW.PrintLast Wd Buf
/-- Bytes as a text. -/
def tx (l : List UInt8) : ByteArray := ⟨l.toArray⟩
theorem tx_size (l : List UInt8) : (tx l).size = l.length := rfl
theorem tx_app (a b : List UInt8) : tx (a ++ b) = tx a ++ tx b := by
  apply ByteArray.ext
  simp [tx]
theorem tx_of (s : ByteArray) : tx s.data.toList = s := rfl
theorem nums_tx (l : List Int) : strOfNums l = tx (strOfNums l).data.toList := rfl
theorem nums_zeros (k : Nat) : strOfNums (List.replicate k 0) = tx (List.replicate k 0) := by
  apply ByteArray.ext
  simp [strOfNums, tx]
/-- What Put makes of bytes. -/
def pto (l : List UInt8) (n s : Int) : List UInt8 := if pcode n s = 0 then pbytes l n s else l
theorem aput (F : Nat → Prop) (b : Nat) (l : List UInt8) (n s : Int) (w : World) (h : BB w F b l) (hl : l.length ≤ 140737488355200) (h0 : 0 ≤ n) (h1 : n < 18446744073709551616) :
    Calls Try.prog 16 #[.pointer (some ⟨b, 0, none⟩), .int .u64 n, .int .i64 s] w fun e w' => e = .returned (.int .i64 (pcode n s)) ∧ Wr w F b (pto l n s) w' := by
  unfold pto
  by_cases hc : pcode n s = 0
  · rw [if_pos hc, hc]
    exact put_good F b l n s w h hl h0 h1 hc
  · rw [if_neg hc]
    refine (put_bad b n s w h0 h1 hc).mono fun _ _ hh => ⟨hh.1, F, h.below hh.2, Mod.of hh.2, fun _ hk => .inl hk⟩
end Go.Proofs.Ytmlfnlmdnhblmaa.Al
