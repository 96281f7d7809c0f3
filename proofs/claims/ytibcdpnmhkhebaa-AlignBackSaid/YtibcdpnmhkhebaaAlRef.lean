import Derived.Test.YtibcdpnmhkhebaaBuf
import Derived.Test.YtibcdpnmhkhebaaWdRGapAlignPuts
import Derived.Test.YtibcdpnmhkhebaaWdRPutAlignPuts
import Derived.Test.YtibcdpnmhkhebaaPAlignPutsx1
set_option linter.unusedVariables false
set_option linter.unusedSimpArgs false
namespace Go.Proofs.Ytibcdpnmhkhebaa.Al
open Go.RowKit Base Sp Go.Proofs.YtibcdpnmhkhebaaW.PrintWords Go.Proofs.YtibcdpnmhkhebaaW.PrintLast Wd Buf Go.Proofs.Ytibcdpnmhkhebaa.PAlignPuts
/-- Bytes as a text. -/
def tx (l : List UInt8) : ByteArray := ⟨l.toArray⟩
theorem tx_size (l : List UInt8) : (tx l).size = l.length := rfl
theorem tx_app (a b : List UInt8) : tx (a ++ b) = tx a ++ tx b := by
  apply ByteArray.ext
  simp [tx]
theorem tx_of (s : ByteArray) : tx s.data.toList = s := rfl
theorem nums_tx (l : List Int) : strOfNums l = tx (strOfNums l).data.toList := rfl
theorem nums_zeros (k : Nat) : strOfNums (List.replicate k 0) = tx (List.replicate k 0) := by
  apply ByteArray.ext
  simp [strOfNums, tx]
/-- What Put makes of bytes. -/
def pto (l : List UInt8) (n s : Int) : List UInt8 := if pcode n s = 0 then pbytes l n s else l
theorem rput2_eq (l : List UInt8) (n s : Int) (hl : l.length ≤ 9223372036854775000) (h0 : 0 ≤ n) (h1 : n < 18446744073709551616) : broadsheetref02_Put.f 12 (tx l) n s = some (tx (pto l n s), pcode n s) := by
  unfold broadsheetref02_Put.f
  rw [rput_eq n s 12 (by decide) h0 h1, Option.bind_some, put_res]
  unfold pto
  by_cases hc : pcode n s = 0
  · have hs8 : s ≤ 8 := by
      unfold pcode at hc
      split at hc
      · rename_i h
        have := sz_cases h
        omega
      · cases hc
    have hG := gapv_le l.length s
    have hnl := nbytes_len n s
    rw [if_pos hc, if_pos hc, put_str n s hc, RGapAlignPuts.rgap_eq _ _ 12 (by decide), Option.bind_some, tx_size]
    unfold broadsheetref02_Zeros.f
    rw [if_pos hG.1, if_pos (by omega), Option.bind_some, nums_zeros, tx_size, List.length_replicate, if_pos (by omega), ByteArray.size_append, tx_size, tx_size, List.length_replicate,
      if_pos (by show _ + (nbytes n s).length ≤ _; omega)]
    unfold pbytes
    rw [tx_app, tx_app, hc]
    rfl
  · rw [if_neg hc, if_neg hc]
theorem rput2 (l : List UInt8) (n s : Int) (hl : l.length ≤ 9223372036854775000) (h0 : 0 ≤ n) (h1 : n < 18446744073709551616) (w : World) :
    Calls Try.prog 53 #[.string (tx l), .int .u64 n, .int .i64 s] w fun e w' => e = .returned (.tuple #[.string (tx (pto l n s)), .int .i64 (pcode n s)]) ∧ Below w.heap.size w w' :=
  broadsheetref02_Put.calls 12 (tx l) n s _ _ w (rput2_eq l n s hl h0 h1)
theorem aput (F : Nat → Prop) (b : Nat) (l : List UInt8) (n s : Int) (w : World) (h : BB w F b l) (hl : l.length ≤ 140737488355200) (h0 : 0 ≤ n) (h1 : n < 18446744073709551616) :
    Calls Try.prog 54 #[.pointer (some ⟨b, 0, none⟩), .int .u64 n, .int .i64 s] w fun e w' => e = .returned (.int .i64 (pcode n s)) ∧ Wr w F b (pto l n s) w' := by
  unfold pto
  by_cases hc : pcode n s = 0
  · rw [if_pos hc, hc]
    exact put_good F b l n s w h hl h0 h1 hc
  · rw [if_neg hc]
    refine (put_bad b n s w h0 h1 hc).mono fun _ _ hh => ⟨hh.1, F, h.below hh.2, Mod.of hh.2, fun _ hk => .inl hk⟩
end Go.Proofs.Ytibcdpnmhkhebaa.Al
