import Derived.Test.YtmlfnlmdnhblmaaAlP
import Derived.Test.YtmlfnlmdnhblmaaWdRGapAlignPuts
import Derived.Test.YtmlfnlmdnhblmaaWdRPutAlignPuts
import Derived.Test.YtmlfnlmdnhblmaaPRecordPutsx2
set_option linter.unusedVariables false
set_option linter.unusedSimpArgs false
namespace Go.Proofs.Ytmlfnlmdnhblmaa.Al
open Go.RowKit Base Sp Go.Proofs.YtmlfnlmdnhblmaaW.PrintWords Go.Proofs.YtmlfnlmdnhblmaaW.PrintLast Wd Buf Go.Proofs.Ytmlfnlmdnhblmaa.PRecordPuts
theorem rput2_eq (l : List UInt8) (n s : Int) (hl : l.length ≤ 9223372036854775000) (h0 : 0 ≤ n) (h1 : n < 18446744073709551616) : broadsheetref02_Put.f 12 (tx l) n s = some (tx (pto l n s), pcode n s) := by
  unfold broadsheetref02_Put.f
  rw [rput_eq n s 12 (by decide) h0 h1, Option.bind_some, put_res]
  unfold pto
  by_cases hc : pcode n s = 0
  · have hs8 : s ≤ 8 := by
      unfold pcode at hc
      split at hc
      · rename_i h
        have := sz_cases h
        omega
      · cases hc
    have hG := gapv_le l.length s
    have hnl := nbytes_len n s
    rw [if_pos hc, if_pos hc, put_str n s hc, RGapAlignPuts.rgap_eq _ _ 12 (by decide), Option.bind_some, tx_size]
    unfold broadsheetref02_Zeros.f
    rw [if_pos hG.1, if_pos (by omega), Option.bind_some, nums_zeros, tx_size, List.length_replicate, if_pos (by omega), ByteArray.size_append, tx_size, tx_size, List.length_replicate,
      if_pos (by show _ + (nbytes n s).length ≤ _; omega)]
    unfold pbytes
    rw [tx_app, tx_app, hc]
    rfl
  · rw [if_neg hc, if_neg hc]
theorem rput2 (l : List UInt8) (n s : Int) (hl : l.length ≤ 9223372036854775000) (h0 : 0 ≤ n) (h1 : n < 18446744073709551616) (w : World) :
    Calls Try.prog 34 #[.string (tx l), .int .u64 n, .int .i64 s] w fun e w' => e = .returned (.tuple #[.string (tx (pto l n s)), .int .i64 (pcode n s)]) ∧ Below w.heap.size w w' :=
  broadsheetref02_Put.calls 12 (tx l) n s _ _ w (rput2_eq l n s hl h0 h1)
end Go.Proofs.Ytmlfnlmdnhblmaa.Al
