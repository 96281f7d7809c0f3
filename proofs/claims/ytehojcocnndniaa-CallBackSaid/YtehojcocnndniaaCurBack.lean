import Derived.Test.YtehojcocnndniaaCurAt
import Derived.Test.YtehojcocnndniaaAlP
set_option linter.unusedVariables false
set_option linter.unusedSimpArgs false
namespace Go.Proofs.Ytehojcocnndniaa.Cur
open Go.RowKit Base Sp Flat Go.Proofs.YtehojcocnndniaaW.PrintWords Go.Proofs.YtehojcocnndniaaW.PrintLast Wd Al Buf
theorem tx_get (l : List UInt8) (i : Nat) (h : i < (tx l).size) : (tx l)[i] = l[i]'h := rfl
theorem pad_zeros (b : ByteArray) : ∀ (g a : Nat), (∀ j, j < g → ∃ h : a + j < b.size, b[a + j] = 0) → pad b g a = 0
  | 0, _, _ => rfl
  | g + 1, a, h => by
    obtain ⟨h0, h1⟩ := h 0 (by omega)
    rw [pad_step (by simpa using h0) (by simpa using h1)]
    exact pad_zeros b g (a + 1) (fun j hj => by
      obtain ⟨h2, h3⟩ := h (j + 1) (by omega)
      exact ⟨by omega, by have e : a + 1 + j = a + (j + 1) := by omega
                          simp only [e]; exact h3⟩)
theorem pcode_sz {n s : Int} (h : pcode n s = 0) : sz s = true ∧ n < pw s := by
  unfold pcode at h
  split at h
  · split at h
    · exact ⟨by assumption, by assumption⟩
    · cases h
  · cases h
theorem pbytes_len {n s : Int} (P : List UInt8) (h : pcode n s = 0) : ((pbytes P n s).length : Int) = P.length + gapv P.length s + s := by
  have hc := sz_cases (pcode_sz h).1
  have hg := gapv_le P.length s
  unfold pbytes
  rw [List.length_append, List.length_append, List.length_replicate, nbytes_len]
  omega
theorem ctake_back (P : List UInt8) (n s : Int) (hc : pcode n s = 0) (h0 : 0 ≤ n) (R : List UInt8) : ctake (tx (pbytes P n s ++ R)) P.length 0 s = (n, ((pbytes P n s).length : Int), 0) := by
  obtain ⟨hs, hp⟩ := pcode_sz hc
  have hg := gapv_le P.length s
  have hpad : pad (tx (pbytes P n s ++ R)) (gapv P.length s).toNat P.length = 0 := by
    refine pad_zeros _ _ _ (fun j hj => ?_)
    have hsz : (tx (pbytes P n s ++ R)).size = P.length + (gapv P.length s).toNat + (nbytes n s).length + R.length := by
      rw [tx_size, List.length_append, pbytes, List.length_append, List.length_append, List.length_replicate]
    refine ⟨by omega, ?_⟩
    rw [tx_get]
    simp only [pbytes, List.append_assoc]
    rw [List.getElem_append_right (by omega), List.getElem_append_left (by simp; omega), List.getElem_replicate]
  have htk : takev (tx (pbytes P n s ++ R)) ((P.length : Int) + gapv P.length s) s = (n, 0) := by
    have e : tx (pbytes P n s ++ R) = tx (P ++ List.replicate (gapv P.length s).toNat 0) ++ strOfNums (le n s.toNat) ++ tx R := by
      unfold pbytes
      rw [tx_app, tx_app]
      rfl
    have e2 : ((P.length : Int) + gapv P.length s) = ((tx (P ++ List.replicate (gapv P.length s).toNat 0)).size : Int) := by
      rw [tx_size, List.length_append, List.length_replicate]
      omega
    rw [e, e2]
    exact take_back _ _ n s hs h0 hp
  unfold ctake
  rw [if_neg (fun h => h rfl), if_neg (by rw [hs]; decide), hpad, if_neg (by decide), htk, if_neg (fun h => h rfl), pbytes_len P hc]
theorem extract_mid (a t b : ByteArray) : (a ++ t ++ b).extract a.size (a.size + t.size) = t := by
  apply ByteArray.ext
  apply Array.ext'
  have h1 : a.size = a.data.toList.length := rfl
  have h2 : t.size = t.data.toList.length := rfl
  rw [h1, h2, ByteArray.data_extract, ByteArray.data_append, ByteArray.data_append, Array.toList_extract, Array.toList_append, Array.toList_append, List.extract_eq_take_drop, List.append_assoc, List.drop_left, Nat.add_sub_cancel_left, List.take_left]
theorem ctext_back (P : List UInt8) (T : ByteArray) (R : List UInt8) : ctext (tx (P ++ T.data.toList ++ R)) P.length 0 T.size = (T, ((P ++ T.data.toList).length : Int), 0) := by
  have hsz : (tx (P ++ T.data.toList ++ R)).size = P.length + T.size + R.length := by
    rw [tx_size, List.length_append, List.length_append]
    rfl
  unfold ctext
  rw [if_pos rfl, if_neg (by omega), if_neg (by rw [hsz]; omega), Int.toNat_natCast]
  have e : tx (P ++ T.data.toList ++ R) = tx P ++ T ++ tx R := by rw [tx_app, tx_app]; rfl
  rw [e, show P.length = (tx P).size from rfl, extract_mid, List.length_append]
  rfl
end Go.Proofs.Ytehojcocnndniaa.Cur
