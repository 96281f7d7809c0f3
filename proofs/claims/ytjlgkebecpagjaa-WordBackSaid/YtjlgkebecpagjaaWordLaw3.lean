import Derived.Test.YtjlgkebecpagjaaWordLaw2
set_option linter.unusedVariables false
set_option linter.unusedSimpArgs false
namespace Go.Proofs.Ytjlgkebecpagjaa.WordPWordBack
open Go.RowKit Base Go.Proofs.YtjlgkebecpagjaaW.PrintWords Go.Proofs.YtjlgkebecpagjaaW.PrintLast Go.Proofs.Ytjlgkebecpagjaa.PWordBack
theorem take_f (a b : ByteArray) (n s : Int) (h : sz s = true) (h0 : 0 ≤ n) (h1 : n < pw s) (ha : a.size ≤ 140737488351232) (hb : b.size ≤ 140737488351232) :
    word_Take.f 12 (a ++ strOfNums (le n s.toNat) ++ b) (a.size : Int) s = some (n, 0) := by
  have hs := sz_cases h
  have hsz : (a ++ strOfNums (le n s.toNat) ++ b).size = a.size + s.toNat + b.size := by rw [ByteArray.size_append, ByteArray.size_append, strOfNums_size, le_len]
  rw [take_eq _ _ s 12 (by decide) (by rw [hsz]; omega) (by omega) (by omega), if_pos h, take_back a b n s h h0 h1]
set_option maxRecDepth 20000 in
set_option maxHeartbeats 800000 in
theorem back (n s : Int) (k0 k1 : ByteArray) (w : World) (h0 : 0 ≤ n) (h1 : n < 18446744073709551616) (hk0 : k0.size ≤ 140737488351232) (hk1 : k1.size ≤ 140737488351232) :
    Calls Try.prog 6 #[.int .u64 n, .int .i64 s, .agg #[.string k0, .string k1]] w fun e w' => e = .returned (.bool true) ∧ Below w.heap.size w w' := by
  have hmr : -9223372036854775808 ≤ wrap64 n ∧ wrap64 n < 9223372036854775808 := by
    unfold wrap64
    omega
  have cA := fun w => broadsheetlaw01_awake.calls 12 true w (awake_eq 12 (by decide))
  have hbits : (∃ x, word_Bits.f (wrap64 n) s = some (x, 0) ∧ word_Sign.f x s = some (wrap64 n)) ∨ (∃ x f : Int, word_Bits.f (wrap64 n) s = some (x, f) ∧ (f != 0) = true) := by
    rw [bits_eq _ s hmr.1 hmr.2]
    cases h : sz s with
    | false => exact .inr ⟨0, 4, by simp, by decide⟩
    | true =>
      rw [if_pos rfl]
      unfold bitv
      by_cases hr : -hf s ≤ wrap64 n ∧ wrap64 n < hf s
      · exact .inl ⟨wrap64 n % pw s, by rw [if_pos hr], by rw [sign_eq, h, if_pos rfl, sgn_bits h hr]⟩
      · exact .inr ⟨0, 7, by rw [if_neg hr], by decide⟩
  clear hmr
  by_cases hok : sz s = true ∧ n < pw s
  · obtain ⟨hz, hlt⟩ := hok
    have hs := sz_cases hz
    have cP := fun w => word_Put.calls 12 n s (strOfNums (le n s.toNat)) 0 w (by rw [put_eq n s 12 (by decide) h0 h1, if_pos hz]; unfold putv; rw [if_pos hlt])
    have cT := fun w => word_Take.calls 12 (k0 ++ strOfNums (le n s.toNat) ++ k1) (k0.size : Int) s n 0 w (take_f k0 k1 n s hz h0 hlt hk0 hk1)
    have hsl : (strOfNums (le n s.toNat)).size ≤ 8 := by rw [strOfNums_size, le_len]; omega
    have hse : (((strOfNums (le n s.toNat)).size : Int) != s) = false := by rw [strOfNums_size, le_len]; simp; omega
    generalize strOfNums (le n s.toNat) = S at *
    have hh := hf_le hz
    have hr := sgn_range (n := n) hz
    have cS := fun w => word_Sign.calls n s (sgn n s) w (by rw [sign_eq, hz, if_pos rfl])
    have cB := fun w => word_Bits.calls (sgn n s) s n 0 w (by rw [bits_eq _ s (by omega) (by omega), hz, if_pos rfl, bits_sgn hz h0 hlt])
    have cW := fun w => word_Wide.calls n s (wid n s) w (by unfold word_Wide.f; rw [sign_eq, hz]; rfl)
    have cW2 := fun w => word_Wide.calls (wid n s) s (wid n s) w (by unfold word_Wide.f; rw [sign_eq, hz]; exact congrArg some (wid_wid hz))
    generalize sgn n s = sg at *
    generalize wid n s = wn at *
    clear hh hr hs hlt hz
    have cP := Lib.hid cP
    have cT := Lib.hid cT
    have cS := Lib.hid cS
    have cB := Lib.hid cB
    have cW := Lib.hid cW
    have cW2 := Lib.hid cW2
    have cA := Lib.hid cA
    rcases hbits with ⟨x, hx, hy⟩ | ⟨x, f, hx, hf⟩
    · have cX := Lib.hid (fun w => word_Bits.calls _ s x 0 w hx)
      have cY := Lib.hid (fun w => word_Sign.calls x s _ w hy)
      clear hx hy
      go_enter Try.func6, Try.ntmps6
      go_wp2_with fail
      refine (cP.out _).mono ?_
      rintro e w1 ⟨rfl, hb1⟩
      have z0 := cbel hb1 (a := ⟨w.heap.size, 0, none⟩) (u := .string k0) (by simp) (by simp)
      have z1 := cbel hb1 (a := ⟨w.heap.size, 1, none⟩) (u := .string k1) (by simp) (by simp)
      have hB : Below w.heap.size w w1 := ((Below.refl _ _).alloc (Nat.le_refl _) _).trans (hb1.mono (by simp))
      clear hb1
      go_wp2_with fail
      refine (cT.out _).mono ?_
      rintro e w' ⟨rfl, ⟨⟨n1, rfl⟩⟩⟩
      go_wp2_with fail
      refine (cS.out _).mono ?_
      rintro e w' ⟨rfl, ⟨⟨n2, rfl⟩⟩⟩
      go_wp2_with fail
      refine (cB.out _).mono ?_
      rintro e w' ⟨rfl, ⟨⟨n3, rfl⟩⟩⟩
      go_wp2_with fail
      refine (cW.out _).mono ?_
      rintro e w' ⟨rfl, ⟨⟨n4, rfl⟩⟩⟩
      go_wp2_with fail
      refine (cW2.out _).mono ?_
      rintro e w' ⟨rfl, ⟨⟨n5, rfl⟩⟩⟩
      go_wp2_with fail
      refine (cW.out _).mono ?_
      rintro e w' ⟨rfl, ⟨⟨n6, rfl⟩⟩⟩
      go_wp2_with fail
      refine (cX.out _).mono ?_
      rintro e w' ⟨rfl, ⟨⟨n7, rfl⟩⟩⟩
      go_wp2_with fail
      refine (cY.out _).mono ?_
      rintro e w' ⟨rfl, ⟨⟨n8, rfl⟩⟩⟩
      go_wp2_with fail
      refine (cA.out _).mono ?_
      rintro e w' ⟨rfl, hb2⟩
      go_wp2
      go_ret
      refine ⟨rfl, Below.trans ?_ (hb2.mono ?_)⟩
      · repeat (first | exact hB | apply pw_below_drewN)
      · exact hB.size
    · have cX := Lib.hid (fun w => word_Bits.calls _ s x f w hx)
      clear hx
      go_enter Try.func6, Try.ntmps6
      go_wp2_with fail
      refine (cP.out _).mono ?_
      rintro e w1 ⟨rfl, hb1⟩
      have z0 := cbel hb1 (a := ⟨w.heap.size, 0, none⟩) (u := .string k0) (by simp) (by simp)
      have z1 := cbel hb1 (a := ⟨w.heap.size, 1, none⟩) (u := .string k1) (by simp) (by simp)
      have hB : Below w.heap.size w w1 := ((Below.refl _ _).alloc (Nat.le_refl _) _).trans (hb1.mono (by simp))
      clear hb1
      go_wp2_with fail
      refine (cT.out _).mono ?_
      rintro e w' ⟨rfl, ⟨⟨n1, rfl⟩⟩⟩
      go_wp2_with fail
      refine (cS.out _).mono ?_
      rintro e w' ⟨rfl, ⟨⟨n2, rfl⟩⟩⟩
      go_wp2_with fail
      refine (cB.out _).mono ?_
      rintro e w' ⟨rfl, ⟨⟨n3, rfl⟩⟩⟩
      go_wp2_with fail
      refine (cW.out _).mono ?_
      rintro e w' ⟨rfl, ⟨⟨n4, rfl⟩⟩⟩
      go_wp2_with fail
      refine (cW2.out _).mono ?_
      rintro e w' ⟨rfl, ⟨⟨n5, rfl⟩⟩⟩
      go_wp2_with fail
      refine (cW.out _).mono ?_
      rintro e w' ⟨rfl, ⟨⟨n6, rfl⟩⟩⟩
      go_wp2_with fail
      refine (cX.out _).mono ?_
      rintro e w' ⟨rfl, ⟨⟨n7, rfl⟩⟩⟩
      go_wp2_with fail
      refine (cA.out _).mono ?_
      rintro e w' ⟨rfl, hb2⟩
      go_wp2
      go_ret
      refine ⟨rfl, Below.trans ?_ (hb2.mono ?_)⟩
      · repeat (first | exact hB | apply pw_below_drewN)
      · exact hB.size
  · have hput : ∃ ec : Int, word_Put.f 12 n s = some (⟨#[]⟩, ec) ∧ (ec == 0) = false := by
      rw [put_eq n s 12 (by decide) h0 h1]
      cases h : sz s with
      | false => exact ⟨4, by simp, by decide⟩
      | true =>
        refine ⟨7, ?_, by decide⟩
        rw [if_pos rfl]
        unfold putv
        rw [if_neg (fun h' => hok ⟨h, h'⟩)]
    obtain ⟨ec, hput, hec⟩ := hput
    have cP := Lib.hid (fun w => word_Put.calls 12 n s _ ec w hput)
    have cA := Lib.hid cA
    clear hput hok
    rcases hbits with ⟨x, hx, hy⟩ | ⟨x, f, hx, hf⟩
    · have cX := Lib.hid (fun w => word_Bits.calls _ s x 0 w hx)
      have cY := Lib.hid (fun w => word_Sign.calls x s _ w hy)
      clear hx hy
      go_enter Try.func6, Try.ntmps6
      go_wp2_with fail
      refine (cP.out _).mono ?_
      rintro e w1 ⟨rfl, hb1⟩
      have hB : Below w.heap.size w w1 := ((Below.refl _ _).alloc (Nat.le_refl _) _).trans (hb1.mono (by simp))
      clear hb1
      go_wp2_with fail
      refine (cX.out _).mono ?_
      rintro e w' ⟨rfl, ⟨⟨n7, rfl⟩⟩⟩
      go_wp2_with fail
      refine (cY.out _).mono ?_
      rintro e w' ⟨rfl, ⟨⟨n8, rfl⟩⟩⟩
      go_wp2_with fail
      refine (cA.out _).mono ?_
      rintro e w' ⟨rfl, hb2⟩
      go_wp2
      go_ret
      refine ⟨rfl, Below.trans ?_ (hb2.mono ?_)⟩
      · repeat (first | exact hB | apply pw_below_drewN)
      · exact hB.size
    · have cX := Lib.hid (fun w => word_Bits.calls _ s x f w hx)
      clear hx
      go_enter Try.func6, Try.ntmps6
      go_wp2_with fail
      refine (cP.out _).mono ?_
      rintro e w1 ⟨rfl, hb1⟩
      have hB : Below w.heap.size w w1 := ((Below.refl _ _).alloc (Nat.le_refl _) _).trans (hb1.mono (by simp))
      clear hb1
      go_wp2_with fail
      refine (cX.out _).mono ?_
      rintro e w' ⟨rfl, ⟨⟨n7, rfl⟩⟩⟩
      go_wp2_with fail
      refine (cA.out _).mono ?_
      rintro e w' ⟨rfl, hb2⟩
      go_wp2
      go_ret
      refine ⟨rfl, Below.trans ?_ (hb2.mono ?_)⟩
      · repeat (first | exact hB | apply pw_below_drewN)
      · exact hB.size
end Go.Proofs.Ytjlgkebecpagjaa.WordPWordBack
namespace Go.Proofs.Ytjlgkebecpagjaa.Open
open Go.RowKit Base
theorem two_string {H : Type} {enc : TypeId × Value → H} {P : Program} {w : World} {t e : TypeId} {cs : Array Value} (hu : P.underlying t = some (.array 2 e)) (he : P.underlying e = some .string) (hn : P.cellsOf t = 2 ∧ P.cellsOf e = 1) (hs : cs.size = P.cellsOf t) (h : Tr enc P w t cs.toList) :
    ∃ x y : ByteArray, cs = #[.string x, .string y] ∧ x.size ≤ reachBytes ∧ y.size ≤ reachBytes := by
  obtain ⟨h1, h2⟩ := hn
  rw [h1] at hs
  obtain ⟨_, h⟩ := tr_array hu h
  rw [h2] at h
  obtain ⟨l⟩ := cs
  match l, hs with
  | [a, b], _ =>
    obtain ⟨x, e0, w0⟩ := tr_string he (h 0 (by omega))
    obtain ⟨y, e1, w1⟩ := tr_string he (h 1 (by omega))
    simp at e0 e1
    exact ⟨x, y, by rw [e0, e1], w0, w1⟩
end Go.Proofs.Ytjlgkebecpagjaa.Open
