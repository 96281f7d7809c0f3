import Derived.Test.YtibcdpnmhkhebaaAl
import Derived.Test.YtibcdpnmhkhebaaWdRGapAlignTakes
import Derived.Test.YtibcdpnmhkhebaaWdTakeAlignTakes
import Derived.Test.YtibcdpnmhkhebaaWdRTakeAlignTakes
import Derived.Test.YtibcdpnmhkhebaaPAlignTakesx3
set_option linter.unusedVariables false
set_option linter.unusedSimpArgs false
namespace Go.Proofs.Ytibcdpnmhkhebaa.Cur
open Go.RowKit Base Go.Proofs.YtibcdpnmhkhebaaW.PrintWords Go.Proofs.YtibcdpnmhkhebaaW.PrintLast Go.Proofs.YtibcdpnmhkhebaaW.PrintMore Wd Al Go.Proofs.Ytibcdpnmhkhebaa.PAlignTakes
/-- What is wrong with bytes between others: how many, and where. -/
def pad (b : ByteArray) : Nat → Nat → Int
  | 0, _ => 0
  | g + 1, a => if h : a < b.size then (if b[a] = 0 then pad b g (a + 1) else 12) else 2
/-- What Take answers: the number, the place and the error behind. -/
def ctake (b : ByteArray) (a : Nat) (e s : Int) : Int × Int × Int :=
  if e ≠ 0 then (0, a, e) else if sz s = false then (0, a, 4) else if pad b (gapv a s).toNat a ≠ 0 then (0, a, pad b (gapv a s).toNat a)
  else if (takev b ((a : Int) + gapv a s) s).2 ≠ 0 then (0, a, 2) else ((takev b ((a : Int) + gapv a s) s).1, (a : Int) + gapv a s + s, 0)
theorem takev_err (b : ByteArray) (a s : Int) (hs : 0 < s) (h0 : 0 ≤ a) : (takev b a s).2 ≠ 0 ↔ (b.size : Int) < a + s := by
  unfold takev
  split
  · constructor
    · intro _; omega
    · intro _; show (7 : Int) ≠ 0; decide
  · split
    · constructor
      · intro _; omega
      · intro _; show (2 : Int) ≠ 0; decide
    · constructor
      · intro h; exact absurd rfl h
      · intro h; omega
theorem bt_get (b : ByteArray) (a : Nat) (h : a < b.size) : bt b (a : Int) = (b[a].toNat : Int) := by
  unfold bt
  rw [Int.toNat_natCast, dif_pos h]
theorem r_two (b : ByteArray) (a : Nat) (s g : Int) (hg0 : 0 ≤ g) (hg : g ≤ 7) (hs : sz s = true) (ha : (a : Int) ≤ b.size) (hz : b.size ≤ 9223372036854775000) : ∀ (j : Nat) (i : Int) (k : Nat), 12 ≤ k → i + j = g + s → g ≤ i → (a : Int) + i ≤ b.size ∨ i = g →
    broadsheetref02_Take.l0 (j + 1 + k) b s g i a 0 = some (if (b.size : Int) < (a : Int) + g + s then (0, (a : Int), 2) else ((takev b ((a : Int) + g) s).1, (a : Int) + g + s, 0))
  | 0, i, k, hk, h, hi, hb => by
    have hc := sz_cases hs
    rw [show 0 + 1 + k = k + 1 from by omega]
    simp only [broadsheetref02_Take.l0]
    have hw : wrap64 (g + s) = g + s := by unfold wrap64; omega
    have hw2 : wrap64 ((a : Int) + g) = a + g := by unfold wrap64; omega
    have hw3 : wrap64 ((a : Int) + g + s) = a + g + s := by unfold wrap64; omega
    rw [hw, if_neg (by omega), hw2, hw3, rtake_eq b _ s k hk (by omega) (by omega) (by omega), hs, if_pos rfl, Option.bind_some, if_neg (by omega)]
  | j + 1, i, k, hk, h, hi, hb => by
    have hc := sz_cases hs
    rw [show j + 1 + 1 + k = (j + 1 + k) + 1 from by omega]
    simp only [broadsheetref02_Take.l0]
    have hw : wrap64 (g + s) = g + s := by unfold wrap64; omega
    have hw2 : wrap64 ((a : Int) + i) = a + i := by unfold wrap64; omega
    have hw3 : wrap64 (i + 1) = i + 1 := by unfold wrap64; omega
    rw [hw, if_pos (by omega), hw2, hw3]
    by_cases hge : (b.size : Int) ≤ a + i
    · rw [if_pos hge, if_pos (by omega)]
    · rw [if_neg hge, if_neg (by omega)]
      exact r_two b a s g hg0 hg hs ha hz j (i + 1) k hk (by omega) (by omega) (by omega)
theorem r_one (b : ByteArray) (a : Nat) (s g : Int) (hg0 : 0 ≤ g) (hg : g ≤ 7) (hs : sz s = true) (ha : (a : Int) ≤ b.size) (hz : b.size ≤ 9223372036854775000) : ∀ (j i : Nat) (k : Nat), 12 ≤ k → ((i + j : Nat) : Int) = g →
    broadsheetref02_Take.l0 (j + (s.toNat + 1 + k)) b s g (i : Int) a 0 = some (if pad b j (a + i) ≠ 0 then (0, (a : Int), pad b j (a + i)) else if (b.size : Int) < (a : Int) + g + s then (0, (a : Int), 2) else ((takev b ((a : Int) + g) s).1, (a : Int) + g + s, 0))
  | 0, i, k, hk, h => by
    have hc := sz_cases hs
    rw [Nat.zero_add, show pad b 0 (a + i) = 0 from rfl, if_neg (by decide)]
    exact r_two b a s g hg0 hg hs ha hz s.toNat i k hk (by omega) (by omega) (by omega)
  | j + 1, i, k, hk, h => by
    have hc := sz_cases hs
    rw [show j + 1 + (s.toNat + 1 + k) = (j + (s.toNat + 1 + k)) + 1 from by omega]
    simp only [broadsheetref02_Take.l0]
    have hw : wrap64 (g + s) = g + s := by unfold wrap64; omega
    have hw2 : wrap64 ((a : Int) + (i : Int)) = ((a + i : Nat) : Int) := by unfold wrap64; omega
    have hw3 : wrap64 ((i : Int) + 1) = ((i + 1 : Nat) : Int) := by unfold wrap64; omega
    rw [hw, if_pos (by omega), hw2, hw3, pad]
    by_cases hlt : a + i < b.size
    · rw [if_neg (by omega), dif_pos hlt, if_pos (by omega), if_pos (by omega), if_pos (by omega), bt_get b _ hlt]
      by_cases hb : b[a + i] = 0
      · rw [if_pos hb, if_pos (by rw [hb]; rfl)]
        exact r_one b a s g hg0 hg hs ha hz j (i + 1) k hk (by omega)
      · rw [if_neg hb, if_neg (fun h => hb (by
          have : b[a + i].toNat = (0 : UInt8).toNat := by simpa using h
          exact UInt8.toNat_inj.1 this)), if_pos (by decide)]
    · rw [if_pos (by omega), dif_neg hlt, if_pos (by decide)]
theorem rsz (s : Int) : broadsheetref01_Sized.f s = some (sz s) := RGapAlignTakes.rsized s
theorem rtake2_eq (b : ByteArray) (a : Nat) (e s : Int) (ha : (a : Int) ≤ b.size) (hz : b.size ≤ 9223372036854775000) : broadsheetref02_Take.f 40 b a e s = some (ctake b a e s) := by
  unfold broadsheetref02_Take.f ctake
  by_cases he : e = 0
  · rw [if_pos he, if_neg (by simpa using he), rsz, Option.bind_some]
    cases hs : sz s with
    | false => rfl
    | true =>
      have hg := gapv_le a s
      have hc := sz_cases hs
      rw [if_pos rfl, if_neg (by decide), RGapAlignTakes.rgap_eq _ _ 40 (by decide), Option.bind_some, he]
      have := r_one b a s (gapv a s) hg.1 hg.2 hs ha hz (gapv a s).toNat 0 (40 - (gapv a s).toNat - s.toNat - 1) (by omega) (by omega)
      rw [show (gapv (a : Int) s).toNat + (s.toNat + 1 + (40 - (gapv (a : Int) s).toNat - s.toNat - 1)) = 40 from by omega, Nat.add_zero] at this
      rw [show ((0 : Nat) : Int) = 0 from rfl] at this
      rw [this]
      by_cases hp : pad b (gapv a s).toNat a ≠ 0
      · rw [if_pos hp, if_pos hp]
      · rw [if_neg hp, if_neg hp]
        by_cases ht : (b.size : Int) < (a : Int) + gapv a s + s
        · rw [if_pos ht, if_pos ((takev_err b _ s (by omega) (by omega)).2 ht)]
        · rw [if_neg ht, if_neg (fun h => ht ((takev_err b _ s (by omega) (by omega)).1 h))]
  · rw [if_neg he, if_pos he]
/-- What Text answers. -/
def ctext (b : ByteArray) (a : Nat) (e n : Int) : ByteArray × Int × Int :=
  if e = 0 then (if n < 0 then (⟨#[]⟩, a, 7) else if (b.size : Int) - a < n then (⟨#[]⟩, a, 2) else (b.extract a (a + n.toNat), a + n, 0)) else (⟨#[]⟩, a, e)
theorem rtext_eq (b : ByteArray) (a : Nat) (e n : Int) (ha : (a : Int) ≤ b.size) (hz : b.size ≤ 9223372036854775000) (hn : n < 9223372036854775808) : broadsheetref02_Text.f b a e n = some (ctext b a e n) := by
  unfold broadsheetref02_Text.f ctext
  by_cases he : e = 0
  · rw [if_pos he, if_pos he]
    by_cases hn0 : n < 0
    · rw [if_pos hn0, if_pos hn0]
    · have hw : wrap64 ((b.size : Int) - a) = b.size - a := by unfold wrap64; omega
      rw [if_neg hn0, if_neg hn0, hw]
      by_cases hb : (b.size : Int) - a < n
      · rw [if_pos hb, if_pos hb]
      · have hw2 : wrap64 ((a : Int) + n) = a + n := by unfold wrap64; omega
        rw [if_neg hb, if_neg hb, hw2, if_pos (by omega), if_pos (by omega), if_pos (by omega), Int.toNat_natCast, show ((a : Int) + n).toNat = a + n.toNat from by omega]
  · rw [if_neg he, if_neg he]
/-- What Done answers. -/
def cdone (b : ByteArray) (a : Nat) (e : Int) : Int := if e = 0 ∧ a < b.size then 1 else e
theorem rdone_eq (b : ByteArray) (a : Nat) (e : Int) : broadsheetref02_Done.f b a e = some (cdone b a e) := by
  unfold broadsheetref02_Done.f cdone
  by_cases he : e = 0
  · rw [if_pos he]
    by_cases hb : a < b.size
    · rw [if_pos (by omega), if_pos ⟨he, hb⟩]
    · rw [if_neg (by omega), if_neg (fun h => hb h.2)]
  · rw [if_neg he, if_neg (fun h => he h.1)]
end Go.Proofs.Ytibcdpnmhkhebaa.Cur
