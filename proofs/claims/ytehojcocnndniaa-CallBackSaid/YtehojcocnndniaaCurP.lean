import Derived.Test.YtehojcocnndniaaAl
import Derived.Test.YtehojcocnndniaaWdTakeAlignTakes
set_option linter.unusedVariables false
set_option linter.unusedSimpArgs false
namespace Go.Proofs.Ytehojcocnndniaa.Cur
open Go.RowKit Base Go.Proofs.YtehojcocnndniaaW.PrintWords Go.Proofs.YtehojcocnndniaaW.PrintLast Go.Proofs.YtehojcocnndniaaW.PrintMore Wd Al
/-- What is wrong with bytes between others: how many, and where. -/
def pad (b : ByteArray) : Nat → Nat → Int
  | 0, _ => 0
  | g + 1, a => if h : a < b.size then (if b[a] = 0 then pad b g (a + 1) else 12) else 2
/-- What Take answers: the number, the place and the error behind. -/
def ctake (b : ByteArray) (a : Nat) (e s : Int) : Int × Int × Int :=
  if e ≠ 0 then (0, a, e) else if sz s = false then (0, a, 4) else if pad b (gapv a s).toNat a ≠ 0 then (0, a, pad b (gapv a s).toNat a)
  else if (takev b ((a : Int) + gapv a s) s).2 ≠ 0 then (0, a, 2) else ((takev b ((a : Int) + gapv a s) s).1, (a : Int) + gapv a s + s, 0)
theorem takev_err (b : ByteArray) (a s : Int) (hs : 0 < s) (h0 : 0 ≤ a) : (takev b a s).2 ≠ 0 ↔ (b.size : Int) < a + s := by
  unfold takev
  split
  · constructor
    · intro _; omega
    · intro _; show (7 : Int) ≠ 0; decide
  · split
    · constructor
      · intro _; omega
      · intro _; show (2 : Int) ≠ 0; decide
    · constructor
      · intro h; exact absurd rfl h
      · intro h; omega
theorem bt_get (b : ByteArray) (a : Nat) (h : a < b.size) : bt b (a : Int) = (b[a].toNat : Int) := by
  unfold bt
  rw [Int.toNat_natCast, dif_pos h]
/-- What Text answers. -/
def ctext (b : ByteArray) (a : Nat) (e n : Int) : ByteArray × Int × Int :=
  if e = 0 then (if n < 0 then (⟨#[]⟩, a, 7) else if (b.size : Int) - a < n then (⟨#[]⟩, a, 2) else (b.extract a (a + n.toNat), a + n, 0)) else (⟨#[]⟩, a, e)
/-- What Done answers. -/
def cdone (b : ByteArray) (a : Nat) (e : Int) : Int := if e = 0 ∧ a < b.size then 1 else e
end Go.Proofs.Ytehojcocnndniaa.Cur
