import Derived.Test.YtkijeknopnjamaaBase
import Derived.Test.YtkijeknopnjamaaCrcPure
set_option linter.unusedVariables false
set_option linter.unusedSimpArgs false
namespace Go.Proofs.Ytkijeknopnjamaa.Crc
open Go.RowKit Base CrcP

theorem shN_succ (n : Nat) : ∀ x, shN (n + 1) x = sh (shN n x) := by
  induction n with
  | zero => intro x; rfl
  | succ n ih => intro x; rw [shN, ih, shN]

theorem step (r : BitVec 32) (c : UInt8) (w : World) :
    Calls Try.prog 64 #[.int .u32 (num r), .int .u8 (c.toNat : Int)] w fun e w' => e = .returned (.int .u32 (num (stepB r c))) ∧ w = w' := by
  have hc := num_byte c
  obtain ⟨d, hd⟩ : ∃ d : Int, d = (c.toNat : Int) := ⟨_, rfl⟩
  have d0 : 0 ≤ d := by omega
  have d1 : d < 256 := by have := c.toNat_lt; omega
  rw [← hd]
  rw [← hd] at hc
  have hx : bits .xor .u32 (num r) d = num (r ^^^ c.toBitVec.setWidth 32) := by rw [hc, num_xor]
  have HX : Hid (stepB r c = shN 8 (r ^^^ c.toBitVec.setWidth 32)) := rfl
  generalize r ^^^ c.toBitVec.setWidth 32 = x at hx HX
  clear hc hd
  go_enter Try.func64, Try.ntmps64
  go_wp2
  go_step3
  go_wp2
  go_step3
  go_wp2
  go_loop [0, 5, 6] (fun a n o => ∃ k : Nat, k ≤ 8 ∧ a = .int .u32 (num (shN k x)) ∧ n = .int .i64 (k : Int)) (fun _ n _ => (8 - intOf n).toNat)
  case atStart => exact ⟨0, by omega, rfl, rfl⟩
  case round =>
    obtain ⟨k, k1, rfl, rfl⟩ := hrel
    have n0 := num_lo (shN k x)
    have n1 := num_hi (shN k x)
    by_cases hk : k = 8
    · subst hk
      go_wp2
      try rw [Exit.noGoto_ret]
      go_ret
      exact ⟨bx (by rw [HX.out]), rfl⟩
    · have hk8 : ((k : Int) == 8) = false := by simp; omega
      have hlt : k < 8 := by omega
      have HS := Lib.hid (shN_succ k x)
      cases ho : (shN k x).getLsbD 0 with
      | true =>
        have h1 : (bits .and .u32 (num (shN k x)) 1 == 1) = true := by rw [num_odd, ho]
        have HR := Lib.hid (round_odd _ ho)
        clear hk ho
        go_wp2
        go_round
        case rel => exact ⟨k + 1, by omega, by rw [HR.out, HS.out], by go_num⟩
        case measure => simp [intOf]; omega
      | false =>
        have h1 : (bits .and .u32 (num (shN k x)) 1 == 1) = false := by rw [num_odd, ho]
        have HR := Lib.hid (round_even _ ho)
        clear hk ho
        go_wp2
        go_round
        case rel => exact ⟨k + 1, by omega, by rw [HR.out, HS.out], by go_num⟩
        case measure => simp [intOf]; omega

/-- A text's bytes. -/
def bytes (s : ByteArray) : List UInt8 := s.data.toList
theorem bytes_len (s : ByteArray) : (bytes s).length = s.size := by simp [bytes]
theorem take_snoc (s : ByteArray) (k : Nat) (h : k < s.size) : (bytes s).take (k + 1) = (bytes s).take k ++ [s[k]] := by
  unfold bytes
  rw [List.take_succ_eq_append_getElem (by simpa using h)]; rfl
theorem stepL_snoc (r : BitVec 32) (l : List UInt8) (c : UInt8) : stepL r (l ++ [c]) = stepB (stepL r l) c := by
  unfold stepL
  rw [List.foldl_append]
  rfl

theorem more (x : BitVec 32) (s : ByteArray) (w : World) (hs : s.size ≤ maxLen) :
    Calls Try.prog 63 #[.int .u32 (num x), .string s] w fun e w' => e = .returned (.int .u32 (num (CrcP.more x (bytes s)))) ∧ w = w' := by
  unfold maxLen at hs
  have hn := num_not x
  have HX : Hid (CrcP.more x (bytes s) = ~~~ (stepL (~~~ x) (bytes s))) := rfl
  generalize ~~~ x = y at hn HX
  go_enter Try.func63, Try.ntmps63
  go_wp2
  go_loop [5, 6, 11] (fun a _ n => ∃ k : Nat, k ≤ s.size ∧ a = .int .u32 (num (stepL y ((bytes s).take k))) ∧ n = .int .i64 (k : Int)) (fun _ _ n => (s.size - (intOf n).toNat))
  case atStart => exact ⟨0, by omega, by rw [List.take_zero]; rfl, rfl⟩
  case round =>
    obtain ⟨k, k1, rfl, rfl⟩ := hrel
    by_cases hlt : k < s.size
    · have HT := Lib.hid (take_snoc s k hlt)
      have HS := Lib.hid (stepL_snoc y ((bytes s).take k) s[k])
      go_wp2_with fail
      refine (step (stepL y ((bytes s).take k)) s[k] _).mono ?_
      rintro e w' ⟨rfl, rfl⟩
      go_wp2
      go_round
      case rel => exact ⟨k + 1, by omega, by rw [HT.out, HS.out], by go_num⟩
      case measure => simp [intOf]; omega
    · have HT : Hid ((bytes s).take k = bytes s) := by
        show (bytes s).take k = bytes s
        exact List.take_of_length_le (by rw [bytes_len]; omega)
      have hn2 := num_not (stepL y ((bytes s).take k))
      go_wp2
      go_ret
      exact ⟨bx (by rw [HX.out, HT.out]), rfl⟩

theorem sum (s : ByteArray) (w : World) (hs : s.size ≤ maxLen) :
    Calls Try.prog 56 #[.string s] w fun e w' => e = .returned (.int .u32 (num (CrcP.sum (bytes s)))) ∧ w = w' := by
  go_enter Try.func56, Try.ntmps56
  go_wp2_with fail
  refine (more 0#32 s _ hs).mono ?_
  rintro e w' ⟨rfl, rfl⟩
  go_wp2
  go_ret
  exact ⟨rfl, rfl⟩
end Go.Proofs.Ytkijeknopnjamaa.Crc
