import Derived.Test.YtkijeknopnjamaaMemory4
set_option linter.unusedVariables false
set_option linter.unusedSimpArgs false
namespace Go.Proofs.Ytkijeknopnjamaa.Memory
open Go.RowKit Base Sp Flat Go.Proofs.YtkijeknopnjamaaW.PrintWords Go.Lib
/-- A step: does it load, where, how many, and its text. -/
def ks : Kd (Bool × Int × Int × ByteArray) := Kd.pair Kd.bool (Kd.pair (Kd.int .i64) (Kd.pair (Kd.int .i64) Kd.string))
theorem step_cells {w : World} {A : Option Addr} {l : List (Bool × Int × Int × ByteArray)} (h : Kd.C ks w A l.length l) (i : Nat) (hi : i < l.length) :
    ∃ ad : Addr, A = some ad ∧ w.cell? (ad.add (i * 4)) = some (.bool l[i].1) ∧ w.cell? ⟨(ad.add (i * 4)).block, (ad.add (i * 4)).off + 1, none⟩ = some (.int .i64 l[i].2.1) ∧
      w.cell? ⟨(ad.add (i * 4)).block, (ad.add (i * 4)).off + 2, none⟩ = some (.int .i64 l[i].2.2.1) ∧ w.cell? ⟨(ad.add (i * 4)).block, (ad.add (i * 4)).off + 3, none⟩ = some (.string l[i].2.2.2) := by
  obtain ⟨ad, c, e, _, hK, hc0⟩ := Kd.C_get h (false, 0, 0, ByteArray.empty) (i : Int) (by omega) (by omega)
  rw [Int.toNat_natCast] at hc0 hK
  have hc : ∀ j u, c[j]? = some u → w.cell? (ad.add (i * 4 + j)) = some u := hc0
  have hx : l.getD i (false, 0, 0, ByteArray.empty) = l[i] := by rw [List.getD_eq_getElem?_getD, List.getElem?_eq_getElem hi]; rfl
  rw [hx] at hK
  obtain ⟨_, _, rfl, rfl, _, _, rfl, rfl, _, _, rfl, rfl, rfl⟩ := hK
  exact ⟨ad, e, hc 0 _ rfl, by rw [← add_field _ _ 1 (by omega)]; exact hc 1 _ rfl, by rw [← add_field _ _ 2 (by omega)]; exact hc 2 _ rfl, by rw [← add_field _ _ 3 (by omega)]; exact hc 3 _ rfl⟩
/-- What much answers. -/
def MuchR (n : Nat) (e : Ending) : Prop := ∃ r : Bool, e = .returned (.bool r) ∧ (r = false → n ≤ 100)
set_option maxRecDepth 20000 in
theorem much (A : Option Addr) (c : Nat) (l : List (Bool × Int × Int × ByteArray)) (w : World) (hC : Kd.C ks w A l.length l) (hl : (l.length : Int) < 140737488351233) (hs : ∀ x ∈ l, x.2.2.2.size ≤ 140737488351232) :
    Calls Try.prog 22 #[.slice A l.length c] w fun e w' => MuchR l.length e ∧ w = w' := by
  go_enter Try.func22, Try.ntmps22
  go_wp2
  go_loop [3, 4] (fun v i => ∃ (k : Nat) (n : Int), k ≤ l.length ∧ i = .int .i64 (k : Int) ∧ v = .int .i64 n ∧ 0 ≤ n ∧ n ≤ 1048576) (fun _ i => (l.length - (intOf i).toNat))
  case atStart => exact ⟨0, 0, by omega, rfl, rfl, by omega, by omega⟩
  case round =>
    obtain ⟨k, n, hk, rfl, rfl, h0, h1⟩ := hrel
    have k0 : (0 : Int) ≤ (k : Int) := by omega
    by_cases hlt : k < l.length
    · have k2 : (k : Int) < (l.length : Int) := by omega
      obtain ⟨ad, rfl, c0, c1, c2, c3⟩ := step_cells hC k hlt
      have hz := hs l[k] (List.getElem_mem hlt)
      generalize l[k] = x at *
      obtain ⟨x1, x2, x3, s⟩ := x
      dsimp only at c0 c1 c2 c3 hz
      go_wp2
      go_round
      case rel =>
        refine ⟨k + 1, _, by omega, by go_num, rfl, ?_, ?_⟩
        · split <;> omega
        · split <;> omega
      case measure => simp [intOf]; omega
    · have hk2 : k = l.length := by omega
      have e1 : decide ((k : Int) < (l.length : Int)) = false := decide_eq_false (by omega)
      clear hl hs hC h1 h0
      by_cases h3 : 100 < l.length
      · go_wp2
        go_ret
        exact ⟨⟨_, rfl, fun h => by simp at h⟩, rfl⟩
      · go_wp2
        go_ret
        exact ⟨⟨_, rfl, fun h => by omega⟩, rfl⟩
theorem bytes0 : (⟨([0] : List UInt8).toArray⟩ : ByteArray) = ⟨#[0]⟩ := rfl
theorem l31 : ldb (zeros (msz 4)) 3 1 = [0] := by kernel_rfl
theorem c31 : ldc (zeros (msz 4)) 3 1 = 0 := by kernel_rfl
theorem c40 : ldc (zeros (msz 4)) 4 0 = 0 := by kernel_rfl
theorem c41 : ldc (zeros (msz 4)) 4 1 = 21 := by kernel_rfl
theorem awake (w : World) : Calls Try.prog 23 #[] w fun e w' => e = .returned (.bool true) ∧ Below w.heap.size w w' := by
  go_enter Try.func23, Try.ntmps23
  go_wp2_with fail
  refine (new 4 w).mono ?_
  rintro e w1 ⟨rfl, m1, b1, s1⟩
  have hl : (zeros (msz 4)).length ≤ 281474976710656 := by rw [zeros_len]; have := msz_le 4; omega
  have h1 := load _ _ _ 3 1 w1 m1 hl
  rw [l31, c31] at h1
  go_wp2_with fail
  refine h1.mono ?_
  rintro e w2 ⟨rfl, b2⟩
  have m2 := m1.below b2
  have h2 := load _ _ _ 4 0 w2 m2 hl
  rw [c40] at h2
  go_wp2_with fail
  refine h2.mono ?_
  rintro e w3 ⟨rfl, b3⟩
  have m3 := m2.below b3
  have h3 := load _ _ _ 4 1 w3 m3 hl
  rw [c41] at h3
  go_wp2_with fail
  refine h3.mono ?_
  rintro e w4 ⟨rfl, b4⟩
  have b := bstep (bstep (bstep b1 b2) b3) b4
  clear h1 h2 h3 m1 m2 m3 b1 b2 b3 b4 hl s1
  go_wp2
  go_ret
  exact ⟨rfl, b⟩
end Go.Proofs.Ytkijeknopnjamaa.Memory
