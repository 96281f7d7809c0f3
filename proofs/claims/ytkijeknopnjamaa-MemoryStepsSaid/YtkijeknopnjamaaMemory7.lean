import Derived.Test.YtkijeknopnjamaaMemory5
import Derived.Test.YtkijeknopnjamaaCrc
set_option linter.unusedVariables false
set_option linter.unusedSimpArgs false
namespace Go.Proofs.Ytkijeknopnjamaa.Memory
open Go.RowKit Base Sp Flat CrcP Go.Proofs.YtkijeknopnjamaaW.PrintWords Go.Lib
theorem ld0 (a n : Int) : ldb [] a n = [] := by
  unfold ldb
  split <;> simp
theorem st0 (a : Int) (s : ByteArray) : stb [] a s = [] := by
  unfold stb
  split
  · rename_i h
    obtain ⟨h1, h2, h3, h4⟩ := lb_true.1 h
    obtain rfl := empty_of (s := s) (by simp at h3 h4; omega)
    exact put_nil _ _
  · rfl
theorem z0 : zeros (msz 0) = [] := by kernel_rfl
theorem sum_empty : num (CrcP.sum (Crc.bytes ⟨#[]⟩)) = 0 := by decide +kernel
theorem msum_nil (w : World) : Calls Try.prog 43 #[.pointer none] w fun e w' => e = .returned (.int .u32 0) ∧ Below w.heap.size w w' := by
  go_enter Try.func43, Try.ntmps43
  go_wp2_with fail
  refine (text_nil _).mono ?_
  rintro e w' ⟨rfl, hb⟩
  have hc := Crc.sum ⟨#[]⟩ w' (by decide)
  rw [sum_empty] at hc
  go_wp2_with fail
  refine hc.mono ?_
  rintro e w' ⟨rfl, rfl⟩
  go_wp2
  go_ret
  exact ⟨rfl, hb⟩
theorem msum (F : Nat → Prop) (b : Nat) (l : List UInt8) (w : World) (h : MR w F b l) (hm : l.length ≤ 281474976710656) :
    Calls Try.prog 43 #[.pointer (some ⟨b, 0, none⟩)] w fun e w' => e = .returned (.int .u32 (num (CrcP.sum (Crc.bytes ⟨l.toArray⟩)))) ∧ Below w.heap.size w w' := by
  have ht := text F b l w h hm
  have hz : (⟨l.toArray⟩ : ByteArray).size ≤ maxLen := by
    have e : (⟨l.toArray⟩ : ByteArray).size = l.length := rfl
    have e2 : (281474976710656 : Nat) ≤ maxLen := by decide
    omega
  have hc := fun w => Crc.sum (⟨l.toArray⟩ : ByteArray) w hz
  clear hm hz
  go_enter Try.func43, Try.ntmps43
  go_wp2_with fail
  refine ht.mono ?_
  rintro e w' ⟨rfl, hb⟩
  go_wp2_with fail
  refine (hc _).mono ?_
  rintro e w' ⟨rfl, rfl⟩
  go_wp2
  go_ret
  exact ⟨rfl, hb⟩
set_option maxRecDepth 20000 in
set_option maxHeartbeats 4000000 in
theorem none_ (a n : Int) (s : ByteArray) (w : World) :
    Calls Try.prog 12 #[.int .i64 a, .int .i64 n, .string s] w fun e w' => e = .returned (.bool true) ∧ Below w.heap.size w w' := by
  obtain ⟨q, hq⟩ : ∃ q, ldc [] a n = q := ⟨_, rfl⟩
  obtain ⟨p, hp⟩ : ∃ p, stc [] a s = p := ⟨_, rfl⟩
  have L0 := fun w => load_nil a n w
  have L1 := fun F b w h => load F b [] a n w h (by simp)
  have S0 := fun w => store_nil a s w
  have S1 := fun F b w h => store F b [] a s w h (by simp)
  have T1 := fun F b w h => text F b [] w h (by simp)
  rw [ld0, hq] at L0 L1
  rw [hp] at S0
  rw [hp, st0] at S1
  clear hq hp
  obtain ⟨W0, hW0⟩ : ∃ W0, W0 = w.alloc (.cells #[.slice none 0 0] 89) := ⟨_, rfl⟩
  have mz := MR.zero w
  have b0 : Below w.heap.size w W0 := by rw [hW0]; exact (Below.refl _ _).alloc (Nat.le_refl _) _
  rw [← hW0] at mz
  obtain ⟨F, mz, hF⟩ : ∃ F : Nat → Prop, MR W0 F w.heap.size [] ∧ ∀ k, F k → w.heap.size ≤ k := ⟨_, mz, fun k hk => by have hk : k = w.heap.size := hk; omega⟩
  go_enter Try.func12, Try.ntmps12
  go_wp2_with fail
  rw [← hW0]
  clear hW0
  refine (L0 _).mono ?_
  rintro e w1 ⟨rfl, b1⟩
  have mz1 := mz.below b1
  have b01 := bstep b0 b1
  clear mz b0 b1
  go_wp2_with fail
  refine (L1 _ _ _ mz1).mono ?_
  rintro e w2 ⟨rfl, b2⟩
  have mz2 := mz1.below b2
  have b02 := bstep b01 b2
  clear mz1 b01 b2
  go_wp2_with fail
  refine (new 0 _).mono ?_
  rintro e w3 ⟨rfl, m3, b3, s3⟩
  rw [z0] at m3
  have mz3 := mz2.below b3
  have b03 := bstep b02 b3
  clear mz2 b02 b3
  go_wp2_with fail
  refine (L1 _ _ _ m3).mono ?_
  rintro e w4 ⟨rfl, b4⟩
  have mz4 := mz3.below b4
  have b04 := bstep b03 b4
  clear mz3 b03 b4 m3 s3
  go_wp2_with fail
  refine (new 0 _).mono ?_
  rintro e w5 ⟨rfl, m5, b5, s5⟩
  rw [z0] at m5
  have mz5 := mz4.below b5
  have b05 := bstep b04 b5
  have hlt := mz4.lt
  go_wp2_with fail
  refine (S1 _ _ _ m5).mono ?_
  rintro e w6 ⟨rfl, m6, mm⟩
  have sz := b04.size
  have mz6 := mz5.far mm (fun k hk hn => by
    have h1 := hlt k hk
    have hn : k = w4.heap.size ∨ k = w4.heap.size + 1 := hn
    omega)
  have b06 := mm.below b05 (by have := b05.size; omega) (fun k hn => by
    have hn : k = w4.heap.size ∨ k = w4.heap.size + 1 := hn
    omega)
  clear mz4 mz5 b04 b05 b5 m5 m6 mm s5 sz hlt
  go_wp2_with fail
  refine (S0 _).mono ?_
  rintro e w7 ⟨rfl, rfl⟩
  go_wp2_with fail
  refine (S1 _ _ _ mz6).mono ?_
  rintro e w7 ⟨rfl, mz7, mm⟩
  have b07 := mm.below b06 b06.size hF
  clear mz6 b06 mm
  go_wp2_with fail
  refine (size_nil _).mono ?_
  rintro e w8 ⟨rfl, rfl⟩
  go_wp2_with fail
  refine (T1 _ _ _ mz7).mono ?_
  rintro e w8 ⟨rfl, b8⟩
  have b08 := bstep b07 b8
  clear b07 b8 mz7
  go_wp2_with fail
  refine (text_nil _).mono ?_
  rintro e w9 ⟨rfl, b9⟩
  have b09 := bstep b08 b9
  clear b08 b9
  go_wp2_with fail
  refine (msum_nil _).mono ?_
  rintro e w10 ⟨rfl, b10⟩
  have b010 := bstep b09 b10
  clear b09 b10
  go_wp2_with fail
  refine (awake _).mono ?_
  rintro e w11 ⟨rfl, b11⟩
  have b011 := bstep b010 b11
  clear b010 b11
  go_wp2
  go_ret
  exact ⟨rfl, b011⟩
end Go.Proofs.Ytkijeknopnjamaa.Memory
