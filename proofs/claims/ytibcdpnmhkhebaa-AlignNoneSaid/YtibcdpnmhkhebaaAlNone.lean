import Derived.Test.YtibcdpnmhkhebaaCur2
import Derived.Test.YtibcdpnmhkhebaaAlPuts
set_option linter.unusedVariables false
set_option linter.unusedSimpArgs false
namespace Go.Proofs.Ytibcdpnmhkhebaa.Cur
open Go.RowKit Base Sp Flat Go.Proofs.YtibcdpnmhkhebaaW.PrintWords Go.Proofs.YtibcdpnmhkhebaaW.PrintLast Wd Al Buf
set_option maxRecDepth 20000 in
set_option maxHeartbeats 1000000 in
theorem none_ (n sz_ : Int) (s : ByteArray) (w : World) : Calls Try.prog 12 #[.int .u64 n, .int .i64 sz_, .string s] w fun e w' => e = .returned (.bool true) ∧ Below w.heap.size w w' := by
  have H0 := fresh (⟨#[]⟩ : ByteArray) w
  have b0 : Below w.heap.size w (w.alloc (.cells #[.int .i64 0, .string (⟨#[]⟩ : ByteArray), .int .i64 0] 84)) := (Below.refl _ _).alloc (Nat.le_refl _) _
  go_enter Try.func12, Try.ntmps12
  go_wp2_with fail
  refine (Buf.text_nil s w).mono ?_
  rintro e w1 ⟨rfl, rfl⟩
  go_wp2_with fail
  generalize w.alloc (.cells #[.int .i64 0, .string (⟨#[]⟩ : ByteArray), .int .i64 0] 84) = W at *
  go_wp2_with fail
  refine (Buf.put_nil n sz_ W).mono ?_
  rintro e w' ⟨rfl, rfl⟩
  go_wp2_with fail
  refine (Buf.len_nil W).mono ?_
  rintro e w' ⟨rfl, rfl⟩
  go_wp2_with fail
  refine (Buf.bytes_nil W).mono ?_
  rintro e w' ⟨rfl, rfl⟩
  go_wp2_with fail
  refine (take_nil sz_ W).mono ?_
  rintro e w' ⟨rfl, rfl⟩
  go_wp2_with fail
  refine (text_nil (s.size : Int) W).mono ?_
  rintro e w' ⟨rfl, rfl⟩
  go_wp2_with fail
  refine (at_nil W).mono ?_
  rintro e w' ⟨rfl, rfl⟩
  go_wp2_with fail
  refine (err_nil W).mono ?_
  rintro e w' ⟨rfl, rfl⟩
  go_wp2_with fail
  refine (done_nil W).mono ?_
  rintro e w' ⟨rfl, rfl⟩
  go_wp2_with fail
  refine (done w.heap.size 0 (⟨#[]⟩ : ByteArray) 0 W H0).mono ?_
  rintro e w1 ⟨rfl, b1⟩
  rw [show cdone (⟨#[]⟩ : ByteArray) 0 0 = 0 from rfl]
  have H1 := H0.below b1
  have b1 := bstep b0 b1
  clear b0 H0
  have hT := take w.heap.size 0 (⟨#[]⟩ : ByteArray) 0 1 w1 H1 (by decide) (by decide)
  rw [show ctake (⟨#[]⟩ : ByteArray) 0 0 1 = (0, 0, 2) from by kernel_rfl] at hT
  go_wp2_with fail
  refine hT.mono ?_
  rintro e w2 ⟨rfl, H2, m2⟩
  have b2 := m2.below b1 b1.size (fun k hk => by rw [show k = w.heap.size from hk]; exact Nat.le_refl _)
  clear hT b1 m2 H1
  go_wp2_with fail
  refine (err w.heap.size _ (⟨#[]⟩ : ByteArray) 2 w2 H2).mono ?_
  rintro e w3 ⟨rfl, rfl⟩
  go_wp2_with fail
  refine (Al.awake w2).mono ?_
  rintro e w3 ⟨rfl, b3⟩
  go_wp2
  go_ret
  exact ⟨rfl, bstep b2 b3⟩
end Go.Proofs.Ytibcdpnmhkhebaa.Cur
