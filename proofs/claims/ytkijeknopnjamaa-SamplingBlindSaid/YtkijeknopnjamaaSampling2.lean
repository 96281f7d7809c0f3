import Derived.Test.YtkijeknopnjamaaSampling
import Derived.Test.YtkijeknopnjamaaStep
set_option linter.unusedVariables false
set_option linter.unusedSimpArgs false
namespace Go.Proofs.Ytkijeknopnjamaa.Sampling
open Go.RowKit Base
set_option maxHeartbeats 1000000 in
theorem none_ (s : ByteArray) (n : Int) (w : World) : Calls Try.prog 5 #[.string s, .int .u64 n] w fun e w' => e = .returned (.bool true) ∧ Below w.heap.size w w' := by
  have p0 := Port.new w 0
  have b0 : Below w.heap.size w (w.alloc (.cells #[.int .i64 0, .bool false, .string ByteArray.empty, .int .u64 0] 43)) := (Below.refl _ _).alloc (Nat.le_refl _) _
  have z0 : mx 0 = 0 := rfl
  by_cases h0 : s.size = 0
  · have hp1 := p0.put s n
    have b1 := put_below (s := s) (n := n) b0 (Nat.le_refl _)
    have hs1 : w.heap.size < (put (w.alloc (.cells #[.int .i64 0, .bool false, .string ByteArray.empty, .int .u64 0] 43)) w.heap.size s n).heap.size := by rw [put_size]; simp
    go_enter Try.func5, Try.ntmps5
    go_wp2_with fail
    refine (read_nil n _).mono ?_
    rintro e w' ⟨rfl, rfl⟩
    go_wp2_with fail
    refine (read_none n 0 _ _ p0).mono ?_
    rintro e w' ⟨rfl, rfl⟩
    go_wp2_with fail
    refine (write_nil s n _).mono ?_
    rintro e w' ⟨rfl, rfl⟩
    go_wp2_with fail
    refine (size_nil _).mono ?_
    rintro e w' ⟨rfl, rfl⟩
    go_wp2_with fail
    refine (write s n 0 _ _ _ _ _ p0 (by omega)).mono ?_
    rintro e w' ⟨rfl, rfl⟩
    generalize put (w.alloc (.cells #[.int .i64 0, .bool false, .string ByteArray.empty, .int .u64 0] 43)) w.heap.size s n = w1 at *
    go_wp2_with fail
    refine (new 0 _).mono ?_
    rintro e w' ⟨rfl, rfl⟩
    rw [z0]
    go_wp2_with fail
    refine (write s n 0 _ _ _ _ _ (Port.new w1 0) (by omega)).mono ?_
    rintro e w' ⟨rfl, rfl⟩
    have hp2 := (hp1.below ((Below.refl w1.heap.size w1).alloc (Nat.le_refl _) (.cells #[.int .i64 0, .bool false, .string ByteArray.empty, .int .u64 0] 43)) hs1).far (c := w1.heap.size) s n (by omega)
    have b2 := put_below (s := s) (n := n) (b := w1.heap.size) (b1.alloc b1.size (.cells #[.int .i64 0, .bool false, .string ByteArray.empty, .int .u64 0] 43)) b1.size
    go_wp2_with fail
    refine (size_ _ _ _ hp2.1).mono ?_
    rintro e w' ⟨rfl, rfl⟩
    go_wp2_with fail
    refine (awake _).mono ?_
    rintro e w' ⟨rfl, hb⟩
    go_wp2
    go_ret
    exact ⟨rfl, bstep b2 hb⟩
  · have hl : (0 : Int) < (s.size : Int) := by omega
    go_enter Try.func5, Try.ntmps5
    go_wp2_with fail
    refine (read_nil n _).mono ?_
    rintro e w' ⟨rfl, rfl⟩
    go_wp2_with fail
    refine (read_none n 0 _ _ p0).mono ?_
    rintro e w' ⟨rfl, rfl⟩
    go_wp2_with fail
    refine (write_nil s n _).mono ?_
    rintro e w' ⟨rfl, rfl⟩
    go_wp2_with fail
    refine (size_nil _).mono ?_
    rintro e w' ⟨rfl, rfl⟩
    go_wp2_with fail
    refine (write_long s n 0 _ _ p0.1 hl).mono ?_
    rintro e w' ⟨rfl, rfl⟩
    go_wp2_with fail
    refine (new 0 _).mono ?_
    rintro e w' ⟨rfl, rfl⟩
    rw [z0]
    generalize w.alloc (.cells #[.int .i64 0, .bool false, .string ByteArray.empty, .int .u64 0] 43) = w1 at *
    go_wp2_with fail
    refine (write_long s n 0 _ _ (Port.new w1 0).1 hl).mono ?_
    rintro e w' ⟨rfl, rfl⟩
    go_wp2_with fail
    refine (size_ _ _ _ (cnew p0.1)).mono ?_
    rintro e w' ⟨rfl, rfl⟩
    go_wp2_with fail
    refine (awake _).mono ?_
    rintro e w' ⟨rfl, hb⟩
    go_wp2
    go_ret
    exact ⟨rfl, bstep (b0.alloc b0.size _) hb⟩
end Go.Proofs.Ytkijeknopnjamaa.Sampling
