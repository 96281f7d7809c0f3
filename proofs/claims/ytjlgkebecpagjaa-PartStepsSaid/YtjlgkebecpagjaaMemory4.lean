import Derived.Test.YtjlgkebecpagjaaMemory3
set_option linter.unusedVariables false
set_option linter.unusedSimpArgs false
namespace Go.Proofs.Ytjlgkebecpagjaa.Memory
open Go.RowKit Base Sp Flat Go.Proofs.YtjlgkebecpagjaaW.PrintWords Go.Lib
/-- The bytes behind a Store. -/
def put (l : List UInt8) (i : Nat) (s : List UInt8) : List UInt8 := l.take i ++ s ++ l.drop (i + s.length)
theorem put_len (l : List UInt8) (i : Nat) (s : List UInt8) (h : i + s.length ≤ l.length) : (put l i s).length = l.length := by
  unfold put
  rw [List.length_append, List.length_append, List.length_take, List.length_drop]
  omega
theorem Mod.setRow {F : Nat → Prop} {w : World} {g : Nat} (hg : F g) (cs : Array Value) : Mod F w (w.setRow g cs) :=
  ⟨rfl, rfl, rfl, by simp [World.setRow], fun k _ hk => setRow_other w g k cs (fun e => hk (e ▸ hg))⟩
set_option maxRecDepth 20000 in
set_option maxHeartbeats 1000000 in
theorem store_some (F : Nat → Prop) (b : Nat) (l : List UInt8) (i : Nat) (s : ByteArray) (w : World) (h : MR w F b l) (hm : l.length ≤ 281474976710656) (hj : 0 < s.size) (hij : i + s.size ≤ l.length) :
    Calls Try.prog 38 #[.pointer (some ⟨b, 0, none⟩), .int .i64 (i : Int), .string s] w fun e w' => e = .returned (.int .i64 0) ∧ MR w' F b (put l i s.data.toList) ∧ Mod F w w' := by
  have hL := lies (.pointer (some ⟨b, 0, none⟩)) l.length (by omega) i s.size w (size_ F b l w h)
  rw [show lb l.length i s.size = true from lb_true.2 ⟨by omega, by omega, by omega, by omega⟩] at hL
  obtain ⟨A, h1, h2, h3, h4⟩ := h
  obtain ⟨g, rfl, hg, hF, hc⟩ := h4 (by omega)
  have hsl : s.data.toList.length = s.size := data_length s
  have hfit : i + s.size ≤ (byteCells l).toArray.size := by simp [byteCells]; omega
  have hrun := run_copy_row_string (P := Try.prog) w 115 9 3 5 g i (l.length - i) (l.length - i) s (byteCells l).toArray 5 Try.underlying115 (by kernel_rfl) hc (by omega) hfit
  have hrow : ((byteCells l).toArray.toList.take i ++ byteCells s.data.toList ++ (byteCells l).toArray.toList.drop (i + s.size)).toArray = (byteCells (put l i s.data.toList)).toArray := by
    unfold put
    rw [hsl]
    simp [byteCells]
  rw [hrow] at hrun
  have hpl := put_len l i s.data.toList (by omega)
  obtain ⟨w2, hw2⟩ : ∃ w2, w2 = w.setRow g (byteCells (put l i s.data.toList)).toArray := ⟨_, rfl⟩
  have hmod : Mod F w w2 := by rw [hw2]; exact Mod.setRow hF _
  have hR : MR w2 F b (put l i s.data.toList) := by
    refine ⟨some ⟨g, 0, none⟩, ?_, h2, fun k hk => Nat.lt_of_lt_of_le (h3 k hk) hmod.size, fun _ => ⟨g, rfl, hg, hF, ?_⟩⟩
    · rw [hpl, hw2, setRow_other w g b _ (Ne.symm hg)]
      exact h1
    · rw [hw2]
      exact setRow_heap w g _ _ _ _ hc
  rw [← hw2] at hrun
  have HC := Lib.hid hrun
  have c0 : w.cell? ⟨b, 0, none⟩ = some (.slice (some ⟨g, 0, none⟩) l.length l.length) := blk_cell h1 0
  have hne : ¬ (l.length = i) := by omega
  have hadd : (⟨g, 0, none⟩ : Addr).add i = ⟨g, i, none⟩ := add_plain g i
  have hil : i ≤ l.length := by omega
  have hse : s.toList ≠ [] := by
    intro e
    rw [ByteArray.toList_eq] at e
    rw [e] at hsl
    simp at hsl
    omega
  have hse2 : s.toList.isEmpty = false := by
    cases hq : s.toList with
    | nil => exact absurd hq hse
    | cons a r => rfl
  clear hrun hw2 hrow hpl hc h1 h4 hsl hfit hse
  go_enter Try.func38, Try.ntmps38
  go_wp2_with (first | (go_at_call 75; refine hL.mono ?_; rintro e w' ⟨rfl, rfl⟩) | (refine wp_copy rfl (.tmp 20) (.tmp 21) 115 9 rfl rfl rfl HC.out ?_))
  go_ret
  exact ⟨rfl, hR, hmod⟩
/-- What Load answers. -/
def ldb (l : List UInt8) (at_ n : Int) : List UInt8 := if lb l.length at_ n then (l.drop at_.toNat).take n.toNat else []
def ldc (l : List UInt8) (at_ n : Int) : Int := if lb l.length at_ n then 0 else 21
theorem load (F : Nat → Prop) (b : Nat) (l : List UInt8) (at_ n : Int) (w : World) (h : MR w F b l) (hm : l.length ≤ 281474976710656) :
    Calls Try.prog 39 #[.pointer (some ⟨b, 0, none⟩), .int .i64 at_, .int .i64 n] w fun e w' => e = .returned (.tuple #[.string ⟨(ldb l at_ n).toArray⟩, .int .i64 (ldc l at_ n)]) ∧ Below w.heap.size w w' := by
  unfold ldb ldc
  cases hl : lb l.length at_ n with
  | false =>
    refine (load_bad _ l.length (by omega) at_ n w (size_ F b l w h) hl).mono ?_
    rintro e w' ⟨rfl, rfl⟩
    exact ⟨rfl, Below.refl _ _⟩
  | true =>
    obtain ⟨h1, h2, h3, h4⟩ := lb_true.1 hl
    obtain ⟨i, rfl⟩ : ∃ i : Nat, at_ = (i : Int) := ⟨at_.toNat, by omega⟩
    obtain ⟨j, rfl⟩ : ∃ j : Nat, n = (j : Int) := ⟨n.toNat, by omega⟩
    rw [Int.toNat_natCast, Int.toNat_natCast]
    by_cases hj : 0 < j
    · exact load_some F b l i j w h hm hj (by omega)
    · obtain rfl : j = 0 := by omega
      exact load_none _ l.length (by omega) i w (size_ F b l w h) hl
theorem load_nil (at_ n : Int) (w : World) :
    Calls Try.prog 39 #[.pointer none, .int .i64 at_, .int .i64 n] w fun e w' => e = .returned (.tuple #[.string ⟨(ldb [] at_ n).toArray⟩, .int .i64 (ldc [] at_ n)]) ∧ Below w.heap.size w w' := by
  unfold ldb ldc
  cases hl : lb ([] : List UInt8).length at_ n with
  | false =>
    refine (load_bad _ 0 (by omega) at_ n w (size_nil w) hl).mono ?_
    rintro e w' ⟨rfl, rfl⟩
    exact ⟨rfl, Below.refl _ _⟩
  | true =>
    obtain ⟨h1, h2, h3, h4⟩ := lb_true.1 hl
    obtain rfl : n = 0 := by simp at h3 h4; omega
    exact load_none _ 0 (by omega) at_ w (size_nil w) hl
/-- What Store does. -/
def stb (l : List UInt8) (at_ : Int) (s : ByteArray) : List UInt8 := if lb l.length at_ s.size then put l at_.toNat s.data.toList else l
def stc (l : List UInt8) (at_ : Int) (s : ByteArray) : Int := if lb l.length at_ s.size then 0 else 21
theorem put_nil (l : List UInt8) (i : Nat) : put l i [] = l := by
  unfold put
  simp
theorem empty_of {s : ByteArray} (h : s.size = 0) : s = ⟨#[]⟩ := by
  apply ByteArray.ext
  have h : s.data.size = 0 := h
  exact Array.eq_empty_of_size_eq_zero h
theorem store (F : Nat → Prop) (b : Nat) (l : List UInt8) (at_ : Int) (s : ByteArray) (w : World) (h : MR w F b l) (hm : l.length ≤ 281474976710656) :
    Calls Try.prog 38 #[.pointer (some ⟨b, 0, none⟩), .int .i64 at_, .string s] w fun e w' => e = .returned (.int .i64 (stc l at_ s)) ∧ MR w' F b (stb l at_ s) ∧ Mod F w w' := by
  unfold stb stc
  cases hl : lb l.length at_ s.size with
  | false =>
    refine (store_bad _ l.length (by omega) at_ s w (size_ F b l w h) hl).mono ?_
    rintro e w' ⟨rfl, rfl⟩
    exact ⟨rfl, h, Mod.refl _ _⟩
  | true =>
    obtain ⟨h1, h2, h3, h4⟩ := lb_true.1 hl
    obtain ⟨i, rfl⟩ : ∃ i : Nat, at_ = (i : Int) := ⟨at_.toNat, by omega⟩
    rw [Int.toNat_natCast]
    by_cases hj : 0 < s.size
    · exact store_some F b l i s w h hm hj (by omega)
    · obtain rfl := empty_of (s := s) (by omega)
      refine (store_none _ l.length (by omega) i w (size_ F b l w h) hl).mono ?_
      rintro e w' ⟨rfl, rfl⟩
      refine ⟨rfl, ?_, Mod.refl _ _⟩
      show MR w F b (put l i [])
      rw [put_nil]
      exact h
theorem store_nil (at_ : Int) (s : ByteArray) (w : World) :
    Calls Try.prog 38 #[.pointer none, .int .i64 at_, .string s] w fun e w' => e = .returned (.int .i64 (stc [] at_ s)) ∧ w = w' := by
  unfold stc
  cases hl : lb ([] : List UInt8).length at_ s.size with
  | false => exact store_bad _ 0 (by omega) at_ s w (size_nil w) hl
  | true =>
    obtain ⟨h1, h2, h3, h4⟩ := lb_true.1 hl
    obtain rfl := empty_of (s := s) (by simp at h3 h4; omega)
    exact store_none _ 0 (by omega) at_ w (size_nil w) hl
theorem ld_all (l : List UInt8) : ldb l 0 l.length = l := by
  unfold ldb
  rw [show lb l.length 0 l.length = true from lb_true.2 ⟨by omega, by omega, by omega, by omega⟩]
  simp
theorem text (F : Nat → Prop) (b : Nat) (l : List UInt8) (w : World) (h : MR w F b l) (hm : l.length ≤ 281474976710656) :
    Calls Try.prog 37 #[.pointer (some ⟨b, 0, none⟩)] w fun e w' => e = .returned (.string ⟨l.toArray⟩) ∧ Below w.heap.size w w' := by
  have hS := size_ F b l w h
  have hL := load F b l 0 l.length w h hm
  rw [ld_all] at hL
  generalize ldc l 0 l.length = c at hL
  go_enter Try.func37, Try.ntmps37
  go_wp2_with fail
  refine hS.mono ?_
  rintro e w' ⟨rfl, rfl⟩
  go_wp2_with fail
  refine hL.mono ?_
  rintro e w' ⟨rfl, hb⟩
  go_wp2
  go_ret
  exact ⟨rfl, hb⟩
theorem text_nil (w : World) : Calls Try.prog 37 #[.pointer none] w fun e w' => e = .returned (.string ⟨#[]⟩) ∧ Below w.heap.size w w' := by
  have hL := load_nil 0 0 w
  rw [show ldb [] 0 0 = [] from rfl] at hL
  generalize ldc [] 0 0 = c at hL
  go_enter Try.func37, Try.ntmps37
  go_wp2_with fail
  refine (size_nil _).mono ?_
  rintro e w' ⟨rfl, rfl⟩
  go_wp2_with fail
  refine hL.mono ?_
  rintro e w' ⟨rfl, hb⟩
  go_wp2
  go_ret
  exact ⟨rfl, hb⟩
end Go.Proofs.Ytjlgkebecpagjaa.Memory
