import Derived.Test.YtehojcocnndniaaCurP
import Derived.Test.YtehojcocnndniaaBuf
set_option linter.unusedVariables false
set_option linter.unusedSimpArgs false
namespace Go.Proofs.Ytehojcocnndniaa.Cur
open Go.RowKit Base Sp Flat Go.Proofs.YtehojcocnndniaaW.PrintWords Go.Proofs.YtehojcocnndniaaW.PrintLast Wd Al Buf
/-- A cursor in block c. -/
def CB (w : World) (c : Nat) (a : Nat) (b : ByteArray) (e : Int) : Prop := w.heap[c]? = some (.cells #[.int .i64 (a : Int), .string b, .int .i64 e] 132 (0, 0))
theorem three {w : World} {c a : Nat} {b : ByteArray} {e : Int} (h : CB w c a b e) :
    (w.cell? ⟨c, 0, none⟩ = some (.int .i64 (a : Int)) ∧ w.cell? ⟨c, 1, none⟩ = some (.string b) ∧ w.cell? ⟨c, 2, none⟩ = some (.int .i64 e)) ∧ w.frozen? ⟨c, 0, none⟩ = false ∧ w.frozen? ⟨c, 2, none⟩ = false :=
  ⟨⟨blk_cell h 0, blk_cell h 1, blk_cell h 2⟩, blk_frozen h 0, blk_frozen h 2⟩
theorem CB.lt {w : World} {c a : Nat} {b : ByteArray} {e : Int} (h : CB w c a b e) : c < w.heap.size := blk_lt h
theorem CB.below {w w' : World} {c a : Nat} {b : ByteArray} {e : Int} (h : CB w c a b e) (hb : Below w.heap.size w w') : CB w' c a b e := (hb.block c h.lt).trans h
theorem CB.far {w w' : World} {c a : Nat} {b : ByteArray} {e : Int} {F : Nat → Prop} (h : CB w c a b e) (hm : Mod F w w') (hF : ¬ F c) : CB w' c a b e := (hm.block c h.lt hF).trans h
theorem CB.err {w : World} {c a : Nat} {b : ByteArray} {e : Int} (h : CB w c a b e) (x : Int) : CB (w.setCell ⟨c, 2, none⟩ (.int .i64 x)) c a b x := by simpa [CB] using blk_set h 2 (.int .i64 x)
theorem CB.place {w : World} {c a : Nat} {b : ByteArray} {e : Int} (h : CB w c a b e) (x : Nat) : CB (w.setCell ⟨c, 0, none⟩ (.int .i64 (x : Int))) c x b e := by simpa [CB] using blk_set h 0 (.int .i64 (x : Int))
theorem fresh (b : ByteArray) (w : World) : CB (w.alloc (.cells #[.int .i64 0, .string b, .int .i64 0] 132)) w.heap.size 0 b 0 := heap_alloc_new _ _
theorem read (b : ByteArray) (w : World) : Calls Try.prog 50 #[.string b] w fun e w' => e = .returned (.pointer (some ⟨w.heap.size, 0, none⟩)) ∧ CB w' w.heap.size 0 b 0 ∧ Below w.heap.size w w' := by
  have H := Lib.hid (fresh b w)
  go_enter Try.func50, Try.ntmps50
  go_wp2
  go_ret
  exact ⟨rfl, H.out, (Below.refl _ _).alloc (Nat.le_refl _) _⟩
theorem fail_ (c a : Nat) (b : ByteArray) (e x : Int) (w : World) (h : CB w c a b e) : Calls Try.prog 76 #[.pointer (some ⟨c, 0, none⟩), .int .i64 x] w fun e w' => e = .returned (.tuple #[]) ∧ CB w' c a b x ∧ Mod (At c) w w' := by
  obtain ⟨⟨c0, c1, c2⟩, g0, g2⟩ := three h
  have H := Lib.hid h
  clear h
  go_enter Try.func76, Try.ntmps76
  go_wp2
  go_end0
  exact ⟨rfl, H.out.err x, at_set (Mod.refl _ _) _ _⟩
theorem at_ (c a : Nat) (b : ByteArray) (e : Int) (w : World) (h : CB w c a b e) : Calls Try.prog 81 #[.pointer (some ⟨c, 0, none⟩)] w fun e w' => e = .returned (.int .i64 (a : Int)) ∧ w = w' := by
  obtain ⟨⟨c0, c1, c2⟩, g0, g2⟩ := three h
  clear h
  go_enter Try.func81, Try.ntmps81
  go_wp2
  go_ret
  exact ⟨rfl, rfl⟩
theorem err (c a : Nat) (b : ByteArray) (e : Int) (w : World) (h : CB w c a b e) : Calls Try.prog 80 #[.pointer (some ⟨c, 0, none⟩)] w fun e' w' => e' = .returned (.int .i64 e) ∧ w = w' := by
  obtain ⟨⟨c0, c1, c2⟩, g0, g2⟩ := three h
  clear h
  go_enter Try.func80, Try.ntmps80
  go_wp2
  go_ret
  exact ⟨rfl, rfl⟩
theorem at_nil (w : World) : Calls Try.prog 81 #[.pointer none] w fun e w' => e = .returned (.int .i64 0) ∧ w = w' := by
  go_enter Try.func81, Try.ntmps81
  go_wp2
  go_ret
  exact ⟨rfl, rfl⟩
theorem err_nil (w : World) : Calls Try.prog 80 #[.pointer none] w fun e w' => e = .returned (.int .i64 0) ∧ w = w' := by
  go_enter Try.func80, Try.ntmps80
  go_wp2
  go_ret
  exact ⟨rfl, rfl⟩
theorem take_nil (s : Int) (w : World) : Calls Try.prog 51 #[.pointer none, .int .i64 s] w fun e w' => e = .returned (.int .u64 0) ∧ w = w' := by
  go_enter Try.func51, Try.ntmps51
  go_wp2
  go_ret
  exact ⟨rfl, rfl⟩
theorem text_nil (n : Int) (w : World) : Calls Try.prog 79 #[.pointer none, .int .i64 n] w fun e w' => e = .returned (.string ⟨#[]⟩) ∧ w = w' := by
  go_enter Try.func79, Try.ntmps79
  go_wp2
  go_ret
  exact ⟨rfl, rfl⟩
theorem done_nil (w : World) : Calls Try.prog 86 #[.pointer none] w fun e w' => e = .returned (.int .i64 0) ∧ w = w' := by
  go_enter Try.func86, Try.ntmps86
  go_wp2_with fail
  refine (err_nil w).mono ?_
  rintro e w' ⟨rfl, rfl⟩
  go_wp2
  go_ret
  exact ⟨rfl, rfl⟩
theorem done (c a : Nat) (b : ByteArray) (e : Int) (w : World) (h : CB w c a b e) : Calls Try.prog 86 #[.pointer (some ⟨c, 0, none⟩)] w fun e' w' => e' = .returned (.int .i64 (cdone b a e)) ∧ Below w.heap.size w w' := by
  have HE := err c a b e w h
  obtain ⟨⟨c0, c1, c2⟩, g0, g2⟩ := three h
  clear h
  by_cases he : e = 0
  · subst he
    by_cases hb : a < b.size
    · rw [show cdone b a 0 = 1 from if_pos ⟨rfl, hb⟩]
      have hb2 : (a : Int) < (b.size : Int) := by omega
      go_enter Try.func86, Try.ntmps86
      go_wp2
      go_quiet (fail)
      go_wp2
      go_ret
      exact ⟨rfl, pw_below_drewN (Below.refl _ _) _⟩
    · rw [show cdone b a 0 = 0 from if_neg (fun h => hb h.2)]
      have hb2 : ¬ (a : Int) < (b.size : Int) := by omega
      go_enter Try.func86, Try.ntmps86
      go_wp2
      go_quiet (fail)
      go_wp2
      go_ret
      exact ⟨rfl, pw_below_drewN (Below.refl _ _) _⟩
  · have e1 : (e == 0) = false := by simpa using he
    rw [show cdone b a e = e from if_neg (fun h => he h.1)]
    go_enter Try.func86, Try.ntmps86
    go_wp2_with fail
    refine HE.mono ?_
    rintro e' w' ⟨rfl, rfl⟩
    go_wp2
    go_ret
    exact ⟨rfl, Below.refl _ _⟩
end Go.Proofs.Ytehojcocnndniaa.Cur
