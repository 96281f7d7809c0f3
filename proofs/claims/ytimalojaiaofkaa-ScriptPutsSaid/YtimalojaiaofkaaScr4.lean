import Derived.Test.YtimalojaiaofkaaScr2
import Derived.Test.YtimalojaiaofkaaScr3
set_option linter.unusedVariables false
set_option linter.unusedSimpArgs false
namespace Go.Proofs.Ytimalojaiaofkaa.Scr
open Go.RowKit Base Sp Flat Go.Proofs.YtimalojaiaofkaaW.PrintWords Go.Proofs.YtimalojaiaofkaaW.PrintLast Go.Proofs.YtimalojaiaofkaaW.PrintMore Wd Go.Proofs.Ytimalojaiaofkaa.PScriptPuts
/-- An action without what its kind has not. -/
def plv (a : S43) : S43 := ⟨a.f0, if a.f0 = 1 then a.f1 else 0, if a.f0 = 1 ∨ a.f0 = 2 then a.f2 else ⟨#[]⟩⟩
theorem rplain (a : S43) (w : World) : Calls Try.prog 25 #[.agg #[.int .i64 a.f0, .int .i64 a.f1, .string a.f2]] w fun e w' => e = .returned (.agg #[.int .i64 (plv a).f0, .int .i64 (plv a).f1, .string (plv a).f2]) ∧ Below w.heap.size w w' := by
  refine broadsheetref45_Plain.calls _ _ _ _ _ _ w ?_
  unfold broadsheetref45_Plain.f plv
  by_cases h1 : a.f0 = 1
  · rw [if_pos h1, if_pos h1, if_pos (.inl h1)]
  · rw [if_neg h1, if_neg h1]
    by_cases h2 : a.f0 = 2
    · rw [if_pos h2, if_pos (.inr h2), h2]
    · rw [if_neg h2, if_neg (fun h => h.elim h1 h2)]
set_option maxRecDepth 20000 in
set_option maxHeartbeats 1000000 in
theorem plain1 (k a : Int) (s : ByteArray) (w : World)  : Calls Try.prog 24 #[.agg #[.int .i64 1, .int .i64 a, .string s]] w fun e w' => e = .returned (.agg #[.int .i64 1, .int .i64 a, .string s]) ∧ Below w.heap.size w w' := by
  have bb : Below w.heap.size w (((w.alloc (Obj.cells #[.int .i64 1, .int .i64 a, .string s] 43)).alloc (Obj.cells #[.int .i64 1, .int .i64 a, .string s] 43)).alloc (Obj.cells #[.int .i64 1, .int .i64 a, .string s] 43)) := (((Below.refl _ _).alloc (Nat.le_refl _) _).alloc (by simp) _).alloc (by simp; omega) _
  
  go_enter Try.func24, Try.ntmps24
  go_wp2
  exact bodyPost_ret (v := .agg #[.int .i64 1, .int .i64 a, .string s]) (by simp [results, Try.results24, go_sem]) rfl ⟨rfl, bb⟩
set_option maxRecDepth 20000 in
set_option maxHeartbeats 1000000 in
theorem plain2 (k a : Int) (s : ByteArray) (w : World)  : Calls Try.prog 24 #[.agg #[.int .i64 2, .int .i64 a, .string s]] w fun e w' => e = .returned (.agg #[.int .i64 2, .int .i64 0, .string s]) ∧ Below w.heap.size w w' := by
  have bb : Below w.heap.size w (((w.alloc (Obj.cells #[.int .i64 2, .int .i64 a, .string s] 43)).alloc (Obj.cells #[.int .i64 2, .int .i64 0, .string s] 43)).alloc (Obj.cells #[.int .i64 2, .int .i64 0, .string s] 43)) := (((Below.refl _ _).alloc (Nat.le_refl _) _).alloc (by simp) _).alloc (by simp; omega) _
  
  go_enter Try.func24, Try.ntmps24
  go_wp2
  exact bodyPost_ret (v := .agg #[.int .i64 2, .int .i64 0, .string s]) (by simp [results, Try.results24, go_sem]) rfl ⟨rfl, bb⟩
set_option maxRecDepth 20000 in
set_option maxHeartbeats 1000000 in
theorem plain3 (k a : Int) (s : ByteArray) (w : World) (h1 : (k == 1) = false) (h2 : (k == 2) = false) : Calls Try.prog 24 #[.agg #[.int .i64 k, .int .i64 a, .string s]] w fun e w' => e = .returned (.agg #[.int .i64 k, .int .i64 0, .string ⟨#[]⟩]) ∧ Below w.heap.size w w' := by
  have bb : Below w.heap.size w (((w.alloc (Obj.cells #[.int .i64 k, .int .i64 a, .string s] 43)).alloc (Obj.cells #[.int .i64 k, .int .i64 0, .string ⟨#[]⟩] 43)).alloc (Obj.cells #[.int .i64 k, .int .i64 0, .string ⟨#[]⟩] 43)) := (((Below.refl _ _).alloc (Nat.le_refl _) _).alloc (by simp) _).alloc (by simp; omega) _
  
  go_enter Try.func24, Try.ntmps24
  go_wp2
  exact bodyPost_ret (v := .agg #[.int .i64 k, .int .i64 0, .string ⟨#[]⟩]) (by simp [results, Try.results24, go_sem]) rfl ⟨rfl, bb⟩
theorem plain (a : S43) (w : World) : Calls Try.prog 24 #[.agg #[.int .i64 a.f0, .int .i64 a.f1, .string a.f2]] w fun e w' => e = .returned (.agg #[.int .i64 (plv a).f0, .int .i64 (plv a).f1, .string (plv a).f2]) ∧ Below w.heap.size w w' := by
  unfold plv
  obtain ⟨k, a, s⟩ := a
  dsimp only
  by_cases h1 : k = 1
  · subst h1
    rw [if_pos rfl, if_pos (.inl rfl)]
    exact plain1 1 a s w
  · rw [if_neg h1]
    by_cases h2 : k = 2
    · subst h2
      rw [if_pos (.inr rfl)]
      exact plain2 2 a s w
    · rw [if_neg (fun h => h.elim h1 h2)]
      exact plain3 k a s w (beq_eq_false_iff_ne.2 h1) (beq_eq_false_iff_ne.2 h2)
def lact : S43 := ⟨1, 2, ⟨#[97]⟩⟩
def lit : List S41 := [⟨[lact]⟩]
theorem one43 {w : World} {g : Nat} {t : TypeId} (h : w.heap[g]? = some (.cells #[.int .i64 1, .int .i64 2, .string ⟨#[97]⟩] t (0, 0))) : Kd.C k43 w (some ⟨g, 0, none⟩) [lact].length [lact] := by
  refine ⟨rfl, by decide, fun _ => ⟨⟨g, 0, none⟩, rfl, fun j p hj => ?_⟩⟩
  have hj3 : j < 1 := (List.getElem?_eq_some_iff.1 hj).1
  obtain rfl : j = 0 := by omega
  obtain rfl : p = lact := by simpa using hj.symm
  refine ⟨[.int .i64 1, .int .i64 2, .string ⟨#[97]⟩], rfl, k43_mk _ lact, fun i u hi => ?_⟩
  have hi2 : i < 3 := (List.getElem?_eq_some_iff.1 hi).1
  have hc : ∀ k, w.cell? ⟨g, k, none⟩ = _ := fun k => blk_cell h k
  match i, hi2, hi with
  | 0, _, hi => exact (hc 0).trans hi
  | 1, _, hi => exact (hc 1).trans hi
  | 2, _, hi => exact (hc 2).trans hi
theorem one41 {w : World} {g b : Nat} {t : TypeId} (h : w.heap[g]? = some (.cells #[.slice (some ⟨b, 0, none⟩) 1 1] t (0, 0))) (hb : Kd.C k43 w (some ⟨b, 0, none⟩) [lact].length [lact]) : Kd.C k41 w (some ⟨g, 0, none⟩) lit.length lit := by
  refine ⟨rfl, by decide, fun _ => ⟨⟨g, 0, none⟩, rfl, fun j p hj => ?_⟩⟩
  have hj3 : j < 1 := (List.getElem?_eq_some_iff.1 hj).1
  obtain rfl : j = 0 := by omega
  obtain rfl : p = ⟨[lact]⟩ := by simpa [lit] using hj.symm
  refine ⟨[.slice (some ⟨b, 0, none⟩) 1 1], rfl, k41_mk _ ⟨[lact]⟩ (by decide) hb, fun i u hi => ?_⟩
  have hi2 : i < 1 := (List.getElem?_eq_some_iff.1 hi).1
  obtain rfl : i = 0 := by omega
  exact (blk_cell h 0).trans hi
theorem lit_put : sput lit = (⟨#[1, 1, 2, 0, 0, 0, 1, 0, 97]⟩, 0) := by kernel_rfl
set_option maxRecDepth 20000 in
set_option maxHeartbeats 1000000 in
theorem awake (w : World) : Calls Try.prog 21 #[] w fun e w' => e = .returned (.bool true) ∧ Below w.heap.size w w' := by
  have hW := Lib.hid (show ∃ W, W = (w.alloc (Obj.cells #[.int .i64 1, .int .i64 2, .string ⟨#[97]⟩] 43)).alloc (Obj.cells #[.slice (some ⟨w.heap.size, 0, none⟩) 1 1] 41) from ⟨_, rfl⟩)
  have bb : Below w.heap.size w ((w.alloc (Obj.cells #[.int .i64 1, .int .i64 2, .string ⟨#[97]⟩] 43)).alloc (Obj.cells #[.slice (some ⟨w.heap.size, 0, none⟩) 1 1] 41)) := ((Below.refl _ _).alloc (Nat.le_refl _) _).alloc (by simp) _
  have g1 : ((w.alloc (Obj.cells #[.int .i64 1, .int .i64 2, .string ⟨#[97]⟩] 43)).alloc (Obj.cells #[.slice (some ⟨w.heap.size, 0, none⟩) 1 1] 41)).heap[w.heap.size]? = some (.cells #[.int .i64 1, .int .i64 2, .string ⟨#[97]⟩] 43 (0, 0)) := (Lib.alloc_old _ _ _ (by simp)).trans (heap_alloc_new _ _)
  have g2 : ((w.alloc (Obj.cells #[.int .i64 1, .int .i64 2, .string ⟨#[97]⟩] 43)).alloc (Obj.cells #[.slice (some ⟨w.heap.size, 0, none⟩) 1 1] 41)).heap[w.heap.size + 1]? = some (.cells #[.slice (some ⟨w.heap.size, 0, none⟩) 1 1] 41 (0, 0)) := by
    have := heap_alloc_new (w.alloc (Obj.cells #[.int .i64 1, .int .i64 2, .string ⟨#[97]⟩] 43)) (Obj.cells #[.slice (some ⟨w.heap.size, 0, none⟩) 1 1] 41)
    simpa using this
  have C1 := put (some ⟨w.heap.size + 1, 0, none⟩) 1 lit _ (one41 g2 (one43 g1)) (by
    intro x hx a ha
    obtain rfl : x = ⟨[lact]⟩ := by simpa [lit] using hx
    obtain rfl : a = lact := by simpa using ha
    decide)
  rw [lit_put] at C1
  clear hW g1 g2
  go_enter Try.func21, Try.ntmps21
  go_wp2_with fail
  refine C1.mono ?_
  rintro e w2 ⟨rfl, b2⟩
  clear C1
  go_wp2
  go_ret
  exact ⟨rfl, bstep bb b2⟩
end Go.Proofs.Ytimalojaiaofkaa.Scr
