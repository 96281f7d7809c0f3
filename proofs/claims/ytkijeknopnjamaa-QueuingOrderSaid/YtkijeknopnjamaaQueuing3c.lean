import Derived.Test.YtkijeknopnjamaaQueuing3b
import Derived.Test.YtkijeknopnjamaaPQueuingStepsx1
set_option linter.unusedVariables false
set_option linter.unusedSimpArgs false
namespace Go.Proofs.Ytkijeknopnjamaa.Queuing
open Go.RowKit Base Sp Flat Go.Proofs.YtkijeknopnjamaaW.PrintWords
theorem rsend (G : Nat → Prop) (z d q : Int) (l : List ByteArray) (s x : Int) (m : ByteArray) (v : Value) (w : World) (hr : Rd Kd.string w G v l) (hG : ∀ k, G k → k < w.heap.size) (hs0 : 0 ≤ s) (hq : q < 9223372036854775808) (hx0 : 0 ≤ x) (hx : x ≤ 1000)
    (hl : l.length ≤ 999) (hd : (l.length : Int) ≤ d) :
    Calls Try.prog 36 #[.agg #[.int .i64 z, .int .i64 d, .int .i64 q, v, .int .i64 s, .int .u64 x], .string m] w (RS G z d q (sl z d q s l m) (ss z q s m) (sx z d q s x l m) (code z q s m) w) := by
  unfold code sl ss sx
  by_cases h1 : z < (m.size : Int)
  · rw [if_pos h1, if_pos h1, if_pos h1, if_pos h1]
    exact rsend_long G z d q l s x m v w hr hG h1
  · rw [if_neg h1, if_neg h1, if_neg h1, if_neg h1]
    by_cases h2 : q ≤ s
    · rw [if_pos h2, if_pos h2, if_pos h2, if_pos h2]
      exact rsend_full G z d q l s x m v w hr hG (by omega) h2
    · rw [if_neg h2, if_neg h2, if_neg h2, if_neg h2]
      unfold nl nx
      by_cases h3 : (l.length : Int) + 1 ≤ d
      · rw [if_pos h3, if_pos h3]
        exact rsend_put G z d q l s x m v w hr hG (by omega) (by omega) hs0 hq hx0 hx (by omega) (by omega)
      · rw [if_neg h3, if_neg h3]
        cases l with
        | nil =>
          obtain rfl : d = 0 := by simp at h3 hd; omega
          exact rsend_zero G z q [] s x m v w hr hG (by omega) (by omega) hs0 hq hx0 hx
        | cons a r => exact rsend_cut G z d q a r s x m v w hr hG (by omega) (by omega) hs0 hq hx0 hx (by omega) (by omega)
/-- What ref.Receive returns. -/
def RR (G : Nat → Prop) (z d q : Int) (l : List ByteArray) (s x : Int) (m : ByteArray) (b : Bool) (w : World) (e : Ending) (w' : World) : Prop :=
  ∃ v', e = .returned (.tuple #[.agg #[.int .i64 z, .int .i64 d, .int .i64 q, v', .int .i64 s, .int .u64 x], .string m, .bool b]) ∧ Rd Kd.string w' (fun k => G k ∨ (w.heap.size ≤ k ∧ k < w'.heap.size)) v' l ∧ Below w.heap.size w w'
theorem rreceive_none (G : Nat → Prop) (z d q : Int) (s x : Int) (v : Value) (w : World) (hr : Rd Kd.string w G v []) (hG : ∀ k, G k → k < w.heap.size) :
    Calls Try.prog 37 #[.agg #[.int .i64 z, .int .i64 d, .int .i64 q, v, .int .i64 s, .int .u64 x]] w (RR G z d q [] s x ByteArray.empty false w) := by
  obtain ⟨A, c, rfl, hl, hC⟩ := hr.get
  go_enter Try.func37, Try.ntmps37
  go_wp2
  exact bodyPost_ret (v := .tuple #[.agg #[.int .i64 z, .int .i64 d, .int .i64 q, .slice A 0 c, .int .i64 s, .int .u64 x], .string ⟨#[]⟩, .bool false]) (by simp [results, Try.results37, go_sem]) rfl ⟨_, rfl, rd_new hr hG _ _⟩
theorem rreceive_first (G : Nat → Prop) (z d q : Int) (m : ByteArray) (l : List ByteArray) (s x : Int) (v : Value) (w : World) (hr : Rd Kd.string w G v (m :: l)) (hG : ∀ k, G k → k < w.heap.size) :
    Calls Try.prog 37 #[.agg #[.int .i64 z, .int .i64 d, .int .i64 q, v, .int .i64 s, .int .u64 x]] w (RR G z d q l s x m true w) := by
  obtain ⟨A, c, rfl, hl, hC⟩ := hr.get
  have hlen : (m :: l).length = l.length + 1 := rfl
  obtain ⟨ad, rfl, hm⟩ := Kd.at_string hC 0 (by omega) (by simp)
  have hm1 : w.cell? ad = some (.string m) := hm
  have hm2 : ∀ o1 o2, ((w.alloc o1).alloc o2).cell? ad = some (.string m) := fun o1 o2 => cnew (cnew hm1)
  have hr2 := hr.drop (k := 1) (by simp)
  simp only [List.drop_succ_cons, List.drop_zero] at hr2
  have hdd : (((l.length : Int) + 1) == 0) = false := by simp; omega
  have hc1 : (1 : Int) ≤ (l.length : Int) + 1 := by omega
  have hrl := Nat.add_sub_cancel l.length 1
  by_cases hc : c = 1
  · rw [if_pos hc] at hr2
    obtain rfl : l = [] := by
      rw [hlen] at hl
      cases l with
      | nil => rfl
      | cons a r => simp at hl; omega
    subst hc
    clear hr hm hC
    go_enter Try.func37, Try.ntmps37
    go_wp2
    exact bodyPost_ret (v := .tuple #[.agg #[.int .i64 z, .int .i64 d, .int .i64 q, .slice (some ad) 0 0, .int .i64 s, .int .u64 x], .string m, .bool true]) (by simp [results, Try.results37, go_sem]) rfl ⟨_, rfl, rd_new hr2 hG _ _⟩
  · rw [if_neg hc] at hr2
    have hr3 : Rd Kd.string w G (.slice (some ⟨ad.block, ad.off + 1, none⟩) l.length (c - 1)) l := hr2
    clear hr hm hC hr2
    rw [hlen] at *
    clear hlen
    go_enter Try.func37, Try.ntmps37
    go_wp2
    exact bodyPost_ret (v := .tuple #[.agg #[.int .i64 z, .int .i64 d, .int .i64 q, .slice (some ⟨ad.block, ad.off + 1, none⟩) l.length (c - 1), .int .i64 s, .int .u64 x], .string m, .bool true]) (by simp [results, Try.results37, go_sem]) rfl ⟨_, rfl, rd_new hr3 hG _ _⟩
theorem rreceive (G : Nat → Prop) (z d q : Int) (l : List ByteArray) (s x : Int) (v : Value) (w : World) (hr : Rd Kd.string w G v l) (hG : ∀ k, G k → k < w.heap.size) :
    Calls Try.prog 37 #[.agg #[.int .i64 z, .int .i64 d, .int .i64 q, v, .int .i64 s, .int .u64 x]] w (RR G z d q l.tail s x (rm l) (rb l) w) := by
  cases l with
  | nil => exact rreceive_none G z d q s x v w hr hG
  | cons m l => exact rreceive_first G z d q m l s x v w hr hG
theorem pmx (z : Int) : Go.Proofs.YtkijeknopnjamaaW.PrintWords.mx 0 z = mx z := by
  unfold Go.Proofs.YtkijeknopnjamaaW.PrintWords.mx mx
  split <;> omega
theorem rnew (z d q : Int) (w : World) :
    Calls Try.prog 35 #[.int .i64 z, .int .i64 d, .int .i64 q] w fun e w' => ∃ v, e = .returned (.agg #[.int .i64 (mx z), .int .i64 (mx d), .int .i64 (mx q), v, .int .i64 0, .int .u64 0]) ∧
      Rd Kd.string w' (fun k => w.heap.size ≤ k ∧ k < w'.heap.size) v [] ∧ Below w.heap.size w w' := by
  refine (Go.Proofs.Ytkijeknopnjamaa.PQueuingSteps.broadsheetref33_New.calls z d q (mx z) (mx d) (mx q) [] 0 0 w (by unfold Go.Proofs.Ytkijeknopnjamaa.PQueuingSteps.broadsheetref33_New.f; rw [pmx, pmx, pmx])).mono ?_
  rintro e w' ⟨v, rfl, hR, hb⟩
  refine ⟨v, rfl, Rd.mono (Own.rd (e := 9) (.inl (Kd.Q_lower (Kd.Q_bound (Kd.Q_of_R hR)) (Nat.zero_le _)))) (fun k hk => ⟨hk.2.1, hk.2.2.1⟩), hb⟩
end Go.Proofs.Ytkijeknopnjamaa.Queuing
