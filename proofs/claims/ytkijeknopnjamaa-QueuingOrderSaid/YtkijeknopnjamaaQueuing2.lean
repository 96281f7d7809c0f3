import Derived.Test.YtkijeknopnjamaaQueuing
set_option linter.unusedVariables false
set_option linter.unusedSimpArgs false
namespace Go.Proofs.Ytkijeknopnjamaa.Queuing
open Go.RowKit Base Sp Flat Go.Proofs.YtkijeknopnjamaaW.PrintWords

/-- What Send answers, and what is then. -/
def code (z q s : Int) (m : ByteArray) : Int := if z < (m.size : Int) then 3 else if q ≤ s then 19 else 0
def sl (z d q s : Int) (l : List ByteArray) (m : ByteArray) : List ByteArray := if z < (m.size : Int) then l else if q ≤ s then l else nl d l m
def ss (z q s : Int) (m : ByteArray) : Int := if z < (m.size : Int) then s else if q ≤ s then s else s + 1
def sx (z d q s x : Int) (l : List ByteArray) (m : ByteArray) : Int := if z < (m.size : Int) then x else if q ≤ s then x else nx d l x
theorem QPs.refl {w w' : World} {F : Nat → Prop} {b : Nat} {z d q : Int} {l : List ByteArray} {s x : Int} (h : QP w' F b z d q l s x) (hm : Mod F w w') : QPs F b z d q l s x w w' :=
  ⟨⟨F, h, Grow.refl _ _⟩, hm⟩
theorem send (F : Nat → Prop) (b : Nat) (z d q : Int) (m : ByteArray) (l : List ByteArray) (s x : Int) (w : World) (h : QP w F b z d q l s x) (hs0 : 0 ≤ s) (hq : q < 9223372036854775808)
    (hl : l.length ≤ 1000) (hx0 : 0 ≤ x) (hx : x ≤ 1000) :
    Calls Try.prog 32 #[.pointer (some ⟨b, 0, none⟩), .string m] w fun e w' => e = .returned (.int .i64 (code z q s m)) ∧ QPs F b z d q (sl z d q s l m) (ss z q s m) (sx z d q s x l m) w w' := by
  unfold code sl ss sx
  by_cases h1 : z < (m.size : Int)
  · rw [if_pos h1, if_pos h1, if_pos h1, if_pos h1]
    refine (send_long F b z d q m l s x w h h1).mono ?_
    rintro e w' ⟨rfl, rfl⟩
    exact ⟨rfl, QPs.refl h (Mod.refl _ _)⟩
  · rw [if_neg h1, if_neg h1, if_neg h1, if_neg h1]
    by_cases h2 : q ≤ s
    · rw [if_pos h2, if_pos h2, if_pos h2, if_pos h2]
      refine (send_full F b z d q m l s x w h (by omega) h2).mono ?_
      rintro e w' ⟨rfl, rfl⟩
      exact ⟨rfl, QPs.refl h.drew (Mod.refl _ _).drew⟩
    · rw [if_neg h2, if_neg h2, if_neg h2, if_neg h2]
      exact send_ok F b z d q m l s x w h (by omega) (by omega) hs0 hq hl hx0 hx
/-- What Receive answers. -/
def rm (l : List ByteArray) : ByteArray := l.headD ByteArray.empty
def rb (l : List ByteArray) : Bool := !l.isEmpty
theorem receive (F : Nat → Prop) (b : Nat) (z d q : Int) (l : List ByteArray) (s x : Int) (w : World) (h : QP w F b z d q l s x) :
    Calls Try.prog 31 #[.pointer (some ⟨b, 0, none⟩)] w fun e w' => e = .returned (.tuple #[.string (rm l), .bool (rb l)]) ∧ QP w' F b z d q l.tail s x ∧ Mod F w w' := by
  cases l with
  | nil =>
    refine (receive_none F b z d q s x w h).mono ?_
    rintro e w' ⟨rfl, rfl⟩
    exact ⟨rfl, h, Mod.refl _ _⟩
  | cons m l => exact receive_first F b z d q m l s x w h
theorem frame (F : Nat → Prop) (b : Nat) (z d q : Int) (l : List ByteArray) (s x : Int) (w : World) (h : QP w F b z d q l s x) :
    Calls Try.prog 34 #[.pointer (some ⟨b, 0, none⟩)] w fun e w' => e = .returned (.tuple #[]) ∧ QP w' F b z d q l 0 x ∧ Mod F w w' := by
  refine (frame_ F b z d q l s x w h).mono ?_
  rintro e w' ⟨rfl, rfl⟩
  exact ⟨rfl, h.put4 0, (Mod.refl _ _).set (.inl h.2.1) _⟩
theorem QPs.below {w0 w w' : World} {B : Nat} {F : Nat → Prop} {b : Nat} {z d q : Int} {l : List ByteArray} {s x : Int} (h : QPs F b z d q l s x w w') (hb : Below B w0 w) (hB : B ≤ w.heap.size) (hF : ∀ k, F k → B ≤ k) :
    Below B w0 w' ∧ (∃ F', QP w' F' b z d q l s x ∧ (∀ k, F' k → F k ∨ (w.heap.size ≤ k ∧ k < w'.heap.size)) ∧ (∀ k, F' k → B ≤ k)) ∧ B ≤ w'.heap.size := by
  obtain ⟨⟨F', h1, h2⟩, h3⟩ := h
  refine ⟨h3.below hb hB hF, ⟨F', h1, fun k hk => ?_, fun k hk => (h2 k hk).elim (hF k) (fun h => by omega)⟩, Nat.le_trans hB h3.size⟩
  rcases h2 k hk with h | h
  · exact .inl h
  · exact .inr ⟨h, h1.lt k hk⟩
theorem new_at (z d q : Int) (w0 w : World) (B : Nat) (hb : Below B w0 w) (hB : B ≤ w.heap.size) :
    Calls Try.prog 30 #[.int .i64 z, .int .i64 d, .int .i64 q] w fun e w' => e = .returned (.pointer (some ⟨w.heap.size, 0, none⟩)) ∧ QP w' (fun k => k = w.heap.size) w.heap.size (mx z) (mx d) (mx q) [] 0 0 ∧ Below B w0 w' ∧ Mod (fun k => k = w.heap.size) w w' ∧ w.heap.size < w'.heap.size := by
  refine (new z d q w).mono ?_
  rintro e w' ⟨rfl, rfl⟩
  exact ⟨rfl, QP.new _ _ _ _, hb.alloc hB _, (Mod.refl _ _).alloc _, by simp⟩
set_option maxRecDepth 20000 in
theorem awake (w : World) : Calls Try.prog 29 #[] w fun e w' => e = .returned (.bool true) ∧ Below w.heap.size w w' := by
  go_enter Try.func29, Try.ntmps29
  go_wp2_with fail
  refine (new_at 1 1 2 w _ _ (Below.refl _ _) (Nat.le_refl _)).mono ?_
  rintro e w1 ⟨rfl, q1, b1, m1, s1⟩
  go_wp2_with fail
  refine (send _ _ (mx 1) (mx 1) (mx 2) ⟨#[97]⟩ [] 0 0 _ q1 (by decide) (by decide) (by decide) (by decide) (by decide)).mono ?_
  rintro e w2 ⟨rfl, hq⟩
  obtain ⟨b2, ⟨F2, q2, g2, h2⟩, s2⟩ := hq.below b1 (by omega) (fun k hk => by omega)
  clear hq q1 m1
  rw [show code (mx 1) (mx 2) 0 ⟨#[97]⟩ = 0 from rfl]
  rw [show sl (mx 1) (mx 1) (mx 2) 0 [] ⟨#[97]⟩ = [⟨#[97]⟩] from rfl, show ss (mx 1) (mx 2) 0 ⟨#[97]⟩ = 1 from rfl, show sx (mx 1) (mx 1) (mx 2) 0 0 [] ⟨#[97]⟩ = 0 from rfl] at q2
  go_wp2_with fail
  refine (send _ _ (mx 1) (mx 1) (mx 2) ⟨#[98]⟩ _ 1 0 _ q2 (by decide) (by decide) (by decide) (by decide) (by decide)).mono ?_
  rintro e w3 ⟨rfl, hq⟩
  obtain ⟨b3, ⟨F3, q3, g3, h3⟩, s3⟩ := hq.below b2 (by omega) h2
  clear hq q2
  rw [show code (mx 1) (mx 2) 1 ⟨#[98]⟩ = 0 from rfl]
  rw [show sl (mx 1) (mx 1) (mx 2) 1 [⟨#[97]⟩] ⟨#[98]⟩ = [⟨#[98]⟩] from rfl, show ss (mx 1) (mx 2) 1 ⟨#[98]⟩ = 2 from rfl, show sx (mx 1) (mx 1) (mx 2) 1 0 [⟨#[97]⟩] ⟨#[98]⟩ = 1 from rfl] at q3
  go_wp2_with fail
  refine (send _ _ (mx 1) (mx 1) (mx 2) ⟨#[99]⟩ _ 2 1 _ q3 (by decide) (by decide) (by decide) (by decide) (by decide)).mono ?_
  rintro e w4 ⟨rfl, hq⟩
  obtain ⟨b4, ⟨F4, q4, g4, h4⟩, s4⟩ := hq.below b3 (by omega) h3
  clear hq q3
  rw [show code (mx 1) (mx 2) 2 ⟨#[99]⟩ = 19 from rfl]
  rw [show sl (mx 1) (mx 1) (mx 2) 2 [⟨#[98]⟩] ⟨#[99]⟩ = [⟨#[98]⟩] from rfl, show ss (mx 1) (mx 2) 2 ⟨#[99]⟩ = 2 from rfl, show sx (mx 1) (mx 1) (mx 2) 2 1 [⟨#[98]⟩] ⟨#[99]⟩ = 1 from rfl] at q4
  go_wp2_with fail
  refine (receive _ _ _ _ _ _ _ _ _ q4).mono ?_
  rintro e w5 ⟨rfl, q5, m5⟩
  have b5 := m5.below b4 (by omega) h4
  clear q4 m5
  rw [show rm [⟨#[98]⟩] = ⟨#[98]⟩ from rfl, show rb [⟨#[98]⟩] = true from rfl]
  go_wp2_with fail
  refine (lost _ _ _ _ _ _ _ _ _ q5).mono ?_
  rintro e w' ⟨rfl, rfl⟩
  go_wp2
  go_ret
  exact ⟨rfl, b5⟩
set_option maxHeartbeats 2000000 in
theorem none_ (m : ByteArray) (w : World) : Calls Try.prog 10 #[.string m] w fun e w' => e = .returned (.bool true) ∧ Below w.heap.size w w' := by
  obtain ⟨w1, hw1⟩ : ∃ w1, w1 = w.alloc (.cells #[.int .i64 0, .int .i64 0, .int .i64 0, .slice none 0 0, .int .i64 0, .int .u64 0] 78) := ⟨_, rfl⟩
  have q1 : QP w1 (fun k => k = w.heap.size) w.heap.size 0 0 0 [] 0 0 := by rw [hw1]; exact QP.new w 0 0 0
  have b1 : Below w.heap.size w w1 := by rw [hw1]; exact (Below.refl _ _).alloc (Nat.le_refl _) _
  have s1 : w.heap.size < w1.heap.size := by rw [hw1]; simp
  go_enter Try.func10, Try.ntmps10
  go_wp2_with fail
  rw [← hw1]
  clear hw1
  refine (frame_nil _).mono ?_
  rintro e w' ⟨rfl, rfl⟩
  go_wp2_with fail
  refine (receive_nil _).mono ?_
  rintro e w' ⟨rfl, rfl⟩
  go_wp2_with fail
  refine (receive_none _ _ _ _ _ _ _ _ q1).mono ?_
  rintro e w' ⟨rfl, rfl⟩
  go_wp2_with fail
  refine (send_nil m _).mono ?_
  rintro e w' ⟨rfl, rfl⟩
  go_wp2_with fail
  refine (waits_nil _).mono ?_
  rintro e w' ⟨rfl, rfl⟩
  go_wp2_with fail
  refine (sent_nil _).mono ?_
  rintro e w' ⟨rfl, rfl⟩
  go_wp2_with fail
  refine (lost_nil _).mono ?_
  rintro e w' ⟨rfl, rfl⟩
  go_wp2_with fail
  refine (send _ _ 0 0 0 m [] 0 0 _ q1 (by decide) (by decide) (by decide) (by decide) (by decide)).mono ?_
  rintro e w2 ⟨rfl, hq⟩
  obtain ⟨b2, ⟨F2, q2, g2, h2⟩, s2⟩ := hq.below b1 (by omega) (fun k hk => by omega)
  clear hq q1
  have hc1 : sl 0 0 0 0 [] m = [] ∧ ss 0 0 0 m = 0 ∧ sx 0 0 0 0 0 [] m = 0 := by
    unfold sl ss sx
    refine ⟨?_, ?_, ?_⟩ <;> split <;> rfl
  rw [hc1.1, hc1.2.1, hc1.2.2] at q2
  clear hc1
  go_wp2_with fail
  refine (new_at 0 0 0 _ _ _ b2 (by omega)).mono ?_
  rintro e w3 ⟨rfl, q3, b3, m3, s3⟩
  go_wp2_with fail
  refine (send _ _ (mx 0) (mx 0) (mx 0) m [] 0 0 _ q3 (by decide) (by decide) (by decide) (by decide) (by decide)).mono ?_
  rintro e w4 ⟨rfl, hq⟩
  obtain ⟨⟨F4, q4, g4⟩, m4⟩ := hq
  have b4 := m4.below b3 (by omega) (fun k hk => by omega)
  have q2' := (q2.far m3 (fun k hk he => by have := q2.lt k hk; omega)).far m4 (fun k hk he => by have := q2.lt k hk; omega)
  rw [show mx 0 = 0 from rfl]
  generalize code 0 0 0 m = cc
  clear q2 q3 q4 g4
  go_wp2_with fail
  refine (send _ _ 0 0 0 ⟨#[]⟩ [] 0 0 _ q2' (by decide) (by decide) (by decide) (by decide) (by decide)).mono ?_
  rintro e w5 ⟨rfl, hq⟩
  obtain ⟨⟨F5, q5, g5⟩, m5⟩ := hq
  have b5 := m5.below b4 (by have := m4.size; omega) h2
  rw [show code 0 0 0 ⟨#[]⟩ = 19 from rfl]
  go_wp2_with fail
  refine (awake _).mono ?_
  rintro e w6 ⟨rfl, hb⟩
  go_wp2
  go_ret
  exact ⟨rfl, b5.trans (hb.mono (by have := m5.size; have := m4.size; omega))⟩
end Go.Proofs.Ytkijeknopnjamaa.Queuing
