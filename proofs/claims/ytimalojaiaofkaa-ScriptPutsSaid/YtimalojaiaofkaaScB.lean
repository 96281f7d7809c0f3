import Derived.Test.YtimalojaiaofkaaScr
set_option linter.unusedVariables false
set_option linter.unusedSimpArgs false
namespace Go.Proofs.Ytimalojaiaofkaa.Scr
open Go.RowKit Base Sp Flat Go.Proofs.YtimalojaiaofkaaW.PrintWords Go.Proofs.YtimalojaiaofkaaW.PrintLast Go.Proofs.YtimalojaiaofkaaW.PrintMore Wd Buf Go.Proofs.Ytimalojaiaofkaa.PScriptPuts
def ae (a : S43) : Int := actE a.f0 a.f1 a.f2
def al (a : S43) : List UInt8 := abl a.f0 a.f1 a.f2
/-- What is wrong first with actions, and what they put; then turns, and a script. -/
def acE : List S43 → Int
  | [] => 0
  | a :: l => if ae a ≠ 0 then ae a else acE l
def acL : List S43 → List UInt8
  | [] => []
  | a :: l => al a ++ acL l
def tE (x : S41) : Int := if 255 < x.f0.length then 3 else acE x.f0
def tL (x : S41) : List UInt8 := nbl (x.f0.length : Int) 1 ++ acL x.f0
def sE : List S41 → Int
  | [] => 0
  | x :: l => if tE x ≠ 0 then tE x else sE l
def sL : List S41 → List UInt8
  | [] => []
  | x :: l => tL x ++ sL l
def sput (l : List S41) : ByteArray × Int := if 1024 < l.length then (⟨#[]⟩, 3) else if sE l ≠ 0 then (⟨#[]⟩, sE l) else (tx (sL l), 0)
def St (l : List S43) (L X : List UInt8) (E : Int) (i : Nat) : Prop := L ++ acL (l.drop i) = X ∧ acE (l.drop i) = E
theorem St.start (l : List S43) (L : List UInt8) : St l L (L ++ acL l) (acE l) 0 := ⟨by rw [List.drop_zero], by rw [List.drop_zero]⟩
theorem St.fin {l : List S43} {L X : List UInt8} {E : Int} (h : St l L X E l.length) : L = X ∧ E = 0 := by
  obtain ⟨h1, h2⟩ := h
  rw [List.drop_length] at h1 h2
  exact ⟨by rw [← h1]; show L = L ++ []; rw [List.append_nil], h2.symm⟩
theorem St.ok {l : List S43} {L X : List UInt8} {E : Int} {i : Nat} (h : St l L X E i) (hi : i < l.length) (h0 : ae l[i] = 0) : St l (L ++ al l[i]) X E (i + 1) := by
  obtain ⟨h1, h2⟩ := h
  rw [List.drop_eq_getElem_cons hi] at h1 h2
  rw [acE, if_neg (fun h => h h0)] at h2
  rw [acL, ← List.append_assoc] at h1
  exact ⟨h1, h2⟩
theorem St.bad {l : List S43} {L X : List UInt8} {E : Int} {i : Nat} (h : St l L X E i) (hi : i < l.length) (h0 : ae l[i] ≠ 0) : ae l[i] = E := by
  obtain ⟨h1, h2⟩ := h
  rw [List.drop_eq_getElem_cons hi] at h2
  rw [acE, if_pos h0] at h2
  exact h2
def So (l : List S41) (L X : List UInt8) (E : Int) (i : Nat) : Prop := L ++ sL (l.drop i) = X ∧ sE (l.drop i) = E
theorem So.start (l : List S41) : So l [] (sL l) (sE l) 0 := ⟨by rw [List.drop_zero]; rfl, by rw [List.drop_zero]⟩
theorem So.fin {l : List S41} {L X : List UInt8} {E : Int} (h : So l L X E l.length) : L = X ∧ E = 0 := by
  obtain ⟨h1, h2⟩ := h
  rw [List.drop_length] at h1 h2
  exact ⟨by rw [← h1]; show L = L ++ []; rw [List.append_nil], h2.symm⟩
theorem So.ok {l : List S41} {L X : List UInt8} {E : Int} {i : Nat} (h : So l L X E i) (hi : i < l.length) (h0 : tE l[i] = 0) : So l (L ++ nbl (l[i].f0.length : Int) 1 ++ acL l[i].f0) X E (i + 1) := by
  obtain ⟨h1, h2⟩ := h
  rw [List.drop_eq_getElem_cons hi] at h1 h2
  rw [sE, if_neg (fun h => h h0)] at h2
  rw [sL, tL] at h1
  exact ⟨by rw [← h1, List.append_assoc, List.append_assoc, List.append_assoc], h2⟩
theorem So.bad {l : List S41} {L X : List UInt8} {E : Int} {i : Nat} (h : So l L X E i) (hi : i < l.length) (h0 : tE l[i] ≠ 0) : tE l[i] = E := by
  obtain ⟨h1, h2⟩ := h
  rw [List.drop_eq_getElem_cons hi] at h2
  rw [sE, if_pos h0] at h2
  exact h2
theorem rd43 (l : List S43) (i : Nat) (hi : i < l.length) : rd_T43 l (i : Int) = l[i] := by
  unfold rd_T43
  rw [Int.toNat_natCast, List.getD_eq_getElem?_getD, List.getElem?_eq_getElem hi]
  rfl
theorem rd41 (l : List S41) (i : Nat) (hi : i < l.length) : rd_T41 l (i : Int) = l[i] := by
  unfold rd_T41
  rw [Int.toNat_natCast, List.getD_eq_getElem?_getD, List.getElem?_eq_getElem hi]
  rfl
theorem al_len {a : S43} (h : ae a = 0) : (al a).length ≤ 70000 := by
  have n1 := nbl_len a.f0 1 (by decide)
  have n3 := nbl_len (bitv a.f1 4).1 4 (by decide)
  have n4 := nbl_len (a.f2.size : Int) 2 (by decide)
  have hs : a.f2.size ≤ 65535 := by
    unfold ae actE at h
    by_cases h1 : a.f0 ≠ 1 ∧ a.f0 ≠ 2
    · rw [if_pos h1] at h; exact absurd h (by decide)
    · rw [if_neg h1] at h
      by_cases h2 : a.f0 = 1 ∧ (bitv a.f1 4).2 ≠ 0
      · rw [if_pos h2] at h; exact absurd h (by decide)
      · rw [if_neg h2] at h
        by_cases h3 : 65535 < a.f2.size
        · rw [if_pos h3] at h; exact absurd h (by decide)
        · omega
  have he : a.f2.data.toList.length = a.f2.size := rfl
  unfold al abl
  rw [List.length_append, List.length_append, he]
  split
  · rw [List.length_append]; omega
  · omega
theorem meas (T b : Nat) (h : b < T) : T - (intOf (.int .i64 (((b + 1 : Nat) : Int)))).toNat < T - (intOf (.int .i64 (b : Int))).toNat := by
  show T - (((b + 1 : Nat) : Int)).toNat < T - ((b : Int)).toNat
  rw [Int.toNat_natCast, Int.toNat_natCast]
  omega
theorem sfresh (w : World) : sB (w.alloc (.cells #[.pointer none, .slice none 0 0] 106)) (fun k => k = w.heap.size) w.heap.size [] :=
  ⟨_, _, heap_alloc_new _ _, .inl rfl, World.ownsRowF_nil _ _ _ _, by simp [Value.ownBlock], rfl, fun k hk => by simp [Value.ownBlock] at hk, fun k hk => by subst hk; simp⟩
theorem addm {B n k x : Nat} (h : n ≤ B + k * 70000) (hx : x ≤ 70000) : n + x ≤ B + (k + 1) * 70000 := by omega
end Go.Proofs.Ytimalojaiaofkaa.Scr
