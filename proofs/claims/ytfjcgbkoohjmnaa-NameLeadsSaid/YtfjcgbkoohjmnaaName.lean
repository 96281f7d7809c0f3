import Derived.Test.YtfjcgbkoohjmnaaNamePure
import Derived.Test.YtfjcgbkoohjmnaaMap
import Derived.Test.YtfjcgbkoohjmnaaRegion
set_option linter.unusedVariables false
set_option linter.unusedSimpArgs false
namespace Go.Proofs.Ytfjcgbkoohjmnaa.Name
open Go.RowKit Base NameP Go.Proofs.Ytfjcgbkoohjmnaa.PNameTells Go.Proofs.YtfjcgbkoohjmnaaW.PrintWords Go.Proofs.YtfjcgbkoohjmnaaW.PrintLast

theorem str_cell {w : World} {A : Option Addr} {l : List ByteArray} (h : Kd.C Kd.string w A l.length l) (i : Nat) (hi : i < l.length) : ∃ ad, A = some ad ∧ w.cell? (ad.add i) = some (.string l[i]) := by
  obtain ⟨ad, e, hc⟩ := Kd.at_string h (i : Int) (by omega) (by omega)
  refine ⟨ad, e, ?_⟩
  rw [Int.toNat_natCast] at hc
  rw [hc]
  unfold rdOf
  rw [Int.toNat_natCast, List.getD_eq_getElem?_getD, List.getElem?_eq_getElem hi]
  rfl
/-- Not found among the first k. -/
theorem fnd_append (s : ByteArray) : ∀ (a b : List ByteArray) (i : Nat), fnd s (a ++ b) i = if fnd s a i = -1 then fnd s b (i + a.length) else fnd s a i
  | [], b, i => by simp [fnd]
  | x :: r, b, i => by
    rw [List.cons_append, fnd, fnd]
    split
    · rw [if_neg (by omega)]
    · rw [fnd_append s r b (i + 1), List.length_cons, show i + 1 + r.length = i + (r.length + 1) from by omega]

theorem index (A : Option Addr) (c : Nat) (l : List ByteArray) (s : ByteArray) (w : World) (h : Kd.C Kd.string w A l.length l) (hl : l.length ≤ 9223372036854775807) :
    Calls Try.prog 57 #[.slice A l.length c, .string s] w fun e w' => e = .returned (.int .i64 (fnd s l 0)) ∧ w = w' := by
  go_enter Try.func57, Try.ntmps57
  go_wp2
  go_loop [5, 8] (fun _ n => ∃ k : Nat, k ≤ l.length ∧ n = .int .i64 (k : Int) ∧ Hid (fnd s (l.take k) 0 = -1)) (fun _ n => (l.length - (intOf n).toNat))
  case atStart => exact ⟨0, by omega, rfl, rfl⟩
  case round =>
    obtain ⟨k, k1, rfl, hn⟩ := hrel
    have k0 : (0 : Int) ≤ (k : Int) := by omega
    by_cases hlt : k < l.length
    · have k2 : (k : Int) < (l.length : Int) := by omega
      obtain ⟨ad, rfl, hc⟩ := str_cell h k hlt
      have hcat : Hid (fnd s l 0 = if s.toList = l[k].toList then (k : Int) else fnd s (l.drop (k + 1)) (k + 1)) := by
        show fnd s l 0 = _
        conv => lhs; rw [← List.take_append_drop k l]
        rw [fnd_append, if_pos hn.out, List.drop_eq_getElem_cons hlt, fnd, List.length_take, Nat.zero_add, Nat.min_eq_left (by omega)]
        simp only [eq_comm]
      have hnext : Hid (s.toList ≠ l[k].toList → fnd s (l.take (k + 1)) 0 = -1) := by
        intro hne
        rw [List.take_succ_eq_append_getElem hlt, fnd_append, if_pos hn.out, fnd, if_neg (fun e => hne e.symm)]
        rfl
      generalize l[k] = x at *
      by_cases he : s.toList = x.toList
      · have heb : (s.toList == x.toList) = true := beq_iff_eq.2 he
        have HE := Lib.hid he
        clear he
        go_wp2
        go_ret
        exact ⟨bx (by rw [hcat.out, if_pos HE.out]), rfl⟩
      · have heb : (s.toList == x.toList) = false := beq_eq_false_iff_ne.2 he
        have HE : Hid (fnd s (l.take (k + 1)) 0 = -1) := hnext.out he
        clear he hcat hnext
        go_wp2
        go_round
        case rel => exact ⟨k + 1, by omega, by go_num, HE⟩
        case measure => simp [intOf]; omega
    · have hk : l.take k = l := List.take_of_length_le (by omega)
      have HN : Hid (fnd s l 0 = -1) := by
        have := hn.out
        rw [hk] at this
        exact this
      clear hk hn
      go_wp2
      go_ret
      exact ⟨bx (by rw [HN.out]), rfl⟩
theorem find (A : Option Addr) (c : Nat) (l : List ByteArray) (s : ByteArray) (w : World) (h : Kd.C Kd.string w A l.length l) (hl : l.length ≤ 9223372036854775807) :
    Calls Try.prog 45 #[.slice A l.length c, .string s] w fun e w' => e = .returned (.int .i64 (fnd s l 0)) ∧ w = w' := by
  go_enter Try.func45, Try.ntmps45
  go_wp2_with fail
  refine (index A c l s _ h hl).mono ?_
  rintro e w' ⟨rfl, rfl⟩
  go_wp2
  go_ret
  exact ⟨rfl, rfl⟩

/-- The first place of a text that stood ahead; d places are left. -/
def twice (l : List ByteArray) : Nat → Nat → Int
  | 0, _ => -1
  | d + 1, i => if fnd (l.getD i ByteArray.empty) (l.take i) 0 = -1 then twice l d (i + 1) else (i : Int)
theorem beq_bytes (s x : ByteArray) : (s == x) = true ↔ s = x := by
  obtain ⟨a⟩ := s
  obtain ⟨b⟩ := x
  rw [ByteArray.mk.injEq]
  show (a == b) = true ↔ _
  exact beq_iff_eq
theorem idx_fnd (s : ByteArray) : ∀ (l : List ByteArray) (i : Nat), (MapS.idx s l i = Option.none ↔ fnd s l i = -1)
  | [], i => by simp [MapS.idx, fnd]
  | x :: r, i => by
    have ih := idx_fnd s r (i + 1)
    unfold MapS.idx fnd
    have e : ((s == x) = true) ↔ x.toList = s.toList := by
      rw [beq_bytes, ByteArray.toList_eq, ByteArray.toList_eq]
      constructor
      · intro h; rw [h]
      · intro h
        have := ByteArray.ext (Array.toList_inj.1 h)
        exact this.symm
    by_cases h : x.toList = s.toList
    · rw [if_pos (e.2 h), if_pos h]
      constructor
      · intro h; cases h
      · intro h; omega
    · rw [if_neg (fun h' => h (e.1 h')), if_neg h]
      exact ih
theorem getD_at (l : List ByteArray) (i : Nat) (h : i < l.length) : l.getD i ByteArray.empty = l[i] := by
  rw [List.getD_eq_getElem?_getD, List.getElem?_eq_getElem h]
  rfl
theorem fnd_own (l : List ByteArray) (i : Nat) (h : i < l.length) : 0 ≤ fnd l[i] l 0 ∧ fnd l[i] l 0 ≤ (i : Int) ∧ (fnd l[i] l 0 < (i : Int) ↔ fnd l[i] (l.take i) 0 ≠ -1) := by
  have e0 : ∀ s, fnd s l 0 = if fnd s (l.take i) 0 = -1 then fnd s (l.drop i) i else fnd s (l.take i) 0 := by
    intro s
    conv => lhs; rw [← List.take_append_drop i l]
    rw [fnd_append, List.length_take, Nat.zero_add, Nat.min_eq_left (by omega)]
  have e : fnd l[i] l 0 = if fnd l[i] (l.take i) 0 = -1 then (i : Int) else fnd l[i] (l.take i) 0 := by
    rw [e0, List.drop_eq_getElem_cons h, fnd, if_pos rfl]
  have hb : ∀ (s : ByteArray) (l : List ByteArray) (j : Nat), fnd s l j < (j : Int) + l.length := by
    intro s l
    induction l with
    | nil => intro j; simp [fnd]; omega
    | cons x r ih =>
      intro j
      have := ih (j + 1)
      unfold fnd
      split <;> simp only [List.length_cons] <;> omega
  have h1 := hb l[i] (l.take i) 0
  rw [List.length_take] at h1
  rcases fnd_ge l[i] (l.take i) 0 with h2 | h2
  · rw [e, if_pos h2]
    refine ⟨by omega, by omega, ⟨fun h => by omega, fun h => absurd h2 h⟩⟩
  · rw [e, if_neg (by omega)]
    refine ⟨by omega, by omega, ⟨fun _ => by omega, fun _ => by omega⟩⟩

def val (n : Nat) : Value := .agg #[.int .i64 (n : Int)]
set_option maxHeartbeats 1000000 in
theorem twice_walk (A : Option Addr) (c : Nat) (l : List ByteArray) (w : World) (h : Kd.C Kd.string w A l.length l) (hl : l.length ≤ 9223372036854775807) :
    Calls Try.prog 47 #[.slice A l.length c] w fun e w' => e = .returned (.int .i64 (twice l l.length 0)) ∧ Below w.heap.size w w' := by
  have hmm := @run_makeMap Try.prog
  have hz : ∀ w : World, (zeroValue 71).run Try.prog w = .ok (.agg #[.int .i64 0]) w := fun w => by kernel_rfl
  go_enter Try.func47, Try.ntmps47
  go_wp2
  go_loopw [11] (fun n w' => ∃ k : Nat, k ≤ l.length ∧ n = .int .i64 (k : Int) ∧ Hid (twice l l.length 0 = twice l (l.length - k) k) ∧
      w'.heap[w.heap.size]? = some (.map (MapS.ents val (l.take k) 0).toArray k) ∧ Below w.heap.size w w' ∧ w.heap.size < w'.heap.size) (fun n _ => (l.length - (intOf n).toNat))
  case atStart => exact ⟨0, by omega, rfl, rfl, (MapKept.heap_alloc w (Obj.map #[] 0)).1, (Below.refl _ _).alloc (Nat.le_refl _) _, by simp⟩
  case round =>
    obtain ⟨k, k1, rfl, ht, hm, hb, hs⟩ := hrel
    have k0 : (0 : Int) ≤ (k : Int) := by omega
    by_cases hlt : k < l.length
    · have k2 : (k : Int) < (l.length : Int) := by omega
      obtain ⟨ad, rfl, hc⟩ := str_cell (Kd.C_below h (hb.mono (by omega))) k hlt
      have hstep : Hid (twice l l.length 0 = if fnd l[k] (l.take k) 0 = -1 then twice l (l.length - (k + 1)) (k + 1) else (k : Int)) := by
        show twice l l.length 0 = _
        rw [ht.out, show l.length - k = (l.length - (k + 1)) + 1 from by omega, twice, getD_at l k hlt]
      have hsn : Hid (l.take (k + 1) = l.take k ++ [l[k]]) := List.take_succ_eq_append_getElem hlt
      have hlen : (l.take k).length = k := by rw [List.length_take]; omega
      have hif := idx_fnd l[k] (l.take k) 0
      generalize l[k] = x at *
      have hcw : ∀ o : Obj, (wr.alloc o).heap[w.heap.size]? = wr.heap[w.heap.size]? := fun o => Below.heap_alloc _ _ _ hs
      cases hx : MapS.idx x (l.take k) 0 with
      | some n =>
        have hlk := MapS.run_lookup_some (P := Try.prog) Try.underlying69 Try.underlying9 hm x hx
        have HF : Hid (fnd x (l.take k) 0 ≠ -1) := fun e => by rw [hif.2 e] at hx; cases hx
        simp only [val] at hlk
        have HR : Hid (twice l l.length 0 = (k : Int)) := by
          show _ = _
          rw [hstep.out, if_neg HF.out]
        clear hif hx hlen hm hcw hstep hsn ht
        go_wp2
        go_ret
        exact ⟨bx (by rw [HR.out]), hb.alloc (by omega) _⟩
      | none =>
        have hlk := MapS.run_lookup_none (P := Try.prog) Try.underlying69 Try.underlying9 hm x hx (hz wr)
        have hup := MapS.run_update_new (P := Try.prog) (val := val) (w := wr.alloc (.cells #[.int .i64 0] 71)) Try.underlying69 Try.underlying9 (l := l.take k) (by rw [hcw, hm, hlen]) x hx
        have HR : Hid (twice l l.length 0 = twice l (l.length - (k + 1)) (k + 1)) := by
          show _ = _
          rw [hstep.out, if_pos (hif.1 hx)]
        have hlen2 : (l.take (k + 1)).length = k + 1 := by rw [List.length_take]; omega
        rw [← hsn.out, hlen2] at hup
        rw [hlen] at hup
        have hv : val k = .agg #[.int .i64 (k : Int)] := rfl
        rw [hv] at hup
        have HM : Hid ((MapS.setM (wr.alloc (.cells #[.int .i64 0] 71)) w.heap.size (.map (MapS.ents val (l.take (k + 1)) 0).toArray (k + 1))).heap[w.heap.size]? = some (.map (MapS.ents val (l.take (k + 1)) 0).toArray (k + 1))) := MapS.setM_at (by simp; omega)
        clear hif hx hlen hlen2 hm hcw hstep hsn ht hv
        go_wp2
        go_roundw
        case rel => exact ⟨k + 1, by omega, by go_num, HR, HM.out, MapS.setM_below _ (hb.alloc (by omega) _) (Nat.le_refl _), by rw [MapS.setM_size]; simp; omega⟩
        case measure => simp [intOf]; omega
    · have HR : Hid (twice l l.length 0 = -1) := by
        show _ = _
        rw [ht.out, show l.length - k = 0 from by omega, twice]
      clear ht hm
      go_wp2
      go_ret
      exact ⟨bx (by rw [HR.out]), hb⟩

theorem drawn_below {w w' : World} (h : Drawn0 w w') : Below w.heap.size w w' := by
  obtain ⟨n, rfl⟩ := h.out
  exact pw_below_drewN (Below.refl _ _) n

theorem reffind (A : Option Addr) (c : Nat) (l : List ByteArray) (s : ByteArray) (w : World) (h : Kd.C Kd.string w A l.length l) (hl : l.length ≤ 9223372036854775807) (hc : l.length ≤ c) :
    Calls Try.prog 46 #[.slice A l.length c, .string s] w fun e w' => e = .returned (.int .i64 (fnd s l 0)) ∧ Below w.heap.size w w' := by
  obtain ⟨k, hk⟩ := Ev.rounds (find_ev s l hl)
  exact (broadsheetref04_Find.calls k A c l s _ w h hc hk).mono fun e w' h => ⟨h.1, drawn_below h.2⟩

theorem reftwice_walk (A : Option Addr) (c : Nat) (l : List ByteArray) (w : World) (h : Kd.C Kd.string w A l.length l) (hl : l.length ≤ 9223372036854775807) (hc : l.length ≤ c) :
    Calls Try.prog 48 #[.slice A l.length c] w fun e w' => e = .returned (.int .i64 (twice l l.length 0)) ∧ Below w.heap.size w w' := by
  go_enter Try.func48, Try.ntmps48
  go_wp2
  go_loopw [3] (fun n w' => ∃ k : Nat, k ≤ l.length ∧ n = .int .i64 (k : Int) ∧ Hid (twice l l.length 0 = twice l (l.length - k) k) ∧ Below w.heap.size w w') (fun n _ => (l.length - (intOf n).toNat))
  case atStart => exact ⟨0, by omega, rfl, rfl, Below.refl _ _⟩
  case round =>
    obtain ⟨k, k1, rfl, ht, hb⟩ := hrel
    have k0 : (0 : Int) ≤ (k : Int) := by omega
    by_cases hlt : k < l.length
    · have k2 : (k : Int) < (l.length : Int) := by omega
      have hC := Kd.C_below h (hb.mono (Nat.le_refl _))
      have hcell := str_cell hC k hlt
      obtain ⟨ad, hA, hc2⟩ := hcell
      have hstep : Hid (twice l l.length 0 = if fnd l[k] (l.take k) 0 = -1 then twice l (l.length - (k + 1)) (k + 1) else (k : Int)) := by
        show twice l l.length 0 = _
        rw [ht.out, show l.length - k = (l.length - (k + 1)) + 1 from by omega, twice, getD_at l k hlt]
      have hown := (fnd_own l k hlt).2.2
      generalize l[k] = x at *
      subst hA
      by_cases hf : fnd x l 0 < (k : Int)
      · have HR : Hid (twice l l.length 0 = (k : Int)) := by
          show _ = _
          rw [hstep.out, if_neg (hown.1 hf)]
        clear hstep hown ht
        go_wp2_with fail
        refine (reffind (some ad) c l x _ hC hl hc).mono ?_
        rintro e w' ⟨rfl, hb2⟩
        go_wp2
        go_ret
        exact ⟨bx (by rw [HR.out]), hb.trans (hb2.mono hb.size)⟩
      · have HR : Hid (twice l l.length 0 = twice l (l.length - (k + 1)) (k + 1)) := by
          show _ = _
          rw [hstep.out]
          by_cases e : fnd x (l.take k) 0 = -1
          · rw [if_pos e]
          · exact absurd (hown.2 e) hf
        clear hstep hown ht
        go_wp2_with fail
        refine (reffind (some ad) c l x _ hC hl hc).mono ?_
        rintro e w' ⟨rfl, hb2⟩
        go_wp2
        go_roundw
        case rel => exact ⟨k + 1, by omega, by go_num, HR, hb.trans (hb2.mono hb.size)⟩
        case measure => simp [intOf]; omega
    · have HR : Hid (twice l l.length 0 = -1) := by
        show _ = _
        rw [ht.out, show l.length - k = 0 from by omega, twice]
      clear ht
      go_wp2
      go_ret
      exact ⟨bx (by rw [HR.out]), hb⟩

theorem awake_walk (w : World) : Calls Try.prog 29 #[] w fun e w' => e = .returned (.bool true) ∧ Below w.heap.size w w' := by
  obtain ⟨k, hk⟩ := Ev.rounds awake_ev
  exact (broadsheetlaw04_awake.calls k true w hk).mono fun e w' h => ⟨h.1, drawn_below h.2⟩

theorem finds (A : Option Addr) (c : Nat) (l : List ByteArray) (s : ByteArray) (w : World) (h : Kd.C Kd.string w A l.length l) (hl : l.length ≤ 9223372036854775807) (hc : l.length ≤ c) :
    Calls Try.prog 13 #[.slice A l.length c, .string s] w fun e w' => e = .returned (.bool true) ∧ Below w.heap.size w w' := by
  by_cases hbig : 500 < l.length
  · go_enter Try.func13, Try.ntmps13
    go_wp2_with fail
    refine (awake_walk _).mono ?_
    rintro e w' ⟨rfl, hb2⟩
    go_wp2
    go_ret
    exact ⟨rfl, hb2⟩
  · go_enter Try.func13, Try.ntmps13
    go_wp2_with fail
    refine (find A c l s _ h hl).mono ?_
    rintro e w' ⟨rfl, rfl⟩
    go_wp2_with fail
    refine (reffind A c l s _ h hl hc).mono ?_
    rintro e w1 ⟨rfl, hb1⟩
    have h1 := Kd.C_below h hb1
    go_wp2_with fail
    refine (twice_walk A c l _ h1 hl).mono ?_
    rintro e w2 ⟨rfl, hb2⟩
    have h2 := Kd.C_below h1 hb2
    go_wp2_with fail
    refine (reftwice_walk A c l _ h2 hl hc).mono ?_
    rintro e w3 ⟨rfl, hb3⟩
    go_wp2_with fail
    refine (awake_walk _).mono ?_
    rintro e w4 ⟨rfl, hb4⟩
    go_wp2
    go_ret
    exact ⟨rfl, below_step (below_step (below_step hb1 hb2) hb3) hb4⟩
end Go.Proofs.Ytfjcgbkoohjmnaa.Name
