import Derived.Test.YtimalojaiaofkaaSched
set_option linter.unusedVariables false
set_option linter.unusedSimpArgs false
namespace Go.Proofs.Ytimalojaiaofkaa.SchedP
open Go.RowKit Base Sp Flat Go.Proofs.YtimalojaiaofkaaW.PrintWords Go.Proofs.YtimalojaiaofkaaW.PrintLast Go.Proofs.Ytimalojaiaofkaa.PSchedChecks
theorem rd_at (l : List S) (k : Nat) (hk : k < l.length) : rd_T32 l (k : Int) = l[k] := by
  unfold rd_T32
  rw [Int.toNat_natCast, List.getD_eq_getElem?_getD, List.getElem?_eq_getElem hk]
  rfl
theorem w64k {k : Nat} (h : k ≤ 4000) : wrap64 ((k : Int) + 1) = ((k + 1 : Nat) : Int) := by unfold wrap64; omega
theorem pts_drop (l : List S) (k : Nat) (hk : k < l.length) : pts (pr (l.drop k)) = l[k].f0 :: pts (pr (l.drop (k + 1))) := by
  rw [List.drop_eq_getElem_cons hk]
  rfl
theorem of_from (l : List S) (a : Int) (hl : l.length ≤ 2000) : ∀ (d i : Nat) (acc : List Int), i + d = l.length → acc.length ≤ i → Ev (fun k => sched_Of.l0 k a acc l (l.length : Int) (i : Int)) (acc ++ ofl a (pts (pr (l.drop i))) (i : Int))
  | 0, i, acc, h, ha => by
    refine Ev.step (f := fun _ => some acc) (fun k => ?_) ?_
    · simp only [sched_Of.l0]
      rw [if_neg (by omega)]
    · rw [List.drop_of_length_le (by omega)]
      show Ev _ (acc ++ [])
      rw [List.append_nil]
      exact Ev.now _
  | d + 1, i, acc, h, ha => by
    have hi : i < l.length := by omega
    rw [pts_drop l i hi, ofl]
    by_cases hx : l[i].f0 = a
    · rw [if_pos hx]
      have ih := of_from l a hl d (i + 1) (acc ++ [(i : Int)]) (by omega) (by rw [List.length_append, List.length_singleton]; omega)
      rw [List.append_assoc] at ih
      refine Ev.step (fun k => ?_) ih
      simp only [sched_Of.l0]
      rw [if_pos (by omega), if_pos (by omega), if_pos (by omega), rd_at l i hi, if_pos hx, if_pos (by omega), w64k (by omega)]
    · rw [if_neg hx]
      have ih := of_from l a hl d (i + 1) acc (by omega) (by omega)
      refine Ev.step (fun k => ?_) ih
      simp only [sched_Of.l0]
      rw [if_pos (by omega), if_pos (by omega), if_pos (by omega), rd_at l i hi, if_neg hx, w64k (by omega)]
theorem of_ev (l : List S) (a : Int) (hl : l.length ≤ 2000) : Ev (fun k => sched_Of.f k l a) (ofl a (pts (pr l)) 0) :=
  of_from l a hl l.length 0 [] (by omega) (Nat.le_refl _)
theorem rd_hd (l : List Int) (h : 0 < l.length) : rd l 0 = hdm l := by
  unfold hdm
  rw [dif_pos h]
  unfold rd
  simp [List.getD_eq_getElem?_getD, List.getElem?_eq_getElem h]
theorem bus_ev (l : List S) (hl : l.length ≤ 2000) : Ev (fun k => sched_BusAt.f k l) (hdm (ofl (-1) (pts (pr l)) 0)) := by
  refine Ev.bind (of_ev l (-1) hl) ?_
  generalize ofl (-1) (pts (pr l)) 0 = r
  by_cases h : 0 < r.length
  · rw [if_pos (by omega), if_pos (by omega), rd_hd r h]
    exact Ev.now _
  · rw [if_neg (by omega)]
    unfold hdm
    rw [dif_neg h]
    exact Ev.now _
theorem ofl_short (p : Int) : ∀ (q : List Int) (k : Int), (ofl p q k).length ≤ q.length
  | [], _ => Nat.le_refl _
  | x :: q, k => by
    have := ofl_short p q (k + 1)
    rw [ofl]
    split <;> simp only [List.length_cons] <;> omega
theorem pts_len (l : List S) : (pts (pr l)).length = l.length := by unfold pts pr; rw [List.length_map, List.length_map]
theorem rd_lst (l : List Int) (h : l.length ≠ 0) (h2 : l.length ≤ 2000) : rd l (wrap64 ((l.length : Int) - 1)) = lst l := by
  have e : wrap64 ((l.length : Int) - 1) = ((l.length - 1 : Nat) : Int) := by unfold wrap64; omega
  rw [e]
  unfold rd lst
  rw [Int.toNat_natCast]
theorem deep_ev (l : List S) (f t : Int) (hl : l.length ≤ 2000) : Ev (fun k => sched_Deep.f k l f t) (deep (pts (pr l)) f t) := by
  refine Ev.bind (bus_ev l hl) (Ev.bind (of_ev l f hl) (Ev.bind (of_ev l t hl) ?_))
  unfold deep
  have h1 := ofl_short f (pts (pr l)) 0
  have h2 := ofl_short t (pts (pr l)) 0
  rw [pts_len] at h1 h2
  generalize hdm (ofl (-1) (pts (pr l)) 0) = b at *
  generalize ofl f (pts (pr l)) 0 = x at *
  generalize ofl t (pts (pr l)) 0 = y at *
  by_cases c1 : b < 0
  · simp only [if_pos c1]
    rw [if_pos (.inl c1)]
    refine Ev.step (f := fun _ => some (-1)) (fun k => ?_) (Ev.now _)
    simp only [sched_Deep.j0, if_pos]
  · simp only [if_neg c1]
    by_cases c2 : x.length = 0
    · simp only [if_pos (show (x.length : Int) = 0 from by omega)]
      rw [if_pos (.inr (.inl c2))]
      refine Ev.step (f := fun _ => some (-1)) (fun k => ?_) (Ev.now _)
      simp only [sched_Deep.j0, if_pos]
    · simp only [if_neg (show ¬ (x.length : Int) = 0 from by omega)]
      by_cases c3 : y.length = 0
      · rw [if_pos (.inr (.inr c3))]
        refine Ev.step (f := fun _ => some (-1)) (fun k => ?_) (Ev.now _)
        rw [show ((y.length : Int) == 0) = true from by rw [c3]; rfl]
        simp only [sched_Deep.j0, if_pos]
      · refine Ev.step (f := fun _ => some _) (fun k => ?_) (Ev.now _)
        rw [show ((y.length : Int) == 0) = false from beq_eq_false_iff_ne.2 (by omega)]
        have w1 : wrap64 ((x.length : Int) - 1) = (x.length : Int) - 1 := by unfold wrap64; omega
        have w2 : wrap64 ((y.length : Int) - 1) = (y.length : Int) - 1 := by unfold wrap64; omega
        simp only [sched_Deep.j0]
        rw [rd_lst x c2 (by omega), rd_lst y c3 (by omega), w1, w2, if_neg (by decide)]
        simp only [if_pos (show (0 : Int) ≤ (x.length : Int) - 1 from by omega), if_pos (show (x.length : Int) - 1 < (x.length : Int) from by omega), if_pos (show (0 : Int) ≤ (y.length : Int) - 1 from by omega), if_pos (show (y.length : Int) - 1 < (y.length : Int) from by omega)]
        rw [if_neg (show ¬ (b < 0 ∨ x.length = 0 ∨ y.length = 0) from by omega)]
        generalize lst x = u
        generalize lst y = v
        by_cases d1 : b < u <;> by_cases d2 : v ≤ b <;> simp [d1, d2]
theorem has_from (l : List S) (p : Int) (hl : l.length ≤ 2000) : ∀ (d i : Nat), i + d = l.length → Ev (fun k => broadsheetref27_has.l0 k l p (i : Int)) (decide (p ∈ pts (pr (l.drop i))))
  | 0, i, h => by
    refine Ev.step (f := fun _ => some false) (fun k => ?_) ?_
    · simp only [broadsheetref27_has.l0]
      rw [if_neg (by omega)]
    · rw [List.drop_of_length_le (by omega)]
      exact Ev.now _
  | d + 1, i, h => by
    have hi : i < l.length := by omega
    rw [pts_drop l i hi]
    by_cases hx : l[i].f0 = p
    · refine Ev.step (f := fun _ => some true) (fun k => ?_) ?_
      · simp only [broadsheetref27_has.l0]
        rw [if_pos (by omega), if_pos (by omega), rd_at l i hi, if_pos hx]
      · rw [decide_eq_true (by rw [hx]; exact List.mem_cons_self)]
        exact Ev.now _
    · have ih := has_from l p hl d (i + 1) (by omega)
      rw [show decide (p ∈ l[i].f0 :: pts (pr (l.drop (i + 1)))) = decide (p ∈ pts (pr (l.drop (i + 1)))) from by
        simp only [List.mem_cons, show ¬ p = l[i].f0 from fun h => hx h.symm, false_or]]
      refine Ev.step (fun k => ?_) ih
      simp only [broadsheetref27_has.l0]
      rw [if_pos (by omega), if_pos (by omega), rd_at l i hi, if_neg hx, w64k (by omega)]
theorem has_ev (l : List S) (p : Int) (hl : l.length ≤ 2000) : Ev (fun k => broadsheetref27_has.f k l p 0) (decide (p ∈ pts (pr l))) :=
  has_from l p hl l.length 0 (by omega)
theorem fin_from (l : List S) (parts : Int) (hl : l.length ≤ 2000) (hp : parts ≤ 1000) : ∀ (d : Nat) (p : Int) (r : Int × Int), -1 ≤ p → (parts - p).toNat = d →
    ((∀ p' : Int, p ≤ p' → p' < parts → p' ∈ pts (pr l)) ∧ r = (0, 0)) ∨ ((∃ p' : Int, p ≤ p' ∧ p' < parts ∧ ¬ p' ∈ pts (pr l)) ∧ r = (18, (l.length : Int))) →
    Ev (fun k => broadsheetref27_Check.l1 k l parts p) r
  | 0, p, r, h0, h, hr => by
    rcases hr with ⟨_, rfl⟩ | ⟨⟨p', h1, h2, _⟩, _⟩
    · refine Ev.step (f := fun _ => some (0, 0)) (fun k => ?_) (Ev.now _)
      simp only [broadsheetref27_Check.l1]
      rw [if_neg (by omega)]
    · omega
  | d + 1, p, r, h0, h, hr => by
    have ih := fin_from l parts hl hp d (p + 1) r (by omega) (by omega)
    have e : wrap64 (p + 1) = p + 1 := by unfold wrap64; omega
    refine Ev.step (fun k => by simp only [broadsheetref27_Check.l1]; rw [if_pos (by omega), e]) (Ev.bind (has_ev l p hl) ?_)
    by_cases hm : p ∈ pts (pr l)
    · simp only [decide_eq_true hm, if_pos]
      refine ih ?_
      rcases hr with ⟨h1, h2⟩ | ⟨⟨p', h1, h2, h3⟩, h4⟩
      · exact .inl ⟨fun p' h3 h4 => h1 p' (by omega) h4, h2⟩
      · refine .inr ⟨⟨p', ?_, h2, h3⟩, h4⟩
        by_cases hq : p' = p
        · rw [hq] at h3; exact absurd hm h3
        · omega
    · simp only [decide_eq_false hm]
      rcases hr with ⟨h1, h2⟩ | ⟨_, h4⟩
      · exact absurd (h1 p (Int.le_refl _) (by omega)) hm
      · rw [h4]
        exact Ev.now _
/-- What is left of a check. -/
theorem ref_from (l : List S) (parts : Int) (hl : l.length ≤ 2000) (hp : parts ≤ 1000) (r : Int × Int) (hfin : Ev (fun k => broadsheetref27_Check.l1 k l parts (-1)) r) : ∀ (d i : Nat), i + d = l.length →
    Ev (fun k => broadsheetref27_Check.l0 k l parts (i : Int)) (if (bad parts (pr (l.drop i)) i (decide (-1 ∈ pts (pr (l.take i))))).1 ≠ 0 then bad parts (pr (l.drop i)) i (decide (-1 ∈ pts (pr (l.take i)))) else r)
  | 0, i, h => by
    rw [List.drop_of_length_le (by omega)]
    rw [if_neg (show ¬ (bad parts (pr []) i (decide (-1 ∈ pts (pr (l.take i))))).1 ≠ 0 from fun h => h rfl)]
    refine Ev.step (fun k => ?_) hfin
    simp only [broadsheetref27_Check.l0]
    rw [if_neg (by omega)]
  | d + 1, i, h => by
    have hi : i < l.length := by omega
    have ih := ref_from l parts hl hp r hfin d (i + 1) (by omega)
    rw [take_snoc l i hi, mem_snoc] at ih
    have hrd := rd_at l i hi
    have hw := w64k (k := i) (by omega)
    have hbt := bad_at parts l i hi i (decide (-1 ∈ pts (pr (l.take i))))
    have hhas := has_ev (l.take i) (-1) (by rw [List.length_take]; omega)
    have htn : ((i : Int)).toNat = i := Int.toNat_natCast i
    generalize l[i] = x at *
    generalize hp : pts (pr (l.take i)) = P at *
    have key : ∀ m : Int, (m = if x.f0 = -1 then 0 else 16) → Ev (fun k => broadsheetref27_Check.j1 k l parts (i : Int) m) (if (bad parts (pr (l.drop i)) i (decide (-1 ∈ P))).1 ≠ 0 then bad parts (pr (l.drop i)) i (decide (-1 ∈ P)) else r) := by
      intro m hm
      by_cases hr : rng parts (x.f0, x.f1) = true
      · rw [hbt, if_pos hr, if_pos (show (7 : Int) ≠ 0 from by decide)]
        have hr2 := hr
        unfold rng at hr2
        simp only [Bool.or_eq_true, Bool.and_eq_true, decide_eq_true_eq] at hr2
        have hj2 : Ev (fun k => broadsheetref27_Check.j2 k l parts (i : Int) true) (7, (i : Int)) := by
          refine Ev.step (f := fun _ => some (7, (i : Int))) (fun k => ?_) (Ev.now _)
          simp only [broadsheetref27_Check.j2, if_pos]
        refine Ev.step (fun k => ?_) hj2
        simp only [broadsheetref27_Check.j1]
        rw [hrd, if_pos (by omega), if_pos (by omega)]
        by_cases c1 : x.f0 < -1
        · rw [if_pos c1]
        · rw [if_neg c1]
          by_cases c2 : x.f0 ≥ parts
          · rw [if_pos c2]
          · rw [if_neg c2]
            by_cases c3 : x.f1 < 0
            · rw [if_pos c3]
            · rw [if_neg c3, decide_eq_true]
              split at hm <;> omega
      · have hr2 := hr
        unfold rng at hr2
        simp only [Bool.or_eq_true, Bool.and_eq_true, decide_eq_true_eq] at hr2
        have hj2 : Ev (fun k => broadsheetref27_Check.j2 k l parts (i : Int) false) (if (bad parts (pr (l.drop i)) i (decide (-1 ∈ P))).1 ≠ 0 then bad parts (pr (l.drop i)) i (decide (-1 ∈ P)) else r) := by
          by_cases hb : x.f0 = -1
          · refine Ev.step (fun k => by simp only [broadsheetref27_Check.j2]; rw [if_neg (by decide), if_pos (by omega), if_pos (by omega), hrd, if_pos hb, if_pos (by omega), htn, hw]) (Ev.bind hhas ?_)
            by_cases hm : -1 ∈ P
            · rw [hbt.trans ((if_neg hr).trans (if_pos ⟨hb, decide_eq_true hm⟩)), if_pos (show (6 : Int) ≠ 0 from by decide)]
              simp only [decide_eq_true hm, if_pos]
              exact Ev.now _
            · rw [hbt.trans ((if_neg hr).trans (if_neg (fun h => hm (of_decide_eq_true h.2))))]
              rw [decide_eq_false hm]
              rw [decide_eq_false hm] at ih
              exact ih
          · rw [hbt.trans ((if_neg hr).trans (if_neg (fun h => hb h.1)))]
            refine Ev.step (fun k => ?_) ih
            simp only [broadsheetref27_Check.j2]
            rw [if_neg (by decide), if_pos (by omega), if_pos (by omega), hrd, if_neg hb, hw]
        refine Ev.step (fun k => ?_) hj2
        simp only [broadsheetref27_Check.j1]
        rw [hrd, if_pos (by omega), if_pos (by omega), if_neg (by omega), if_neg (by omega), if_neg (by omega), decide_eq_false]
        split at hm <;> omega
    by_cases hb : x.f0 = -1
    · refine Ev.step (fun k => ?_) (key 0 (by rw [if_pos hb]))
      simp only [broadsheetref27_Check.l0]
      rw [if_pos (by omega), if_pos (by omega), hrd, if_pos hb]
    · refine Ev.step (fun k => ?_) (key 16 (by rw [if_neg hb]))
      simp only [broadsheetref27_Check.l0]
      rw [if_pos (by omega), if_pos (by omega), hrd, if_neg hb]
theorem ref_ev (l : List S) (parts : Int) (hl : l.length ≤ 2000) (hp : parts ≤ 1000 ∨ l.length = 0 ∨ 32 < l.length) : Ev (fun k => broadsheetref27_Check.f k l parts) (chk parts (pr l)) := by
  unfold chk broadsheetref27_Check.f
  rw [pr_len]
  by_cases h0 : l.length = 0
  · simp only [if_pos (show (l.length : Int) = 0 from by omega)]
    rw [if_pos h0]
    exact Ev.now _
  · simp only [if_neg (show ¬ (l.length : Int) = 0 from by omega)]
    rw [if_neg h0]
    by_cases h32 : 32 < l.length
    · simp only [if_pos (show (l.length : Int) > 32 from by omega)]
      rw [if_pos h32]
      exact Ev.now _
    · simp only [if_neg (show ¬ (l.length : Int) > 32 from by omega)]
      rw [if_neg h32]
      have hp1 : parts ≤ 1000 := by omega
      have hd : ∀ r, Ev (fun k => broadsheetref27_Check.l1 k l parts (-1)) r → Ev (fun k => broadsheetref27_Check.l0 k l parts 0) (if (bad parts (pr l) 0 false).1 ≠ 0 then bad parts (pr l) 0 false else r) := fun r hr => ref_from l parts hl hp1 r hr l.length 0 (by omega)
      by_cases hb : (bad parts (pr l) 0 false).1 = 0
      · have hf := full parts (pr l) (by rw [pr_len]; omega) (by rw [pr_len]; omega) hb
        rw [if_neg (fun h => h hb)]
        by_cases hc : -1 ∈ pts (pr l) ∧ parts ≤ dn (pts (pr l)) 32
        · have := hd (0, 0) (fin_from l parts hl hp1 _ (-1) _ (by omega) rfl (.inl ⟨fun p h1 h2 => hf.1 hc p h1 h2, rfl⟩))
          rw [if_neg (fun h => h hb)] at this
          rw [if_pos hc]
          exact this
        · have hex : ∃ p' : Int, -1 ≤ p' ∧ p' < parts ∧ ¬ p' ∈ pts (pr l) := by
            refine Classical.byContradiction fun hn => hc (hf.2 fun p h1 h2 => ?_)
            refine Classical.byContradiction fun hp => hn ⟨p, h1, h2, hp⟩
          have := hd (18, (l.length : Int)) (fin_from l parts hl hp1 _ (-1) _ (by omega) rfl (.inr ⟨hex, rfl⟩))
          rw [if_neg (fun h => h hb)] at this
          rw [if_neg hc]
          exact this
      · rw [if_pos hb]
        by_cases hall : ∀ p' : Int, -1 ≤ p' → p' < parts → p' ∈ pts (pr l)
        · have := hd (0, 0) (fin_from l parts hl hp1 _ (-1) _ (by omega) rfl (.inl ⟨hall, rfl⟩))
          rw [if_pos hb] at this
          exact this
        · have hex : ∃ p' : Int, -1 ≤ p' ∧ p' < parts ∧ ¬ p' ∈ pts (pr l) := by
            refine Classical.byContradiction fun hn => hall fun p h1 h2 => ?_
            refine Classical.byContradiction fun hp => hn ⟨p, h1, h2, hp⟩
          have := hd (18, (l.length : Int)) (fin_from l parts hl hp1 _ (-1) _ (by omega) rfl (.inr ⟨hex, rfl⟩))
          rw [if_pos hb] at this
          exact this
end Go.Proofs.Ytimalojaiaofkaa.SchedP
