import Derived.Test.YtimalojaiaofkaaSchedP
set_option linter.unusedVariables false
set_option linter.unusedSimpArgs false
namespace Go.Proofs.Ytimalojaiaofkaa.SchedP
/-- The places of a part. -/
def ofl (p : Int) : List Int → Int → List Int
  | [], _ => []
  | x :: q, i => if x = p then i :: ofl p q (i + 1) else ofl p q (i + 1)
def hdm (l : List Int) : Int := if h : 0 < l.length then l[0] else -1
def lst (l : List Int) : Int := l.getD (l.length - 1) 0
/-- How deep the way is. -/
def deep (q : List Int) (f t : Int) : Int :=
  if hdm (ofl (-1) q 0) < 0 ∨ (ofl f q 0).length = 0 ∨ (ofl t q 0).length = 0 then -1
  else (if hdm (ofl (-1) q 0) < lst (ofl f q 0) then 1 else 0) + (if lst (ofl t q 0) ≤ hdm (ofl (-1) q 0) then 1 else 0)
theorem ofl_mem (p : Int) : ∀ (q : List Int) (k i : Int), i ∈ ofl p q k ↔ ∃ j : Nat, q[j]? = some p ∧ i = k + j
  | [], k, i => by simp [ofl]
  | x :: q, k, i => by
    have ih := ofl_mem p q (k + 1) i
    have e : (∃ j : Nat, (x :: q)[j]? = some p ∧ i = k + j) ↔ (x = p ∧ i = k) ∨ ∃ j : Nat, q[j]? = some p ∧ i = k + 1 + j := by
      constructor
      · rintro ⟨j, h, hi⟩
        cases j with
        | zero => exact .inl ⟨by simpa using h, by simpa using hi⟩
        | succ j => exact .inr ⟨j, by simpa using h, by omega⟩
      · rintro (⟨h, hi⟩ | ⟨j, h, hi⟩)
        · exact ⟨0, by simp [h], by simp [hi]⟩
        · exact ⟨j + 1, by simpa using h, by omega⟩
    rw [e, ofl]
    by_cases h : x = p
    · rw [if_pos h, List.mem_cons, ih]
      simp [h]
    · rw [if_neg h, ih]
      simp [h]
theorem lst_cons (x y : Int) (l : List Int) : lst (x :: y :: l) = lst (y :: l) := by
  simp [lst]
theorem lst_ge (p : Int) : ∀ (q : List Int) (k i : Int), i ∈ ofl p q k → i ≤ lst (ofl p q k)
  | [], _, _, h => by simp [ofl] at h
  | x :: q, k, i, h => by
    rw [ofl] at h ⊢
    by_cases e : x = p
    · rw [if_pos e] at h ⊢
      have ih := lst_ge p q (k + 1)
      have hk : ∀ j ∈ ofl p q (k + 1), k < j := fun j hj => by
        obtain ⟨m, _, hm⟩ := (ofl_mem p q (k + 1) j).1 hj
        omega
      generalize ofl p q (k + 1) = r at *
      cases r with
      | nil => simp at h; simp [lst, h]
      | cons y r =>
        rw [lst_cons]
        rcases List.mem_cons.1 h with h | h
        · have h1 := ih y List.mem_cons_self
          have h2 := hk y List.mem_cons_self
          omega
        · exact ih i h
    · rw [if_neg e] at h ⊢
      exact lst_ge p q (k + 1) i h
theorem lst_mem : ∀ (l : List Int), l.length ≠ 0 → lst l ∈ l
  | [], h => absurd rfl h
  | [x], _ => by simp [lst]
  | x :: y :: l, _ => by rw [lst_cons]; exact List.mem_cons_of_mem _ (lst_mem (y :: l) (by simp))
theorem hdm_mem (l : List Int) (h : l.length ≠ 0) : hdm l ∈ l := by
  unfold hdm
  rw [dif_pos (by omega)]
  exact List.getElem_mem _
theorem ofl_len (p : Int) (q : List Int) : (ofl p q 0).length ≠ 0 ↔ p ∈ q := by
  constructor
  · intro h
    obtain ⟨j, hj, _⟩ := (ofl_mem p q 0 _).1 (hdm_mem _ h)
    exact List.mem_of_getElem? hj
  · intro h e
    obtain ⟨j, hj⟩ := List.mem_iff_getElem?.1 h
    have h1 := (ofl_mem p q 0 (0 + j)).2 ⟨j, hj, rfl⟩
    rw [List.eq_nil_of_length_eq_zero e] at h1
    simp at h1
theorem bad_one (parts : Int) : ∀ (l : List (Int × Int)) (i : Int) (b : Bool) (k : Int), (bad parts l i b).1 = 0 → (b = true → ¬ -1 ∈ pts l) ∧ ∀ j ∈ ofl (-1) (pts l) k, ∀ j' ∈ ofl (-1) (pts l) k, j = j'
  | [], _, _, _, _ => by simp [pts, ofl]
  | x :: l, i, b, k, h => by
    rw [bad] at h
    by_cases p : rng parts x = true
    · rw [if_pos p] at h; cases h
    · rw [if_neg p] at h
      by_cases q : x.1 = -1 ∧ b = true
      · rw [if_pos q] at h; cases h
      · rw [if_neg q] at h
        obtain ⟨h1, h2⟩ := bad_one parts l _ _ (k + 1) h
        refine ⟨fun hb hm => ?_, ?_⟩
        · have hm' : -1 ∈ x.1 :: pts l := hm
          rcases List.mem_cons.1 hm' with e | e
          · exact q ⟨e.symm, hb⟩
          · exact h1 (by simp [hb]) e
        · show ∀ j ∈ ofl (-1) (x.1 :: pts l) k, ∀ j' ∈ ofl (-1) (x.1 :: pts l) k, j = j'
          rw [ofl]
          by_cases e : x.1 = -1
          · rw [if_pos e]
            have h3 : ¬ -1 ∈ pts l := h1 (by simp [e])
            have h4 : ofl (-1) (pts l) (k + 1) = [] := by
              refine List.eq_nil_iff_forall_not_mem.2 fun j hj => ?_
              obtain ⟨m, hm, _⟩ := (ofl_mem _ _ _ _).1 hj
              exact h3 (List.mem_of_getElem? hm)
            rw [h4]
            intro j hj j' hj'
            rw [List.mem_singleton.1 hj, List.mem_singleton.1 hj']
          · rw [if_neg e]
            exact h2
/-- The next time at a place of a frame. -/
theorem next (L n p : Nat) (hp : p < L) : ∃ T, n ≤ T ∧ T ≤ n + L ∧ T % L = p ∧ T / L ≤ n / L + (if p < n % L then 1 else 0) := by
  have h0 : 0 < L := by omega
  have hd := Nat.div_add_mod n L
  have hm := Nat.mod_lt n h0
  generalize hk : n / L + (if p < n % L then 1 else 0) = k
  refine ⟨L * k + p, ?_, ?_, ?_, ?_⟩
  rotate_left
  · by_cases h : p < n % L
    · rw [if_pos h] at hk
      rw [← hk, Nat.mul_add, Nat.mul_one]
      omega
    · rw [if_neg h, Nat.add_zero] at hk
      rw [← hk]
      omega
  rotate_right
  · by_cases h : p < n % L
    · rw [if_pos h] at hk
      rw [← hk, Nat.mul_add, Nat.mul_one]
      omega
    · rw [if_neg h, Nat.add_zero] at hk
      rw [← hk]
      omega
  · rw [Nat.mul_add_mod, Nat.mod_eq_of_lt hp]
  · rw [Nat.mul_add_div h0, Nat.div_eq_of_lt hp]
    omega
/-- The time of the bus behind a time. -/
theorem bus_next (parts : Int) (l : List (Int × Int)) (hc : chk parts l = (0, 0)) (n : Nat) (hat : (pts l).getD (n % l.length) 0 ≠ -1) :
    ∃ T, n ≤ T ∧ T ≤ n + l.length ∧ (pts l).getD (T % l.length) 0 = -1 ∧ T / l.length ≤ n / l.length + (if hdm (ofl (-1) (pts l) 0) < ((n % l.length : Nat) : Int) then 1 else 0) := by
  have hlen : (pts l).length = l.length := List.length_map _
  have h0 : 0 < l.length := by
    refine Nat.pos_of_ne_zero fun h => ?_
    unfold chk at hc
    rw [if_pos h] at hc
    cases hc
  have hb : -1 ∈ pts l := by
    unfold chk at hc
    rw [if_neg (by omega)] at hc
    split at hc
    · cases hc
    · split at hc
      · rename_i h; exact absurd (by rw [hc]) h
      · split at hc
        · rename_i h; exact h.1
        · cases hc
  obtain ⟨j, hj, e⟩ := (ofl_mem _ _ _ _).1 (hdm_mem _ ((ofl_len (-1) (pts l)).2 hb))
  have hjl : j < l.length := by rw [← hlen]; exact (List.getElem?_eq_some_iff.1 hj).1
  obtain ⟨T, t1, t1', t2, t3⟩ := next l.length n j hjl
  refine ⟨T, t1, t1', ?_, ?_⟩
  · rw [t2, List.getD_eq_getElem?_getD, hj]
    rfl
  · rw [e]
    by_cases hh : j < n % l.length
    · rw [if_pos hh] at t3
      rw [if_pos (by omega)]
      exact t3
    · rw [if_neg hh] at t3
      rw [if_neg (by omega)]
      exact t3
/-- The time of a part behind the bus. -/
theorem part_next (parts : Int) (l : List (Int × Int)) (hc : chk parts l = (0, 0)) (n : Nat) (hat : (pts l).getD (n % l.length) 0 = -1) (to : Int) (h0 : 0 ≤ to) (h1 : to < parts) :
    ∃ T, n ≤ T ∧ T ≤ n + l.length ∧ (pts l).getD (T % l.length) 0 = to ∧ T / l.length ≤ n / l.length + (if lst (ofl to (pts l) 0) ≤ hdm (ofl (-1) (pts l) 0) then 1 else 0) := by
  have hlen : (pts l).length = l.length := List.length_map _
  unfold chk at hc
  have hl0 : l.length ≠ 0 := by
    intro h
    rw [if_pos h] at hc
    cases hc
  rw [if_neg hl0] at hc
  by_cases hl : 32 < l.length
  · rw [if_pos hl] at hc; cases hc
  · rw [if_neg hl] at hc
    by_cases hb : (bad parts l 0 false).1 = 0
    · rw [if_neg (fun h => h hb)] at hc
      by_cases hf : -1 ∈ pts l ∧ parts ≤ dn (pts l) 32
      · have hto := (full parts l (by omega) (by omega) hb).1 hf to (by omega) h1
        obtain ⟨j, hj, e⟩ := (ofl_mem _ _ _ _).1 (lst_mem _ ((ofl_len to (pts l)).2 hto))
        have hjl : j < l.length := by rw [← hlen]; exact (List.getElem?_eq_some_iff.1 hj).1
        have hB := hdm_mem _ ((ofl_len (-1) (pts l)).2 hf.1)
        have hn : (n % l.length) < l.length := Nat.mod_lt _ (by omega)
        have hnb : (pts l)[n % l.length]? = some (-1) := by
          rw [List.getElem?_eq_getElem (by omega)]
          rw [List.getD_eq_getElem?_getD, List.getElem?_eq_getElem (by omega)] at hat
          exact congrArg some hat
        have hu := (bad_one parts l 0 false 0 hb).2 _ hB _ ((ofl_mem _ _ _ _).2 ⟨n % l.length, hnb, rfl⟩)
        obtain ⟨T, t1, t1', t2, t3⟩ := next l.length n j hjl
        refine ⟨T, t1, t1', ?_, ?_⟩
        · rw [t2, List.getD_eq_getElem?_getD, hj]
          rfl
        · rw [e, hu]
          refine Nat.le_trans t3 (Nat.add_le_add_left ?_ _)
          by_cases hh : j < n % l.length
          · rw [if_pos hh, if_pos (by omega)]
            exact Nat.le_refl _
          · rw [if_neg hh]
            exact Nat.zero_le _
      · rw [if_neg hf] at hc; cases hc
    · rw [if_pos hb] at hc
      exact absurd (by rw [hc]) hb
/-- The way is as deep as told. -/
theorem deep_at (parts : Int) (l : List (Int × Int)) (hc : chk parts l = (0, 0)) (a : Nat) (ha : a < l.length) (to : Int) (h0 : 0 ≤ to) (h1 : to < parts) :
    let d := deep (pts l) ((pts l).getD a 0) to
    0 ≤ d ∧ d ≤ 2 ∧ (if hdm (ofl (-1) (pts l) 0) < (a : Int) then 1 else 0) + (if lst (ofl to (pts l) 0) ≤ hdm (ofl (-1) (pts l) 0) then 1 else 0) ≤ d := by
  intro d
  have hlen : (pts l).length = l.length := List.length_map _
  have hlt := hc
  unfold chk at hc
  rw [if_neg (by omega)] at hc
  by_cases hl : 32 < l.length
  · rw [if_pos hl] at hc; cases hc
  · rw [if_neg hl] at hc
    by_cases hb : (bad parts l 0 false).1 = 0
    · rw [if_neg (fun h => h hb)] at hc
      by_cases hf : -1 ∈ pts l ∧ parts ≤ dn (pts l) 32
      · have hto := (full parts l (by omega) (by omega) hb).1 hf to (by omega) h1
        have hB := hdm_mem _ ((ofl_len (-1) (pts l)).2 hf.1)
        obtain ⟨j, _, ej⟩ := (ofl_mem _ _ _ _).1 hB
        have hga : (pts l)[a]? = some ((pts l).getD a 0) := by
          rw [List.getD_eq_getElem?_getD, List.getElem?_eq_getElem (by omega)]
          rfl
        have hfm : (pts l).getD a 0 ∈ pts l := List.mem_of_getElem? hga
        have hge := lst_ge _ (pts l) 0 _ ((ofl_mem _ _ _ _).2 ⟨a, hga, rfl⟩)
        have hd : d = (if hdm (ofl (-1) (pts l) 0) < lst (ofl ((pts l).getD a 0) (pts l) 0) then 1 else 0) + (if lst (ofl to (pts l) 0) ≤ hdm (ofl (-1) (pts l) 0) then 1 else 0) := by
          show deep _ _ _ = _
          unfold deep
          rw [if_neg]
          rintro (h | h | h)
          · omega
          · exact (ofl_len _ _).2 hfm h
          · exact (ofl_len _ _).2 hto h
        rw [hd]
        generalize hdm (ofl (-1) (pts l) 0) = B at *
        generalize lst (ofl ((pts l).getD a 0) (pts l) 0) = M at *
        generalize lst (ofl to (pts l) 0) = K at *
        repeat' split
        all_goals omega
      · rw [if_neg hf] at hc; cases hc
    · rw [if_pos hb] at hc
      exact absurd (by rw [hc]) hb
end Go.Proofs.Ytimalojaiaofkaa.SchedP
