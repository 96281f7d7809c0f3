import Derived.Test.YtimalojaiaofkaaStep
set_option linter.unusedVariables false
set_option linter.unusedSimpArgs false
namespace Go.Proofs.Ytimalojaiaofkaa.SchedP
/-- The parts of windows. -/
def pts (l : List (Int × Int)) : List Int := l.map (·.1)
/-- Out of its range. -/
def rng (parts : Int) (x : Int × Int) : Bool := decide (x.1 < -1) || decide (parts ≤ x.1) || decide (x.2 < 0) || decide (16 < x.2) || (decide (x.1 = -1) && decide (x.2 ≠ 0))
/-- The first bad window: its error and place; e is 0 where there is none. -/
def bad (parts : Int) : List (Int × Int) → Int → Bool → Int × Int
  | [], _, _ => (0, 0)
  | x :: l, i, b => if rng parts x = true then (7, i) else if x.1 = -1 ∧ b = true then (6, i) else bad parts l (i + 1) (b || decide (x.1 = -1))
/-- How many of the first n numbers occur. -/
def dn (q : List Int) : Nat → Nat
  | 0 => 0
  | n + 1 => dn q n + if (n : Int) ∈ q then 1 else 0
/-- What Check answers. -/
def chk (parts : Int) (l : List (Int × Int)) : Int × Int :=
  if l.length = 0 then (18, 0) else if 32 < l.length then (3, 32) else
  if (bad parts l 0 false).1 ≠ 0 then bad parts l 0 false else
  if -1 ∈ pts l ∧ parts ≤ dn (pts l) 32 then (0, 0) else (18, l.length)
theorem dn_le (q : List Int) : ∀ n, dn q n ≤ n
  | 0 => Nat.le_refl _
  | n + 1 => by
    have := dn_le q n
    unfold dn
    split <;> omega
theorem dn_cons (x : Int) (q : List Int) : ∀ n, dn (x :: q) n ≤ dn q n + if (0 ≤ x ∧ x < n) then 1 else 0
  | 0 => by simp [dn]
  | n + 1 => by
    have ih := dn_cons x q n
    unfold dn
    by_cases h : (n : Int) = x
    · subst h
      rw [if_neg (by omega)] at ih
      rw [if_pos (List.mem_cons_self), if_pos (show 0 ≤ (n : Int) ∧ (n : Int) < ((n + 1 : Nat) : Int) from by omega)]
      split <;> omega
    · have e : (n : Int) ∈ x :: q ↔ (n : Int) ∈ q := by simp [h]
      simp only [e]
      by_cases h1 : 0 ≤ x ∧ x < n
      · rw [if_pos h1] at ih
        rw [if_pos (show 0 ≤ x ∧ x < ((n + 1 : Nat) : Int) from by omega)]
        omega
      · rw [if_neg h1] at ih
        rw [if_neg (show ¬ (0 ≤ x ∧ x < ((n + 1 : Nat) : Int)) from by omega)]
        omega
theorem dn_nil : ∀ n, dn [] n = 0
  | 0 => rfl
  | n + 1 => by rw [dn, dn_nil n, if_neg (by simp)]
theorem dn_length : ∀ (q : List Int) (n : Nat), dn q n ≤ q.length
  | [], n => by rw [dn_nil]; exact Nat.zero_le _
  | x :: q, n => by
    have h1 := dn_cons x q n
    have h2 := dn_length q n
    rw [List.length_cons]
    split at h1 <;> omega
theorem dn_bus : ∀ (q : List Int) (n : Nat), -1 ∈ q → dn q n + 1 ≤ q.length
  | x :: q, n, h => by
    have h1 := dn_cons x q n
    rw [List.length_cons]
    rcases List.mem_cons.1 h with h | h
    · subst h
      rw [if_neg (by omega)] at h1
      have := dn_length q n
      omega
    · have := dn_bus q n h
      split at h1 <;> omega
theorem dn_all (q : List Int) : ∀ n, (∀ p : Nat, p < n → (p : Int) ∈ q) → dn q n = n
  | 0, _ => rfl
  | n + 1, h => by rw [dn, dn_all q n (fun p hp => h p (by omega)), if_pos (h n (by omega))]
theorem dn_miss (q : List Int) : ∀ n (p : Nat), p < n → ¬ (p : Int) ∈ q → dn q n < n
  | n + 1, p, hp, h => by
    rw [dn]
    have := dn_le q n
    by_cases e : p = n
    · subst e
      rw [if_neg h]
      omega
    · have := dn_miss q n p (by omega) h
      split <;> omega
theorem dn_more (q : List Int) (m : Nat) (hq : ∀ p ∈ q, p < (m : Int)) : ∀ n, m ≤ n → dn q n = dn q m
  | 0, h => by rw [show m = 0 from by omega]
  | n + 1, h => by
    by_cases e : m = n + 1
    · rw [e]
    · rw [dn, dn_more q m hq n (by omega), if_neg (fun hm => by have := hq _ hm; omega), Nat.add_zero]
theorem bad_rng (parts : Int) : ∀ (l : List (Int × Int)) (i : Int) (b : Bool), (bad parts l i b).1 = 0 → ∀ x ∈ l, rng parts x = false
  | [], _, _, _, x, h => by cases h
  | y :: l, i, b, h, x, hx => by
    rw [bad] at h
    by_cases p : rng parts y = true
    · rw [if_pos p] at h; cases h
    · rw [if_neg p] at h
      by_cases q : y.1 = -1 ∧ b = true
      · rw [if_pos q] at h; cases h
      · rw [if_neg q] at h
        rcases List.mem_cons.1 hx with rfl | hx
        · simpa using p
        · exact bad_rng parts l _ _ h x hx
theorem rng_lt {parts : Int} {x : Int × Int} (h : rng parts x = false) : -1 ≤ x.1 ∧ x.1 < parts := by
  unfold rng at h
  simp only [Bool.or_eq_false_iff, decide_eq_false_iff_not] at h
  omega
/-- Is every part there? -/
theorem full (parts : Int) (l : List (Int × Int)) (hl : l.length ≤ 32) (h0 : 0 < l.length) (hb : (bad parts l 0 false).1 = 0) :
    (-1 ∈ pts l ∧ parts ≤ dn (pts l) 32) ↔ ∀ p : Int, -1 ≤ p → p < parts → p ∈ pts l := by
  have hr := bad_rng parts l 0 false hb
  have hq : ∀ p ∈ pts l, p < parts := by
    intro p hp
    obtain ⟨x, hx, rfl⟩ := List.mem_map.1 hp
    exact (rng_lt (hr x hx)).2
  have hlen : (pts l).length = l.length := List.length_map _
  have hp0 : 0 ≤ parts := by
    obtain ⟨x, l', rfl⟩ := List.exists_cons_of_length_pos h0
    have := rng_lt (hr x List.mem_cons_self)
    omega
  obtain ⟨m, rfl⟩ : ∃ m : Nat, parts = (m : Int) := ⟨parts.toNat, by omega⟩
  constructor
  · rintro ⟨hbus, hd⟩ p h1 h2
    by_cases e : p = -1
    · rw [e]; exact hbus
    · refine Classical.byContradiction fun hn => ?_
      have hpn : ((p.toNat : Nat) : Int) = p := by omega
      have h3 := dn_le (pts l) 32
      by_cases hm : m ≤ 32
      · have h4 := dn_more (pts l) m hq 32 hm
        have h5 := dn_miss (pts l) m p.toNat (by omega) (by rw [hpn]; exact hn)
        omega
      · omega
  · intro h
    have hbus : -1 ∈ pts l := h (-1) (by omega) (by omega)
    refine ⟨hbus, ?_⟩
    by_cases hm : m ≤ 32
    · rw [dn_more (pts l) m hq 32 hm, dn_all (pts l) m (fun p hp => h p (by omega) (by omega))]
      exact Int.le_refl _
    · have h3 := dn_all (pts l) 32 (fun p hp => h p (by omega) (by omega))
      have h4 := dn_bus (pts l) 32 hbus
      omega
theorem chk_none {parts : Int} {l : List (Int × Int)} (h0 : 0 < l.length) (hl : l.length ≤ 32) (hp : 1000 < parts) : (chk parts l).1 ≠ 0 := by
  unfold chk
  rw [if_neg (by omega), if_neg (by omega)]
  by_cases h : (bad parts l 0 false).1 ≠ 0
  · rw [if_pos h]; exact h
  · rw [if_neg h, if_neg (fun h => by have := dn_le (pts l) 32; omega)]
    show (18 : Int) ≠ 0
    decide
/-- What the counts are. -/
def cnt (q : List Int) : List Int := (List.range 32).map fun (j : Nat) => ((q.count (j : Int) : Nat) : Int)
theorem cnt_len (q : List Int) : (cnt q).length = 32 := by simp [cnt]
theorem cnt_get (q : List Int) (j : Nat) (h : j < 32) : (cnt q)[j]? = some (q.count (j : Int) : Int) := by
  unfold cnt
  rw [List.getElem?_map, List.getElem?_range h]
  rfl
theorem cnt_skip (q : List Int) (x : Int) (h : ¬ (0 ≤ x ∧ x < 32)) : cnt (q ++ [x]) = cnt q := by
  unfold cnt
  refine List.map_congr_left fun j hj => ?_
  have := List.mem_range.1 hj
  rw [List.count_append, List.count_singleton, if_neg (by simp; omega)]
  simp
theorem cnt_snoc (q : List Int) (x : Nat) (h : x < 32) : cnt (q ++ [(x : Int)]) = (cnt q).set x (q.count (x : Int) + 1) := by
  refine List.ext_getElem? fun j => ?_
  by_cases hj : j < 32
  · rw [cnt_get _ _ hj, List.getElem?_set, List.count_append, List.count_singleton]
    by_cases e : x = j
    · subst e
      simp [cnt_len, h]
    · rw [if_neg e, cnt_get _ _ hj, if_neg (by simp; omega)]
      simp
  · rw [List.getElem?_eq_none (by rw [cnt_len]; omega), List.getElem?_eq_none (by rw [List.length_set, cnt_len]; omega)]
theorem dn_snoc (q : List Int) (x : Int) : ∀ n : Nat, dn (q ++ [x]) n = dn q n + if (0 ≤ x ∧ x < n) ∧ q.count x = 0 then 1 else 0
  | 0 => by rw [dn, dn, if_neg (by omega)]
  | n + 1 => by
    have ih := dn_snoc q x n
    rw [dn, dn, ih]
    by_cases e : (n : Int) = x
    · subst e
      rw [if_neg (show ¬ ((0 ≤ (n : Int) ∧ (n : Int) < n) ∧ q.count (n : Int) = 0) from by omega), if_pos (by simp)]
      by_cases hm : (n : Int) ∈ q
      · rw [if_pos hm, if_neg (fun h => by have := List.count_pos_iff.2 hm; omega)]
      · rw [if_neg hm, if_pos ⟨by omega, List.count_eq_zero_of_not_mem hm⟩]
    · have e1 : ((n : Int) ∈ q ++ [x]) ↔ ((n : Int) ∈ q) := by simp [e]
      have e2 : ((0 ≤ x ∧ x < ((n + 1 : Nat) : Int)) ∧ q.count x = 0) ↔ ((0 ≤ x ∧ x < (n : Int)) ∧ q.count x = 0) := by omega
      simp only [e1, e2]
      omega
end Go.Proofs.Ytimalojaiaofkaa.SchedP
