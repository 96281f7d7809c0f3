import Derived.Test.YtfjcgbkoohjmnaaPNameTellsx2
set_option linter.unusedVariables false
set_option linter.unusedSimpArgs false
namespace Go.Proofs.Ytfjcgbkoohjmnaa.NameP
open Go.RowKit Go.Proofs.Ytfjcgbkoohjmnaa.PNameTells Go.Proofs.YtfjcgbkoohjmnaaW.PrintWords Go.Proofs.YtfjcgbkoohjmnaaW.PrintLast

theorem w64 {x : Int} (h0 : 0 ≤ x) (h1 : x < 9223372036854775808) : wrap64 x = x := by unfold wrap64; omega
def letter (c : Int) : Bool := (decide (97 ≤ c) && decide (c ≤ 122)) || (decide (65 ≤ c) && decide (c ≤ 90))
def digit (c : Int) : Bool := decide (48 ≤ c) && decide (c ≤ 57)
def may (c : Int) (first : Bool) : Bool := letter c || (!first && (digit c || c == 95))
theorem may_all : ∀ (c : Fin 256) (b : Bool), name_may.f 6 (c.val : Int) b = some (may (c.val : Int) b) := by decide +kernel
theorem letter_all : ∀ (c : Fin 256), broadsheetref04_Letter.f (c.val : Int) = some (letter (c.val : Int)) := by decide +kernel
theorem digit_all : ∀ (c : Fin 256), broadsheetref04_Digit.f (c.val : Int) = some (digit (c.val : Int)) := by decide +kernel
/-- The byte at a place. -/
def at_ (s : ByteArray) (i : Nat) : Int := bt s (i : Int)
theorem at_fin (s : ByteArray) (i : Nat) : ∃ c : Fin 256, at_ s i = (c.val : Int) := by
  unfold at_ bt
  split
  · rename_i h
    exact ⟨⟨_, (s[(i : Int).toNat]'h).toNat_lt⟩, rfl⟩
  · exact ⟨0, rfl⟩
theorem may_ev (s : ByteArray) (i : Nat) (b : Bool) : Ev (fun k => name_may.f k (at_ s i) b) (may (at_ s i) b) := by
  obtain ⟨c, hc⟩ := at_fin s i
  rw [hc]
  exact Ev.of (fun k => name_may.mono _ _ k) (may_all c b)
theorem letter_at (s : ByteArray) (i : Nat) : broadsheetref04_Letter.f (at_ s i) = some (letter (at_ s i)) := by
  obtain ⟨c, hc⟩ := at_fin s i
  rw [hc]
  exact letter_all c
theorem digit_at (s : ByteArray) (i : Nat) : broadsheetref04_Digit.f (at_ s i) = some (digit (at_ s i)) := by
  obtain ⟨c, hc⟩ := at_fin s i
  rw [hc]
  exact digit_all c
/-- May the byte at a place stand there in a name? -/
def ok (s : ByteArray) (i : Nat) : Bool := may (at_ s i) (i == 0)
/-- Where the first one stands that may not, from a place on: d places are left. -/
def lead (s : ByteArray) : Nat → Nat → Nat
  | 0, i => i
  | d + 1, i => if ok s i then lead s d (i + 1) else i
theorem lead_le (s : ByteArray) (d : Nat) : ∀ i, i ≤ lead s d i ∧ lead s d i ≤ i + d := by
  induction d with
  | zero => intro i; simp [lead]
  | succ d ih =>
    intro i
    have := ih (i + 1)
    unfold lead
    split <;> omega
theorem lead_ok (s : ByteArray) (d : Nat) : ∀ i j, i ≤ j → j < lead s d i → ok s j = true := by
  induction d with
  | zero => intro i j h1 h2; simp [lead] at h2; omega
  | succ d ih =>
    intro i j h1 h2
    unfold lead at h2
    split at h2
    · rename_i h
      by_cases e : j = i
      · rw [e]; exact h
      · exact ih (i + 1) j (by omega) h2
    · omega
theorem lead_stop (s : ByteArray) (d : Nat) : ∀ i, lead s d i < i + d → ok s (lead s d i) = false := by
  induction d with
  | zero => intro i h; simp [lead] at h
  | succ d ih =>
    intro i h
    unfold lead at h ⊢
    split
    · rename_i hk
      rw [if_pos hk] at h
      exact ih (i + 1) (by omega)
    · rename_i hk
      simpa using hk
def Lead (s : ByteArray) : Nat := lead s s.size 0
theorem Lead_le (s : ByteArray) : Lead s ≤ s.size := by have := lead_le s s.size 0; unfold Lead; omega
theorem Lead_ev_from (s : ByteArray) (hs : s.size ≤ 140737488351240) (d : Nat) : ∀ i, i + d = s.size → Ev (fun k => name_Lead.l0 k s (i : Int)) ((lead s d i : Nat) : Int) := by
  induction d with
  | zero =>
    intro i hi
    refine Ev.step (f := fun _ => some (i : Int)) (fun k => ?_) (Ev.now _)
    simp only [name_Lead.l0]
    rw [if_neg (by omega)]
  | succ d ih =>
    intro i hi
    have hb : ((i : Int) == 0) = (i == 0) := by rw [Bool.eq_iff_iff, beq_iff_eq, beq_iff_eq]; omega
    refine Ev.step (fun k => ?_) (Ev.bind (may_ev s i (i == 0)) (f := fun k t => if t = true then name_Lead.l0 k s (wrap64 ((i : Int) + 1)) else some (i : Int)) ?_)
    · simp only [name_Lead.l0]
      rw [if_pos (by omega), if_pos (by omega), hb]
      rfl
    · show Ev (fun k => if ok s i = true then name_Lead.l0 k s (wrap64 ((i : Int) + 1)) else some (i : Int)) _
      unfold lead
      by_cases h : ok s i = true
      · rw [if_pos h]
        refine Ev.congr (fun k => by rw [if_pos h, w64 (by omega) (by omega)]; rfl) (ih (i + 1) (by omega))
      · rw [if_neg h]
        exact Ev.congr (fun k => if_neg h) (Ev.now _)
theorem Lead_ev (s : ByteArray) (hs : s.size ≤ 140737488351240) : Ev (fun k => name_Lead.f k s) ((Lead s : Nat) : Int) := Lead_ev_from s hs s.size 0 (by omega)

/-- Is a text in the form of a name? -/
def formed (s : ByteArray) : Bool := decide (0 < s.size) && decide (Lead s = s.size)
theorem ok_all {s : ByteArray} : formed s = true ↔ 0 < s.size ∧ ∀ j, j < s.size → ok s j = true := by
  unfold formed
  rw [Bool.and_eq_true, decide_eq_true_eq, decide_eq_true_eq]
  refine and_congr_right fun _ => ⟨fun h j hj => lead_ok s s.size 0 j (by omega) (by unfold Lead at h; omega), fun h => ?_⟩
  have h1 := Lead_le s
  rcases Nat.lt_or_ge (Lead s) s.size with hl | hl
  · have h2 := lead_stop s s.size 0 (by unfold Lead at hl; omega)
    have h3 := h _ hl
    unfold Lead at h3
    rw [h2] at h3
    cases h3
  · omega

/-! the reference -/
def allT (s : ByteArray) : Nat → Nat → Bool
  | 0, _ => true
  | d + 1, i => may (at_ s i) false && allT s d (i + 1)
theorem allT_iff (s : ByteArray) (d : Nat) : ∀ i, allT s d i = true ↔ ∀ j, i ≤ j → j < i + d → may (at_ s j) false = true := by
  induction d with
  | zero => intro i; simp [allT]; intro j h1 h2; omega
  | succ d ih =>
    intro i
    rw [allT, Bool.and_eq_true, ih]
    constructor
    · rintro ⟨h1, h2⟩ j h3 h4
      by_cases e : j = i
      · rw [e]; exact h1
      · exact h2 j (by omega) (by omega)
    · intro h
      exact ⟨h i (by omega) (by omega), fun j h3 h4 => h j (by omega) (by omega)⟩
theorem may_letter {c : Int} (h : letter c = true) (b : Bool) : may c b = true := by unfold may; rw [h]; rfl
theorem formed_eq (s : ByteArray) : formed s = (decide (0 < s.size) && (letter (at_ s 0) && allT s s.size 0)) := by
  rw [Bool.eq_iff_iff, ok_all, Bool.and_eq_true, decide_eq_true_eq, Bool.and_eq_true, allT_iff]
  refine and_congr_right fun hp => ⟨fun h => ⟨?_, fun j _ hj => ?_⟩, fun h j hj => ?_⟩
  · have := h 0 hp
    simpa [ok, may] using this
  · have := h j (by omega)
    unfold ok at this
    cases e : (j == 0) with
    | true =>
      rw [e] at this
      simp [may] at this
      exact may_letter this _
    | false => rw [e] at this; exact this
  · unfold ok
    cases e : (j == 0) with
    | true =>
      rw [beq_iff_eq.1 e]
      exact may_letter h.1 _
    | false => exact h.2 j (by omega) (by omega)
theorem formed_from (s : ByteArray) (hs : s.size ≤ 140737488351232) (d : Nat) : ∀ i, i + d = s.size → Ev (fun k => broadsheetref04_formed.l0 k s (i : Int)) (allT s d i) := by
  induction d with
  | zero =>
    intro i hi
    refine Ev.step (f := fun _ => some true) (fun k => ?_) (Ev.now _)
    simp only [broadsheetref04_formed.l0]
    rw [if_neg (by omega)]
  | succ d ih =>
    intro i hi
    have h := ih (i + 1) (by omega)
    have hl := letter_at s i
    have hd := digit_at s i
    unfold at_ at hl hd
    have hgo : Ev (fun k => broadsheetref04_formed.l0 k s (wrap64 ((i : Int) + 1))) (allT s d (i + 1)) := Ev.congr (fun k => by rw [w64 (by omega) (by omega)]; rfl) h
    rw [allT]
    refine Ev.step (f := fun k => if letter (bt s i) = true then broadsheetref04_formed.l0 k s (wrap64 ((i : Int) + 1)) else if digit (bt s i) = true then broadsheetref04_formed.l0 k s (wrap64 ((i : Int) + 1)) else if bt s i = 95 then broadsheetref04_formed.l0 k s (wrap64 ((i : Int) + 1)) else some false) (fun k => ?_) ?_
    · simp only [broadsheetref04_formed.l0]
      rw [if_pos (by omega), if_pos (by omega), hl, hd]
      rfl
    · have hm : may (at_ s i) false = (letter (bt s i) || (digit (bt s i) || bt s i == 95)) := by simp [may, at_]
      rw [hm]
      by_cases c1 : letter (bt s i) = true
      · exact Ev.congr (fun k => if_pos c1) (by rw [c1]; simpa using hgo)
      · by_cases c2 : digit (bt s i) = true
        · exact Ev.congr (fun k => by rw [if_neg c1, if_pos c2]) (by rw [c2]; simpa using hgo)
        · by_cases c3 : bt s i = 95
          · exact Ev.congr (fun k => by rw [if_neg c1, if_neg c2, if_pos c3]) (by simpa [c3] using hgo)
          · refine Ev.congr (fun k => by rw [if_neg c1, if_neg c2, if_neg c3]) ?_
            have c1' : letter (bt s i) = false := by simpa using c1
            have c2' : digit (bt s i) = false := by simpa using c2
            have c3' : (bt s i == 95) = false := by simpa using c3
            rw [c1', c2', c3']
            exact Ev.now _
theorem toList_nil (s : ByteArray) : s.toList = ([] : List UInt8) ↔ s.size = 0 := by
  rw [ByteArray.toList_eq]
  constructor
  · intro h
    have h2 := congrArg List.length h
    rw [Array.length_toList] at h2
    exact h2
  · intro h
    apply List.eq_nil_of_length_eq_zero
    rw [Array.length_toList]
    exact h
theorem formed_ev (s : ByteArray) (hs : s.size ≤ 140737488351232) : Ev (fun k => broadsheetref04_formed.f k s) (formed s) := by
  rw [formed_eq]
  by_cases h : s.size = 0
  · refine Ev.congr (f := fun k => broadsheetref04_formed.j0 k s true) (fun k => by unfold broadsheetref04_formed.f; rw [if_pos ((toList_nil s).2 h)]) ?_
    refine Ev.step (f := fun _ => some false) (fun k => by simp only [broadsheetref04_formed.j0]; rfl) ?_
    have : decide (0 < s.size) = false := decide_eq_false (by omega)
    rw [this]
    exact Ev.now _
  · have hl := letter_at s 0
    unfold at_ at hl
    have hp : decide (0 < s.size) = true := decide_eq_true (by omega)
    rw [hp]
    refine Ev.congr (f := fun k => broadsheetref04_formed.j0 k s (!(letter (bt s 0)))) (fun k => ?_) ?_
    · unfold broadsheetref04_formed.f
      rw [if_neg (fun e => h ((toList_nil s).1 e)), if_pos (by omega)]
      have hl' : broadsheetref04_Letter.f (bt s 0) = some (letter (bt s 0)) := hl
      rw [hl']
      rfl
    · cases c : letter (bt s 0) with
      | true =>
        have c' : letter (at_ s 0) = true := c
        rw [c']
        exact Ev.step (f := fun k => broadsheetref04_formed.l0 k s 0) (fun k => by simp only [broadsheetref04_formed.j0]; rfl) (by simpa using formed_from s hs s.size 0 (by omega))
      | false =>
        have c' : letter (at_ s 0) = false := c
        rw [c']
        exact Ev.step (f := fun _ => some false) (fun k => by simp only [broadsheetref04_formed.j0]; rfl) (Ev.now _)

/-! words -/
def words : List ByteArray := [⟨#[65, 78, 68]⟩, ⟨#[79, 82]⟩, ⟨#[78, 79, 84]⟩, ⟨#[66, 69, 84, 87, 69, 69, 78]⟩, ⟨#[76, 73, 75, 69]⟩, ⟨#[84, 82, 85, 69]⟩, ⟨#[70, 65, 76, 83, 69]⟩]
/-- The first place of a text, from place i on; -1: none. -/
def fnd (s : ByteArray) : List ByteArray → Nat → Int
  | [], _ => -1
  | x :: r, i => if x.toList = s.toList then (i : Int) else fnd s r (i + 1)
theorem fnd_ge (s : ByteArray) : ∀ (l : List ByteArray) (i : Nat), fnd s l i = -1 ∨ (i : Int) ≤ fnd s l i
  | [], _ => .inl rfl
  | x :: r, i => by
    unfold fnd
    split
    · exact .inr (Int.le_refl _)
    · rcases fnd_ge s r (i + 1) with h | h
      · exact .inl h
      · exact .inr (by omega)
def word (s : ByteArray) : Bool := decide (0 ≤ fnd s words 0)
theorem find_from (s : ByteArray) (l : List ByteArray) (hl : l.length ≤ 9223372036854775807) (d : Nat) : ∀ i, i + d = l.length → Ev (fun k => broadsheetref04_Find.l0 k l s (i : Int)) (fnd s (l.drop i) i) := by
  induction d with
  | zero =>
    intro i hi
    rw [List.drop_of_length_le (by omega)]
    refine Ev.step (f := fun _ => some (-1)) (fun k => ?_) (Ev.now _)
    simp only [broadsheetref04_Find.l0]
    rw [if_neg (by omega)]
  | succ d ih =>
    intro i hi
    have hlt : i < l.length := by omega
    have hg : rdOf ByteArray.empty l (i : Int) = l[i] := by
      unfold rdOf
      rw [Int.toNat_natCast, List.getD_eq_getElem?_getD, List.getElem?_eq_getElem hlt]
      rfl
    rw [List.drop_eq_getElem_cons hlt, fnd]
    refine Ev.step (f := fun k => if l[i].toList = s.toList then some (i : Int) else broadsheetref04_Find.l0 k l s (wrap64 ((i : Int) + 1))) (fun k => ?_) ?_
    · simp only [broadsheetref04_Find.l0]
      rw [if_pos (by omega), if_pos (by omega), hg]
    · by_cases h : l[i].toList = s.toList
      · rw [if_pos h]
        exact Ev.congr (fun k => if_pos h) (Ev.now _)
      · rw [if_neg h]
        refine Ev.congr (fun k => by rw [if_neg h, w64 (by omega) (by omega)]; rfl) (ih (i + 1) (by omega))
theorem find_ev (s : ByteArray) (l : List ByteArray) (hl : l.length ≤ 9223372036854775807) : Ev (fun k => broadsheetref04_Find.f k l s) (fnd s l 0) := find_from s l hl l.length 0 (by omega)
theorem refword_ev (s : ByteArray) : Ev (fun k => broadsheetref04_Word.f k s) (word s) :=
  Ev.bind (find_ev s words (by decide)) (f := fun _ t => some (decide (t ≥ 0))) (Ev.now _)
theorem word_eq (s : ByteArray) : name_Word.f s = some (word s) := by
  unfold name_Word.f word words
  simp only [fnd, ByteArray.toList_eq]
  have e : ∀ (l m : List UInt8), (l = m) = (m = l) := fun l m => propext ⟨Eq.symm, Eq.symm⟩
  simp only [e s.data.toList]
  repeat' split
  all_goals first | rfl | simp_all

/-! names -/
def name (s : ByteArray) : Bool := formed s && (decide (s.size ≤ 16) && !word s)
theorem name_ev (s : ByteArray) (hs : s.size ≤ 140737488351232) : Ev (fun k => name_Name.f k s) (name s) := by
  by_cases h0 : s.size = 0
  · have : formed s = false := by unfold formed; rw [decide_eq_false (by omega)]; rfl
    unfold name
    rw [this]
    exact Ev.congr (fun k => by unfold name_Name.f; rw [if_pos ((toList_nil s).2 h0)]; rfl) (Ev.now _)
  · have h1 : s.toList ≠ ([] : List UInt8) := fun e => h0 ((toList_nil s).1 e)
    by_cases h2 : s.size ≤ 16
    · refine Ev.congr (fun k => by unfold name_Name.f; rw [if_neg h1, if_pos (by omega)]) (Ev.bind (Lead_ev s (Nat.le_trans hs (by decide))) (f := fun k t => if t = (s.size : Int) then (name_Word.f s).bind fun t => some (!t) else some false) ?_)
      rw [word_eq]
      unfold name formed
      rw [decide_eq_true h2, decide_eq_true (show 0 < s.size by omega)]
      by_cases h3 : Lead s = s.size
      · rw [decide_eq_true h3]
        exact Ev.congr (fun k => if_pos (by omega)) (by simpa using Ev.now _)
      · rw [decide_eq_false h3]
        exact Ev.congr (fun k => if_neg (by omega)) (by simpa using Ev.now _)
    · unfold name
      rw [decide_eq_false h2]
      have : (formed s && (false && !word s)) = false := by simp
      rw [this]
      exact Ev.congr (fun k => by unfold name_Name.f; rw [if_neg h1, if_neg (by omega)]) (Ev.now _)
theorem refname_ev (s : ByteArray) (hs : s.size ≤ 140737488351232) : Ev (fun k => broadsheetref04_Name.f k s) (name s) := by
  refine Ev.bind (formed_ev s hs) (f := fun k t => if t = true then (if (s.size : Int) ≤ 16 then (broadsheetref04_Word.f k s).bind fun t => some (!t) else some false) else some false) ?_
  unfold name
  cases formed s with
  | false => exact Ev.congr (fun k => if_neg (by simp)) (Ev.now _)
  | true =>
    refine Ev.congr (fun k => if_pos rfl) ?_
    by_cases h2 : s.size ≤ 16
    · rw [decide_eq_true h2]
      exact Ev.congr (fun k => if_pos (by omega)) (Ev.bind (refword_ev s) (f := fun _ t => some (!t)) (by simpa using Ev.now _))
    · rw [decide_eq_false h2]
      exact Ev.congr (fun k => if_neg (by omega)) (by simpa using Ev.now _)

theorem at_head (s : ByteArray) (m j : Nat) (hm : m ≤ s.size) (hj : j < m) : at_ (s.extract 0 m) j = at_ s j := by
  have h1 : j < (s.extract 0 m).size := by rw [ByteArray.size_extract]; omega
  have h2 : j < s.size := by omega
  unfold at_ bt
  simp only [Int.toNat_natCast]
  rw [dif_pos h1, dif_pos h2]
  congr 1
  rw [ByteArray.getElem_extract]
  congr 2
  omega
theorem formed_head (s : ByteArray) (i : Nat) (hi : i < s.size) (h : ∀ j, j < i → ok s j = true) : formed (s.extract 0 (i + 1)) = ok s i := by
  have hsz : (s.extract 0 (i + 1)).size = i + 1 := by rw [ByteArray.size_extract]; omega
  have he : ∀ j, j < i + 1 → ok (s.extract 0 (i + 1)) j = ok s j := fun j hj => by unfold ok; rw [at_head s (i + 1) j (by omega) hj]
  rw [Bool.eq_iff_iff, ok_all, hsz]
  constructor
  · rintro ⟨_, h1⟩
    rw [← he i (by omega)]
    exact h1 i (by omega)
  · intro h1
    refine ⟨by omega, fun j hj => ?_⟩
    rw [he j hj]
    by_cases e : j = i
    · rw [e]; exact h1
    · exact h j (by omega)
theorem reflead_from (s : ByteArray) (hs : s.size ≤ 140737488351232) (d : Nat) : ∀ i, i + d = s.size → (∀ j, j < i → ok s j = true) → Ev (fun k => broadsheetref04_Lead.l0 k s (i : Int)) ((lead s d i : Nat) : Int) := by
  induction d with
  | zero =>
    intro i hi _
    refine Ev.step (f := fun _ => some (i : Int)) (fun k => ?_) (Ev.now _)
    simp only [broadsheetref04_Lead.l0]
    rw [if_neg (by omega)]
  | succ d ih =>
    intro i hi hall
    have hlt : i < s.size := by omega
    have hw : wrap64 ((i : Int) + 1) = ((i + 1 : Nat) : Int) := by rw [w64 (by omega) (by omega)]; rfl
    have hf := formed_ev (s.extract 0 (i + 1)) (by rw [ByteArray.size_extract]; omega)
    rw [formed_head s i hlt hall] at hf
    refine Ev.step (f := fun k => (broadsheetref04_formed.f k (s.extract 0 (i + 1))).bind fun t => if t = true then broadsheetref04_Lead.l0 k s ((i + 1 : Nat) : Int) else some (i : Int)) (fun k => ?_) ?_
    · simp only [broadsheetref04_Lead.l0]
      rw [if_pos (by omega), hw, if_pos (by omega), if_pos (by omega), Int.toNat_natCast]
    · refine Ev.bind hf (f := fun k t => if t = true then broadsheetref04_Lead.l0 k s ((i + 1 : Nat) : Int) else some (i : Int)) ?_
      unfold lead
      by_cases h : ok s i = true
      · rw [if_pos h]
        refine Ev.congr (fun k => if_pos h) (ih (i + 1) (by omega) (fun j hj => ?_))
        by_cases e : j = i
        · rw [e]; exact h
        · exact hall j (by omega)
      · rw [if_neg h]
        exact Ev.congr (fun k => if_neg h) (Ev.now _)
theorem reflead_ev (s : ByteArray) (hs : s.size ≤ 140737488351232) : Ev (fun k => broadsheetref04_Lead.f k s) ((Lead s : Nat) : Int) := reflead_from s hs s.size 0 (by omega) (fun j hj => by omega)
theorem awake_ev : Ev (fun k => broadsheetlaw04_awake.f k) true := by
  refine ⟨20, fun k hk => ?_⟩
  have h : broadsheetlaw04_awake.f 20 = some true := by decide +kernel
  exact at_rounds (fun k => broadsheetlaw04_awake.mono k) hk h

theorem tells (s : ByteArray) (hs : s.size ≤ 140737488351232) : ∃ k, broadsheetlaw04_NameTells.f k s = some true := by
  apply Ev.rounds (g := fun k => broadsheetlaw04_NameTells.f k s)
  by_cases h : s.size > 2000
  · exact Ev.congr (fun k => by unfold broadsheetlaw04_NameTells.f; rw [if_pos (by omega)]) (Ev.bind awake_ev (f := fun _ t => some t) (Ev.now _))
  · refine Ev.congr (fun k => by unfold broadsheetlaw04_NameTells.f; rw [if_neg (by omega), word_eq, Option.bind_some]) ?_
    refine Ev.bind (refword_ev s) (f := fun k t => if (word s == t) = true then _ else some false) ?_
    refine Ev.congr (fun k => if_pos (by simp)) ?_
    refine Ev.bind (name_ev s hs) (f := fun k t => (broadsheetref04_Name.f k s).bind fun u => if (t == u) = true then _ else some false) ?_
    refine Ev.bind (refname_ev s hs) (f := fun k u => if (name s == u) = true then _ else some false) ?_
    refine Ev.congr (fun k => if_pos (by simp)) ?_
    refine Ev.bind (Lead_ev s (Nat.le_trans hs (by decide))) (f := fun k t => (broadsheetref04_Lead.f k s).bind fun u => if t = u then _ else some false) ?_
    refine Ev.bind (reflead_ev s hs) (f := fun k u => if ((Lead s : Nat) : Int) = u then _ else some false) ?_
    refine Ev.congr (fun k => if_pos rfl) ?_
    exact Ev.bind awake_ev (f := fun _ t => some t) (Ev.now _)
end Go.Proofs.Ytfjcgbkoohjmnaa.NameP
