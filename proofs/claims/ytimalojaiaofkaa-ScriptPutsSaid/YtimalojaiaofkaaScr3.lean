import Derived.Test.YtimalojaiaofkaaScB
import Derived.Test.YtimalojaiaofkaaScrP3
set_option linter.unusedVariables false
set_option linter.unusedSimpArgs false
namespace Go.Proofs.Ytimalojaiaofkaa.Scr
open Go.RowKit Base Sp Flat Go.Proofs.YtimalojaiaofkaaW.PrintWords Go.Proofs.YtimalojaiaofkaaW.PrintLast Go.Proofs.YtimalojaiaofkaaW.PrintMore Wd Go.Proofs.Ytimalojaiaofkaa.PScriptPuts
theorem tx_list (s : ByteArray) : tx s.data.toList = s := by unfold tx; rw [Array.toArray_toList]
theorem tx_app (a b : List UInt8) : tx (a ++ b) = tx a ++ tx b := by
  apply ByteArray.ext
  simp [tx]
theorem tx_nbl (n s : Int) : tx (nbl n s) = nby (IntKind.u64.wrap n) s := tx_list _
theorem ae_ok {a : S43} (h : ae a = 0) : (a.f0 = 1 ∨ a.f0 = 2) ∧ a.f2.size ≤ 65535 := by
  unfold ae actE at h
  by_cases h1 : a.f0 ≠ 1 ∧ a.f0 ≠ 2
  · rw [if_pos h1] at h; exact absurd h (by decide)
  · rw [if_neg h1] at h
    by_cases h2 : a.f0 = 1 ∧ (bitv a.f1 4).2 ≠ 0
    · rw [if_pos h2] at h; exact absurd h (by decide)
    · rw [if_neg h2] at h
      by_cases h3 : 65535 < a.f2.size
      · rw [if_pos h3] at h; exact absurd h (by decide)
      · omega
theorem al_tx {a : S43} (h : ae a = 0) : actB a.f0 a.f1 a.f2 = tx (al a) := by
  obtain ⟨h1, h2⟩ := ae_ok h
  have hb := bitv_range a.f1
  unfold al abl actB actP
  rw [tx_app, tx_app, tx_list, tx_nbl, wrapu64 (by omega) (by omega)]
  by_cases hk : a.f0 = 1
  · rw [if_pos hk, if_pos hk, tx_app, tx_nbl, tx_nbl, wrapu64 (by omega) (by omega), wrapu64 (by omega) (by omega)]
  · rw [if_neg hk, if_neg hk, tx_nbl, wrapu64 (by omega) (by omega)]
theorem num_ev (n : Int) : Ev (fun k => broadsheetref45_number.f k (IntKind.u64.wrap n) 1) (nby (IntKind.u64.wrap n) 1) := by
  have h := u64_range n
  refine ⟨12, fun k hk => ?_⟩
  show (broadsheetref01_Put.f k (IntKind.u64.wrap n) 1).bind _ = _
  rw [Wd.rput_eq _ 1 k hk h.1 h.2]
  rfl
/-- The ranges of actions. -/
def Rng (a : S43) : Prop := -9223372036854775808 ≤ a.f1 ∧ a.f1 < 9223372036854775808 ∧ a.f2.size ≤ 140737488355328
theorem act_bad {a : S43} (hr : Rng a) (h : ae a ≠ 0) (k : Nat) : broadsheetref45_act.f k a.f0 a.f1 a.f2 = some (⟨#[]⟩, ae a) := by
  unfold broadsheetref45_act.f
  unfold Rng at hr
  rw [if_pos hr, ract_bad rfl h]
  rfl
theorem act_ok {a : S43} (hr : Rng a) (h : ae a = 0) (k : Nat) : broadsheetref45_act.f k a.f0 a.f1 a.f2 = some (tx (al a), 0) := by
  unfold broadsheetref45_act.f
  unfold Rng at hr
  rw [if_pos hr, ract_good h, al_tx h]
theorem rp_in (l : List S41) (i : Nat) (hi : i < l.length) (hl : l.length ≤ 1024) (hx : l[i].f0.length ≤ 255) (hr : ∀ a ∈ l[i].f0, Rng a) (R : ByteArray → ByteArray × Int)
    (hc : ∀ T : ByteArray, T.size ≤ (i + 1) * 20000000 → Ev (fun k => broadsheetref45_Put.l0 k l T (wrap64 ((i : Int) + 1))) (R T)) : ∀ (e j : Nat) (T : ByteArray), j + e = l[i].f0.length → T.size ≤ i * 20000000 + 8 + j * 70000 →
      Ev (fun k => broadsheetref45_Put.l1 k l T (i : Int) (j : Int)) (if acE (l[i].f0.drop j) ≠ 0 then (⟨#[]⟩, acE (l[i].f0.drop j)) else R (T ++ tx (acL (l[i].f0.drop j))))
  | 0, j, T, h, ht => by
    rw [List.drop_of_length_le (by omega)]
    have h1 : acE [] = 0 := rfl
    have h2 : T ++ tx (acL []) = T := by apply ByteArray.ext; simp [tx, acL]
    rw [if_neg (fun h => h h1), h2]
    refine Ev.step (fun k => ?_) (hc T (by omega))
    simp only [broadsheetref45_Put.l1]
    rw [if_pos (by omega), if_pos (by omega), rd41 l i hi, if_neg (by omega)]
  | e + 1, j, T, h, ht => by
    have hj : j < l[i].f0.length := by omega
    have hra := hr _ (List.getElem_mem hj)
    rw [List.drop_eq_getElem_cons hj, acE, acL]
    by_cases h0 : ae (l[i].f0[j]) = 0
    · have hz := al_len h0
      have hq : ¬ ae (l[i].f0[j]) ≠ 0 := fun h => h h0
      simp only [if_neg hq]
      rw [tx_app]
      have hsz : (tx (al (l[i].f0[j]))).size = (al (l[i].f0[j])).length := rfl
      have ih := rp_in l i hi hl hx hr R hc e (j + 1) (T ++ tx (al (l[i].f0[j]))) (by omega) (by rw [ByteArray.size_append, hsz]; omega)
      have hw : wrap64 ((j : Int) + 1) = ((j + 1 : Nat) : Int) := by unfold wrap64; omega
      rw [app_assoc] at ih
      refine Ev.step (fun k => ?_) ih
      simp only [broadsheetref45_Put.l1]
      rw [if_pos (by omega), if_pos (by omega), rd41 l i hi, if_pos (by omega), if_pos (by omega), rd43 _ j hj, act_ok hra h0, Option.bind_some, if_pos rfl, if_pos (by rw [hsz]; omega), hw]
    · simp only [if_pos h0]
      refine Ev.step (f := fun _ => some _) (fun k => ?_) (Ev.now _)
      simp only [broadsheetref45_Put.l1]
      rw [if_pos (by omega), if_pos (by omega), rd41 l i hi, if_pos (by omega), if_pos (by omega), rd43 _ j hj, act_bad hra h0, Option.bind_some, if_neg h0]
theorem e1 {i d n : Nat} (h : i + (d + 1) = n) : i + 1 + d = n := by omega
theorem sz1 {T N : ByteArray} {i : Nat} (h1 : T.size ≤ i * 20000000) (h2 : N.size ≤ 8) : (T ++ N).size ≤ i * 20000000 + 8 + 0 * 70000 := by rw [ByteArray.size_append]; omega
theorem sz2 {T N : ByteArray} {i n : Nat} (h1 : T.size ≤ i * 20000000) (h2 : N.size ≤ 8) (h3 : i < n) (h4 : n ≤ 1024) : T.size + N.size ≤ 9223372036854775807 := by omega
theorem rp_out (l : List S41) (hl : l.length ≤ 1024) (hr : ∀ x ∈ l, ∀ a ∈ x.f0, Rng a) : ∀ (d i : Nat) (T : ByteArray), i + d = l.length → T.size ≤ i * 20000000 →
      Ev (fun k => broadsheetref45_Put.l0 k l T (i : Int)) (if sE (l.drop i) ≠ 0 then (⟨#[]⟩, sE (l.drop i)) else (T ++ tx (sL (l.drop i)), 0))
  | 0, i, T, h, ht => by
    rw [List.drop_of_length_le (by omega)]
    have h1 : sE [] = 0 := rfl
    have h2 : T ++ tx (sL []) = T := by apply ByteArray.ext; simp [tx, sL]
    rw [if_neg (fun h => h h1), h2]
    refine Ev.step (f := fun _ => some _) (fun k => ?_) (Ev.now _)
    simp only [broadsheetref45_Put.l0]
    rw [if_neg (by omega)]
  | d + 1, i, T, h, ht => by
    have hi : i < l.length := by omega
    have hra := hr _ (List.getElem_mem hi)
    rw [List.drop_eq_getElem_cons hi, sE, sL]
    by_cases hx : 255 < l[i].f0.length
    · have h3 : tE l[i] = 3 := if_pos hx
      rw [h3, if_pos (show (3 : Int) ≠ 0 from by decide), if_pos (show (3 : Int) ≠ 0 from by decide)]
      refine Ev.step (f := fun _ => some _) (fun k => ?_) (Ev.now _)
      simp only [broadsheetref45_Put.l0]
      rw [if_pos (by omega), if_pos (by omega), rd41 l i hi, if_pos (by omega)]
    · have h3 : tE (l[i]'hi) = acE (l[i]'hi).f0 := if_neg hx
      have hw : wrap64 ((i : Int) + 1) = ((i + 1 : Nat) : Int) := by unfold wrap64; omega
      have hn := nby_size (IntKind.u64.wrap ((l[i]'hi).f0.length : Int)) 1 (by decide)
      have hin := rp_in l i hi hl (by omega) hra (fun T => if sE (l.drop (i + 1)) ≠ 0 then (⟨#[]⟩, sE (l.drop (i + 1))) else (T ++ tx (sL (l.drop (i + 1))), 0))
        (fun T hT => by rw [hw]; exact rp_out l hl hr d (i + 1) T (e1 h) hT) (l[i]'hi).f0.length 0 (T ++ nby (IntKind.u64.wrap ((l[i]'hi).f0.length : Int)) 1) (Nat.zero_add _) (sz1 ht hn)
      rw [List.drop_zero] at hin
      have he : (if (if tE (l[i]'hi) ≠ 0 then tE (l[i]'hi) else sE (l.drop (i + 1))) ≠ 0 then ((⟨#[]⟩ : ByteArray), if tE (l[i]'hi) ≠ 0 then tE (l[i]'hi) else sE (l.drop (i + 1))) else (T ++ tx (tL (l[i]'hi) ++ sL (l.drop (i + 1))), 0)) =
          (if acE (l[i]'hi).f0 ≠ 0 then (⟨#[]⟩, acE (l[i]'hi).f0) else (if sE (l.drop (i + 1)) ≠ 0 then (⟨#[]⟩, sE (l.drop (i + 1))) else (T ++ nby (IntKind.u64.wrap ((l[i]'hi).f0.length : Int)) 1 ++ tx (acL (l[i]'hi).f0) ++ tx (sL (l.drop (i + 1))), 0))) := by
        rw [h3]
        by_cases hq : acE (l[i]'hi).f0 = 0
        · have hq2 : ¬ acE (l[i]'hi).f0 ≠ 0 := fun h => h hq
          simp only [if_neg hq2]
          rw [tL, tx_app, tx_app, tx_nbl]
          rw [app_assoc, app_assoc, app_assoc]
        · simp only [if_pos hq]
      rw [he]
      refine Ev.step (fun k => ?_) (Ev.bind (num_ev ((l[i]'hi).f0.length : Int)) (f := fun k t => if T.size + t.size ≤ 9223372036854775807 then broadsheetref45_Put.l1 k l (T ++ t) (i : Int) 0 else none) ?_)
      · simp only [broadsheetref45_Put.l0]
        rw [if_pos (by omega), if_pos (by omega), rd41 l i hi, if_neg (by omega)]
      · simp only [if_pos (sz2 ht hn hi hl)]
        exact hin
theorem rp_ev (l : List S41) (hr : ∀ x ∈ l, ∀ a ∈ x.f0, Rng a) : Ev (fun k => broadsheetref45_Put.f k l) (sput l) := by
  unfold sput broadsheetref45_Put.f
  by_cases h : 1024 < l.length
  · rw [if_pos h]
    refine Ev.congr (f := fun _ => some _) (fun k => ?_) (Ev.now _)
    rw [if_pos (by omega)]
  · rw [if_neg h]
    have := rp_out l (by omega) hr l.length 0 ⟨#[]⟩ (by omega) (Nat.zero_le _)
    rw [List.drop_zero, empty_app] at this
    refine Ev.congr (fun k => ?_) this
    rw [if_neg (by omega)]
    rfl
theorem much_in (l : List S41) (i : Nat) (hi : i < l.length) (hc : ∀ n : Int, ∃ r, Ev (fun k => broadsheetlaw45_Much.l0 k l n (wrap64 ((i : Int) + 1))) r) : ∀ (e j : Nat) (n : Int), j + e = l[i].f0.length → ∃ r, Ev (fun k => broadsheetlaw45_Much.l1 k l n (i : Int) (j : Int)) r
  | 0, j, n, h => by
    obtain ⟨r, hr⟩ := hc n
    refine ⟨r, Ev.step (fun k => ?_) hr⟩
    simp only [broadsheetlaw45_Much.l1]
    rw [if_pos (by omega), if_pos (by omega), rd41 l i hi, if_neg (by omega)]
  | e + 1, j, n, h => by
    by_cases h4 : j < 400
    · have hw : wrap64 ((j : Int) + 1) = ((j + 1 : Nat) : Int) := by unfold wrap64; omega
      obtain ⟨r, hr⟩ := much_in l i hi hc e (j + 1) (mn (wrap64 (n + (((rd_T43 l[i].f0 (j : Int)).f2).size : Int))) 1048576) (by omega)
      refine ⟨r, Ev.step (fun k => ?_) hr⟩
      simp only [broadsheetlaw45_Much.l1]
      rw [if_pos (by omega), if_pos (by omega), rd41 l i hi, if_pos (by omega), if_pos (by omega), if_pos (by omega), hw]
    · obtain ⟨r, hr⟩ := hc n
      refine ⟨r, Ev.step (fun k => ?_) hr⟩
      simp only [broadsheetlaw45_Much.l1]
      rw [if_pos (by omega), if_pos (by omega), rd41 l i hi, if_pos (by omega), if_neg (by omega)]
theorem much_out (l : List S41) (hl : l.length ≤ 140737488355328) : ∀ (d i : Nat) (n : Int), i + d = l.length → ∃ r, Ev (fun k => broadsheetlaw45_Much.l0 k l n (i : Int)) r
  | 0, i, n, h => by
    refine ⟨_, Ev.step (f := fun _ => some (if (l.length : Int) > 1100 then true else (if n > 5000 then (if n < 65000 then true else (decide (n > 70000))) else (decide (n > 70000))))) (fun k => ?_) (Ev.now _)⟩
    simp only [broadsheetlaw45_Much.l0]
    rw [if_neg (by omega)]
    split
    · rfl
    · split
      · split <;> rfl
      · rfl
  | d + 1, i, n, h => by
    have hi : i < l.length := by omega
    have hw : wrap64 ((i : Int) + 1) = ((i + 1 : Nat) : Int) := by unfold wrap64; omega
    obtain ⟨r, hr⟩ := much_in l i hi (fun n => by rw [hw]; exact much_out l hl d (i + 1) n (by omega)) l[i].f0.length 0 (mn (wrap64 (n + (l[i].f0.length : Int))) 1048576) (by omega)
    refine ⟨r, Ev.step (fun k => ?_) hr⟩
    simp only [broadsheetlaw45_Much.l0]
    rw [if_pos (by omega), if_pos (by omega), rd41 l i hi]
    rfl
end Go.Proofs.Ytimalojaiaofkaa.Scr
