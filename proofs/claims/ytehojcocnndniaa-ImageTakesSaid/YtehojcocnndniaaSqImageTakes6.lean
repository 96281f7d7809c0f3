import Derived.Test.YtehojcocnndniaaPImageTakesx9
import Derived.Test.YtehojcocnndniaaSqImageTakes5
set_option linter.unusedVariables false
set_option linter.unusedSimpArgs false
namespace Go.Proofs.Ytehojcocnndniaa.Img
open Go.RowKit Base Sp Flat Go.Proofs.YtehojcocnndniaaW.PrintWords Go.Proofs.YtehojcocnndniaaW.PrintLast Go.Proofs.YtehojcocnndniaaW.PrintMore Wd Al Buf Cur Go.Proofs.Ytehojcocnndniaa.PImageTakes
/-- The reference's sections. -/
def mkS (x : Int × ByteArray) : S98 := ⟨x.1, x.2⟩
theorem tk_ev (b : ByteArray) (a : Nat) (e s : Int) (ha : a ≤ b.size) (hz : b.size ≤ 140737488355328) : Ev (fun k => broadsheetref02_Take.f k b (a : Int) e s) (ctake b a e s) :=
  Ev.of (fun k => broadsheetref02_Take.mono _ _ _ _ k) (CurI.rtake2_eq b a e s (by omega) (by omega))
theorem sec_bad {b : ByteArray} {a : Nat} {last : Int} (hb : sbad b a 0 last ≠ 0) : sec b a last = (0, ⟨#[]⟩, 0, sbad b a 0 last) := by unfold sec; rw [if_pos hb]
theorem sec_eq {b : ByteArray} {a : Nat} {last n1 n2 e2 e3 : Int} {a1 a2 a3 : Nat} {s : ByteArray} (r1 : ctake b a 0 2 = (n1, (a1 : Int), 0)) (h1 : 1 ≤ n1) (h2 : n1 ≤ 255) (h3 : last < n1)
    (r2 : ctake b a1 0 4 = (n2, (a2 : Int), e2)) (r3 : ctext b a2 e2 n2 = (s, (a3 : Int), e3)) : sec b a last = (n1, s, a3, e3) := by
  have hb : ¬ sbad b a 0 last ≠ 0 := by
    intro h
    apply h
    unfold sbad k1
    rw [r1]
    dsimp only
    rw [if_neg (fun h => h rfl), if_neg (by omega), if_neg (by omega)]
  unfold sec
  rw [if_neg hb, r1]
  dsimp only
  rw [Int.toNat_natCast, r2]
  dsimp only
  rw [Int.toNat_natCast, r3]
  simp
/-- What the reference makes of the sections and the end. -/
def rfin (b : ByteArray) (r : List (Int × ByteArray) × Nat × Int) : List S98 × Int :=
  if r.2.2 ≠ 0 then ([], r.2.2) else if ien b r.2.1 0 ≠ 0 then ([], ien b r.2.1 0) else (r.1.map mkS, 0)
theorem end_ev (b : ByteArray) (a : Nat) (N i : Int) (out : List (Int × ByteArray)) (ha : a ≤ b.size) (hz : b.size ≤ 65536) (hi : ¬ i < N) :
    Ev (fun k => broadsheetref25_Take.l0 k b N (out.map mkS) i (a : Int) 0) (rfin b (out, a, 0)) := by
  obtain ⟨n2, a2, e2, r2, l2⟩ := ctake_ex b a 0 4 ha
  refine Ev.step (fun k => by simp only [broadsheetref25_Take.l0]; rw [if_neg hi]) (Ev.bind (tk_ev b a 0 4 ha (by omega)) ?_)
  have hien : ien b a 0 = if e2 ≠ 0 then e2 else if n2 ≠ csum b ((a2 : Int) - 4).toNat then 13 else cdone b a2 0 := by unfold ien; rw [r2]; rfl
  unfold rfin
  rw [if_neg (fun h => h rfl)]
  dsimp only
  rw [r2]
  dsimp only
  by_cases he : e2 = 0
  · subst he
    have h4 := ctake_four b a 0 n2 a2 r2
    have hw : wrap64 ((a2 : Int) - 4) = (a2 : Int) - 4 := by unfold wrap64; omega
    have hs : (b.extract 0 ((a2 : Int) - 4).toNat).size ≤ 1099511627776 := by rw [ByteArray.size_extract]; omega
    have hu : IntKind.u64.wrap (csum b ((a2 : Int) - 4).toNat) = csum b ((a2 : Int) - 4).toNat := by
      unfold csum
      exact wrapu64 (CrcP.num_lo _) (by have := CrcP.num_hi (CrcP.sum (Crc.bytes (b.extract 0 ((a2 : Int) - 4).toNat))); omega)
    simp only [if_pos]
    rw [hw]
    simp only [if_pos (show (0 : Int) ≤ (a2 : Int) - 4 from by omega), if_pos (show (a2 : Int) - 4 ≤ (b.size : Int) from by omega)]
    unfold broadsheetref03_Sum.f
    simp only [if_pos hs, Option.bind_some]
    rw [show CrcP.num (CrcP.sum (Crc.bytes (b.extract 0 ((a2 : Int) - 4).toNat))) = csum b ((a2 : Int) - 4).toNat from rfl, hu]
    by_cases hn : n2 = csum b ((a2 : Int) - 4).toNat
    · simp only [if_pos hn]
      have hv : ien b a 0 = cdone b a2 0 := by rw [hien, if_neg (fun h => h rfl), if_neg (fun h => h hn)]
      rw [hv, CurI.rdone_eq]
      simp only [Option.bind_some]
      by_cases hd : cdone b a2 0 = 0
      · simp only [if_pos hd]
        rw [if_neg (fun h => h hd)]
        exact Ev.now _
      · simp only [if_neg hd]
        rw [if_pos hd]
        exact Ev.now _
    · have hv : ien b a 0 = 13 := by rw [hien, if_neg (fun h => h rfl), if_pos hn]
      simp only [if_neg hn]
      rw [hv, if_pos (show (13 : Int) ≠ 0 from by decide)]
      exact Ev.now _
  · have hv : ien b a 0 = e2 := by rw [hien, if_pos he]
    simp only [if_neg he]
    rw [hv, if_pos he]
    exact Ev.now _
theorem loop_ev (b : ByteArray) (N : Nat) (hN : N < 4294967296) (hz : b.size ≤ 65536) : ∀ (m i a : Nat) (last : Int) (out : List (Int × ByteArray)), i + m = N → out.length = i → a ≤ b.size → 0 ≤ last →
    ((out = [] ∧ last = 0) ∨ (0 < out.length ∧ (rd_T98 (out.map mkS) ((out.length : Int) - 1)).f0 = last)) →
    Ev (fun k => broadsheetref25_Take.l0 k b N (out.map mkS) (i : Int) (a : Int) 0) (rfin b (slp b m a last out))
  | 0, i, a, last, out, h, ho, ha, h0, hl => end_ev b a N i out ha hz (by omega)
  | m + 1, i, a, last, out, h, ho, ha, h0, hl => by
    obtain ⟨n1, a1, e1, r1, l1⟩ := ctake_ex b a 0 2 ha
    have g1 := ctake_range (by decide) r1
    refine Ev.step (fun k => by simp only [broadsheetref25_Take.l0]; rw [if_pos (by omega)]) (Ev.bind (tk_ev b a 0 2 ha (by omega)) ?_)
    rw [r1]
    dsimp only
    by_cases he : e1 = 0
    · subst he
      simp only [if_pos]
      have hj1 : ∀ t : Bool, (t = true ↔ n1 = 0 ∨ 255 < n1) → Ev (fun k => broadsheetref25_Take.j1 k b N (out.map mkS) (i : Int) n1 t (a1 : Int) 0) (rfin b (slp b (m + 1) a last out)) := by
        intro t ht
        by_cases hk : n1 = 0 ∨ 255 < n1
        · have hb : sbad b a 0 last = 4 := by unfold sbad k1; rw [r1]; dsimp only; rw [if_neg (fun h => h rfl), if_pos (by omega)]
          have hs : slp b (m + 1) a last out = ([], 0, 4) := by rw [slp, sec_bad (by rw [hb]; decide), hb]; rfl
          rw [hs, ht.2 hk]
          refine Ev.step (f := fun _ => some ([], 4)) (fun k => ?_) (Ev.now _)
          simp only [broadsheetref25_Take.j1, if_pos]
        · have htf : t = false := by cases t; rfl; exact absurd (ht.1 rfl) hk
          subst htf
          have hw1 : wrap64 n1 = n1 := by unfold wrap64; omega
          have hj2 : ∀ u : Bool, (u = true ↔ n1 ≤ last) → Ev (fun k => broadsheetref25_Take.j2 k b N (out.map mkS) (i : Int) n1 u (a1 : Int) 0) (rfin b (slp b (m + 1) a last out)) := by
            intro u hu
            by_cases hq : n1 ≤ last
            · have hb : sbad b a 0 last = 14 := by unfold sbad k1; rw [r1]; dsimp only; rw [if_neg (fun h => h rfl), if_neg (by omega), if_pos hq]
              have hs : slp b (m + 1) a last out = ([], 0, 14) := by rw [slp, sec_bad (by rw [hb]; decide), hb]; rfl
              rw [hs, hu.2 hq]
              refine Ev.step (f := fun _ => some ([], 14)) (fun k => ?_) (Ev.now _)
              simp only [broadsheetref25_Take.j2, if_pos]
            · have huf : u = false := by cases u; rfl; exact absurd (hu.1 rfl) hq
              subst huf
              obtain ⟨n2, a2, e2, r2, l2⟩ := ctake_ex b a1 0 4 l1
              obtain ⟨s, a3, e3, r3, l3⟩ := ctext_ex b a2 e2 n2 l2
              have g2 := ctake_range (by decide) r2
              have g3 : n2 < 4294967296 := g2.2
              have hw2 : wrap64 n2 = n2 := by have := g2.1; unfold wrap64; omega
              have hsec := sec_eq (last := last) r1 (by omega) (by omega) (by omega) r2 r3
              refine Ev.step (fun k => by simp only [broadsheetref25_Take.j2]; rw [if_neg (by decide)]) (Ev.bind (tk_ev b a1 0 4 l1 (by omega)) ?_)
              rw [r2]
              dsimp only
              rw [hw2, CurI.rtext_eq b a2 e2 n2 (by omega) (by omega) (by omega), r3]
              simp only [Option.bind_some]
              by_cases h3 : e3 = 0
              · subst h3
                have hs : slp b (m + 1) a last out = slp b m a3 n1 (out ++ [(n1, s)]) := by rw [slp, hsec]; rfl
                rw [hs]
                have hi1 : IntKind.u64.wrap ((i : Int) + 1) = ((i + 1 : Nat) : Int) := wrapu64 (by omega) (by omega)
                have ih := loop_ev b N hN hz m (i + 1) a3 n1 (out ++ [(n1, s)]) (by omega) (by rw [List.length_append, List.length_singleton]; omega) l3 (by omega) (.inr ⟨by rw [List.length_append, List.length_singleton]; omega, by
                  unfold rd_T98
                  rw [List.length_append, List.length_singleton, show ((((out.length + 1 : Nat) : Int)) - 1).toNat = out.length from by omega, List.getD_eq_getElem?_getD, List.getElem?_map, List.getElem?_append_right (Nat.le_refl _), Nat.sub_self]
                  rfl⟩)
                rw [List.map_append] at ih
                simp only [if_pos, if_pos (show (out.map mkS).length < 5864062014805 from by rw [List.length_map]; omega), hw1, hi1]
                exact ih
              · have hs : slp b (m + 1) a last out = ([], 0, e3) := by rw [slp, hsec]; dsimp only; rw [if_pos h3]
                simp only [if_neg h3]
                rw [hs]
                unfold rfin
                rw [if_pos h3]
                exact Ev.now _
          rcases hl with ⟨hl, hl2⟩ | ⟨hl, hl2⟩
          · refine Ev.step (fun k => ?_) (hj2 false ⟨fun h => (by cases h), fun h => (by omega)⟩)
            simp only [broadsheetref25_Take.j1]
            rw [if_neg (by decide), if_neg (by rw [hl]; simp)]
          · have hw3 : wrap64 ((out.length : Int) - 1) = (out.length : Int) - 1 := by unfold wrap64; omega
            refine Ev.step (fun k => ?_) (hj2 (decide (n1 ≤ last)) ⟨fun h => of_decide_eq_true h, fun h => decide_eq_true h⟩)
            simp only [broadsheetref25_Take.j1]
            rw [List.length_map, if_neg (by decide), if_pos (by omega), hw3, if_pos (by omega), if_pos (by omega), hl2, hw1]
      by_cases h1 : n1 = 0
      · simp only [if_pos h1]
        exact hj1 true ⟨fun _ => .inl h1, fun _ => rfl⟩
      · simp only [if_neg h1]
        exact hj1 (decide (n1 > 255)) ⟨fun h => .inr (of_decide_eq_true h), fun h => decide_eq_true (by omega)⟩
    · simp only [if_neg he]
      have hb : sbad b a 0 last = e1 := by unfold sbad k1; rw [r1]; dsimp only; rw [if_pos he]
      have hs : slp b (m + 1) a last out = ([], 0, e1) := by rw [slp, sec_bad (by rw [hb]; exact he), hb]; dsimp only; rw [if_pos he]
      rw [hs]
      unfold rfin
      rw [if_pos he]
      exact Ev.now _
theorem rtk_ev (b : ByteArray) : Ev (fun k => broadsheetref25_Take.f k b) ((itk b).1.map mkS, (itk b).2) := by
  unfold broadsheetref25_Take.f itk
  by_cases h1 : 65536 < b.size
  · simp only [if_pos (show (b.size : Int) > 65536 from by omega), if_pos h1]
    exact Ev.now _
  · simp only [if_neg (show ¬ (b.size : Int) > 65536 from by omega), if_neg h1]
    by_cases h2 : b.size < 4
    · simp only [if_pos (show (b.size : Int) < 4 from by omega), if_pos h2]
      exact Ev.now _
    · simp only [if_neg (show ¬ (b.size : Int) < 4 from by omega), if_neg h2, if_pos (show (0 : Int) ≤ 4 from by decide), if_pos (show (4 : Int) ≤ (b.size : Int) from by omega)]
      by_cases h3 : b.extract 0 4 = ⟨#[66, 83, 72, 49]⟩
      · have e3 : (b.extract 0 4).toList = ([66, 83, 72, 49] : List UInt8) := by rw [h3, ByteArray.toList_eq]
        simp only [if_pos e3, if_neg (show ¬ b.extract 0 4 ≠ ⟨#[66, 83, 72, 49]⟩ from fun h => h h3)]
        have hh1 : Img.h1 b = (b.extract 0 4, 4, 0) := by
          unfold Img.h1 ctext
          rw [if_pos rfl, if_neg (by decide), if_neg (by omega)]
          rfl
        have hh2 : Img.h2 b = ctake b 4 0 4 := by unfold Img.h2; rw [hh1]; rfl
        obtain ⟨n2, a2, e2, r2, l2⟩ := ctake_ex b 4 0 4 (by omega)
        obtain ⟨n3, a3, e3', r3, l3⟩ := ctake_ex b a2 e2 4 l2
        have q2 : Img.h2 b = (n2, (a2 : Int), e2) := hh2.trans r2
        have q3 : Img.h3 b = (n3, (a3 : Int), e3') := by unfold Img.h3; rw [q2]; exact r3
        have hihd : ihd b = if e3' ≠ 0 then (0, e3') else if n2 ≠ b.size then (0, 7) else (n3, 0) := by unfold ihd; rw [q3, q2]
        have g3 := ctake_range (by decide) r3
        have g4 : n3 < 4294967296 := g3.2
        refine Ev.bind (tk_ev b 4 0 4 (by omega) (by omega)) ?_
        rw [r2]
        dsimp only
        refine Ev.bind (tk_ev b a2 e2 4 l2 (by omega)) ?_
        rw [r3]
        dsimp only
        by_cases he : e3' = 0
        · subst he
          have hw : IntKind.u64.wrap ((b.size : Int)) = (b.size : Int) := wrapu64 (by omega) (by omega)
          simp only [if_pos, hw]
          by_cases hn : n2 = (b.size : Int)
          · have hi2 : ihd b = (n3, 0) := by rw [hihd, if_neg (fun h => h rfl), if_neg (fun h => h hn)]
            obtain ⟨N, rfl⟩ : ∃ N : Nat, n3 = (N : Int) := ⟨n3.toNat, by omega⟩
            simp only [if_pos hn]
            rw [hi2, q3]
            dsimp only
            rw [if_neg (fun h => h rfl), Int.toNat_natCast, Int.toNat_natCast]
            have hL := loop_ev b N (by omega) (by omega) N 0 a3 0 [] (by omega) rfl l3 (Int.le_refl _) (.inl ⟨rfl, rfl⟩)
            generalize slp b N a3 0 [] = R at *
            unfold rfin at hL
            by_cases c1 : R.2.2 ≠ 0
            · rw [if_pos c1] at hL ⊢
              exact hL
            · rw [if_neg c1] at hL ⊢
              by_cases c2 : ien b R.2.1 0 ≠ 0
              · rw [if_pos c2] at hL ⊢
                exact hL
              · rw [if_neg c2] at hL ⊢
                exact hL
          · have hi2 : ihd b = (0, 7) := by rw [hihd, if_neg (fun h => h rfl), if_pos hn]
            simp only [if_neg hn]
            rw [hi2, if_pos (show (7 : Int) ≠ 0 from by decide)]
            exact Ev.now _
        · have hi2 : ihd b = (0, e3') := by rw [hihd, if_pos he]
          simp only [if_neg he]
          rw [hi2, if_pos he]
          exact Ev.now _
      · have e3 : ¬ (b.extract 0 4).toList = ([66, 83, 72, 49] : List UInt8) := fun h => h3 (by
          rw [ByteArray.toList_eq] at h
          exact ByteArray.ext (Array.toList_inj.1 h))
        simp only [if_neg e3]
        rw [if_pos h3]
        exact Ev.now _
end Go.Proofs.Ytehojcocnndniaa.Img
namespace Go.Proofs.Ytehojcocnndniaa.Img
open Go.RowKit Base Sp Flat Go.Proofs.YtehojcocnndniaaW.PrintWords Go.Proofs.YtehojcocnndniaaW.PrintLast Go.Proofs.YtehojcocnndniaaW.PrintMore Wd Al Buf Cur Go.Proofs.Ytehojcocnndniaa.PImageTakes
/-- Pairs as the program's sections. -/
def mkI (x : Int × ByteArray) : S102 := ⟨x.1, x.2⟩
theorem C_iso {α β : Type} {d : Kd α} {f : β → α} {w : World} {A : Option Addr} {n : Nat} {ys : List β} (h : Kd.C d w A n (ys.map f)) : Kd.C (Kd.iso d f) w A n ys := by
  obtain ⟨h1, h2, h3⟩ := h
  refine ⟨by rw [← h1, List.length_map], h2, fun hn => ?_⟩
  obtain ⟨ad, e, hc⟩ := h3 hn
  refine ⟨ad, e, fun j p hj => ?_⟩
  exact hc j (f p) (by rw [List.getElem?_map, hj]; rfl)
theorem C_mkI {w : World} {A : Option Addr} {l : List (Int × ByteArray)} (h : Kd.C kp w A l.length l) : Kd.C k102 w A (l.map mkI).length (l.map mkI) := by
  unfold k102
  refine C_iso ?_
  rw [List.map_map, List.length_map]
  have : ((fun x : S102 => (x.f0, x.f1)) ∘ mkI) = id := rfl
  rw [this, List.map_id]
  exact h
theorem rdI_at (l : List S102) (k : Nat) (hk : k < l.length) : rd_T102 l (k : Int) = l[k] := by
  unfold rd_T102
  rw [Int.toNat_natCast, List.getD_eq_getElem?_getD, List.getElem?_eq_getElem hk]
  rfl
theorem rdS_at (l : List S98) (k : Nat) (hk : k < l.length) : rd_T98 l (k : Int) = l[k] := by
  unfold rd_T98
  rw [Int.toNat_natCast, List.getD_eq_getElem?_getD, List.getElem?_eq_getElem hk]
  rfl
theorem w64s {k : Nat} (h : k ≤ 4611686018427387904) : wrap64 ((k : Int) + 1) = ((k + 1 : Nat) : Int) := by unfold wrap64; omega
def toS (x : S102) : S98 := ⟨x.f0, x.f1⟩
theorem theirs_from (l : List S102) (hl : l.length ≤ 5000000000) : ∀ (d i : Nat), i + d = l.length → Ev (fun k => broadsheetlaw25_theirs.l0 k l ((l.take i).map toS) (i : Int)) (l.map toS)
  | 0, i, h => by
    refine Ev.step (f := fun _ => some _) (fun k => ?_) (Ev.now _)
    simp only [broadsheetlaw25_theirs.l0]
    rw [if_neg (by omega), List.take_of_length_le (by omega)]
  | d + 1, i, h => by
    have hi : i < l.length := by omega
    have ih := theirs_from l hl d (i + 1) (by omega)
    rw [List.take_succ_eq_append_getElem hi, List.map_append] at ih
    refine Ev.step (fun k => ?_) ih
    simp only [broadsheetlaw25_theirs.l0]
    rw [if_pos (by omega), if_pos (by omega), if_pos (by rw [List.length_map, List.length_take]; omega), rdI_at l i hi, w64s (by omega)]
    rfl
theorem theirs_ev (l : List S102) (hl : l.length ≤ 5000000000) : Ev (fun k => broadsheetlaw25_theirs.f k l) (l.map toS) :=
  theirs_from l hl l.length 0 (by omega)
theorem same_from (l : List S98) (hl : l.length ≤ 5000000000) : ∀ (d i : Nat), i + d = l.length → Ev (fun k => broadsheetref25_Same.l0 k l l (i : Int)) true
  | 0, i, h => by
    refine Ev.step (f := fun _ => some _) (fun k => ?_) (Ev.now _)
    simp only [broadsheetref25_Same.l0]
    rw [if_neg (by omega)]
  | d + 1, i, h => by
    have hi : i < l.length := by omega
    have ih := same_from l hl d (i + 1) (by omega)
    refine Ev.step (fun k => ?_) ih
    simp only [broadsheetref25_Same.l0]
    rw [if_pos (by omega), if_pos (by omega), if_pos (by omega), if_neg (by simp), w64s (by omega)]
theorem same_ev (l : List S98) (hl : l.length ≤ 5000000000) : Ev (fun k => broadsheetref25_Same.f k l l) true := by
  unfold broadsheetref25_Same.f
  simp only [if_pos]
  exact same_from l hl l.length 0 (by omega)
theorem slp_len (b : ByteArray) : ∀ (n a : Nat) (last : Int) (out : List (Int × ByteArray)), (slp b n a last out).1.length ≤ out.length + n
  | 0, a, last, out => Nat.le_refl _
  | n + 1, a, last, out => by
    rw [slp]
    split
    · exact Nat.zero_le _
    · have := slp_len b n (sec b a last).2.2.1 (sec b a last).1 (out ++ [((sec b a last).1, (sec b a last).2.1)])
      rw [List.length_append, List.length_singleton] at this
      omega
theorem ihd_lt (b : ByteArray) : (ihd b).1 < 4294967296 := by
  have hrg := ctake_range (b := b) (a := (h2 b).2.1.toNat) (e := (h2 b).2.2) (s := 4) (by decide) (show ctake b (h2 b).2.1.toNat (h2 b).2.2 4 = ((h3 b).1, (h3 b).2.1, (h3 b).2.2) from rfl)
  have hrg2 : (h3 b).1 < 4294967296 := hrg.2
  unfold ihd
  split
  · show (0 : Int) < _; decide
  · split
    · show (0 : Int) < _; decide
    · exact hrg2
theorem itk_len (b : ByteArray) : (itk b).1.length ≤ 4294967296 := by
  have h1 := ihd_lt b
  have h2 := slp_len b (ihd b).1.toNat (h3 b).2.1.toNat 0 []
  rw [List.length_nil] at h2
  unfold itk
  repeat' split
  all_goals first | exact Nat.zero_le _ | (dsimp only; omega)
set_option maxRecDepth 20000 in
set_option maxHeartbeats 2000000 in
theorem takes (b : ByteArray) (w : World) (hz : b.size ≤ 140737488351232) :
    Calls Try.prog 8 #[.string b] w fun e w' => e = .returned (.bool true) ∧ Below w.heap.size w w' := by
  have HT := take_ b w (by omega)
  obtain ⟨k1, hk1⟩ := Ev.rounds (rtk_ev b)
  have HRf := fun W => broadsheetref25_Take.calls k1 b _ _ W hk1
  have hlen := itk_len b
  unfold Tak at HT
  generalize itk b = R at *
  obtain ⟨R1, R2⟩ := R
  dsimp only at HT HRf hlen
  obtain ⟨k2, hk2⟩ := Ev.rounds (theirs_ev (R1.map mkI) (by rw [List.length_map]; omega))
  have HTh : ∀ A c W, Kd.C k102 W A R1.length (R1.map mkI) → R1.length ≤ c → Calls Try.prog 35 #[.slice A R1.length c] W fun e w' => ∃ v0_ : Value, e = .returned (v0_) ∧ Kd.R k98 98 w' W.heap.size (fun _ => True) v0_ ((R1.map mkI).map toS) ∧ Below W.heap.size W w' := fun A c W h hc => by
    have := broadsheetlaw25_theirs.calls k2 A c (R1.map mkI) _ W (by rw [List.length_map]; exact h) (by rw [List.length_map]; exact hc) hk2
    rw [List.length_map] at this
    exact this
  obtain ⟨k3, hk3⟩ := Ev.rounds (same_ev (R1.map mkS) (by rw [List.length_map]; omega))
  have HSm : ∀ A c A' c' W, Kd.C k98 W A R1.length (R1.map mkS) → R1.length ≤ c → Kd.C k98 W A' R1.length (R1.map mkS) → R1.length ≤ c' → Calls Try.prog 34 #[.slice A R1.length c, .slice A' R1.length c'] W fun e w' => e = .returned (.bool true) ∧ Drawn0 W w' := fun A c A' c' W h hc h' hc' => by
    have := broadsheetref25_Same.calls k3 A c (R1.map mkS) A' c' (R1.map mkS) _ W (by rw [List.length_map]; exact h) (by rw [List.length_map]; exact hc) (by rw [List.length_map]; exact h') (by rw [List.length_map]; exact hc') hk3
    rw [List.length_map] at this
    exact this
  clear hk1 hk2 hk3 hlen
  by_cases h1 : 4000 < b.size
  · have q1 : (4000 : Int) < (b.size : Int) := by omega
    by_cases h2 : b.size ≤ 65536
    · have q2 : (b.size : Int) ≤ 65536 := by omega
      go_enter Try.func8, Try.ntmps8
      go_wp2_with fail
      refine (awake _).mono ?_
      rintro e w2 ⟨rfl, b2⟩
      go_wp2
      go_ret
      exact ⟨rfl, b2⟩
    · have q2 : ¬ (b.size : Int) ≤ 65536 := by omega
      clear h1 h2 hz
      go_enter Try.func8, Try.ntmps8
      go_wp2_with fail
      refine HT.mono ?_
      rintro e w1 ⟨v, rfl, ho, b1⟩
      obtain ⟨A, c, rfl, hc, hC⟩ := ho.rd.get
      have hC2 := C_mkI hC
      clear hC ho HT
      go_wp2_with fail
      refine (HRf w1).mono ?_
      rintro e w2 ⟨v0, rfl, hr, b2⟩
      obtain ⟨A0, c0, rfl, hc0, hC0⟩ := Kd.R_reads hr
      have hC3 := Kd.C_below hC2 b2
      clear hr HRf hC2
      rw [List.length_map] at hC3
      go_wp2_with fail
      refine (HTh _ _ w2 hC3 hc).mono ?_
      rintro e w3 ⟨v1, rfl, hr1, b3⟩
      obtain ⟨A1, c1, rfl, hc1, hC1⟩ := Kd.R_reads hr1
      have hC4 := Kd.C_below hC0 b3
      clear hr1 HTh hC3 hC0
      have e7 : ((R1.map mkI).map toS) = R1.map mkS := by rw [List.map_map]; rfl
      rw [e7, List.length_map] at hC1 hc1 ⊢
      rw [List.length_map] at hC4 hc0
      go_wp2_with fail
      refine (HSm _ _ _ _ w3 hC1 hc1 hC4 hc0).mono ?_
      rintro e w4 ⟨rfl, b4⟩
      clear HSm hC1 hC4
      go_wp2_with fail
      refine (awake _).mono ?_
      rintro e w5 ⟨rfl, b5⟩
      go_wp2
      go_ret
      exact ⟨rfl, bstep (bstep (bstep (bstep b1 b2) b3) (drawn_below b4)) b5⟩
  · have q1 : ¬ (4000 : Int) < (b.size : Int) := by omega
    clear h1 hz
    go_enter Try.func8, Try.ntmps8
    go_wp2_with fail
    refine HT.mono ?_
    rintro e w1 ⟨v, rfl, ho, b1⟩
    obtain ⟨A, c, rfl, hc, hC⟩ := ho.rd.get
    have hC2 := C_mkI hC
    clear hC ho HT
    go_wp2_with fail
    refine (HRf w1).mono ?_
    rintro e w2 ⟨v0, rfl, hr, b2⟩
    obtain ⟨A0, c0, rfl, hc0, hC0⟩ := Kd.R_reads hr
    have hC3 := Kd.C_below hC2 b2
    clear hr HRf hC2
    rw [List.length_map] at hC3
    go_wp2_with fail
    refine (HTh _ _ w2 hC3 hc).mono ?_
    rintro e w3 ⟨v1, rfl, hr1, b3⟩
    obtain ⟨A1, c1, rfl, hc1, hC1⟩ := Kd.R_reads hr1
    have hC4 := Kd.C_below hC0 b3
    clear hr1 HTh hC3 hC0
    have e7 : ((R1.map mkI).map toS) = R1.map mkS := by rw [List.map_map]; rfl
    rw [e7, List.length_map] at hC1 hc1 ⊢
    rw [List.length_map] at hC4 hc0
    go_wp2_with fail
    refine (HSm _ _ _ _ w3 hC1 hc1 hC4 hc0).mono ?_
    rintro e w4 ⟨rfl, b4⟩
    clear HSm hC1 hC4
    go_wp2_with fail
    refine (awake _).mono ?_
    rintro e w5 ⟨rfl, b5⟩
    go_wp2
    go_ret
    exact ⟨rfl, bstep (bstep (bstep (bstep b1 b2) b3) (drawn_below b4)) b5⟩
end Go.Proofs.Ytehojcocnndniaa.Img
