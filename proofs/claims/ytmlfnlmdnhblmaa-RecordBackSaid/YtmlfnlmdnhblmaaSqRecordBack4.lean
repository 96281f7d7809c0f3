import Derived.Test.YtmlfnlmdnhblmaaSqRecordBack3
set_option linter.unusedVariables false
set_option linter.unusedSimpArgs false
namespace Go.Proofs.Ytmlfnlmdnhblmaa.Rec
open Go.RowKit Base Sp Flat Go.Proofs.YtmlfnlmdnhblmaaW.PrintWords Go.Proofs.YtmlfnlmdnhblmaaW.PrintLast Go.Proofs.YtmlfnlmdnhblmaaW.PrintMore Wd Al Buf Smp Cur
/-! The plain law of records: what is put is taken, and what is taken is put so. -/
/-- The bytes of a text. -/
def by_ (b : ByteArray) : List UInt8 := b.data.toList
theorem by_len (b : ByteArray) : (by_ b).length = b.size := rfl
theorem tx_by (b : ByteArray) : tx (by_ b) = b := rfl
theorem by_tx (L : List UInt8) : by_ (tx L) = L := by unfold by_ tx; simp
theorem le_lev (f : Nat → Int) (hf : ∀ i, 0 ≤ f i ∧ f i ≤ 255) : ∀ k, le (lev f k) k = (List.range k).map f := by
  intro k
  induction k generalizing f with
  | zero => rfl
  | succ k ih =>
    have h0 := hf 0
    have h1 := lev_lo (fun i => f (i + 1)) (fun i => hf (i + 1)) k
    rw [lev, le, show (f 0 + 256 * lev (fun i => f (i + 1)) k) % 256 = f 0 from by omega, show (f 0 + 256 * lev (fun i => f (i + 1)) k) / 256 = lev (fun i => f (i + 1)) k from by omega, ih (fun i => f (i + 1)) (fun i => hf (i + 1)), List.range_succ_eq_map, List.map_cons, List.map_map]
    rfl
theorem nb_lev (b : ByteArray) (a : Nat) (s : Int) (h : a + s.toNat ≤ b.size) : nbytes (lev (fun i => bt b ((a : Int) + i)) s.toNat) s = ((by_ b).drop a).take s.toNat := by
  unfold nbytes by_
  rw [le_lev (fun i => bt b ((a : Int) + i)) (fun i => bt_range b _)]
  apply List.ext_getElem
  · simp [strOfNums]
    have : b.data.size = b.size := rfl
    omega
  · intro i h1 h2
    have hi : a + i < b.size := by
      simp at h2
      have : b.data.size = b.size := rfl
      omega
    have hb := bt_get b (a + i) hi
    simp [strOfNums]
    rw [show (a : Int) + (i : Int) = ((a + i : Nat) : Int) from by omega, hb]
    simp
    rfl
theorem ctake_ok {b : ByteArray} {a a2 : Nat} {e s n : Int} (hs : sz s = true) (hg : gapv (a : Int) s = 0) (h : ctake b a e s = (n, (a2 : Int), 0)) :
    e = 0 ∧ a2 = a + s.toNat ∧ a2 ≤ b.size ∧ nbytes n s = ((by_ b).drop a).take s.toNat := by
  have hc := sz_cases hs
  unfold ctake at h
  split at h
  · simp only [Prod.mk.injEq] at h
    rename_i h1
    exact absurd h.2.2 h1
  · rename_i h1
    rw [if_neg (by rw [hs]; decide), hg, show ((0 : Int).toNat) = 0 from rfl, show pad b 0 a = 0 from rfl, if_neg (fun h => h rfl), Int.add_zero] at h
    have ht := takev_err b a s (by omega) (by omega)
    split at h
    · simp only [Prod.mk.injEq] at h
      exact absurd h.2.2 (by decide)
    · rename_i h4
      have h5 : ¬ ((b.size : Int) < a + s) := fun hh => h4 (ht.2 hh)
      simp only [Prod.mk.injEq] at h
      have h6 : a2 = a + s.toNat := by omega
      refine ⟨Classical.not_not.1 h1, h6, by omega, ?_⟩
      rw [← h.1]
      unfold takev
      rw [if_neg (by omega), if_neg (by omega)]
      exact nb_lev b a s (by omega)
theorem ctake_e {b : ByteArray} {a a2 : Nat} {e s n : Int} (h : ctake b a e s = (n, (a2 : Int), 0)) : e = 0 := by
  unfold ctake at h
  split at h
  · simp only [Prod.mk.injEq] at h
    rename_i h1
    exact absurd h.2.2 h1
  · rename_i h1
    exact Classical.not_not.1 h1
theorem ctext_ok {b : ByteArray} {a a2 : Nat} {e n : Int} {t : ByteArray} (h : ctext b a e n = (t, (a2 : Int), 0)) :
    e = 0 ∧ 0 ≤ n ∧ a2 = a + n.toNat ∧ (a ≤ b.size → a2 ≤ b.size) ∧ by_ t = ((by_ b).drop a).take n.toNat := by
  unfold ctext at h
  split at h
  · rename_i he
    split at h
    · simp only [Prod.mk.injEq] at h
      exact absurd h.2.2 (by decide)
    · split at h
      · simp only [Prod.mk.injEq] at h
        exact absurd h.2.2 (by decide)
      · simp only [Prod.mk.injEq] at h
        refine ⟨he, by omega, by omega, fun _ => by omega, ?_⟩
        rw [← h.1]
        unfold by_
        rw [ByteArray.data_extract, Array.toList_extract, List.extract_eq_take_drop, Nat.add_sub_cancel_left]
  · rename_i he
    simp only [Prod.mk.injEq] at h
    exact absurd h.2.2 he
theorem kby_byn (k : ByteArray) : kby (byn k) = by_ k := by
  unfold kby byn by_
  rw [List.map_map]
  conv => rhs; rw [← List.map_id k.data.toList]
  apply List.map_congr_left
  intro c _
  simp
theorem grow (L : List UInt8) (a s : Nat) (X : List UInt8) (h : X = (L.drop a).take s) : L.take (a + s) = L.take a ++ X := by rw [h, List.take_add]
/-- What first answers without an error. -/
theorem first_ok {b : ByteArray} {x : Smp} {n : Nat} (h : FirstIs b x n 0) : n = (recb x).length ∧ n ≤ b.size ∧ (by_ b).take n = recb x ∧ rput x = (tx (recb x), 0) := by
  obtain ⟨n1, n2, n3, n4, n5, n6, k, d, z, a1, a2, a3, a4, a5, a6, a7, a8, a9, e1, e2, e3, e4, e5, e6, e7, e8, e9, CH, hf, hx⟩ := h
  obtain ⟨x1, x2, x3, x4, x5, x6, x7, x8⟩ := hx rfl
  clear hx
  have r4 := ctake_rng rfl CH.h4
  have r5 := ctake_rng rfl CH.h5
  have p1 : pw 1 = 256 := rfl
  rw [p1] at r4 r5
  unfold fcode at hf
  have hf1 : ¬ (e7 = 0 ∧ 512 < n6) := fun hh => by rw [if_pos hh] at hf; cases hf
  rw [if_neg hf1] at hf
  have hf2 : e9 = 0 := by
    by_cases h9 : e9 = 0
    · exact h9
    · rw [if_pos h9] at hf; exact hf.symm
  subst hf2
  rw [if_neg (fun h => h rfl)] at hf
  have hf3 : z = tx (List.replicate z.size 0) := by
    by_cases h9 : z = tx (List.replicate z.size 0)
    · exact h9
    · rw [if_pos h9] at hf; cases hf
  clear hf
  have l8' := CH.l8
  obtain ⟨q9, g9, p9, l9, t9⟩ := ctext_ok CH.h9
  subst q9
  obtain ⟨q8, g8, p8, l8, t8⟩ := ctext_ok CH.h8
  subst q8
  obtain ⟨q7, g7, p7, l7, t7⟩ := ctext_ok CH.h7
  subst q7
  obtain rfl := ctake_e CH.h6
  obtain rfl := ctake_e CH.h5
  obtain rfl := ctake_e CH.h4
  obtain rfl := ctake_e CH.h3
  obtain rfl := ctake_e CH.h2
  obtain ⟨_, o1, m1, c1⟩ := ctake_ok (a := 0) (e := 0) (s := 8) rfl (by decide) CH.h1
  obtain rfl : a1 = 8 := o1
  obtain ⟨_, o2, m2, c2⟩ := ctake_ok (a := 8) (e := 0) (s := 8) rfl (by decide) CH.h2
  obtain rfl : a2 = 16 := o2
  obtain ⟨_, o3, m3, c3⟩ := ctake_ok (a := 16) (e := 0) (s := 8) rfl (by decide) CH.h3
  obtain rfl : a3 = 24 := o3
  obtain ⟨_, o4, m4, c4⟩ := ctake_ok (a := 24) (e := 0) (s := 1) rfl (by decide) CH.h4
  obtain rfl : a4 = 25 := o4
  obtain ⟨_, o5, m5, c5⟩ := ctake_ok (a := 25) (e := 0) (s := 1) rfl (by decide) CH.h5
  obtain rfl : a5 = 26 := o5
  obtain ⟨_, o6, m6, c6⟩ := ctake_ok (a := 26) (e := 0) (s := 2) rfl (by decide) CH.h6
  obtain rfl : a6 = 28 := o6
  have p7' : a7 = 45 := by omega
  subst p7'
  have s8 : d.size = n6.toNat := by
    have := congrArg List.length t8
    rw [by_len, List.length_take, List.length_drop, by_len] at this
    omega
  have hg := gapv_le (a8 : Int) 8
  have s9 : z.size = (gapv (a8 : Int) 8).toNat := by
    have := congrArg List.length t9
    rw [by_len, List.length_take, List.length_drop, by_len] at this
    have := l9 l8'
    omega
  have hn6 : n6 ≤ 512 := by
    by_cases hh : 512 < n6
    · exact absurd ⟨rfl, hh⟩ hf1
    · omega
  clear hf1
  subst x8
  have hd : x.data.size = n6.toNat := by rw [x7, s8]
  have hdi : (x.data.size : Int) = n6 := by rw [hd]; omega
  have p8' : a8 = 45 + x.data.size := by rw [hd]; exact p8
  have hgp : rgp x = z.size := by
    unfold rgp
    rw [s9, p8']
    rfl
  have T1 : (by_ b).take 8 = nbytes x.frame 8 := by rw [x3, c1]; rfl
  have T2 : (by_ b).take 16 = nbytes x.frame 8 ++ nbytes x.run 8 := by rw [show (16 : Nat) = 8 + 8 from rfl, grow (by_ b) 8 8 _ c2, T1, x4]
  have T3 : (by_ b).take 24 = rhd x := by rw [show (24 : Nat) = 16 + 8 from rfl, grow (by_ b) 16 8 _ c3, T2, ← x5]; rfl
  have T4 : (by_ b).take 25 = rhd x ++ nbytes x.op 1 := by rw [show (25 : Nat) = 24 + 1 from rfl, grow (by_ b) 24 1 _ c4, T3, ← x1]
  have T5 : (by_ b).take 26 = rhd x ++ nbytes x.op 1 ++ nbytes x.writer 1 := by rw [show (26 : Nat) = 25 + 1 from rfl, grow (by_ b) 25 1 _ c5, T4, ← x2]
  have T6 : (by_ b).take 28 = rmd x := by rw [show (28 : Nat) = 26 + 2 from rfl, grow (by_ b) 26 2 _ c6, T5, ← hdi]; rfl
  have T7 : (by_ b).take 45 = rmd x ++ kby x.key := by rw [show (45 : Nat) = 28 + 17 from rfl, grow (by_ b) 28 17 _ t7, T6, x6, kby_byn]
  have T8 : (by_ b).take a8 = rbd x := by rw [p8, grow (by_ b) 45 n6.toNat _ t8, T7, ← x7]; rfl
  have T9 : (by_ b).take n = recb x := by
    rw [p9, grow (by_ b) a8 _ _ t9, T8]
    unfold recb
    rw [hgp]
    conv => lhs; rw [hf3]
    rw [by_tx]
  have hlen : n = (recb x).length := by
    rw [← T9, List.length_take, by_len]
    have := l9 l8'
    omega
  refine ⟨hlen, l9 l8', T9, ?_⟩
  have hb : bad x = false := by
    unfold bad
    simp only [Bool.or_eq_false_iff, decide_eq_false_iff_not]
    omega
  unfold rput
  rw [if_neg (by rw [hb]; decide), if_neg (by omega)]
/-- A number behind m bytes, read. -/
theorem tk_back (P R : List UInt8) (m : Nat) (n s : Int) (hl : P.length = m) (hg : gapv (m : Int) s = 0) (hc : pcode n s = 0) (h0 : 0 ≤ n) : ctake (tx (P ++ nbytes n s ++ R)) m 0 s = (n, ((m + s.toNat : Nat) : Int), 0) := by
  have h := ctake_back P n s hc h0 R
  rw [pbytes_flat P n s m hl hg, hl, List.length_append, hl, nbytes_len] at h
  exact h
theorem byn_kby (k : List Int) (h : ∀ n ∈ k, 0 ≤ n ∧ n < 256) : byn (tx (kby k)) = k := by
  unfold byn
  rw [show (tx (kby k)).data.toList = kby k from by_tx _]
  unfold kby
  rw [List.map_map]
  conv => rhs; rw [← List.map_id k]
  apply List.map_congr_left
  intro n hn
  have := h n hn
  simp
  omega
theorem recb_cut (x : Smp) (R : List UInt8) :
    recb x ++ R = [] ++ nbytes x.frame 8 ++ (nbytes x.run 8 ++ (nbytes x.seq 8 ++ (nbytes x.op 1 ++ (nbytes x.writer 1 ++ (nbytes (x.data.size : Int) 2 ++ (kby x.key ++ (x.data.data.toList ++ (List.replicate (rgp x) 0 ++ R)))))))) := by
  unfold recb rbd rmd rhd
  simp only [List.append_assoc, List.nil_append]
theorem tx_list (L : List UInt8) : (tx L).data.toList = L := by_tx L
/-- What is put is taken first. -/
theorem first_back {x y : Smp} {n : Nat} {e : Int} {R : List UInt8} (hp : rput x = (tx (recb x), 0)) (h : FirstIs (tx (recb x ++ R)) y n e) : e = 0 ∧ y = x ∧ n = (recb x).length := by
  obtain ⟨n1, n2, n3, n4, n5, n6, k, d, z, a1, a2, a3, a4, a5, a6, a7, a8, a9, e1, e2, e3, e4, e5, e6, e7, e8, e9, CH, hf, hx⟩ := h
  have hb : bad x = false := by
    by_cases hb : bad x = true
    · unfold rput at hp; rw [if_pos hb] at hp; simp only [Prod.mk.injEq] at hp; exact absurd hp.2 (by decide)
    · simpa using hb
  have hl : x.data.size ≤ 512 := by
    by_cases hl : 512 < x.data.size
    · unfold rput at hp; rw [if_neg (by rw [hb]; decide), if_pos hl] at hp; simp only [Prod.mk.injEq] at hp; exact absurd hp.2 (by decide)
    · omega
  obtain ⟨b1, b2, b3, b4⟩ := bad_f hb
  obtain ⟨_, _, g3, g4, g5, ⟨g6, g7⟩, _⟩ := x.good
  have u3 := u64r g3
  have u4 := u64r g4
  have u5 := u64r g5
  have k1 := tk_back [] ((nbytes x.run 8 ++ (nbytes x.seq 8 ++ (nbytes x.op 1 ++ (nbytes x.writer 1 ++ (nbytes (x.data.size : Int) 2 ++ (kby x.key ++ (x.data.data.toList ++ (List.replicate (rgp x) 0 ++ R))))))))) 0 x.frame 8 rfl (by kernel_rfl) (pcode8 _ u3.2) u3.1
  rw [show [] ++ nbytes x.frame 8 ++ ((nbytes x.run 8 ++ (nbytes x.seq 8 ++ (nbytes x.op 1 ++ (nbytes x.writer 1 ++ (nbytes (x.data.size : Int) 2 ++ (kby x.key ++ (x.data.data.toList ++ (List.replicate (rgp x) 0 ++ R))))))))) = recb x ++ R from by rw [recb_cut]; try simp only [tx_list, List.append_assoc, List.nil_append]] at k1
  rw [CH.h1] at k1
  simp only [Prod.mk.injEq] at k1
  obtain ⟨rfl, ka, rfl⟩ := k1
  obtain rfl : a1 = 8 := by have := ka; omega
  clear ka
  have k2 := tk_back ([] ++ nbytes x.frame 8) ((nbytes x.seq 8 ++ (nbytes x.op 1 ++ (nbytes x.writer 1 ++ (nbytes (x.data.size : Int) 2 ++ (kby x.key ++ (x.data.data.toList ++ (List.replicate (rgp x) 0 ++ R)))))))) 8 x.run 8 (by simp only [List.length_append, List.length_nil, nbytes_len]; rfl) (by kernel_rfl) (pcode8 _ u4.2) u4.1
  rw [show ([] ++ nbytes x.frame 8) ++ nbytes x.run 8 ++ ((nbytes x.seq 8 ++ (nbytes x.op 1 ++ (nbytes x.writer 1 ++ (nbytes (x.data.size : Int) 2 ++ (kby x.key ++ (x.data.data.toList ++ (List.replicate (rgp x) 0 ++ R)))))))) = recb x ++ R from by rw [recb_cut]; try simp only [tx_list, List.append_assoc, List.nil_append]] at k2
  rw [CH.h2] at k2
  simp only [Prod.mk.injEq] at k2
  obtain ⟨rfl, ka, rfl⟩ := k2
  obtain rfl : a2 = 16 := by have := ka; omega
  clear ka
  have k3 := tk_back ([] ++ nbytes x.frame 8 ++ nbytes x.run 8) ((nbytes x.op 1 ++ (nbytes x.writer 1 ++ (nbytes (x.data.size : Int) 2 ++ (kby x.key ++ (x.data.data.toList ++ (List.replicate (rgp x) 0 ++ R))))))) 16 x.seq 8 (by simp only [List.length_append, List.length_nil, nbytes_len]; rfl) (by kernel_rfl) (pcode8 _ u5.2) u5.1
  rw [show ([] ++ nbytes x.frame 8 ++ nbytes x.run 8) ++ nbytes x.seq 8 ++ ((nbytes x.op 1 ++ (nbytes x.writer 1 ++ (nbytes (x.data.size : Int) 2 ++ (kby x.key ++ (x.data.data.toList ++ (List.replicate (rgp x) 0 ++ R))))))) = recb x ++ R from by rw [recb_cut]; try simp only [tx_list, List.append_assoc, List.nil_append]] at k3
  rw [CH.h3] at k3
  simp only [Prod.mk.injEq] at k3
  obtain ⟨rfl, ka, rfl⟩ := k3
  obtain rfl : a3 = 24 := by have := ka; omega
  clear ka
  have k4 := tk_back ([] ++ nbytes x.frame 8 ++ nbytes x.run 8 ++ nbytes x.seq 8) ((nbytes x.writer 1 ++ (nbytes (x.data.size : Int) 2 ++ (kby x.key ++ (x.data.data.toList ++ (List.replicate (rgp x) 0 ++ R)))))) 24 x.op 1 (by simp only [List.length_append, List.length_nil, nbytes_len]; rfl) (by kernel_rfl) (pcode1 _ b2) b1
  rw [show ([] ++ nbytes x.frame 8 ++ nbytes x.run 8 ++ nbytes x.seq 8) ++ nbytes x.op 1 ++ ((nbytes x.writer 1 ++ (nbytes (x.data.size : Int) 2 ++ (kby x.key ++ (x.data.data.toList ++ (List.replicate (rgp x) 0 ++ R)))))) = recb x ++ R from by rw [recb_cut]; try simp only [tx_list, List.append_assoc, List.nil_append]] at k4
  rw [CH.h4] at k4
  simp only [Prod.mk.injEq] at k4
  obtain ⟨rfl, ka, rfl⟩ := k4
  obtain rfl : a4 = 25 := by have := ka; omega
  clear ka
  have k5 := tk_back ([] ++ nbytes x.frame 8 ++ nbytes x.run 8 ++ nbytes x.seq 8 ++ nbytes x.op 1) ((nbytes (x.data.size : Int) 2 ++ (kby x.key ++ (x.data.data.toList ++ (List.replicate (rgp x) 0 ++ R))))) 25 x.writer 1 (by simp only [List.length_append, List.length_nil, nbytes_len]; rfl) (by kernel_rfl) (pcode1 _ b4) b3
  rw [show ([] ++ nbytes x.frame 8 ++ nbytes x.run 8 ++ nbytes x.seq 8 ++ nbytes x.op 1) ++ nbytes x.writer 1 ++ ((nbytes (x.data.size : Int) 2 ++ (kby x.key ++ (x.data.data.toList ++ (List.replicate (rgp x) 0 ++ R))))) = recb x ++ R from by rw [recb_cut]; try simp only [tx_list, List.append_assoc, List.nil_append]] at k5
  rw [CH.h5] at k5
  simp only [Prod.mk.injEq] at k5
  obtain ⟨rfl, ka, rfl⟩ := k5
  obtain rfl : a5 = 26 := by have := ka; omega
  clear ka
  have k6 := tk_back ([] ++ nbytes x.frame 8 ++ nbytes x.run 8 ++ nbytes x.seq 8 ++ nbytes x.op 1 ++ nbytes x.writer 1) ((kby x.key ++ (x.data.data.toList ++ (List.replicate (rgp x) 0 ++ R)))) 26 (x.data.size : Int) 2 (by simp only [List.length_append, List.length_nil, nbytes_len]; rfl) (by kernel_rfl) (pcode2 _ (by omega)) (by omega)
  rw [show ([] ++ nbytes x.frame 8 ++ nbytes x.run 8 ++ nbytes x.seq 8 ++ nbytes x.op 1 ++ nbytes x.writer 1) ++ nbytes (x.data.size : Int) 2 ++ ((kby x.key ++ (x.data.data.toList ++ (List.replicate (rgp x) 0 ++ R)))) = recb x ++ R from by rw [recb_cut]; try simp only [tx_list, List.append_assoc, List.nil_append]] at k6
  rw [CH.h6] at k6
  simp only [Prod.mk.injEq] at k6
  obtain ⟨rfl, ka, rfl⟩ := k6
  obtain rfl : a6 = 28 := by have := ka; omega
  clear ka
  have k7 := ctext_back ([] ++ nbytes x.frame 8 ++ nbytes x.run 8 ++ nbytes x.seq 8 ++ nbytes x.op 1 ++ nbytes x.writer 1 ++ nbytes (x.data.size : Int) 2) (tx (kby x.key)) ((x.data.data.toList ++ (List.replicate (rgp x) 0 ++ R)))
  rw [show ([] ++ nbytes x.frame 8 ++ nbytes x.run 8 ++ nbytes x.seq 8 ++ nbytes x.op 1 ++ nbytes x.writer 1 ++ nbytes (x.data.size : Int) 2) ++ (tx (kby x.key)).data.toList ++ ((x.data.data.toList ++ (List.replicate (rgp x) 0 ++ R))) = recb x ++ R from by rw [recb_cut]; try simp only [tx_list, List.append_assoc, List.nil_append]] at k7
  rw [show List.length (α := UInt8) ([] ++ nbytes x.frame 8 ++ nbytes x.run 8 ++ nbytes x.seq 8 ++ nbytes x.op 1 ++ nbytes x.writer 1 ++ nbytes (x.data.size : Int) 2) = 28 from by simp only [List.length_append, List.length_nil, nbytes_len, kby_len, key_len, data_len]; first | rfl | (show 0 + 8 + 8 + 8 + 1 + 1 + 2 + 17 + x.data.size = _; omega)] at k7
  rw [show (tx (kby x.key)).size = 17 from by rw [tx_size, kby_len, key_len], show (((17 : Nat) : Nat) : Int) = 17 from rfl] at k7
  rw [CH.h7] at k7
  simp only [Prod.mk.injEq] at k7
  obtain ⟨rfl, ka, rfl⟩ := k7
  obtain rfl : a7 = 45 := by
    rw [List.length_append, show (tx (kby x.key)).data.toList.length = 17 from by rw [show (tx (kby x.key)).data.toList = kby x.key from by_tx _, kby_len, key_len]] at ka
    simp only [List.length_append, List.length_nil, nbytes_len] at ka
    have h8 : (8 : Int).toNat = 8 := rfl
    have h1 : (1 : Int).toNat = 1 := rfl
    have h2 : (2 : Int).toNat = 2 := rfl
    omega
  clear ka
  have k8 := ctext_back ([] ++ nbytes x.frame 8 ++ nbytes x.run 8 ++ nbytes x.seq 8 ++ nbytes x.op 1 ++ nbytes x.writer 1 ++ nbytes (x.data.size : Int) 2 ++ kby x.key) (x.data) ((List.replicate (rgp x) 0 ++ R))
  rw [show ([] ++ nbytes x.frame 8 ++ nbytes x.run 8 ++ nbytes x.seq 8 ++ nbytes x.op 1 ++ nbytes x.writer 1 ++ nbytes (x.data.size : Int) 2 ++ kby x.key) ++ x.data.data.toList ++ ((List.replicate (rgp x) 0 ++ R)) = recb x ++ R from by rw [recb_cut]; try simp only [tx_list, List.append_assoc, List.nil_append]] at k8
  rw [show List.length (α := UInt8) ([] ++ nbytes x.frame 8 ++ nbytes x.run 8 ++ nbytes x.seq 8 ++ nbytes x.op 1 ++ nbytes x.writer 1 ++ nbytes (x.data.size : Int) 2 ++ kby x.key) = 45 from by simp only [List.length_append, List.length_nil, nbytes_len, kby_len, key_len, data_len]; first | rfl | (show 0 + 8 + 8 + 8 + 1 + 1 + 2 + 17 + x.data.size = _; omega)] at k8
  rw [CH.h8] at k8
  simp only [Prod.mk.injEq] at k8
  obtain ⟨rfl, ka, rfl⟩ := k8
  obtain rfl : a8 = 45 + x.data.size := by
    simp only [List.length_append, List.length_nil, nbytes_len, kby_len, key_len, data_len] at ka
    have h8 : (8 : Int).toNat = 8 := rfl
    have h1 : (1 : Int).toNat = 1 := rfl
    have h2 : (2 : Int).toNat = 2 := rfl
    omega
  clear ka
  have k9 := ctext_back ([] ++ nbytes x.frame 8 ++ nbytes x.run 8 ++ nbytes x.seq 8 ++ nbytes x.op 1 ++ nbytes x.writer 1 ++ nbytes (x.data.size : Int) 2 ++ kby x.key ++ x.data.data.toList) (tx (List.replicate (rgp x) 0)) (R)
  rw [show ([] ++ nbytes x.frame 8 ++ nbytes x.run 8 ++ nbytes x.seq 8 ++ nbytes x.op 1 ++ nbytes x.writer 1 ++ nbytes (x.data.size : Int) 2 ++ kby x.key ++ x.data.data.toList) ++ (tx (List.replicate (rgp x) 0)).data.toList ++ (R) = recb x ++ R from by rw [recb_cut]; try simp only [tx_list, List.append_assoc, List.nil_append]] at k9
  rw [show List.length (α := UInt8) ([] ++ nbytes x.frame 8 ++ nbytes x.run 8 ++ nbytes x.seq 8 ++ nbytes x.op 1 ++ nbytes x.writer 1 ++ nbytes (x.data.size : Int) 2 ++ kby x.key ++ x.data.data.toList) = (45 + x.data.size) from by simp only [List.length_append, List.length_nil, nbytes_len, kby_len, key_len, data_len]; first | rfl | (show 0 + 8 + 8 + 8 + 1 + 1 + 2 + 17 + x.data.size = _; omega)] at k9
  have hz : (((tx (List.replicate (rgp x) 0)).size : Nat) : Int) = gapv ((45 + x.data.size : Nat) : Int) 8 := by
    have := gapv_le (45 + (x.data.size : Int)) 8
    rw [tx_size, List.length_replicate]
    unfold rgp
    rw [show ((45 + x.data.size : Nat) : Int) = 45 + (x.data.size : Int) from by omega]
    omega
  rw [hz] at k9
  rw [CH.h9] at k9
  simp only [Prod.mk.injEq] at k9
  obtain ⟨rfl, ka, rfl⟩ := k9
  obtain rfl : a9 = (recb x).length := by
    rw [List.length_append, show (tx (List.replicate (rgp x) 0)).data.toList.length = rgp x from by rw [show (tx (List.replicate (rgp x) 0)).data.toList = List.replicate (rgp x) 0 from by_tx _, List.length_replicate]] at ka
    simp only [List.length_append, List.length_nil, nbytes_len, kby_len, key_len, data_len] at ka
    have h8 : (8 : Int).toNat = 8 := rfl
    have h1 : (1 : Int).toNat = 1 := rfl
    have h2 : (2 : Int).toNat = 2 := rfl
    have hr : (recb x).length = 45 + x.data.size + rgp x := by unfold recb; rw [List.length_append, rbd_len, List.length_replicate]
    omega
  clear ka
  have he : e = 0 := by
    rw [hf]
    unfold fcode
    rw [if_neg (fun hh => by have := hh.2; omega), if_neg (fun h => h rfl), if_neg]
    intro hh
    apply hh
    rw [tx_size, List.length_replicate]
  obtain ⟨x1, x2, x3, x4, x5, x6, x7, x8⟩ := hx he
  exact ⟨he, Smp.ext' x1 x2 x3 x4 x5 (x6.trans (byn_kby _ (fun n hn => wf_u8 (g7 n hn)))) x7, x8⟩
end Go.Proofs.Ytmlfnlmdnhblmaa.Rec
namespace Go.Proofs.Ytmlfnlmdnhblmaa.Rec
open Go.RowKit Base Sp Flat Go.Proofs.YtmlfnlmdnhblmaaW.PrintWords Go.Proofs.YtmlfnlmdnhblmaaW.PrintLast Go.Proofs.YtmlfnlmdnhblmaaW.PrintMore Wd Al Buf Smp
/-- What Fit answers: the records from the i-th sample on. -/
def fitm (room : Int) : List Smp → Nat → List UInt8 → List UInt8 × Nat
  | [], i, b => (b, i)
  | x :: l, i, b => if (rput x).2 ≠ 0 ∨ room < (b.length : Int) + ((rput x).1.size : Int) then (b, i) else fitm room l (i + 1) (b ++ (rput x).1.data.toList)
theorem rput_size (x : Smp) : (rput x).1.size ≤ 564 := by
  unfold rput
  split
  · exact Nat.zero_le _
  · split
    · exact Nat.zero_le _
    · rw [tx_size]
      have h := recb_len x
      have := gapv_le (45 + (x.data.size : Int)) 8
      unfold rsz at h
      rw [if_neg (by omega)] at h
      omega
theorem fitm_step (room : Int) (xs : List Smp) (k : Nat) (b : List UInt8) (hk : k < xs.length) : fitm room (xs.drop k) k b = if (rput xs[k]).2 ≠ 0 ∨ room < (b.length : Int) + ((rput xs[k]).1.size : Int) then (b, k) else fitm room (xs.drop (k + 1)) (k + 1) (b ++ (rput xs[k]).1.data.toList) := by
  rw [List.drop_eq_getElem_cons hk, fitm]
theorem fitm_end (room : Int) (xs : List Smp) (b : List UInt8) : fitm room (xs.drop xs.length) xs.length b = (b, xs.length) := by
  rw [List.drop_length, fitm]
theorem boxed {wr w8 w9 : World} {x : Smp} (hb : Below wr.heap.size wr w8) (hbox : w8.heap[wr.heap.size]? = some (.cells (cells zsmp).toArray 26 (0, 0))) (h : w9 = w8.setCells wr.heap.size 0 (cells x)) :
    Below wr.heap.size wr w9 ∧ w9.heap[wr.heap.size]? = some (.cells (cells x).toArray 26 (0, 0)) := by
  have n9 := box_set (x := x) hbox
  rw [← h] at n9
  have M9 : Mod (fun k => k = wr.heap.size) w8 w9 := h ▸ setCells_mod w8 wr.heap.size 0 (cells x)
  exact ⟨M9.below hb hb.size (fun k hk => by rw [show k = wr.heap.size from hk]; exact Nat.le_refl _), n9⟩
theorem blen (F : Nat → Prop) (b : Nat) (l : List UInt8) (w : World) (h : sB w F b l) : Calls Try.prog 24 #[.pointer (some ⟨b, 0, none⟩)] w fun e w' => e = .returned (.int .i64 (l.length : Int)) ∧ w = w' := by
  obtain ⟨p, v, h1, h2, h3, _⟩ := h
  have c1 : w.cell? ⟨b, 1, none⟩ = some v := blk_cell h1 1
  rcases h3.2 with ⟨rfl, hz⟩ | ⟨g, cap, cur, fz, rfl, _⟩
  · have e : (l.length : Int) = 0 := by omega
    rw [e]
    clear h1 h2 h3 hz
    go_enter Try.func24, Try.ntmps24
    go_wp2
    go_ret
    exact ⟨rfl, rfl⟩
  · clear h1 h2 h3
    go_enter Try.func24, Try.ntmps24
    go_wp2
    go_ret
    exact ⟨rfl, rfl⟩
theorem sfresh (w : World) : sB (w.alloc (.cells #[.pointer none, .slice none 0 0] 55)) (fun k => k = w.heap.size) w.heap.size [] :=
  ⟨_, _, heap_alloc_new _ _, .inl rfl, World.ownsRowF_nil _ _ _ _, by simp [Value.ownBlock], rfl, fun k hk => by simp [Value.ownBlock] at hk, fun k hk => by subst hk; simp⟩
/-- What is known at the start of a round of Fit. -/
structure Ft (room : Int) (xs : List Smp) (w0 w : World) (k : Nat) (b : List UInt8) (F : Nat → Prop) : Prop where
  hb : sB w F w0.heap.size b
  fF : ∀ j, F j → w0.heap.size ≤ j
  be : Below w0.heap.size w0 w
  eq : fitm room xs 0 [] = fitm room (xs.drop k) k b
  ln : b.length ≤ k * 564
  rm : b = [] ∨ (b.length : Int) ≤ room
def Fi (w : World) (r : List UInt8 × Nat) (e : Ending) (w' : World) : Prop := e = .returned (.tuple #[.string (tx r.1), .int .i64 (r.2 : Int)]) ∧ Below w.heap.size w w'
set_option maxRecDepth 20000 in
set_option maxHeartbeats 4000000 in
theorem fit {G : Nat → Prop} {w : World} {v : Value} {xs : List Smp} (h : Rd ks w G v xs) (room : Int) (h0 : -9223372036854775808 ≤ room) (h1 : room < 9223372036854775808) (hl : xs.length ≤ 100) :
    Calls Try.prog 9 #[v, .int .i64 room] w (Fi w (fitm room xs 0 [])) := by
  have HR := Lib.hid (And.intro h0 h1)
  have HL := Lib.hid hl
  have HA := Lib.hid h
  have b0 : Below w.heap.size w (w.alloc (.cells #[.pointer none, .slice none 0 0] 55)) := (Below.refl _ _).alloc (Nat.le_refl _) _
  have F0 : Ft room xs w (w.alloc (.cells #[.pointer none, .slice none 0 0] 55)) 0 [] (fun k => k = w.heap.size) :=
    ⟨sfresh w, fun j hj => by rw [show j = w.heap.size from hj]; exact Nat.le_refl _, b0, rfl, Nat.zero_le _, .inl rfl⟩
  obtain ⟨A, c, rfl, _, _, _⟩ := h
  clear h0 h1 hl b0
  go_enter Try.func9, Try.ntmps9
  go_wp2
  go_loopw [13] (fun i wr => ∃ (k : Nat) (b : List UInt8) (F : Nat → Prop), i = .int .i64 (k : Int) ∧ k ≤ xs.length ∧ Ft room xs w wr k b F) (fun i _ => xs.length - (intOf i).toNat)
  case atStart => exact ⟨0, _, _, rfl, Nat.zero_le _, F0⟩
  case round =>
    clear F0
    obtain ⟨k, b, F, rfl, hk, FT⟩ := hrel
    by_cases hlt : k < xs.length
    · have k0 : (0 : Int) ≤ (k : Int) := by omega
      have hlt1 : (k : Int) < (xs.length : Int) := by omega
      obtain ⟨ad, rfl, q1⟩ := rd_at (rd_below HA.out FT.be) hlt
      have hwi : wrap64 ((k : Int) + 1) = ((k + 1 : Nat) : Int) := by have := HL.out; unfold wrap64; omega
      have hm := Lib.hid (meas _ _ hlt)
      have hlt2 := Lib.hid hlt
      have hst := Lib.hid (fitm_step room xs k b hlt)
      have hps := Lib.hid (rput_size xs[k])
      have HP := fun w => put xs[k] w
      generalize xs[k] = x at q1 hst hps HP
      generalize rput x = r at hst hps HP
      obtain ⟨r1, r2⟩ := r
      clear hlt hk
      dsimp only at HP
      go_wp2_with (first | ((with_reducible refine gate_dst (N := 17) rfl ?_); refine load_any (by kernel_rfl) 26 (.tmp 16) rfl _ rfl (cells x) _ q1 Try.underlying26 rfl (size23 x) ?_) | ((with_reducible refine gate_dst (N := 8) rfl ?_); refine box_event rfl (N := 8) rfl (cs := (cells zsmp).toArray) (t := 26) ?hr ?_; (case hr => go_simp; rfl); intro gb hgb w8 hbox hb; subst hgb; clear q1) | ((with_reducible refine gate_store (p := 8) (v := .tmp 17) rfl ?_); refine store_ev rfl 26 (.tmp 8) (.tmp 17) rfl wr.heap.size 0 (cells x) rfl rfl (there_of hbox (by rw [cells_len, cells_len]; omega)) (size23 x) (cells_one x) ?_; intro w9 hw9; obtain ⟨B9, n9⟩ := boxed hb hbox hw9; have r9 := box_range n9; clear hb hbox hw9) | ((with_reducible refine gate_dst (N := 19) rfl ?_); refine wpList_load_mid rfl 26 (.tmp 8) rfl wr.heap.size 0 rfl (cells x) _ r9 Try.underlying26 rfl (size23 x) ?_))
      refine (HP _).mono ?_
      rintro e w10 ⟨rfl, b10⟩
      have B10 := bstep B9 b10
      clear B9 b10 n9 r9 HP
      have hB := FT.hb.below B10
      have bb := bstep FT.be B10
      clear B10
      have HF := Lib.hid (And.intro FT.fF (And.intro FT.eq (And.intro FT.ln FT.rm)))
      clear FT
      by_cases he : r2 = 0
      · subst he
        have hLen := blen F w.heap.size b w10 hB
        have hw64 : wrap64 (room - (b.length : Int)) = room - (b.length : Int) := by
          have h1 := HR.out
          have h2 := HF.out.2.2.2
          have h3 := HF.out.2.2.1
          have h4 := HL.out
          have h5 := hlt2.out
          unfold wrap64
          rcases h2 with rfl | h2
          · simp; omega
          · omega
        by_cases hf : room - (b.length : Int) < (r1.size : Int)
        · have HE : Hid (fitm room xs 0 [] = (b, k)) := Lib.hid (by rw [HF.out.2.1, hst.out, if_pos (.inr (by omega))])
          have hS := sstring F w.heap.size b w10 hB
          go_wp2_with fail
          refine hLen.mono ?_
          rintro e w11 ⟨rfl, rfl⟩
          go_wp2_with fail
          refine hS.mono ?_
          rintro e w12 ⟨rfl, _, m12⟩
          go_wp2
          go_ret2
          exact ⟨by rw [HE.out]; rfl, m12.below bb bb.size HF.out.1⟩
        · have HE : Hid (fitm room xs 0 [] = fitm room (xs.drop (k + 1)) (k + 1) (b ++ r1.data.toList)) := Lib.hid (by rw [HF.out.2.1, hst.out, if_neg (fun hh => hh.elim (fun h => h rfl) (fun h => by omega))])
          have HN : Hid ((b.length : Int) + (r1.size : Int) ≤ room) := Lib.hid (by omega)
          have hW := swrite F w.heap.size b r1 w10 hB (by have h1 := HF.out.2.2.1; have h2 := hps.out; have h3 := HL.out; have h4 := hlt2.out; omega)
          go_wp2_with fail
          refine hLen.mono ?_
          rintro e w11 ⟨rfl, rfl⟩
          go_wp2_with fail
          refine hW.mono ?_
          rintro e w12 ⟨rfl, F2, hB2, m12, g12⟩
          have hln : (b ++ r1.data.toList).length = b.length + r1.size := by rw [List.length_append]; rfl
          have FT2 : Ft room xs w w12 (k + 1) (b ++ r1.data.toList) F2 :=
            ⟨hB2, grow_up g12 HF.out.1 bb.size, m12.below bb bb.size HF.out.1, HE.out, by have h1 := HF.out.2.2.1; have h2 := hps.out; rw [hln]; omega, .inr (by have := HN.out; rw [hln]; omega)⟩
          clear hB hW hLen hB2 m12 g12 hln hw64 hf
          go_wp2
          rw [hwi]
          exact ⟨⟨k + 1, _, F2, rfl, hlt2.out, FT2⟩, hm.out⟩
      · have HE : Hid (fitm room xs 0 [] = (b, k)) := Lib.hid (by rw [HF.out.2.1, hst.out, if_pos (.inl he)])
        have hne : (r2 != 0) = true := by simpa using he
        have hS := sstring F w.heap.size b w10 hB
        clear he
        go_wp2_with fail
        refine hS.mono ?_
        rintro e w12 ⟨rfl, _, m12⟩
        go_wp2
        go_ret2
        exact ⟨by rw [HE.out]; rfl, m12.below bb bb.size HF.out.1⟩
    · have hk2 : k = xs.length := by omega
      subst hk2
      clear hlt hk
      have HE : Hid (fitm room xs 0 [] = (b, xs.length)) := Lib.hid (by rw [FT.eq, fitm_end])
      have hS := sstring F w.heap.size b wr FT.hb
      have HF := Lib.hid (And.intro FT.fF FT.be)
      clear FT
      go_wp2_with fail
      refine hS.mono ?_
      rintro e w12 ⟨rfl, _, m12⟩
      go_wp2
      go_ret2
      exact ⟨by rw [HE.out]; rfl, m12.below HF.out.2 HF.out.2.size HF.out.1⟩
/-- What is known at the start of a round of the reference's Fit. -/
structure Rt (room : Int) (xs : List Smp) (k : Nat) (b : List UInt8) : Prop where
  eq : fitm room xs 0 [] = fitm room (xs.drop k) k b
  ln : b.length ≤ k * 564
set_option maxRecDepth 20000 in
set_option maxHeartbeats 4000000 in
theorem rfit {G : Nat → Prop} {w : World} {v : Value} {xs : List Smp} (h : Rd ks w G v xs) (room : Int) (hl : xs.length ≤ 100) :
    Calls Try.prog 10 #[v, .int .i64 room] w (Fi w (fitm room xs 0 [])) := by
  have HL := Lib.hid hl
  have HA := Lib.hid h
  have b0 := Below.refl w.heap.size w
  have F0 : Hid (Rt room xs 0 []) := Lib.hid ⟨rfl, Nat.zero_le _⟩
  obtain ⟨A, c, rfl, _, _, _⟩ := h
  clear hl
  go_enter Try.func10, Try.ntmps10
  go_wp2
  go_loopw [6, 7] (fun v6 i wr => ∃ (k : Nat) (b : List UInt8), i = .int .i64 (k : Int) ∧ v6 = .string (tx b) ∧ k ≤ xs.length ∧ Hid (Rt room xs k b) ∧ Below w.heap.size w wr) (fun _ i _ => xs.length - (intOf i).toNat)
  case atStart => exact ⟨0, [], rfl, rfl, Nat.zero_le _, F0, b0⟩
  case round =>
    clear F0 b0
    obtain ⟨k, b, rfl, rfl, hk, FT, bb⟩ := hrel
    by_cases hlt : k < xs.length
    · have k0 : (0 : Int) ≤ (k : Int) := by omega
      have hlt1 : (k : Int) < (xs.length : Int) := by omega
      obtain ⟨ad, rfl, q1⟩ := rd_at (rd_below HA.out bb) hlt
      have hwi : wrap64 ((k : Int) + 1) = ((k + 1 : Nat) : Int) := by have := HL.out; unfold wrap64; omega
      have hm := Lib.hid (meas _ _ hlt)
      have hlt2 := Lib.hid hlt
      have hst := Lib.hid (fitm_step room xs k b hlt)
      have hps := Lib.hid (rput_size xs[k])
      have HP := fun w => rputs xs[k] w
      generalize xs[k] = x at q1 hst hps HP
      generalize rput x = r at hst hps HP
      obtain ⟨r1, r2⟩ := r
      clear hlt hk
      dsimp only at HP
      go_wp2_with (first | ((with_reducible refine gate_dst (N := 20) rfl ?_); refine load_any (by kernel_rfl) 26 (.tmp 19) rfl _ rfl (cells x) _ q1 Try.underlying26 rfl (size23 x) ?_))
      refine (HP _).mono ?_
      rintro e w10 ⟨rfl, b10⟩
      have bb2 := bstep bb b10
      clear b10 HP q1 bb
      by_cases he : r2 = 0
      · subst he
        have hw64 : wrap64 (((tx b).size : Int) + (r1.size : Int)) = ((tx b).size : Int) + (r1.size : Int) := by
          have h1 := FT.out.ln
          have h2 := hps.out
          have h3 := HL.out
          have h4 := hlt2.out
          rw [tx_size]
          unfold wrap64
          omega
        by_cases hf : room < ((tx b).size : Int) + (r1.size : Int)
        · have HE : Hid (fitm room xs 0 [] = (b, k)) := Lib.hid (by rw [FT.out.eq, hst.out, if_pos (.inr (by have := tx_size b; omega))])
          go_wp2
          go_ret2
          exact ⟨by rw [HE.out]; rfl, bb2⟩
        · have HE : Hid (fitm room xs 0 [] = fitm room (xs.drop (k + 1)) (k + 1) (b ++ r1.data.toList)) := Lib.hid (by rw [FT.out.eq, hst.out, if_neg (fun hh => hh.elim (fun h => h rfl) (fun h => by have := tx_size b; omega))])
          have hz : (tx b).size + r1.size ≤ 1000000 := by
            have h1 := FT.out.ln
            have h2 := hps.out
            have h3 := HL.out
            have h4 := hlt2.out
            rw [tx_size]
            omega
          have hsum : tx b ++ r1 = tx (b ++ r1.data.toList) := by rw [tx_app]; rfl
          have FT2 : Hid (Rt room xs (k + 1) (b ++ r1.data.toList)) := Lib.hid ⟨HE.out, by have h1 := FT.out.ln; have h2 := hps.out; rw [List.length_append]; show _ + r1.size ≤ _; omega⟩
          go_wp2
          rw [hwi]
          exact ⟨⟨k + 1, _, rfl, rfl, hlt2.out, FT2, bb2⟩, hm.out⟩
      · have HE : Hid (fitm room xs 0 [] = (b, k)) := Lib.hid (by rw [FT.out.eq, hst.out, if_pos (.inl he)])
        have hne : (r2 != 0) = true := by simpa using he
        clear he
        go_wp2
        go_ret2
        exact ⟨by rw [HE.out]; rfl, bb2⟩
    · have hk2 : k = xs.length := by omega
      subst hk2
      clear hlt hk
      have HE : Hid (fitm room xs 0 [] = (b, xs.length)) := Lib.hid (by rw [FT.out.eq, fitm_end])
      go_wp2
      go_ret2
      exact ⟨by rw [HE.out]; rfl, bb⟩
end Go.Proofs.Ytmlfnlmdnhblmaa.Rec
namespace Go.Proofs.Ytmlfnlmdnhblmaa.Rec
open Go.RowKit Base Sp Flat Go.Proofs.YtmlfnlmdnhblmaaW.PrintWords Go.Proofs.YtmlfnlmdnhblmaaW.PrintLast Go.Proofs.YtmlfnlmdnhblmaaW.PrintMore Wd Al Buf Smp Cur
/-- What Take answers. -/
inductive Tk : ByteArray → List Smp → Int → Prop
  | done (b : ByteArray) : b.size = 0 → Tk b [] 0
  | bad (b : ByteArray) (x : Smp) (n : Nat) (e : Int) : 0 < b.size → FirstIs b x n e → e ≠ 0 → Tk b [] e
  | more (b : ByteArray) (x : Smp) (n : Nat) (l : List Smp) (e : Int) : 0 < b.size → FirstIs b x n 0 → Tk (b.extract n b.size) l e → Tk b (if e = 0 then x :: l else []) e
/-- A sample that has a record. -/
def Ok (x : Smp) : Prop := rput x = (tx (recb x), 0)
/-- Records one behind the other. -/
def flatr : List Smp → List UInt8
  | [] => []
  | x :: l => recb x ++ flatr l
theorem flatr_app (l m : List Smp) : flatr (l ++ m) = flatr l ++ flatr m := by
  induction l with
  | nil => rfl
  | cons x l ih => show recb x ++ flatr (l ++ m) = recb x ++ flatr l ++ flatr m; rw [ih, List.append_assoc]
theorem recb_pos (x : Smp) : 0 < (recb x).length := by
  have := recb_len x
  have h := gapv_le (45 + (x.data.size : Int)) 8
  unfold rsz at this
  rw [if_neg (by omega)] at this
  omega
theorem extract_suf (A B : List UInt8) : (tx (A ++ B)).extract A.length (tx (A ++ B)).size = tx B := by
  have h := extract_mid (tx A) (tx B) (tx [])
  rw [← tx_app, ← tx_app, List.append_nil] at h
  rw [show (tx A).size = A.length from rfl, show A.length + (tx B).size = (tx (A ++ B)).size from by rw [tx_size, tx_size, List.length_append]] at h
  exact h
/-- What is put is taken. -/
theorem tk_puts {b : ByteArray} {l' : List Smp} {e : Int} (h : Tk b l' e) : ∀ l : List Smp, (∀ x ∈ l, Ok x) → b = tx (flatr l) → e = 0 ∧ l' = l := by
  induction h with
  | done b hz =>
    intro l _ hb
    cases l with
    | nil => exact ⟨rfl, rfl⟩
    | cons x l =>
      have := recb_pos x
      rw [hb, tx_size, flatr, List.length_append] at hz
      omega
  | bad b x n e hz hf he =>
    intro l hl hb
    cases l with
    | nil => rw [hb] at hz; exact absurd hz (by decide)
    | cons y l =>
      rw [hb, flatr] at hf
      exact absurd (first_back (hl y List.mem_cons_self) hf).1 he
  | more b x n l2 e hz hf _ ih =>
    intro l hl hb
    cases l with
    | nil => rw [hb] at hz; exact absurd hz (by decide)
    | cons y l =>
      rw [hb, flatr] at hf
      obtain ⟨_, rfl, rfl⟩ := first_back (hl y List.mem_cons_self) hf
      obtain ⟨rfl, rfl⟩ := ih l (fun z hz => hl z (List.mem_cons_of_mem _ hz)) (by rw [hb, flatr]; exact extract_suf _ _)
      exact ⟨rfl, by rw [if_pos rfl]⟩
/-- What is taken is put so. -/
theorem tk_ok {b : ByteArray} {l : List Smp} {e : Int} (h : Tk b l e) : e = 0 → by_ b = flatr l ∧ ∀ x ∈ l, Ok x := by
  induction h with
  | done b hz => intro _; exact ⟨List.eq_nil_of_length_eq_zero hz, fun x hx => by cases hx⟩
  | bad b x n e hz hf he => intro h; exact absurd h he
  | more b x n l e hz hf _ ih =>
    intro he
    obtain ⟨i1, i2⟩ := ih he
    obtain ⟨f1, f2, f3, f4⟩ := first_ok hf
    rw [if_pos he]
    refine ⟨?_, fun y hy => ?_⟩
    · rw [flatr, ← i1, ← f3]
      unfold by_
      rw [ByteArray.data_extract, Array.toList_extract, List.extract_eq_take_drop, List.take_of_length_le (l := List.drop n _) (by rw [List.length_drop]; exact Nat.le_refl _), List.take_append_drop]
    · rcases List.mem_cons.1 hy with rfl | hy
      · exact f4
      · exact i2 y hy
theorem tk_none {b : ByteArray} {l : List Smp} {e : Int} (h : Tk b l e) (he : e ≠ 0) : l = [] := by
  cases h with
  | done => rfl
  | bad => rfl
  | more => rw [if_neg he]
/-- Fit of samples that have records. -/
theorem fit_law (room : Int) : ∀ (l : List Smp) (i : Nat) (b : List UInt8), (∀ x ∈ l, Ok x) → ∃ m, m ≤ l.length ∧ fitm room l i b = (b ++ flatr (l.take m), i + m) ∧ (0 < m → ((b ++ flatr (l.take m)).length : Int) ≤ room) ∧
    (∀ h : m < l.length, room < ((b ++ flatr (l.take m)).length : Int) + ((recb l[m]).length : Int))
  | [], i, b, _ => ⟨0, Nat.le_refl _, by simp [fitm, flatr], fun h => absurd h (by decide), fun h => absurd h (Nat.not_lt_zero _)⟩
  | x :: l, i, b, hl => by
    have hx : rput x = (tx (recb x), 0) := hl x List.mem_cons_self
    rw [fitm, hx]
    by_cases h : room < (b.length : Int) + ((recb x).length : Int)
    · rw [if_pos (.inr h)]
      exact ⟨0, Nat.zero_le _, by simp [flatr], fun h => absurd h (by decide), fun _ => by simpa [flatr] using h⟩
    · have h2 : ¬ ((tx (recb x), (0 : Int)).2 ≠ 0 ∨ room < (b.length : Int) + ((tx (recb x), (0 : Int)).1.size : Int)) := fun hh => hh.elim (fun q => q rfl) (fun q => h q)
      rw [if_neg h2]
      obtain ⟨m, m1, m2, m3, m4⟩ := fit_law room l (i + 1) (b ++ (tx (recb x)).data.toList) (fun y hy => hl y (List.mem_cons_of_mem _ hy))
      rw [tx_list] at m2 m3 m4
      refine ⟨m + 1, by rw [List.length_cons]; omega, ?_, fun _ => ?_, fun h => ?_⟩
      · show fitm room l (i + 1) (b ++ (tx (recb x)).data.toList) = _
        rw [tx_list, m2, List.take_succ_cons, flatr, ← List.append_assoc]
        exact congrArg (Prod.mk _) (by omega)
      · rw [List.take_succ_cons, flatr, ← List.append_assoc]
        rcases Nat.eq_zero_or_pos m with hm | hm
        · subst hm
          simp only [List.take_zero, flatr, List.append_nil, List.length_append]
          omega
        · exact m3 hm
      · rw [List.take_succ_cons, flatr, ← List.append_assoc]
        exact m4 (by rw [List.length_cons] at h; omega)
end Go.Proofs.Ytmlfnlmdnhblmaa.Rec
namespace Go.Proofs.Ytmlfnlmdnhblmaa.Rec
open Go.RowKit Base Sp Flat Go.Proofs.YtmlfnlmdnhblmaaW.PrintWords Go.Proofs.YtmlfnlmdnhblmaaW.PrintLast Go.Proofs.YtmlfnlmdnhblmaaW.PrintMore Wd Al Buf Smp Cur
/-- Blocks that are new behind B. -/
abbrev New (B : Nat) (w : World) : Nat → Prop := fun k => B ≤ k ∧ k < w.heap.size
/-- What is known at the start of a round of Take. -/
structure Tr (b0 : ByteArray) (w0 w : World) (b : ByteArray) (v : Value) (xs : List Smp) : Prop where
  own : Own ks 26 w (New w0.heap.size w) v xs
  be : Below w0.heap.size w0 w
  eq : ∀ l e, Tk b l e → Tk b0 (if e = 0 then xs ++ l else []) e
  ln : xs.length + b.size ≤ 1000000
def Takes (b : ByteArray) (w : World) (e : Ending) (w' : World) : Prop := ∃ v xs c, e = .returned (.tuple #[v, .int .i64 c]) ∧ Tk b xs c ∧ Own ks 26 w' (New w.heap.size w') v xs ∧ Below w.heap.size w w'
theorem tr_step {b0 b : ByteArray} {xs : List Smp} {x : Smp} {n : Nat} (hz : 0 < b.size) (hf : FirstIs b x n 0) (h : ∀ l e, Tk b l e → Tk b0 (if e = 0 then xs ++ l else []) e) :
    ∀ l e, Tk (b.extract n b.size) l e → Tk b0 (if e = 0 then (xs ++ [x]) ++ l else []) e := fun l e ht => by
  have := h _ e (.more b x n l e hz hf ht)
  by_cases he : e = 0
  · rw [if_pos he, if_pos he] at this
    rw [if_pos he, List.append_assoc]
    exact this
  · rw [if_neg he] at this ⊢
    exact this
theorem toList_nil {b : ByteArray} (h : b.size = 0) : b.toList = [] := by
  rw [ByteArray.toList_eq]
  exact List.eq_nil_of_length_eq_zero h
theorem toList_ne {b : ByteArray} (h : ¬ b.size = 0) : b.toList ≠ [] := fun e => h (by
  rw [ByteArray.toList_eq] at e
  exact congrArg List.length e)
theorem toList_cons {b : ByteArray} (h : ¬ b.size = 0) : b.toList.isEmpty = false := by
  have := toList_ne h
  cases hq : b.toList with
  | nil => exact absurd hq this
  | cons a r => rfl
theorem own_bel {w w' : World} {F : Nat → Prop} {v : Value} {xs : List Smp} (h : Own ks 26 w F v xs) (hF : ∀ k, F k → k < w.heap.size) (hb : Below w.heap.size w w') : Own ks 26 w' F v xs :=
  h.same flat_ks (fun k hk => hb.block k (hF k hk))
set_option maxRecDepth 20000 in
set_option maxHeartbeats 4000000 in
theorem take (b : ByteArray) (hb : b.size ≤ 1000000) (w : World) : Calls Try.prog 13 #[.string b] w (Takes b w) := by
  have F0 : Tr b w w b (.slice none 0 0) [] := ⟨Own.nil _ _ _ _, Below.refl _ _, fun l e h => by
    by_cases he : e = 0
    · rw [if_pos he]; exact h
    · rw [if_neg he, ← tk_none h he]; exact h, by simpa using hb⟩
  clear hb
  go_enter Try.func13, Try.ntmps13
  go_wp2
  go_loopw [0, 4] (fun v0 v4 wr => ∃ (b' : ByteArray) (xs : List Smp), v0 = .string b' ∧ Tr b w wr b' v4 xs) (fun v0 _ _ => match v0 with | .string b' => b'.size | _ => 0)
  case atStart => exact ⟨b, [], rfl, F0⟩
  case round =>
    clear F0
    obtain ⟨b', xs, rfl, TR⟩ := hrel
    by_cases hz : b'.size = 0
    · have hT : Hid (Tk b xs 0) := Lib.hid (by have := TR.eq [] 0 (.done _ hz); rwa [if_pos rfl, List.append_nil] at this)
      have hO := Lib.hid (And.intro TR.own TR.be)
      have hl := toList_nil hz
      clear TR hz
      go_wp2
      go_ret2
      exact ⟨_, xs, 0, rfl, hT.out, hO.out.1, hO.out.2⟩
    · have hl := toList_cons hz
      have hl2 := toList_ne hz
      have HZ := Lib.hid (show 0 < b'.size by omega)
      have HB := Lib.hid (show b'.size ≤ 140737488355328 by have := TR.ln; omega)
      clear hz
      have HT := Lib.hid TR
      clear TR
      go_wp2_with fail
      refine (first b' HB.out wr).mono ?_
      rintro e' w1 ⟨x, n, e, rfl, hF, b1⟩
      have HF := Lib.hid hF
      clear hF
      have hbb := bstep HT.out.be b1
      by_cases he : e = 0
      · subst he
        go_wp2_with (first | ((with_reducible refine gate_dst (N := 5) rfl ?_); refine box_event rfl (N := 5) rfl (cs := (cells zsmp).toArray) (t := 26) ?hr ?_; (case hr => go_simp; rfl); intro gb hgb w8 hbox hb8; subst hgb) | ((with_reducible refine gate_store (p := 5) (v := .tmp 13) rfl ?_); refine store_ev rfl 26 (.tmp 5) (.tmp 13) rfl w1.heap.size 0 (cells x) rfl rfl (there_of hbox (by rw [cells_len, cells_len]; omega)) (size23 x) (cells_one x) ?_; intro w9 hw9; obtain ⟨B9, n9⟩ := boxed hb8 hbox hw9; clear hb8 hbox hw9))
        have B9' : Below wr.heap.size wr w9 := bstep b1 B9
        have OW := own_bel HT.out.own (fun k hk => hk.2) B9'
        have hsz9 := B9'.size
        have hf := first_ok HF.out
        have hn1 : (n : Int) ≤ (b'.size : Int) := by have := hf.2.1; omega
        have hn0 : 0 < n := by rw [hf.1]; exact recb_pos x
        obtain ⟨v2, w2, hrun, o2, g2⟩ := app_all (own_bel OW (fun k hk => Nat.lt_of_lt_of_le hk.2 hsz9) ((Below.refl _ _).drew.alloc (Nat.le_refl _) _ : Below w9.heap.size w9 (w9.drew.alloc (.cells (cells x).toArray 26)))) (fun k hk => by rw [World.size_alloc]; exact Nat.lt_succ_of_lt (Nat.lt_of_lt_of_le hk.2 hsz9)) (rd_one (heap_alloc_new w9.drew _)) (by have := HT.out.ln; show (xs.length + 1) * 80 ≤ _; have := HZ.out; omega)
        have ha1 := blk_alloc (w := w9.drew) n9 (.cells (cells x).toArray 26)
        have hlt1 := blk_lt ha1
        have hoff : some w1.heap.size ≠ u4.ownBlock := fun hh => by
          have h1 := (OW.base _ hh.symm).2
          have h2 := b1.size
          omega
        have ha2 := (g2.block _ hlt1 hoff).trans ha1
        have W0 := HT.out.be
        have bb2 : Below w.heap.size w w2 := ((bstep W0 B9').drew.alloc (Nat.le_trans W0.size hsz9) _).grown g2 (by rw [World.size_alloc]; exact Nat.le_succ_of_le (Nat.le_trans W0.size hsz9)) (fun k hk => (OW.base k hk).1)
        have hsz2 : w9.heap.size < w2.heap.size := by have := g2.size; rw [World.size_alloc] at this; exact this
        have o3 : Own ks 26 w2 (New w.heap.size w2) v2 (xs ++ [x]) := o2.mono (fun k hk => by
          rcases hk with hk | hk
          · exact ⟨hk.1, by have := hk.2; omega⟩
          · refine ⟨?_, hk.2⟩
            have h1 := hk.1
            rw [World.size_alloc] at h1
            have h2 := W0.size
            have h3 : w9.drew.heap.size = w9.heap.size := rfl
            omega)
        have hex : (b'.extract n b'.size).size = b'.size - n := by rw [ByteArray.size_extract, Nat.min_self]
        have T2 : Hid (Tr b w w2 (b'.extract n b'.size) v2 (xs ++ [x])) := Lib.hid ⟨o3, bb2, tr_step HZ.out HF.out HT.out.eq, by
          have := HT.out.ln
          have h1 := hf.2.1
          rw [hex, List.length_append]
          show xs.length + 1 + (b'.size - n) ≤ _
          omega⟩
        have hms : Hid ((b'.extract n b'.size).size < b'.size) := Lib.hid (by have := HZ.out; rw [hex]; omega)
        clear hex o3 bb2 W0 hoff hlt1 g2 o2 OW HT HF hf hbb B9 B9' b1
        refine Reg.wp_plan (S := fun w' => w'.heap[w1.heap.size]? = some (.cells (cells x).toArray 26 (0, 0))) 9 (.fl 0 (.fl 1 (.fl 4 (.fl 5 (.fl 6 (.one 2 (.one 3 (.fl 7 (.fl 8 .done))))))))) (by kernel_rfl) (by kernel_rfl) (by kernel_rfl) (by kernel_rfl) (fun _ _ _ d _ h => by cases d <;> exact h) ?_ (fun hHeld => ?_)
        · exact n9
        refine Reg.G_on (o := { dst := some 19, op := Op.move (Operand.tmp 4), type := 27, pos := "record.go:82", after := #[], guard := Option.none }) (v := ?_) (by rfl) ?_ (fun wS hSw => ?_) ?_
        rotate_left
        · kernel_rfl
        · (try dsimp only at hSw); go_simp; (try with_reducible rfl)
        try simp only [Act.put, List.setIfInBounds_toArray, List.set_cons_zero, List.set_cons_succ]
        refine Reg.G_on (o := { dst := some 20, op := Op.load 26 (Operand.tmp 5), type := 26, pos := "record.go:82", after := #[], guard := Option.none }) (v := .agg (cells x).toArray) (by rfl) ?_ (fun wS hSw => ?_) ?_
        · kernel_rfl
        · exact load_yields_any rfl rfl (box_at hSw) Try.underlying26 rfl (size23 x)
        try simp only [Act.put, List.setIfInBounds_toArray, List.set_cons_zero, List.set_cons_succ]
        refine Reg.G_on (o := { dst := some 23, op := Op.move (Operand.tmp 0), type := 9, pos := "record.go:82", after := #[], guard := Option.none }) (v := ?_) (by rfl) ?_ (fun wS hSw => ?_) ?_
        rotate_left
        · kernel_rfl
        · (try dsimp only at hSw); go_simp; (try with_reducible rfl)
        try simp only [Act.put, List.setIfInBounds_toArray, List.set_cons_zero, List.set_cons_succ]
        refine Reg.G_on (o := { dst := some 24, op := Op.move (Operand.tmp 6), type := 3, pos := "record.go:82", after := #[], guard := Option.none }) (v := ?_) (by rfl) ?_ (fun wS hSw => ?_) ?_
        rotate_left
        · kernel_rfl
        · (try dsimp only at hSw); go_simp; (try with_reducible rfl)
        try simp only [Act.put, List.setIfInBounds_toArray, List.set_cons_zero, List.set_cons_succ]
        refine Reg.G_on (o := { dst := some 25, op := Op.slice 9 (Operand.tmp 23) (some (Operand.tmp 24)) Option.none Option.none, type := 9, pos := "record.go:82", after := #[{ on := 4, ground := Ground.data }, { on := 5, ground := Ground.data }], guard := Option.none }) (v := .string (b'.extract n b'.size)) (by rfl) ?_ (fun wS hSw => ?_) ?_
        · kernel_rfl
        · go_simp
        try simp only [Act.put, List.setIfInBounds_toArray, List.set_cons_zero, List.set_cons_succ]
        refine Reg.G_step (o := { dst := some 21, op := Op.buildSlice 27 1 #[(0, Operand.tmp 20)], type := 27, pos := "record.go:82", after := #[{ on := 1, ground := Ground.data }], guard := Option.none }) (by rfl) ?_ (fun K hK => ?_)
        · kernel_rfl
        refine build1 rfl rfl ?_
        refine hK.out _ _ ?_ (fun hHeld => ?_)
        · exact ha1
        clear hK K
        try simp only [Act.put, List.setIfInBounds_toArray, List.set_cons_zero, List.set_cons_succ]
        refine Reg.G_step (o := { dst := some 22, op := Op.call { callee := Callee.builtin Builtin.append, args := #[Operand.tmp 19, Operand.tmp 21], argTypes := #[27, 27] }, type := 27, pos := "record.go:82", after := #[{ on := 0, ground := Ground.data }, { on := 2, ground := Ground.data }], guard := Option.none }) (by rfl) ?_ (fun K hK => ?_)
        · kernel_rfl
        refine op_append (.tmp 19) (.tmp 21) 27 rfl rfl rfl hrun ?_
        refine hK.out _ _ ?_ (fun hHeld => ?_)
        · exact ha2
        clear hK K
        try simp only [Act.put, List.setIfInBounds_toArray, List.set_cons_zero, List.set_cons_succ]
        refine Reg.G_on (o := { dst := some 4, op := Op.assign (Operand.tmp 22), type := 27, pos := "record.go:82", after := #[{ on := 3, ground := Ground.data }, { on := 3, ground := Ground.chain }, { on := 0, ground := Ground.phase }, { on := 1, ground := Ground.phase }, { on := 2, ground := Ground.phase }, { on := 3, ground := Ground.phase }, { on := 4, ground := Ground.textOnly Departure.lateStores }, { on := 5, ground := Ground.textOnly Departure.lateStores }, { on := 6, ground := Ground.textOnly Departure.lateStoresUnsure }], guard := Option.none }) (v := ?_) (by rfl) ?_ (fun wS hSw => ?_) ?_
        rotate_left
        · kernel_rfl
        · (try dsimp only at hSw); go_simp; (try with_reducible rfl)
        try simp only [Act.put, List.setIfInBounds_toArray, List.set_cons_zero, List.set_cons_succ]
        refine Reg.G_on (o := { dst := some 0, op := Op.assign (Operand.tmp 25), type := 9, pos := "record.go:82", after := #[{ on := 6, ground := Ground.data }, { on := 7, ground := Ground.chain }, { on := 0, ground := Ground.phase }, { on := 1, ground := Ground.phase }, { on := 2, ground := Ground.phase }, { on := 3, ground := Ground.phase }, { on := 4, ground := Ground.phase }, { on := 5, ground := Ground.phase }, { on := 6, ground := Ground.phase }, { on := 7, ground := Ground.phase }], guard := Option.none }) (v := ?_) (by rfl) ?_ (fun wS hSw => ?_) ?_
        rotate_left
        · kernel_rfl
        · (try dsimp only at hSw); go_simp; (try with_reducible rfl)
        try simp only [Act.put, List.setIfInBounds_toArray, List.set_cons_zero, List.set_cons_succ]
        refine Reg.G_done ?_
        clear hHeld hrun ha1 ha2 n9 hn1 hn0
        go_wp2
        exact ⟨⟨_, _, rfl, T2.out⟩, hms.out⟩
      · have hE : Hid (Tk b [] e) := Lib.hid (by
          have := HT.out.eq [] e (.bad _ x n e HZ.out HF.out he)
          rwa [if_neg he] at this)
        have hne : (e != 0) = true := by simpa using he
        go_wp2_with (first | ((with_reducible refine gate_dst (N := 5) rfl ?_); refine box_event rfl (N := 5) rfl (cs := (cells zsmp).toArray) (t := 26) ?hr ?_; (case hr => go_simp; rfl); intro gb hgb w8 hbox hb8; subst hgb) | ((with_reducible refine gate_store (p := 5) (v := .tmp 13) rfl ?_); refine store_ev rfl 26 (.tmp 5) (.tmp 13) rfl w1.heap.size 0 (cells x) rfl rfl (there_of hbox (by rw [cells_len, cells_len]; omega)) (size23 x) (cells_one x) ?_; intro w9 hw9; obtain ⟨B9, n9⟩ := boxed hb8 hbox hw9; clear hb8 hbox hw9))
        have bb9 := bstep hbb B9
        clear he hbb B9 b1
        go_wp2
        go_ret2
        exact ⟨_, [], e, rfl, hE.out, Own.nil _ _ _ _, bb9⟩
end Go.Proofs.Ytmlfnlmdnhblmaa.Rec
namespace Go.Proofs.Ytmlfnlmdnhblmaa.Rec
open Go.RowKit Base Sp Flat Go.Proofs.YtmlfnlmdnhblmaaW.PrintWords Go.Proofs.YtmlfnlmdnhblmaaW.PrintLast Go.Proofs.YtmlfnlmdnhblmaaW.PrintMore Wd Al Buf Smp
/-- The example's sample. -/
def exs : Smp := ⟨1, 0, 0, 0, 7, List.replicate 17 0, ⟨#[97, 98, 99, 100]⟩, by decide⟩
theorem exs_put : (rput exs).1.size = 56 ∧ (rput exs).2 = 0 := by
  have h1 : bad exs = false := by decide
  have h2 : ¬ 512 < exs.data.size := by decide
  have e : rput exs = (tx (recb exs), 0) := by unfold rput; rw [if_neg (by rw [h1]; decide), if_neg h2]
  rw [e]
  refine ⟨?_, rfl⟩
  have h3 := recb_len exs
  have h4 : rsz (exs.data.size : Int) = 56 := by decide
  rw [h4] at h3
  show (recb exs).length = 56
  omega
set_option maxRecDepth 20000 in
set_option maxHeartbeats 2000000 in
theorem awake (w : World) : Calls Try.prog 6 #[] w fun e w' => e = .returned (.bool true) ∧ Below w.heap.size w w' := by
  have HP := fun w => put exs w
  obtain ⟨e1, e2⟩ := exs_put
  generalize rput exs = r at *
  obtain ⟨r1, r2⟩ := r
  dsimp only at e1 e2
  subst e2
  have hc : (cells exs).toArray = #[.int .i64 1, .int .i64 0, .int .u64 0, .int .u64 0, .int .u64 7, .int .u8 0, .int .u8 0, .int .u8 0, .int .u8 0, .int .u8 0, .int .u8 0, .int .u8 0, .int .u8 0, .int .u8 0, .int .u8 0, .int .u8 0, .int .u8 0, .int .u8 0, .int .u8 0, .int .u8 0, .int .u8 0, .int .u8 0, .string ⟨#[97, 98, 99, 100]⟩] := by kernel_rfl
  rw [hc] at HP
  clear hc
  have HS0 := fun w => size 0 (by decide) w
  have HS4 := fun w => size 4 (by decide) w
  rw [show rsz 0 = 48 from by decide] at HS0
  rw [show rsz 4 = 56 from by decide] at HS4
  have hz : (r1.size : Int) = 56 := by omega
  clear e1
  go_enter Try.func6, Try.ntmps6
  go_wp2_with fail
  refine (HP _).mono ?_
  rintro e w1 ⟨rfl, b1⟩
  go_wp2_with fail
  refine (HS0 _).mono ?_
  rintro e w2 ⟨rfl, b2⟩
  go_wp2_with fail
  refine (HS4 _).mono ?_
  rintro e w3 ⟨rfl, b3⟩
  go_wp2
  go_ret
  exact ⟨rfl, bstep (bstep b1 b2) b3⟩
set_option maxRecDepth 20000 in
set_option maxHeartbeats 4000000 in
theorem puts {G : Nat → Prop} {w : World} {v : Value} {xs : List Smp} (h : Rd ks w G v xs) (x : Smp) (room : Int) (h0 : -9223372036854775808 ≤ room) (h1 : room < 9223372036854775808) :
    Calls Try.prog 3 #[.agg (cells x).toArray, v, .int .i64 room] w fun e w' => e = .returned (.bool true) ∧ Below w.heap.size w w' := by
  have b0 : Below w.heap.size w (w.alloc (.cells (cells x).toArray 26)) := (Below.refl _ _).alloc (Nat.le_refl _) _
  have n0 := heap_alloc_new w (.cells (cells x).toArray 26)
  have HA := Lib.hid h
  have HR := Lib.hid (And.intro h0 h1)
  have HP := fun w => put x w
  have HQ := fun w => rputs x w
  have HW := fun w => awake w
  generalize rput x = r at HP HQ
  obtain ⟨r1, r2⟩ := r
  dsimp only at HP HQ
  obtain ⟨W0, hW0⟩ : ∃ W0, W0 = w.alloc (.cells (cells x).toArray 26) := ⟨_, rfl⟩
  rw [← hW0] at b0 n0
  have HM := much (rd_below h b0)
  clear h h0 h1
  go_enter Try.func3, Try.ntmps3
  go_wp2_with fail
  rw [← hW0]
  clear hW0
  refine HM.mono ?_
  rintro e w1 ⟨m, rfl, hm, b1⟩
  have n1 := blk_below n0 b1
  have c22 := (BoxC.of n1).c22
  have bb1 := bstep b0 b1
  clear n0 b0 b1 HM
  cases m with
  | true =>
    clear hm
    go_wp2_with fail
    refine (HW _).mono ?_
    rintro e w2 ⟨rfl, b2⟩
    go_wp2
    go_ret
    exact ⟨rfl, bstep bb1 b2⟩
  | false =>
    have hl := hm rfl
    clear hm
    by_cases hd : (2000 : Int) < (x.data.size : Int)
    · go_wp2_with fail
      refine (HW _).mono ?_
      rintro e w2 ⟨rfl, b2⟩
      go_wp2
      go_ret
      exact ⟨rfl, bstep bb1 b2⟩
    · have HL := Lib.hid hl
      clear hl
      have r9 := box_range n1
      go_wp2_with (first | ((with_reducible refine gate_dst (N := 25) rfl ?_); refine wpList_load_mid rfl 26 (.tmp 3) rfl w.heap.size 0 rfl (cells x) _ r9 Try.underlying26 rfl (size23 x) ?_))
      refine (HP _).mono ?_
      rintro e w2 ⟨rfl, b2⟩
      have n2 := blk_below n1 b2
      have bb2 := bstep bb1 b2
      clear n1 bb1 b2 r9 c22
      have r9 := box_range n2
      go_wp2_with (first | ((with_reducible refine gate_dst (N := 30) rfl ?_); refine wpList_load_mid rfl 26 (.tmp 3) rfl w.heap.size 0 rfl (cells x) _ r9 Try.underlying26 rfl (size23 x) ?_))
      refine (HQ _).mono ?_
      rintro e w3 ⟨rfl, b3⟩
      have bb3 := bstep bb2 b3
      clear n2 bb2 b3 r9
      have HF := fit (rd_below HA.out bb3) room HR.out.1 HR.out.2 HL.out
      go_wp2_with fail
      refine HF.mono ?_
      rintro e w4 ⟨rfl, b4⟩
      have bb4 := bstep bb3 b4
      clear bb3 b4 HF
      have HF := rfit (rd_below HA.out bb4) room HL.out
      go_wp2_with fail
      refine HF.mono ?_
      rintro e w5 ⟨rfl, b5⟩
      have bb5 := bstep bb4 b5
      clear bb4 b5 HF
      by_cases hro : (100000 : Int) < room
      · go_wp2_with fail
        refine (HW _).mono ?_
        rintro e w6 ⟨rfl, b6⟩
        go_wp2
        go_ret
        exact ⟨rfl, bstep bb5 b6⟩
      · have HS := fun w => size room (by omega) w
        have HT := fun w => rsize room (by omega) w
        go_wp2_with fail
        refine (HS _).mono ?_
        rintro e w6 ⟨rfl, b6⟩
        go_wp2_with fail
        refine (HT _).mono ?_
        rintro e w7 ⟨rfl, b7⟩
        go_wp2_with fail
        refine (HW _).mono ?_
        rintro e w8 ⟨rfl, b8⟩
        go_wp2
        go_ret
        exact ⟨rfl, bstep (bstep (bstep bb5 b6) b7) b8⟩
end Go.Proofs.Ytmlfnlmdnhblmaa.Rec
