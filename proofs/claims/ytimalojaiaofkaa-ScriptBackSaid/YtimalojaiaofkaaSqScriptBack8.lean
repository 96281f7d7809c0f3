import Derived.ProofKit
import Derived.SizedLaws
import Derived.Test.YtimalojaiaofkaaWWords
import Derived.Test.YtimalojaiaofkaaSqScriptBack7
set_option linter.unusedVariables false
set_option linter.unusedSimpArgs false
/-! Put and Take of scripts are inverse to each other: the plain law. -/
namespace Go.Proofs.Ytimalojaiaofkaa.ScrK
open Go.RowKit Base Wd Scr Go.Proofs.YtimalojaiaofkaaW.PrintWords
open Go.Proofs.Ytimalojaiaofkaa.PScriptTakes (tkM oneM oneA acts turns takev_in takev_out tk_range)
abbrev T43 := Go.Proofs.Ytimalojaiaofkaa.PScriptTakes.S43
abbrev T41 := Go.Proofs.Ytimalojaiaofkaa.PScriptTakes.S41
abbrev P43 := Go.Proofs.Ytimalojaiaofkaa.PScriptPuts.S43
abbrev P41 := Go.Proofs.Ytimalojaiaofkaa.PScriptPuts.S41
/-- The one type's value as the other's. -/
def c43 (x : T43) : P43 := ⟨x.f0, x.f1, x.f2⟩
def c41 (x : T41) : P41 := ⟨x.f0.map c43⟩
def b43 (x : P43) : T43 := ⟨x.f0, x.f1, x.f2⟩
def b41 (x : P41) : T41 := ⟨x.f0.map b43⟩
def by_ (b : ByteArray) : List UInt8 := b.data.toList
theorem by_len (b : ByteArray) : (by_ b).length = b.size := rfl
theorem tx_by (b : ByteArray) : tx (by_ b) = b := rfl
theorem tx_size (l : List UInt8) : (tx l).size = l.length := rfl
theorem nums_tx (l : List Int) : strOfNums l = tx (strOfNums l).data.toList := rfl
theorem wrap_in {n : Int} (h0 : 0 ≤ n) (h1 : n < 18446744073709551616) : IntKind.u64.wrap n = n := by rw [u64_mod]; omega
theorem pw_le {s : Int} (h : sz s = true) : pw s ≤ 18446744073709551616 ∧ 0 < s ∧ ((s.toNat : Nat) : Int) = s := by
  rcases sz_cases h with rfl | rfl | rfl | rfl <;> decide
theorem nbl_eq {n s : Int} (hs : sz s = true) (h0 : 0 ≤ n) (h1 : n < pw s) : nbl n s = (strOfNums (le n s.toNat)).data.toList := by
  have hp := (pw_le hs).1
  unfold nbl nby
  rw [wrap_in h0 (by omega), if_pos hs]
  unfold putv
  rw [if_pos h1]
theorem nbl_len2 {n s : Int} (hs : sz s = true) (h0 : 0 ≤ n) (h1 : n < pw s) : (nbl n s).length = s.toNat := by
  rw [nbl_eq hs h0 h1]
  show (strOfNums (le n s.toNat)).size = _
  rw [strOfNums_size, le_len]
theorem tk_fw (P R : List UInt8) {n s : Int} (hs : sz s = true) (h0 : 0 ≤ n) (h1 : n < pw s) : tkM (tx (P ++ nbl n s ++ R)) P.length s = (n, (P.length : Int) + s) := by
  have hl := nbl_len2 hs h0 h1
  have hp := pw_le hs
  have e : tx (P ++ nbl n s ++ R) = tx P ++ strOfNums (le n s.toNat) ++ tx R := by rw [tx_app, tx_app, nbl_eq hs h0 h1]; rfl
  have ht := take_back (tx P) (tx R) n s hs h0 h1
  unfold tkM
  rw [if_neg (by omega), if_pos (by rw [tx_size, List.length_append, List.length_append, hl]; omega), e]
  rw [show ((tx P).size : Int) = (P.length : Int) from rfl] at ht
  rw [ht]
theorem le_lev (f : Nat → Int) (hf : ∀ i, 0 ≤ f i ∧ f i ≤ 255) : ∀ k, le (lev f k) k = (List.range k).map f := by
  intro k
  induction k generalizing f with
  | zero => rfl
  | succ k ih =>
    have h0 := hf 0
    have h1 := lev_lo (fun i => f (i + 1)) (fun i => hf (i + 1)) k
    rw [lev, le, show (f 0 + 256 * lev (fun i => f (i + 1)) k) % 256 = f 0 from by omega, show (f 0 + 256 * lev (fun i => f (i + 1)) k) / 256 = lev (fun i => f (i + 1)) k from by omega, ih (fun i => f (i + 1)) (fun i => hf (i + 1)), List.range_succ_eq_map, List.map_cons, List.map_map]
    rfl
theorem bt_get (b : ByteArray) (j : Nat) (h : j < b.size) : bt b (j : Int) = ((b[j]'h).toNat : Int) := by
  unfold bt
  rw [dif_pos (by rw [Int.toNat_natCast]; exact h)]
  rfl
theorem tk_bw (b : ByteArray) (a : Nat) {s : Int} (hs : sz s = true) (ha : a ≤ b.size) (h : ¬ (tkM b a s).2 < 0) :
    a + s.toNat ≤ b.size ∧ (tkM b a s).2 = ((a + s.toNat : Nat) : Int) ∧ (0 ≤ (tkM b a s).1 ∧ (tkM b a s).1 < pw s) ∧ nbl (tkM b a s).1 s = ((by_ b).drop a).take s.toNat := by
  have hp := pw_le hs
  unfold tkM at h ⊢
  rw [if_neg (by omega)] at h ⊢
  by_cases hc : (a : Int) + s ≤ b.size
  · rw [if_pos hc] at h ⊢
    have hlv : (takev b a s).1 = lev (fun i => bt b ((a : Int) + i)) s.toNat := by
      unfold takev
      rw [if_neg (by omega), if_neg (by omega)]
    dsimp only at h ⊢
    have r0 := lev_lo (fun i => bt b ((a : Int) + (i : Nat))) (fun i => bt_range b _) s.toNat
    have r1 := lev_hi (fun i => bt b ((a : Int) + (i : Nat))) (fun i => bt_range b _) s.toNat
    rw [pw_pow hs] at r1
    refine ⟨by omega, by omega, by rw [hlv]; exact ⟨r0, r1⟩, ?_⟩
    rw [hlv, nbl_eq hs r0 r1, le_lev (fun i => bt b ((a : Int) + i)) (fun i => bt_range b _)]
    apply List.ext_getElem
    · simp [strOfNums, by_]
      have : b.data.size = b.size := rfl
      omega
    · intro i h1 h2
      have hi : a + i < b.size := by
        simp [by_] at h2
        have : b.data.size = b.size := rfl
        omega
      have hb := bt_get b (a + i) hi
      simp [strOfNums, by_]
      rw [show (a : Int) + (i : Int) = ((a + i : Nat) : Int) from by omega, hb]
      simp
      rfl
  · rw [if_neg hc] at h
    exact absurd (show (-1 : Int) < 0 by decide) h
theorem take_add_ (L : List UInt8) (a k : Nat) : L.take (a + k) = L.take a ++ (L.drop a).take k := List.take_add
/-- An action's place is what its kind has. -/
def InR (a : Int) : Prop := -9223372036854775808 ≤ a ∧ a < 9223372036854775808
theorem bitv_ok {a : Int} (h : (bitv a 4).2 = 0) : (-2147483648 ≤ a ∧ a < 2147483648) ∧ (bitv a 4).1 = a % 4294967296 ∧ sgn (bitv a 4).1 4 = a := by
  unfold bitv at h ⊢
  by_cases hc : -hf 4 ≤ a ∧ a < hf 4
  · rw [if_pos hc]
    have h1 : -2147483648 ≤ a ∧ a < 2147483648 := hc
    refine ⟨h1, rfl, ?_⟩
    show (if a % 4294967296 % 4294967296 < 2147483648 then a % 4294967296 % 4294967296 else a % 4294967296 % 4294967296 - 4294967296) = a
    split <;> omega
  · rw [if_neg hc] at h
    exact absurd (show (7 : Int) = 0 from h) (by decide)
theorem ae_parts {k a : Int} {s : ByteArray} (h : actE k a s = 0) : (k = 1 ∨ k = 2) ∧ (k = 1 → (bitv a 4).2 = 0) ∧ s.size ≤ 65535 := by
  unfold actE at h
  by_cases h1 : k ≠ 1 ∧ k ≠ 2
  · rw [if_pos h1] at h; exact absurd h (by decide)
  · rw [if_neg h1] at h
    by_cases h2 : k = 1 ∧ (bitv a 4).2 ≠ 0
    · rw [if_pos h2] at h; exact absurd h (by decide)
    · rw [if_neg h2] at h
      by_cases h3 : 65535 < s.size
      · rw [if_pos h3] at h; exact absurd h (by decide)
      · refine ⟨by omega, fun hk => ?_, by omega⟩
        exact Classical.byContradiction fun hh => h2 ⟨hk, hh⟩
theorem extract_at (P R : List UInt8) (T : ByteArray) : (tx (P ++ T.data.toList ++ R)).extract P.length (P.length + T.size) = T := by
  apply ByteArray.ext
  apply Array.ext'
  have h2 : T.size = T.data.toList.length := rfl
  rw [h2, ByteArray.data_extract, Array.toList_extract, List.extract_eq_take_drop]
  show ((P ++ T.data.toList ++ R).drop P.length).take _ = _
  rw [List.append_assoc, List.drop_left, Nat.add_sub_cancel_left, List.take_left]
/-- What is put is taken: an action. -/
theorem one_fw (P R : List UInt8) (k a : Int) (s : ByteArray) (h : actE k a s = 0) :
    oneM (tx (P ++ abl k a s ++ R)) P.length = (k, if k = 1 then a else 0, s, ((P ++ abl k a s).length : Int), 0) := by
  obtain ⟨hk, ha, hs⟩ := ae_parts h
  have hk0 : 0 ≤ k ∧ k < pw 1 := by rcases hk with rfl | rfl <;> decide
  have hz0 : (0 : Int) ≤ (s.size : Int) ∧ (s.size : Int) < pw 2 := ⟨Int.natCast_nonneg _, by show (s.size : Int) < 65536; omega⟩
  have l1 : (nbl k 1).length = 1 := nbl_len2 rfl hk0.1 hk0.2
  have l2 : (nbl (s.size : Int) 2).length = 2 := nbl_len2 rfl hz0.1 hz0.2
  have l3 : (s.data.toList).length = s.size := rfl
  by_cases h1 : k = 1
  · have hb := bitv_ok (ha h1)
    have hb0 : 0 ≤ (bitv a 4).1 ∧ (bitv a 4).1 < pw 4 := bitv_range a
    have l4 : (nbl (bitv a 4).1 4).length = 4 := nbl_len2 rfl hb0.1 hb0.2
    have e0 : P ++ abl k a s ++ R = P ++ nbl k 1 ++ (nbl (bitv a 4).1 4 ++ nbl (s.size : Int) 2 ++ s.data.toList ++ R) := by
      unfold abl; rw [if_pos h1]; simp only [List.append_assoc]
    have e1 : P ++ abl k a s ++ R = (P ++ nbl k 1) ++ nbl (bitv a 4).1 4 ++ (nbl (s.size : Int) 2 ++ s.data.toList ++ R) := by
      unfold abl; rw [if_pos h1]; simp only [List.append_assoc]
    have e2 : P ++ abl k a s ++ R = (P ++ nbl k 1 ++ nbl (bitv a 4).1 4) ++ nbl (s.size : Int) 2 ++ (s.data.toList ++ R) := by
      unfold abl; rw [if_pos h1]; simp only [List.append_assoc]
    have e3 : P ++ abl k a s ++ R = (P ++ nbl k 1 ++ nbl (bitv a 4).1 4 ++ nbl (s.size : Int) 2) ++ s.data.toList ++ R := by
      unfold abl; rw [if_pos h1]; simp only [List.append_assoc]
    have t0 := tk_fw P (nbl (bitv a 4).1 4 ++ nbl (s.size : Int) 2 ++ s.data.toList ++ R) (s := 1) rfl hk0.1 hk0.2
    have t1 := tk_fw (P ++ nbl k 1) (nbl (s.size : Int) 2 ++ s.data.toList ++ R) (s := 4) rfl hb0.1 hb0.2
    have t2 := tk_fw (P ++ nbl k 1 ++ nbl (bitv a 4).1 4) (s.data.toList ++ R) (s := 2) rfl hz0.1 hz0.2
    have t3 := extract_at (P ++ nbl k 1 ++ nbl (bitv a 4).1 4 ++ nbl (s.size : Int) 2) R s
    rw [← e0] at t0
    rw [← e1] at t1
    rw [← e2] at t2
    rw [← e3] at t3
    simp only [List.length_append, l1, l2, l4] at t1 t2 t3
    have hlen : (P ++ abl k a s).length = P.length + 1 + 4 + 2 + s.size := by
      unfold abl; rw [if_pos h1]; simp only [List.length_append, l1, l2, l4, l3]; omega
    have hsz : (tx (P ++ abl k a s ++ R)).size = P.length + 1 + 4 + 2 + s.size + R.length := by rw [tx_size, List.length_append, hlen]
    rw [hlen]
    generalize tx (P ++ abl k a s ++ R) = b at *
    unfold oneM
    rw [t0]
    dsimp only
    rw [if_neg (by omega), if_neg (by omega), if_pos h1, if_pos h1, show (P.length : Int) + 1 = ((P.length + 1 : Nat) : Int) from rfl, t1]
    dsimp only
    rw [show ((P.length + 1 : Nat) : Int) + 4 = ((P.length + 1 + 4 : Nat) : Int) from rfl, t2]
    dsimp only
    rw [if_neg (by omega), if_pos h1, hb.2.2, show (((P.length + 1 + 4 : Nat) : Int) + 2).toNat = P.length + 1 + 4 + 2 from by omega, show (((P.length + 1 + 4 : Nat) : Int) + 2 + (s.size : Int)).toNat = P.length + 1 + 4 + 2 + s.size from by omega, t3]
    refine Prod.ext rfl (Prod.ext rfl (Prod.ext rfl (Prod.ext ?_ rfl)))
    show ((P.length + 1 + 4 : Nat) : Int) + 2 + (s.size : Int) = ((P.length + 1 + 4 + 2 + s.size : Nat) : Int)
    omega
  · have e0 : P ++ abl k a s ++ R = P ++ nbl k 1 ++ (nbl (s.size : Int) 2 ++ s.data.toList ++ R) := by
      unfold abl; rw [if_neg h1]; simp only [List.append_assoc]
    have e2 : P ++ abl k a s ++ R = (P ++ nbl k 1) ++ nbl (s.size : Int) 2 ++ (s.data.toList ++ R) := by
      unfold abl; rw [if_neg h1]; simp only [List.append_assoc]
    have e3 : P ++ abl k a s ++ R = (P ++ nbl k 1 ++ nbl (s.size : Int) 2) ++ s.data.toList ++ R := by
      unfold abl; rw [if_neg h1]; simp only [List.append_assoc]
    have t0 := tk_fw P (nbl (s.size : Int) 2 ++ s.data.toList ++ R) (s := 1) rfl hk0.1 hk0.2
    have t2 := tk_fw (P ++ nbl k 1) (s.data.toList ++ R) (s := 2) rfl hz0.1 hz0.2
    have t3 := extract_at (P ++ nbl k 1 ++ nbl (s.size : Int) 2) R s
    rw [← e0] at t0
    rw [← e2] at t2
    rw [← e3] at t3
    simp only [List.length_append, l1, l2] at t2 t3
    have hlen : (P ++ abl k a s).length = P.length + 1 + 2 + s.size := by
      unfold abl; rw [if_neg h1]; simp only [List.length_append, l1, l2, l3]; omega
    have hsz : (tx (P ++ abl k a s ++ R)).size = P.length + 1 + 2 + s.size + R.length := by rw [tx_size, List.length_append, hlen]
    rw [hlen]
    generalize tx (P ++ abl k a s ++ R) = b at *
    unfold oneM
    rw [t0]
    dsimp only
    rw [if_neg (by omega), if_neg (by omega), if_neg h1, if_neg h1, show (P.length : Int) + 1 = ((P.length + 1 : Nat) : Int) from rfl, t2]
    dsimp only
    rw [if_neg (by omega), if_neg h1, show (((P.length + 1 : Nat) : Int) + 2).toNat = P.length + 1 + 2 from by omega, show (((P.length + 1 : Nat) : Int) + 2 + (s.size : Int)).toNat = P.length + 1 + 2 + s.size from by omega, t3]
    refine Prod.ext rfl (Prod.ext rfl (Prod.ext rfl (Prod.ext ?_ rfl)))
    show ((P.length + 1 : Nat) : Int) + 2 + (s.size : Int) = ((P.length + 1 + 2 + s.size : Nat) : Int)
    omega
/-- An action without what its kind has not. -/
def pl43 (x : P43) : T43 := ⟨x.f0, if x.f0 = 1 then x.f1 else 0, x.f2⟩
def pl41 (x : P41) : T41 := ⟨x.f0.map pl43⟩
theorem acts_fw : ∀ (l : List P43) (P R : List UInt8) (acc : List T43), acE l = 0 →
    acts (tx (P ++ acL l ++ R)) l.length P.length acc = (acc ++ l.map pl43, ((P ++ acL l).length : Int), 0)
  | [], P, R, acc, _ => by
    rw [List.length_nil, acts, List.map_nil, List.append_nil, acL, List.append_nil]
  | x :: l, P, R, acc, h => by
    rw [acE] at h
    by_cases h1 : ae x ≠ 0
    · rw [if_pos h1] at h; exact absurd h h1
    · rw [if_neg h1] at h
      have h2 : actE x.f0 x.f1 x.f2 = 0 := Classical.not_not.1 h1
      have e : P ++ acL (x :: l) ++ R = P ++ abl x.f0 x.f1 x.f2 ++ (acL l ++ R) := by rw [acL]; unfold al; simp only [List.append_assoc]
      have e2 : P ++ acL (x :: l) = (P ++ al x) ++ acL l := by rw [acL, List.append_assoc]
      have ho := one_fw P (acL l ++ R) x.f0 x.f1 x.f2 h2
      have ih := acts_fw l (P ++ al x) R (acc ++ [pl43 x]) h
      rw [← e] at ho
      rw [← e2] at ih
      rw [List.length_cons, acts]
      unfold oneA
      rw [ho]
      dsimp only
      rw [if_pos rfl]
      refine Eq.trans ?_ (ih.trans ?_)
      · rfl
      · rw [List.map_cons, List.append_assoc]
        rfl
theorem bt_fw (P R : List UInt8) {n : Int} (h0 : 0 ≤ n) (h1 : n < 256) : bt (tx (P ++ nbl n 1 ++ R)) (P.length : Int) = n := by
  have e : tx (P ++ nbl n 1 ++ R) = tx P ++ strOfNums [n % 256] ++ tx R := by
    rw [tx_app, tx_app, nbl_eq (s := 1) rfl h0 h1]
    rfl
  have := bt_mid (tx P) (tx R) [n % 256] (fun x hx => by rw [List.mem_singleton.1 hx]; omega) 0 (by simp)
  rw [e]
  simp only [Int.natCast_zero, Int.add_zero] at this
  rw [show ((tx P).size : Int) = (P.length : Int) from rfl] at this
  rw [this]
  show n % 256 = n
  omega
theorem turns_fw : ∀ (l : List P41) (P : List UInt8) (d : Nat) (acc : List T41), l.length ≤ d → sE l = 0 →
    turns (tx (P ++ sL l)) d P.length acc = (acc ++ l.map pl41, 0)
  | [], P, d, acc, _, _ => by
    have hs : ¬ ((P.length : Int) < ((tx (P ++ sL [])).size : Int)) := by
      rw [tx_size, sL, List.append_nil]; omega
    cases d with
    | zero => rw [turns, if_neg hs, List.map_nil, List.append_nil]
    | succ d => rw [turns, if_neg hs, List.map_nil, List.append_nil]
  | x :: l, P, 0, acc, h, _ => absurd h (by simp)
  | x :: l, P, d + 1, acc, h, he => by
    rw [sE] at he
    by_cases h1 : tE x ≠ 0
    · rw [if_pos h1] at he; exact absurd he h1
    · rw [if_neg h1] at he
      have h2 : tE x = 0 := Classical.not_not.1 h1
      unfold tE at h2
      by_cases h3 : 255 < x.f0.length
      · rw [if_pos h3] at h2; exact absurd h2 (by decide)
      · rw [if_neg h3] at h2
        have hn0 : (0 : Int) ≤ (x.f0.length : Int) ∧ (x.f0.length : Int) < 256 := ⟨Int.natCast_nonneg _, by omega⟩
        have l1 : (nbl (x.f0.length : Int) 1).length = 1 := nbl_len2 rfl hn0.1 hn0.2
        have e : P ++ sL (x :: l) = P ++ nbl (x.f0.length : Int) 1 ++ (acL x.f0 ++ sL l) := by rw [sL, tL]; simp only [List.append_assoc]
        have e2 : P ++ sL (x :: l) = (P ++ nbl (x.f0.length : Int) 1) ++ acL x.f0 ++ sL l := by rw [sL, tL]; simp only [List.append_assoc]
        have e3 : P ++ sL (x :: l) = (P ++ nbl (x.f0.length : Int) 1 ++ acL x.f0) ++ sL l := e2
        have hb := bt_fw P (acL x.f0 ++ sL l) hn0.1 hn0.2
        have ha := acts_fw x.f0 (P ++ nbl (x.f0.length : Int) 1) (sL l) [] h2
        have ih := turns_fw l (P ++ nbl (x.f0.length : Int) 1 ++ acL x.f0) d (acc ++ [pl41 x]) (by simpa using h) he
        rw [← e] at hb
        rw [← e2] at ha
        rw [← e3] at ih
        have hs : (P.length : Int) < ((tx (P ++ sL (x :: l))).size : Int) := by
          rw [tx_size, e, List.length_append, List.length_append, l1]; omega
        rw [turns, if_pos hs, hb, Int.toNat_natCast, show (P.length : Int) + 1 = ((P ++ nbl (x.f0.length : Int) 1).length : Int) from by rw [List.length_append, l1]; rfl, ha]
        dsimp only
        rw [if_pos rfl, List.nil_append]
        refine Eq.trans ?_ (ih.trans ?_)
        · rfl
        · rw [List.map_cons, List.append_assoc]
          rfl
/-- What is put is taken, without what kinds have not. -/
theorem take_put {l : List P41} {s : ByteArray} (h : sput l = (s, 0)) : turns s 1024 0 [] = (l.map pl41, 0) ∧ l.length ≤ 1024 := by
  unfold sput at h
  by_cases h1 : 1024 < l.length
  · rw [if_pos h1] at h; exact absurd (Prod.mk.inj h).2 (by decide)
  · rw [if_neg h1] at h
    by_cases h2 : sE l ≠ 0
    · rw [if_pos h2] at h; exact absurd (Prod.mk.inj h).2 h2
    · rw [if_neg h2] at h
      have := turns_fw l [] 1024 [] (by omega) (Classical.not_not.1 h2)
      rw [List.nil_append, (Prod.mk.inj h).1, List.nil_append] at this
      exact ⟨this, by omega⟩
theorem sgn_rng (n : Int) : -2147483648 ≤ sgn n 4 ∧ sgn n 4 < 2147483648 := by
  show -2147483648 ≤ (if n % 4294967296 < 2147483648 then n % 4294967296 else n % 4294967296 - 4294967296) ∧ (if n % 4294967296 < 2147483648 then n % 4294967296 else n % 4294967296 - 4294967296) < 2147483648
  split <;> omega
theorem bitv_sgn {n : Int} (h0 : 0 ≤ n) (h1 : n < 4294967296) : bitv (sgn n 4) 4 = (n, 0) := by
  have hr : -hf 4 ≤ sgn n 4 ∧ sgn n 4 < hf 4 := sgn_rng n
  unfold bitv
  rw [if_pos hr]
  show ((if n % 4294967296 < 2147483648 then n % 4294967296 else n % 4294967296 - 4294967296) % 4294967296, (0 : Int)) = (n, 0)
  congr 1
  split <;> omega
theorem toN (a z : Nat) : ((a : Int) + (z : Int)).toNat = a + z := by omega
/-- What is taken is put so: an action. -/
theorem one_bw (b : ByteArray) (a : Nat) (ha : a ≤ b.size) (h : (oneM b a).2.2.2.2 = 0) :
    actE (oneM b a).1 (oneM b a).2.1 (oneM b a).2.2.1 = 0 ∧ InR (oneM b a).2.1 ∧ ∃ a2 : Nat, (oneM b a).2.2.2.1 = (a2 : Int) ∧ a2 ≤ b.size ∧ (by_ b).take a2 = (by_ b).take a ++ abl (oneM b a).1 (oneM b a).2.1 (oneM b a).2.2.1 := by
  unfold oneM at h ⊢
  by_cases c1 : (tkM b a 1).2 < 0
  · rw [if_pos c1] at h; exact absurd (show (2 : Int) = 0 from h) (by decide)
  · rw [if_neg c1] at h ⊢
    obtain ⟨s1, p1, r1, n1⟩ := tk_bw b a (s := 1) rfl ha c1
    by_cases c2 : (tkM b a 1).1 ≠ 1 ∧ (tkM b a 1).1 ≠ 2
    · rw [if_pos c2] at h; exact absurd (show (4 : Int) = 0 from h) (by decide)
    · rw [if_neg c2] at h ⊢
      rw [p1] at h ⊢
      generalize (tkM b a 1).1 = k at *
      by_cases hk : k = 1
      · simp only [if_pos hk] at h ⊢
        by_cases c4 : (tkM b ((a + Int.toNat 1 : Nat) : Int) 4).2 < 0
        · have hq : (tkM b ((a + Int.toNat 1 : Nat) : Int) 4).2 = -1 := by
            have := (tk_range b ((a + Int.toNat 1 : Nat) : Int) 4 rfl).2
            omega
          rw [hq] at h
          have hx : (tkM b (-1) 2).2 = -1 := by unfold tkM; rw [if_pos (by decide)]
          rw [hx, if_pos (.inl (by decide))] at h
          exact absurd (show (2 : Int) = 0 from h) (by decide)
        · obtain ⟨s4, p4, r4, n4⟩ := tk_bw b (a + Int.toNat 1) (s := 4) rfl s1 c4
          rw [p4] at h ⊢
          by_cases c3 : (tkM b ((a + Int.toNat 1 + Int.toNat 4 : Nat) : Int) 2).2 < 0 ∨ (tkM b ((a + Int.toNat 1 + Int.toNat 4 : Nat) : Int) 2).1 > (b.size : Int) - (tkM b ((a + Int.toNat 1 + Int.toNat 4 : Nat) : Int) 2).2
          · rw [if_pos c3] at h; exact absurd (show (2 : Int) = 0 from h) (by decide)
          · rw [if_neg c3]
            obtain ⟨s2, p2, r2, n2⟩ := tk_bw b (a + Int.toNat 1 + Int.toNat 4) (s := 2) rfl s4 (fun hh => c3 (.inl hh))
            have c5 := (not_or.1 c3).2
            rw [p2] at c5 ⊢
            generalize (tkM b ((a + Int.toNat 1 + Int.toNat 4 : Nat) : Int) 2).1 = z at *
            generalize (tkM b ((a + Int.toNat 1 : Nat) : Int) 4).1 = y at *
            clear h c3
            have r2' : 0 ≤ z ∧ z < 65536 := r2
            have r4' : 0 ≤ y ∧ y < 4294967296 := r4
            obtain ⟨zn, rfl⟩ : ∃ zn : Nat, z = (zn : Int) := ⟨z.toNat, by omega⟩
            have hy := bitv_sgn r4'.1 r4'.2
            have hsr := sgn_rng y
            have hsz : (b.extract ((a + Int.toNat 1 + Int.toNat 4 + Int.toNat 2 : Nat) : Int).toNat (((a + Int.toNat 1 + Int.toNat 4 + Int.toNat 2 : Nat) : Int) + (zn : Int)).toNat).size = zn := by
              rw [ByteArray.size_extract]
              omega
            have hex : (b.extract ((a + Int.toNat 1 + Int.toNat 4 + Int.toNat 2 : Nat) : Int).toNat (((a + Int.toNat 1 + Int.toNat 4 + Int.toNat 2 : Nat) : Int) + (zn : Int)).toNat).data.toList = ((by_ b).drop (a + Int.toNat 1 + Int.toNat 4 + Int.toNat 2)).take zn := by
              rw [ByteArray.data_extract, Array.toList_extract, List.extract_eq_take_drop, Int.toNat_natCast, toN, Nat.add_sub_cancel_left]
              rfl
            refine ⟨?_, ⟨by dsimp only; omega, by dsimp only; omega⟩, a + Int.toNat 1 + Int.toNat 4 + Int.toNat 2 + zn, by dsimp only; omega, by omega, ?_⟩
            · unfold actE
              dsimp only
              rw [if_neg (by omega), if_neg (fun hh => hh.2 (by rw [hy])), if_neg (by rw [hsz]; omega)]
            · unfold abl
              dsimp only
              rw [if_pos hk, hsz, hy, hex]
              dsimp only
              rw [n1, n4, n2, take_add_, take_add_, take_add_, take_add_]
              simp only [List.append_assoc]
      · simp only [if_neg hk] at h ⊢
        by_cases c3 : (tkM b ((a + Int.toNat 1 : Nat) : Int) 2).2 < 0 ∨ (tkM b ((a + Int.toNat 1 : Nat) : Int) 2).1 > (b.size : Int) - (tkM b ((a + Int.toNat 1 : Nat) : Int) 2).2
        · rw [if_pos c3] at h; exact absurd (show (2 : Int) = 0 from h) (by decide)
        · rw [if_neg c3]
          obtain ⟨s2, p2, r2, n2⟩ := tk_bw b (a + Int.toNat 1) (s := 2) rfl s1 (fun hh => c3 (.inl hh))
          have c5 := (not_or.1 c3).2
          rw [p2] at c5 ⊢
          generalize (tkM b ((a + Int.toNat 1 : Nat) : Int) 2).1 = z at *
          clear h c3
          have r2' : 0 ≤ z ∧ z < 65536 := r2
          obtain ⟨zn, rfl⟩ : ∃ zn : Nat, z = (zn : Int) := ⟨z.toNat, by omega⟩
          have hsz : (b.extract ((a + Int.toNat 1 + Int.toNat 2 : Nat) : Int).toNat (((a + Int.toNat 1 + Int.toNat 2 : Nat) : Int) + (zn : Int)).toNat).size = zn := by
            rw [ByteArray.size_extract]
            omega
          have hex : (b.extract ((a + Int.toNat 1 + Int.toNat 2 : Nat) : Int).toNat (((a + Int.toNat 1 + Int.toNat 2 : Nat) : Int) + (zn : Int)).toNat).data.toList = ((by_ b).drop (a + Int.toNat 1 + Int.toNat 2)).take zn := by
            rw [ByteArray.data_extract, Array.toList_extract, List.extract_eq_take_drop, Int.toNat_natCast, toN, Nat.add_sub_cancel_left]
            rfl
          refine ⟨?_, ⟨by dsimp only; omega, by dsimp only; omega⟩, a + Int.toNat 1 + Int.toNat 2 + zn, by dsimp only; omega, by omega, ?_⟩
          · unfold actE
            dsimp only
            rw [if_neg (by omega), if_neg (fun hh => hk hh.1), if_neg (by rw [hsz]; omega)]
          · unfold abl
            dsimp only
            rw [if_neg hk, hsz, hex, n1, n2, take_add_, take_add_, take_add_]
            simp only [List.append_assoc]
theorem acts_bw (b : ByteArray) : ∀ (n a : Nat) (acc : List T43), a ≤ b.size → (acts b n a acc).2.2 = 0 →
    ∃ l : List T43, (acts b n a acc).1 = acc ++ l ∧ l.length = n ∧ acE (l.map c43) = 0 ∧ (∀ x ∈ l, InR x.f1) ∧ ∃ a2 : Nat, (acts b n a acc).2.1 = (a2 : Int) ∧ a2 ≤ b.size ∧ (by_ b).take a2 = (by_ b).take a ++ acL (l.map c43)
  | 0, a, acc, ha, _ => ⟨[], (List.append_nil _).symm, rfl, rfl, fun x hx => (by cases hx), a, rfl, ha, (List.append_nil _).symm⟩
  | n + 1, a, acc, ha, h => by
    rw [acts] at h ⊢
    by_cases ho : (oneM b a).2.2.2.2 = 0
    · rw [if_pos ho] at h ⊢
      obtain ⟨h1, h2, a2, h3, h4, h5⟩ := one_bw b a ha ho
      rw [h3] at h ⊢
      obtain ⟨l, e1, e2, e3, e4, a3, e5, e6, e7⟩ := acts_bw b n a2 (acc ++ [oneA b a]) h4 h
      refine ⟨oneA b a :: l, ?_, by rw [List.length_cons, e2], ?_, ?_, a3, e5, e6, ?_⟩
      · rw [e1, List.append_assoc]
        rfl
      · rw [List.map_cons, acE]
        have hz : ae (c43 (oneA b a)) = 0 := h1
        rw [if_neg (fun hh => hh hz)]
        exact e3
      · intro x hx
        rcases List.mem_cons.1 hx with rfl | hx
        · exact h2
        · exact e4 x hx
      · rw [e7, h5, List.map_cons, acL, List.append_assoc]
        rfl
    · rw [if_neg ho] at h
      exact absurd h ho
theorem bt_bw (b : ByteArray) (a : Nat) (h : a < b.size) : nbl (bt b a) 1 = ((by_ b).drop a).take 1 := by
  have hb : bt b a = ((by_ b)[a]'h).toNat := bt_get b a h
  have hr := bt_range b a
  rw [nbl_eq (s := 1) rfl hr.1 (by show bt b a < 256; omega), List.drop_eq_getElem_cons (by exact h), List.take_succ_cons, List.take_zero, hb]
  show (strOfNums [((((by_ b)[a]'h).toNat : Nat) : Int) % 256]).data.toList = _
  have : ((((by_ b)[a]'h).toNat : Nat) : Int) % 256 = ((((by_ b)[a]'h).toNat : Nat) : Int) := by rw [hb] at hr; omega
  rw [this]
  simp [strOfNums]
theorem turns_bw (b : ByteArray) : ∀ (d a : Nat) (acc : List T41), a ≤ b.size → (turns b d a acc).2 = 0 →
    ∃ l : List T41, (turns b d a acc).1 = acc ++ l ∧ l.length ≤ d ∧ sE (l.map c41) = 0 ∧ (∀ x ∈ l, ∀ y ∈ x.f0, InR y.f1) ∧ by_ b = (by_ b).take a ++ sL (l.map c41)
  | 0, a, acc, ha, h => by
    rw [turns] at h ⊢
    by_cases hs : (a : Int) < b.size
    · rw [if_pos hs] at h; exact absurd (show (3 : Int) = 0 from h) (by decide)
    · rw [if_neg hs]
      refine ⟨[], (List.append_nil _).symm, Nat.le_refl _, rfl, fun x hx => (by cases hx), ?_⟩
      rw [List.take_of_length_le (by rw [by_len]; omega)]
      exact (List.append_nil _).symm
  | d + 1, a, acc, ha, h => by
    rw [turns] at h ⊢
    by_cases hs : (a : Int) < b.size
    · rw [if_pos hs] at h ⊢
      have hr := bt_range b a
      by_cases ho : (acts b (bt b a).toNat ((a : Int) + 1) []).2.2 = 0
      · rw [if_pos ho] at h ⊢
        obtain ⟨l1, e1, e2, e3, e4, a2, e5, e6, e7⟩ := acts_bw b (bt b a).toNat (a + 1) [] (by omega) ho
        have e1' : (acts b (bt b a).toNat ((a : Int) + 1) []).1 = l1 := e1
        have e5' : (acts b (bt b a).toNat ((a : Int) + 1) []).2.1 = (a2 : Int) := e5
        rw [e1', e5'] at h ⊢
        obtain ⟨l, f1, f2, f3, f4, f5⟩ := turns_bw b d a2 (acc ++ [⟨l1⟩]) e6 h
        refine ⟨⟨l1⟩ :: l, ?_, by rw [List.length_cons]; omega, ?_, ?_, ?_⟩
        · rw [f1, List.append_assoc]
          rfl
        · rw [List.map_cons, sE]
          have hz : tE (c41 ⟨l1⟩) = 0 := by
            unfold tE c41
            dsimp only
            rw [if_neg (by rw [List.length_map]; omega)]
            exact e3
          rw [if_neg (fun hh => hh hz)]
          exact f3
        · intro x hx
          rcases List.mem_cons.1 hx with rfl | hx
          · exact e4
          · exact f4 x hx
        · rw [List.map_cons, sL, tL]
          unfold c41
          dsimp only
          rw [List.length_map, e2, show (((bt b a).toNat : Nat) : Int) = bt b a from by omega, bt_bw b a (by omega)]
          have hn : (by_ b).take (a + 1) = (by_ b).take a ++ ((by_ b).drop a).take 1 := take_add_ _ _ _
          rw [hn] at e7
          rw [e7] at f5
          refine f5.trans ?_
          simp only [List.append_assoc]
          rfl
      · rw [if_neg ho] at h
        exact absurd h ho
    · rw [if_neg hs]
      refine ⟨[], (List.append_nil _).symm, Nat.zero_le _, rfl, fun x hx => (by cases hx), ?_⟩
      rw [List.take_of_length_le (by rw [by_len]; omega)]
      exact (List.append_nil _).symm
/-- What is taken is put so. -/
theorem put_take (b : ByteArray) (h : (turns b 1024 0 []).2 = 0) : sput ((turns b 1024 0 []).1.map c41) = (b, 0) ∧ (turns b 1024 0 []).1.length ≤ 1024 ∧ ∀ x ∈ (turns b 1024 0 []).1.map c41, ∀ y ∈ x.f0, InR y.f1 := by
  obtain ⟨l, e1, e2, e3, e4, e5⟩ := turns_bw b 1024 0 [] (Nat.zero_le _) h
  have e1' : (turns b 1024 0 []).1 = l := e1
  rw [e1']
  refine ⟨?_, e2, fun x hx y hy => ?_⟩
  · unfold sput
    rw [if_neg (by rw [List.length_map]; omega), if_neg (fun hh => hh e3)]
    rw [List.take_zero, List.nil_append] at e5
    rw [← e5, tx_by]
  · obtain ⟨x0, hx0, rfl⟩ := List.mem_map.1 hx
    obtain ⟨y0, hy0, rfl⟩ := List.mem_map.1 hy
    exact e4 x0 hx0 y0 hy0
/-- With an error nothing is taken. -/
theorem turns_err (b : ByteArray) : ∀ (d : Nat) (a : Int) (acc : List T41), (turns b d a acc).2 ≠ 0 → (turns b d a acc).1 = []
  | 0, a, acc, h => by
    rw [turns] at h ⊢
    by_cases hs : a < b.size
    · rw [if_pos hs]
    · rw [if_neg hs] at h; exact absurd rfl h
  | d + 1, a, acc, h => by
    rw [turns] at h ⊢
    by_cases hs : a < b.size
    · rw [if_pos hs] at h ⊢
      by_cases ho : (acts b (bt b a).toNat (a + 1) []).2.2 = 0
      · rw [if_pos ho] at h ⊢
        exact turns_err b d _ _ h
      · rw [if_neg ho]
    · rw [if_neg hs] at h; exact absurd rfl h
theorem acE_all : ∀ {l : List P43}, acE l = 0 → ∀ a ∈ l, ae a = 0
  | x :: l, h, a, ha => by
    rw [acE] at h
    by_cases h1 : ae x ≠ 0
    · rw [if_pos h1] at h; exact absurd h h1
    · rw [if_neg h1] at h
      rcases List.mem_cons.1 ha with rfl | ha
      · exact Classical.not_not.1 h1
      · exact acE_all h a ha
theorem sE_all : ∀ {l : List P41}, sE l = 0 → ∀ x ∈ l, x.f0.length ≤ 255 ∧ acE x.f0 = 0
  | y :: l, h, x, hx => by
    rw [sE] at h
    by_cases h1 : tE y ≠ 0
    · rw [if_pos h1] at h; exact absurd h h1
    · rw [if_neg h1] at h
      rcases List.mem_cons.1 hx with rfl | hx
      · have h2 : tE x = 0 := Classical.not_not.1 h1
        unfold tE at h2
        by_cases h3 : 255 < x.f0.length
        · rw [if_pos h3] at h2; exact absurd h2 (by decide)
        · rw [if_neg h3] at h2
          exact ⟨by omega, h2⟩
      · exact sE_all h x hx
theorem acL_len : ∀ {l : List P43}, acE l = 0 → (acL l).length ≤ l.length * 70000
  | [], _ => Nat.le_refl _
  | x :: l, h => by
    have hx := al_len (acE_all h x (List.mem_cons_self ..))
    have ih := acL_len (l := l) (by
      rw [acE] at h
      rw [if_neg (fun hh => hh (acE_all (l := x :: l) (by rw [acE]; exact h) x (List.mem_cons_self ..)))] at h
      exact h)
    rw [acL, List.length_append, List.length_cons]
    omega
theorem sL_len : ∀ {l : List P41}, sE l = 0 → (sL l).length ≤ l.length * 20000000
  | [], _ => Nat.le_refl _
  | x :: l, h => by
    have hx := sE_all h x (List.mem_cons_self ..)
    have h1 := acL_len hx.2
    have h2 := nbl_len (x.f0.length : Int) 1 (by decide)
    have ih := sL_len (l := l) (by
      rw [sE] at h
      by_cases h1 : tE x ≠ 0
      · rw [if_pos h1] at h; exact absurd h h1
      · rw [if_neg h1] at h; exact h)
    rw [sL, tL, List.length_append, List.length_append, List.length_cons]
    omega
theorem sput_ok {l : List P41} {s : ByteArray} (h : sput l = (s, 0)) : sE l = 0 ∧ s.size ≤ 20480000000 := by
  unfold sput at h
  by_cases h1 : 1024 < l.length
  · rw [if_pos h1] at h; exact absurd (Prod.mk.inj h).2 (by decide)
  · rw [if_neg h1] at h
    by_cases h2 : sE l ≠ 0
    · rw [if_pos h2] at h; exact absurd (Prod.mk.inj h).2 h2
    · rw [if_neg h2] at h
      have h3 := Classical.not_not.1 h2
      have h4 := sL_len h3
      refine ⟨h3, ?_⟩
      rw [← (Prod.mk.inj h).1, tx_size]
      omega
/-- An action that is put is, taken, its plain one. -/
theorem pl_plv {a : P43} (h : ae a = 0) : (plv a).f0 = (pl43 a).f0 ∧ (plv a).f1 = (pl43 a).f1 ∧ (plv a).f2 = (pl43 a).f2 := by
  have := (ae_parts (show actE a.f0 a.f1 a.f2 = 0 from h)).1
  refine ⟨rfl, rfl, ?_⟩
  unfold plv pl43
  dsimp only
  rw [if_pos this]
theorem conv {α β : Type} {d : Kd α} {d' : Kd β} (f : α → β) (hsz : d.sz = d'.sz) (hK : ∀ w x cs, d.K w x cs → d'.K w (f x) cs) {w : World} {A : Option Addr} {n : Nat} {xs : List α} (h : Kd.C d w A n xs) : Kd.C d' w A n (xs.map f) := by
  refine ⟨by rw [List.length_map]; exact h.1, h.2.1, fun hn => ?_⟩
  obtain ⟨ad, e, hc⟩ := h.2.2 hn
  refine ⟨ad, e, fun i x hi => ?_⟩
  obtain ⟨x0, hx0, rfl⟩ := List.getElem?_map .. ▸ hi |> Option.map_eq_some_iff.1
  obtain ⟨cs, hl, hk, hcell⟩ := hc i x0 hx0
  exact ⟨cs, by rw [← hsz]; exact hl, hK _ _ _ hk, by rw [← hsz]; exact hcell⟩
theorem conv43 {w : World} {A : Option Addr} {n : Nat} {xs : List T43} (h : Kd.C Go.Proofs.Ytimalojaiaofkaa.PScriptTakes.k43 w A n xs) : Kd.C Go.Proofs.Ytimalojaiaofkaa.PScriptPuts.k43 w A n (xs.map c43) :=
  conv c43 rfl (fun w x cs hk => by
    obtain rfl := Go.Proofs.Ytimalojaiaofkaa.PScriptTakes.k43_open hk
    exact Go.Proofs.Ytimalojaiaofkaa.PScriptPuts.k43_mk w (c43 x)) h
theorem conv41 {w : World} {A : Option Addr} {n : Nat} {xs : List T41} (h : Kd.C Go.Proofs.Ytimalojaiaofkaa.PScriptTakes.k41 w A n xs) : Kd.C Go.Proofs.Ytimalojaiaofkaa.PScriptPuts.k41 w A n (xs.map c41) :=
  conv c41 rfl (fun w x cs hk => by
    obtain ⟨A0, c0, rfl, hl, hc⟩ := Go.Proofs.Ytimalojaiaofkaa.PScriptTakes.k41_open hk
    have := Go.Proofs.Ytimalojaiaofkaa.PScriptPuts.k41_mk w (c41 x) (A0 := A0) (c0 := c0) (by unfold c41; dsimp only; rw [List.length_map]; exact hl) (by unfold c41; dsimp only; rw [List.length_map]; exact conv43 hc)
    unfold c41 at this
    dsimp only at this
    rw [List.length_map] at this
    exact this) h
end Go.Proofs.Ytimalojaiaofkaa.ScrK
namespace Go.Proofs.Ytimalojaiaofkaa.ScrK
open Go.RowKit Base Sp Wd Scr Go.Proofs.YtimalojaiaofkaaW.PrintWords Go.Proofs.YtimalojaiaofkaaW.PrintLast Go.Proofs.YtimalojaiaofkaaW.PrintMore
open Go.Proofs.Ytimalojaiaofkaa.PScriptTakes (turns ptake)
open Go.Proofs.Ytimalojaiaofkaa.PScriptPuts (at_T41 at_T43)
theorem rdT41 (l : List T41) (i : Nat) (hi : i < l.length) : Go.Proofs.Ytimalojaiaofkaa.PScriptTakes.rd_T41 l (i : Int) = l[i] := by
  unfold Go.Proofs.Ytimalojaiaofkaa.PScriptTakes.rd_T41
  rw [Int.toNat_natCast, List.getD_eq_getElem?_getD, List.getElem?_eq_getElem hi]
  rfl
theorem rdT43 (l : List T43) (i : Nat) (hi : i < l.length) : Go.Proofs.Ytimalojaiaofkaa.PScriptTakes.rd_T43 l (i : Int) = l[i] := by
  unfold Go.Proofs.Ytimalojaiaofkaa.PScriptTakes.rd_T43
  rw [Int.toNat_natCast, List.getD_eq_getElem?_getD, List.getElem?_eq_getElem hi]
  rfl
set_option maxRecDepth 20000 in
set_option maxHeartbeats 4000000 in
theorem backs (A : Option Addr) (cap : Nat) (l : List P41) (b : ByteArray) (w : World) (hS : Kd.C Go.Proofs.Ytimalojaiaofkaa.PScriptPuts.k41 w A l.length l) (hc : l.length ≤ cap) (hl : l.length ≤ 140737488355328) (hr : ∀ x ∈ l, x.f0.length ≤ 140737488355328 ∧ ∀ a ∈ x.f0, Rng a) (hz : b.size ≤ 140737488351232) :
    Calls Try.prog 7 #[.slice A l.length cap, .string b] w fun e w' => e = .returned (.bool true) ∧ Below w.heap.size w w' := by
  obtain ⟨m, hm⟩ := much_out l hl l.length 0 0 (Nat.zero_add _)
  obtain ⟨k0, hm⟩ := hm.rounds
  have HM := Go.Proofs.Ytimalojaiaofkaa.PScriptPuts.broadsheetlaw45_Much.calls k0 A cap l m w hS hc hm
  have HP := fun w' (h : Below w.heap.size w w') => put A cap l w' (Kd.C_below hS h) (fun x hx a ha => ⟨((hr x hx).2 a ha).1, ((hr x hx).2 a ha).2.1⟩)
  have CT := fun w' => ptake b w' (by omega)
  have HT : Hid (((turns b 1024 0 []).2 = 0 → sput ((turns b 1024 0 []).1.map c41) = (b, 0) ∧ (turns b 1024 0 []).1.length ≤ 1024 ∧ ∀ x ∈ (turns b 1024 0 []).1.map c41, ∀ y ∈ x.f0, InR y.f1) ∧ ((turns b 1024 0 []).2 ≠ 0 → (turns b 1024 0 []).1 = [])) := Lib.hid ⟨put_take b, turns_err b 1024 0 []⟩
  generalize turns b 1024 0 [] = r at *
  obtain ⟨r1, r2⟩ := r
  dsimp only at CT HT
  have H1 : Hid (∀ s, sput l = (s, 0) → (turns s 1024 0 [] = (l.map pl41, 0) ∧ l.length ≤ 1024) ∧ sE l = 0 ∧ s.size ≤ 20480000000) := Lib.hid (fun s hs => ⟨take_put hs, sput_ok hs⟩)
  have HL := Lib.hid hl
  have HR := Lib.hid hr
  clear hl hr hm hc k0
  generalize hrp : sput l = rp at *
  have H2 := H1.out
  clear H1 hrp
  obtain ⟨s1, e1⟩ := rp
  dsimp only at HP
  cases m with
  | true =>
    clear HP CT hz
    go_enter Try.func7, Try.ntmps7
    go_wp2_with fail
    refine HM.mono ?_
    rintro e w2 ⟨rfl, b2⟩
    go_wp2_with fail
    refine (awake _).mono ?_
    rintro e w3 ⟨rfl, b3⟩
    go_wp2
    go_ret
    exact ⟨rfl, bstep b2 b3⟩
  | false =>
    by_cases hb8 : (b.size : Int) > 8000
    · have hb9 : (8000 : Int) < (b.size : Int) := hb8
      clear HP CT hz hb8
      go_enter Try.func7, Try.ntmps7
      go_wp2_with fail
      refine HM.mono ?_
      rintro e w2 ⟨rfl, b2⟩
      go_wp2_with fail
      refine (awake _).mono ?_
      rintro e w3 ⟨rfl, b3⟩
      go_wp2
      go_ret
      exact ⟨rfl, bstep b2 b3⟩
    · have hb9 : ¬ (8000 : Int) < (b.size : Int) := hb8
      clear hz hb8
      by_cases he1 : e1 = 0
      · subst he1
        obtain ⟨⟨ht, hl4⟩, hse, hsz⟩ := H2 s1 rfl
        have CS := fun w' => ptake s1 w' (by omega)
        rw [ht] at CS
        dsimp only at CS
        have HSE := Lib.hid hse
        have HL4 := Lib.hid hl4
        have q4 : ¬ (1024 : Int) < (l.length : Int) := by omega
        clear ht hl4 hse hsz H2
        go_enter Try.func7, Try.ntmps7
        go_wp2_with fail
        refine HM.mono ?_
        rintro e w2 ⟨rfl, b2⟩
        go_wp2_with fail
        refine (HP _ b2).mono ?_
        rintro e w3 ⟨rfl, b3⟩
        have bb3 := bstep b2 b3
        go_wp2_with fail
        refine (CS _).mono ?_
        rintro e w4 ⟨v7, rfl, s7, b4⟩
        have bb4 := bstep bb3 b4
        obtain ⟨A7, c7, rfl, l7, h7⟩ := Kd.S_reads s7
        rw [List.length_map] at *
        have HB4 := Lib.hid bb4
        have HL7 := Lib.hid l7
        clear HM HP CS b2 b3 bb3 s7 b4 l7 bb4
        go_wp2
        go_loopw [9] (fun i wr => ∃ k : Nat, i = .int .i64 (k : Int) ∧ k ≤ l.length ∧ Below w4.heap.size w4 wr) (fun i _ => (l.length - (intOf i).toNat))
        case atStart => exact ⟨0, rfl, Nat.zero_le _, Below.refl _ _⟩
        case round =>
          obtain ⟨k, rfl, hkl, bb⟩ := hrel
          have k0 : (0 : Int) ≤ (k : Int) := by omega
          by_cases hlt : k < l.length
          · have k2 : (k : Int) < (l.length : Int) := by omega
            have bw := bstep HB4.out bb
            obtain ⟨ad, A0, c0, rfl, hcw, hlc, hA⟩ := at_T41 hS (k : Int) k0 k2
            rw [rd41 l k hlt] at hcw hlc hA
            rw [Int.toNat_natCast] at hcw
            obtain ⟨ad7, A70, c70, rfl, hcw7, hlc7, hA7⟩ := Go.Proofs.Ytimalojaiaofkaa.PScriptTakes.at_T41 h7 (k : Int) k0 k2
            rw [rdT41 (l.map pl41) k (by rw [List.length_map]; exact hlt), List.getElem_map] at hcw7 hlc7 hA7
            rw [Int.toNat_natCast] at hcw7
            have hcr := cbel bw hcw (World.block_lt_of_cell? w _ hcw)
            have hcr7 := cbel bb hcw7 (World.block_lt_of_cell? w4 _ hcw7)
            have hwk := w_up2 hlt HL.out
            have hxl := Lib.hid (HR.out _ (List.getElem_mem hlt)).1
            have hae := Lib.hid (acE_all (sE_all HSE.out _ (List.getElem_mem hlt)).2)
            have hlt2 := Lib.hid hlt
            generalize l[k] = x at *
            obtain ⟨x⟩ := x
            have e7 : (pl41 ⟨x⟩).f0 = x.map pl43 := rfl
            dsimp only at hcw hcr hlc hA hxl hae
            rw [e7, List.length_map] at hcw7 hcr7 hlc7 hA7
            have HLC := Lib.hid (And.intro hlc hlc7)
            clear hlc hlc7 hlt hkl e7
            go_wp2_with fail
            refine Reg.wp_plan (S := fun w' => w'.cell? (ad.add k) = some (.slice A0 x.length c0) ∧ w'.cell? (ad7.add k) = some (.slice A70 x.length c70)) 13 (.fl 0 (.fl 1 (.fl 2 (.fl 3 (.fl 4 (.fl 5 (.fl 6 (.fl 7 (.fl 8 (.fl 9 (.fl 10 (.fl 11 (.fl 12 .done))))))))))))) (by kernel_rfl) (by kernel_rfl) (by kernel_rfl) (by kernel_rfl) (fun _ _ _ d _ h => by cases d <;> exact h) ?_ (fun hHeld => ?_)
            · exact ⟨by simpa using hcr, by simpa using hcr7⟩
            refine Reg.G_on (o := { dst := some 55, op := Op.move (Operand.tmp 7), type := 35, pos := "law.go:67", after := #[], guard := Option.none }) (v := ?_) (by rfl) ?_ (fun wS hSw => ?_) ?_
            rotate_left
            · kernel_rfl
            · (try dsimp only at hSw); go_simp; (try with_reducible rfl)
            try simp only [Act.put, List.setIfInBounds_toArray, List.set_cons_zero, List.set_cons_succ]
            refine Reg.G_on (o := { dst := some 56, op := Op.move (Operand.tmp 9), type := 3, pos := "law.go:67", after := #[], guard := Option.none }) (v := ?_) (by rfl) ?_ (fun wS hSw => ?_) ?_
            rotate_left
            · kernel_rfl
            · (try dsimp only at hSw); go_simp; (try with_reducible rfl)
            try simp only [Act.put, List.setIfInBounds_toArray, List.set_cons_zero, List.set_cons_succ]
            refine Reg.G_on (o := { dst := some 57, op := Op.indexAddr 35 (Operand.tmp 55) (Operand.tmp 56), type := 0, pos := "law.go:67", after := #[{ on := 0, ground := Ground.data }, { on := 1, ground := Ground.data }], guard := Option.none }) (v := ?_) (by rfl) ?_ (fun wS hSw => ?_) ?_
            rotate_left
            · kernel_rfl
            · (try dsimp only at hSw); go_simp; (try with_reducible rfl)
            try simp only [Act.put, List.setIfInBounds_toArray, List.set_cons_zero, List.set_cons_succ]
            refine Reg.G_on (o := { dst := some 58, op := Op.fieldAddr 41 (Operand.tmp 57) 0, type := 0, pos := "law.go:67", after := #[{ on := 2, ground := Ground.data }], guard := Option.none }) (v := ?_) (by rfl) ?_ (fun wS hSw => ?_) ?_
            rotate_left
            · kernel_rfl
            · (try dsimp only at hSw); go_simp; (try with_reducible rfl)
            try simp only [Act.put, List.setIfInBounds_toArray, List.set_cons_zero, List.set_cons_succ]
            refine Reg.G_on (o := { dst := some 59, op := Op.load 39 (Operand.tmp 58), type := 39, pos := "law.go:67", after := #[{ on := 3, ground := Ground.data }], guard := Option.none }) (v := ?_) (by rfl) ?_ (fun wS hSw => ?_) ?_
            rotate_left
            · kernel_rfl
            · (try dsimp only at hSw); go_simp; (try with_reducible rfl)
            try simp only [Act.put, List.setIfInBounds_toArray, List.set_cons_zero, List.set_cons_succ]
            refine Reg.G_on (o := { dst := some 60, op := Op.call { callee := Callee.builtin Builtin.len, args := #[Operand.tmp 59], argTypes := #[39] }, type := 3, pos := "law.go:67", after := #[{ on := 4, ground := Ground.data }], guard := Option.none }) (v := ?_) (by rfl) ?_ (fun wS hSw => ?_) ?_
            rotate_left
            · kernel_rfl
            · (try dsimp only at hSw); go_simp; (try with_reducible rfl)
            try simp only [Act.put, List.setIfInBounds_toArray, List.set_cons_zero, List.set_cons_succ]
            refine Reg.G_on (o := { dst := some 61, op := Op.move (Operand.tmp 0), type := 35, pos := "law.go:67", after := #[], guard := Option.none }) (v := ?_) (by rfl) ?_ (fun wS hSw => ?_) ?_
            rotate_left
            · kernel_rfl
            · (try dsimp only at hSw); go_simp; (try with_reducible rfl)
            try simp only [Act.put, List.setIfInBounds_toArray, List.set_cons_zero, List.set_cons_succ]
            refine Reg.G_on (o := { dst := some 62, op := Op.move (Operand.tmp 9), type := 3, pos := "law.go:67", after := #[], guard := Option.none }) (v := ?_) (by rfl) ?_ (fun wS hSw => ?_) ?_
            rotate_left
            · kernel_rfl
            · (try dsimp only at hSw); go_simp; (try with_reducible rfl)
            try simp only [Act.put, List.setIfInBounds_toArray, List.set_cons_zero, List.set_cons_succ]
            refine Reg.G_on (o := { dst := some 63, op := Op.indexAddr 35 (Operand.tmp 61) (Operand.tmp 62), type := 0, pos := "law.go:67", after := #[{ on := 6, ground := Ground.data }, { on := 7, ground := Ground.data }], guard := Option.none }) (v := ?_) (by rfl) ?_ (fun wS hSw => ?_) ?_
            rotate_left
            · kernel_rfl
            · (try dsimp only at hSw); go_simp; (try with_reducible rfl)
            try simp only [Act.put, List.setIfInBounds_toArray, List.set_cons_zero, List.set_cons_succ]
            refine Reg.G_on (o := { dst := some 64, op := Op.fieldAddr 41 (Operand.tmp 63) 0, type := 0, pos := "law.go:67", after := #[{ on := 8, ground := Ground.data }], guard := Option.none }) (v := ?_) (by rfl) ?_ (fun wS hSw => ?_) ?_
            rotate_left
            · kernel_rfl
            · (try dsimp only at hSw); go_simp; (try with_reducible rfl)
            try simp only [Act.put, List.setIfInBounds_toArray, List.set_cons_zero, List.set_cons_succ]
            refine Reg.G_on (o := { dst := some 65, op := Op.load 39 (Operand.tmp 64), type := 39, pos := "law.go:67", after := #[{ on := 9, ground := Ground.data }], guard := Option.none }) (v := ?_) (by rfl) ?_ (fun wS hSw => ?_) ?_
            rotate_left
            · kernel_rfl
            · (try dsimp only at hSw); go_simp; (try with_reducible rfl)
            try simp only [Act.put, List.setIfInBounds_toArray, List.set_cons_zero, List.set_cons_succ]
            refine Reg.G_on (o := { dst := some 66, op := Op.call { callee := Callee.builtin Builtin.len, args := #[Operand.tmp 65], argTypes := #[39] }, type := 3, pos := "law.go:67", after := #[{ on := 10, ground := Ground.data }], guard := Option.none }) (v := ?_) (by rfl) ?_ (fun wS hSw => ?_) ?_
            rotate_left
            · kernel_rfl
            · (try dsimp only at hSw); go_simp; (try with_reducible rfl)
            try simp only [Act.put, List.setIfInBounds_toArray, List.set_cons_zero, List.set_cons_succ]
            refine Reg.G_on (o := { dst := some 67, op := Op.binOp BinOp.neq 3 (Operand.tmp 60) (Operand.tmp 66) 3, type := 4, pos := "law.go:67", after := #[{ on := 5, ground := Ground.data }, { on := 11, ground := Ground.data }], guard := Option.none }) (v := ?_) (by rfl) ?_ (fun wS hSw => ?_) ?_
            rotate_left
            · kernel_rfl
            · (try dsimp only at hSw); go_simp; (try with_reducible rfl)
            try simp only [Act.put, List.setIfInBounds_toArray, List.set_cons_zero, List.set_cons_succ]
            refine Reg.G_done ?_
            clear hHeld
            have hcs : wr.drew.cell? (ad.add k) = some (.slice A0 x.length c0) := hcr
            clear hcr hcr7 bw
            go_wp2
            go_loopw [10] (fun i wr => ∃ j : Nat, i = .int .i64 (j : Int) ∧ j ≤ x.length ∧ Below w4.heap.size w4 wr) (fun i _ => (x.length - (intOf i).toNat))
            case atStart => exact ⟨0, rfl, Nat.zero_le _, by first | exact bb.drew | exact below_drew bb⟩
            case round =>
              rename World => w5
              clear bb hcs
              obtain ⟨j, rfl, hjl, bb⟩ := hrel
              have j0 : (0 : Int) ≤ (j : Int) := by omega
              have bw := bstep HB4.out bb
              have hcr := cbel bw hcw (World.block_lt_of_cell? w _ hcw)
              have hcr7 := cbel bb hcw7 (World.block_lt_of_cell? w4 _ hcw7)
              by_cases hjt : j < x.length
              · have j2 : (j : Int) < (x.length : Int) := by omega
                obtain ⟨ad2, rfl, d0, d1, d2⟩ := at_T43 (Kd.C_below hA bw) (j : Int) j0 j2
                rw [rd43 x j hjt] at d0 d1 d2
                rw [Int.toNat_natCast] at d0 d1 d2
                obtain ⟨ad3, rfl, f0, f1, f2⟩ := Go.Proofs.Ytimalojaiaofkaa.PScriptTakes.at_T43 (Kd.C_below hA7 bb) (j : Int) j0 j2
                rw [rdT43 (x.map pl43) j (by rw [List.length_map]; exact hjt), List.getElem_map] at f0 f1 f2
                rw [Int.toNat_natCast] at f0 f1 f2
                have hwj := w_up2 hjt hxl.out
                have hjt2 := Lib.hid hjt
                have hpl := pl_plv (hae.out _ (List.getElem_mem hjt))
                rw [← hpl.1] at f0
                rw [← hpl.2.1] at f1
                rw [← hpl.2.2] at f2
                clear hpl
                generalize x[j] = a at *
                have HP1 := fun w' => plain a w'
                generalize plv a = pa at *
                obtain ⟨a0, a1, a2⟩ := a
                obtain ⟨p0, p1, p2⟩ := pa
                dsimp only at d0 d1 d2 f0 f1 f2 HP1
                have hbk := World.block_lt_of_cell? w5 _ hcr
                have hbk2 := World.block_lt_of_cell? w5 _ d0
                have hbk3 := World.block_lt_of_cell? w5 _ hcr7
                have hbk4 := World.block_lt_of_cell? w5 _ f0
                clear hjl hjt bw
                go_wp2_with fail
                refine Reg.wp_plan (S := fun w' => (w'.cell? (ad.add k) = some (.slice (some ad2) x.length c0) ∧ w'.cell? (ad2.add (j * 3)) = some (.int .i64 a0) ∧ w'.cell? ⟨(ad2.add (j * 3)).block, (ad2.add (j * 3)).off + 1, none⟩ = some (.int .i64 a1) ∧ w'.cell? ⟨(ad2.add (j * 3)).block, (ad2.add (j * 3)).off + 2, none⟩ = some (.string a2)) ∧ w'.cell? (ad7.add k) = some (.slice (some ad3) x.length c70) ∧ w'.cell? (ad3.add (j * 3)) = some (.int .i64 p0) ∧ w'.cell? ⟨(ad3.add (j * 3)).block, (ad3.add (j * 3)).off + 1, none⟩ = some (.int .i64 p1) ∧ w'.cell? ⟨(ad3.add (j * 3)).block, (ad3.add (j * 3)).off + 2, none⟩ = some (.string p2)) 18 (.fl 0 (.fl 1 (.fl 2 (.fl 3 (.fl 4 (.fl 5 (.fl 6 (.fl 7 (.fl 8 (.fl 9 (.fl 10 (.fl 11 (.fl 12 (.fl 13 (.fl 14 (.fl 15 (.one 16 (.fl 17 .done)))))))))))))))))) (by kernel_rfl) (by kernel_rfl) (by kernel_rfl) (by kernel_rfl) (fun _ _ _ d _ h => by cases d <;> exact h) ?_ (fun hHeld => ?_)
                · exact ⟨⟨by simpa using hcr, by simpa using d0, by simpa using d1, by simpa using d2⟩, by simpa using hcr7, by simpa using f0, by simpa using f1, by simpa using f2⟩
                refine Reg.G_on (o := { dst := some 78, op := Op.move (Operand.tmp 7), type := 35, pos := "law.go:71", after := #[], guard := Option.none }) (v := ?_) (by rfl) ?_ (fun wS hSw => ?_) ?_
                rotate_left
                · kernel_rfl
                · (try dsimp only at hSw); go_simp; (try with_reducible rfl)
                try simp only [Act.put, List.setIfInBounds_toArray, List.set_cons_zero, List.set_cons_succ]
                refine Reg.G_on (o := { dst := some 79, op := Op.move (Operand.tmp 9), type := 3, pos := "law.go:71", after := #[], guard := Option.none }) (v := ?_) (by rfl) ?_ (fun wS hSw => ?_) ?_
                rotate_left
                · kernel_rfl
                · (try dsimp only at hSw); go_simp; (try with_reducible rfl)
                try simp only [Act.put, List.setIfInBounds_toArray, List.set_cons_zero, List.set_cons_succ]
                refine Reg.G_on (o := { dst := some 80, op := Op.indexAddr 35 (Operand.tmp 78) (Operand.tmp 79), type := 0, pos := "law.go:71", after := #[{ on := 0, ground := Ground.data }, { on := 1, ground := Ground.data }], guard := Option.none }) (v := ?_) (by rfl) ?_ (fun wS hSw => ?_) ?_
                rotate_left
                · kernel_rfl
                · (try dsimp only at hSw); go_simp; (try with_reducible rfl)
                try simp only [Act.put, List.setIfInBounds_toArray, List.set_cons_zero, List.set_cons_succ]
                refine Reg.G_on (o := { dst := some 81, op := Op.fieldAddr 41 (Operand.tmp 80) 0, type := 0, pos := "law.go:71", after := #[{ on := 2, ground := Ground.data }], guard := Option.none }) (v := ?_) (by rfl) ?_ (fun wS hSw => ?_) ?_
                rotate_left
                · kernel_rfl
                · (try dsimp only at hSw); go_simp; (try with_reducible rfl)
                try simp only [Act.put, List.setIfInBounds_toArray, List.set_cons_zero, List.set_cons_succ]
                refine Reg.G_on (o := { dst := some 82, op := Op.load 39 (Operand.tmp 81), type := 39, pos := "law.go:71", after := #[{ on := 3, ground := Ground.data }], guard := Option.none }) (v := ?_) (by rfl) ?_ (fun wS hSw => ?_) ?_
                rotate_left
                · kernel_rfl
                · (try dsimp only at hSw); go_simp; (try with_reducible rfl)
                try simp only [Act.put, List.setIfInBounds_toArray, List.set_cons_zero, List.set_cons_succ]
                refine Reg.G_on (o := { dst := some 83, op := Op.move (Operand.tmp 10), type := 3, pos := "law.go:71", after := #[], guard := Option.none }) (v := ?_) (by rfl) ?_ (fun wS hSw => ?_) ?_
                rotate_left
                · kernel_rfl
                · (try dsimp only at hSw); go_simp; (try with_reducible rfl)
                try simp only [Act.put, List.setIfInBounds_toArray, List.set_cons_zero, List.set_cons_succ]
                refine Reg.G_on (o := { dst := some 84, op := Op.indexAddr 39 (Operand.tmp 82) (Operand.tmp 83), type := 0, pos := "law.go:71", after := #[{ on := 4, ground := Ground.data }, { on := 5, ground := Ground.data }], guard := Option.none }) (v := ?_) (by rfl) ?_ (fun wS hSw => ?_) ?_
                rotate_left
                · kernel_rfl
                · (try dsimp only at hSw); go_simp; (try with_reducible rfl)
                try simp only [Act.put, List.setIfInBounds_toArray, List.set_cons_zero, List.set_cons_succ]
                refine Reg.G_on (o := { dst := some 85, op := Op.load 43 (Operand.tmp 84), type := 43, pos := "law.go:71", after := #[{ on := 6, ground := Ground.data }], guard := Option.none }) (v := ?_) (by rfl) ?_ (fun wS hSw => ?_) ?_
                rotate_left
                · kernel_rfl
                · (try dsimp only at hSw); go_simp; (try with_reducible rfl)
                try simp only [Act.put, List.setIfInBounds_toArray, List.set_cons_zero, List.set_cons_succ]
                refine Reg.G_on (o := { dst := some 86, op := Op.move (Operand.tmp 0), type := 35, pos := "law.go:71", after := #[], guard := Option.none }) (v := ?_) (by rfl) ?_ (fun wS hSw => ?_) ?_
                rotate_left
                · kernel_rfl
                · (try dsimp only at hSw); go_simp; (try with_reducible rfl)
                try simp only [Act.put, List.setIfInBounds_toArray, List.set_cons_zero, List.set_cons_succ]
                refine Reg.G_on (o := { dst := some 87, op := Op.move (Operand.tmp 9), type := 3, pos := "law.go:71", after := #[], guard := Option.none }) (v := ?_) (by rfl) ?_ (fun wS hSw => ?_) ?_
                rotate_left
                · kernel_rfl
                · (try dsimp only at hSw); go_simp; (try with_reducible rfl)
                try simp only [Act.put, List.setIfInBounds_toArray, List.set_cons_zero, List.set_cons_succ]
                refine Reg.G_on (o := { dst := some 88, op := Op.indexAddr 35 (Operand.tmp 86) (Operand.tmp 87), type := 0, pos := "law.go:71", after := #[{ on := 8, ground := Ground.data }, { on := 9, ground := Ground.data }], guard := Option.none }) (v := ?_) (by rfl) ?_ (fun wS hSw => ?_) ?_
                rotate_left
                · kernel_rfl
                · (try dsimp only at hSw); go_simp; (try with_reducible rfl)
                try simp only [Act.put, List.setIfInBounds_toArray, List.set_cons_zero, List.set_cons_succ]
                refine Reg.G_on (o := { dst := some 89, op := Op.fieldAddr 41 (Operand.tmp 88) 0, type := 0, pos := "law.go:71", after := #[{ on := 10, ground := Ground.data }], guard := Option.none }) (v := ?_) (by rfl) ?_ (fun wS hSw => ?_) ?_
                rotate_left
                · kernel_rfl
                · (try dsimp only at hSw); go_simp; (try with_reducible rfl)
                try simp only [Act.put, List.setIfInBounds_toArray, List.set_cons_zero, List.set_cons_succ]
                refine Reg.G_on (o := { dst := some 90, op := Op.load 39 (Operand.tmp 89), type := 39, pos := "law.go:71", after := #[{ on := 11, ground := Ground.data }], guard := Option.none }) (v := ?_) (by rfl) ?_ (fun wS hSw => ?_) ?_
                rotate_left
                · kernel_rfl
                · (try dsimp only at hSw); go_simp; (try with_reducible rfl)
                try simp only [Act.put, List.setIfInBounds_toArray, List.set_cons_zero, List.set_cons_succ]
                refine Reg.G_on (o := { dst := some 91, op := Op.move (Operand.tmp 10), type := 3, pos := "law.go:71", after := #[], guard := Option.none }) (v := ?_) (by rfl) ?_ (fun wS hSw => ?_) ?_
                rotate_left
                · kernel_rfl
                · (try dsimp only at hSw); go_simp; (try with_reducible rfl)
                try simp only [Act.put, List.setIfInBounds_toArray, List.set_cons_zero, List.set_cons_succ]
                refine Reg.G_on (o := { dst := some 92, op := Op.indexAddr 39 (Operand.tmp 90) (Operand.tmp 91), type := 0, pos := "law.go:71", after := #[{ on := 12, ground := Ground.data }, { on := 13, ground := Ground.data }], guard := Option.none }) (v := ?_) (by rfl) ?_ (fun wS hSw => ?_) ?_
                rotate_left
                · kernel_rfl
                · (try dsimp only at hSw); go_simp; (try with_reducible rfl)
                try simp only [Act.put, List.setIfInBounds_toArray, List.set_cons_zero, List.set_cons_succ]
                refine Reg.G_on (o := { dst := some 93, op := Op.load 43 (Operand.tmp 92), type := 43, pos := "law.go:71", after := #[{ on := 14, ground := Ground.data }], guard := Option.none }) (v := ?_) (by rfl) ?_ (fun wS hSw => ?_) ?_
                rotate_left
                · kernel_rfl
                · (try dsimp only at hSw); go_simp; (try with_reducible rfl)
                try simp only [Act.put, List.setIfInBounds_toArray, List.set_cons_zero, List.set_cons_succ]
                refine Reg.G_step (o := { dst := some 94, op := Op.call { callee := Callee.value (Operand.func 24), args := #[Operand.tmp 93], argTypes := #[43] }, type := 43, pos := "law.go:71", after := #[{ on := 15, ground := Ground.data }], guard := Option.none }) (by rfl) ?_ (fun K hK => ?_)
                · kernel_rfl
                go_simp
                refine (HP1 _).mono ?_
                rintro e w' ⟨rfl, hb1⟩
                refine hK.out _ _ ?_ (fun hHeld => ?_)
                · exact ⟨⟨cbel hb1 hHeld.1.1 hbk, cbel hb1 hHeld.1.2.1 hbk2, cbel hb1 hHeld.1.2.2.1 hbk2, cbel hb1 hHeld.1.2.2.2 hbk2⟩, cbel hb1 hHeld.2.1 hbk3, cbel hb1 hHeld.2.2.1 hbk4, cbel hb1 hHeld.2.2.2.1 hbk4, cbel hb1 hHeld.2.2.2.2 hbk4⟩
                clear hK K
                try simp only [Act.put, List.setIfInBounds_toArray, List.set_cons_zero, List.set_cons_succ]
                refine Reg.G_on (o := { dst := some 95, op := Op.binOp BinOp.neq 43 (Operand.tmp 85) (Operand.tmp 94) 43, type := 4, pos := "law.go:71", after := #[{ on := 7, ground := Ground.data }, { on := 16, ground := Ground.data }], guard := Option.none }) (v := ?_) (by rfl) ?_ (fun wS hSw => ?_) ?_
                rotate_left
                · kernel_rfl
                · (try dsimp only at hSw); go_simp; (try with_reducible rfl)
                try simp only [Act.put, List.setIfInBounds_toArray, List.set_cons_zero, List.set_cons_succ]
                refine Reg.G_done ?_
                have bbz : Below w4.heap.size w4 _ := bstep (by first | exact bb.drew | exact below_drew bb) hb1
                clear hb1 HP1 hHeld bb hcr d0 d1 d2 hbk hbk2 f0 f1 f2 hcr7 hbk3 hbk4
                go_wp2
                rw [hwj]
                exact ⟨⟨j + 1, rfl, hjt2.out, bbz⟩, meas x.length j hjt2.out⟩
              · have hj : j = x.length := by omega
                subst hj
                clear hjt hjl bw
                go_wp2
                rw [show (k : Int) + 1 = ((k + 1 : Nat) : Int) from rfl]
                exact ⟨⟨k + 1, rfl, hlt2.out, bb⟩, meas l.length k hlt2.out⟩
          · have hk : k = l.length := by omega
            subst hk
            have bw := bstep HB4.out bb
            clear hlt hkl bb
            go_wp2_with fail
            refine (CT wr).mono ?_
            rintro e wt ⟨vt, rfl, st, bt_⟩
            have bbt := Lib.hid (bstep bw bt_)
            obtain ⟨A2, c2, rfl, l2, h2⟩ := Kd.S_reads st
            clear st bt_
            by_cases he : r2 = 0
            · subst he
              obtain ⟨hp, hl2, hin⟩ := HT.out.1 rfl
              have C2 := put A2 c2 (r1.map c41) wt (by rw [List.length_map]; exact conv41 h2) hin
              rw [hp, List.length_map] at C2
              have q1 : ((r1.length : Nat) : Int) ≤ 1024 := by omega
              clear hp hl2 hin CT h2 l2
              go_wp2_with fail
              refine C2.mono ?_
              rintro e w3 ⟨rfl, b3⟩
              clear C2
              go_wp2_with fail
              refine (awake _).mono ?_
              rintro e w4 ⟨rfl, b4⟩
              go_wp2
              go_ret
              exact ⟨rfl, bstep (bstep bbt.out b3) b4⟩
            · have hn := HT.out.2 he
              subst hn
              have he' : (r2 == 0) = false := beq_eq_false_iff_ne.2 he
              clear CT h2 l2
              go_wp2_with fail
              refine (awake _).mono ?_
              rintro e w4 ⟨rfl, b4⟩
              go_wp2
              go_ret
              exact ⟨rfl, bstep bbt.out b4⟩
      · have he1' : (e1 == 0) = false := beq_eq_false_iff_ne.2 he1
        clear H2 he1
        go_enter Try.func7, Try.ntmps7
        go_wp2_with fail
        refine HM.mono ?_
        rintro e w2 ⟨rfl, b2⟩
        go_wp2_with fail
        refine (HP _ b2).mono ?_
        rintro e w3 ⟨rfl, b3⟩
        have bb3 := bstep b2 b3
        clear HM HP b2 b3
        go_wp2_with fail
        refine (CT w3).mono ?_
        rintro e wt ⟨vt, rfl, st, bt_⟩
        have bbt := Lib.hid (bstep bb3 bt_)
        obtain ⟨A2, c2, rfl, l2, h2⟩ := Kd.S_reads st
        clear st bt_
        by_cases he : r2 = 0
        · subst he
          obtain ⟨hp, hl2, hin⟩ := HT.out.1 rfl
          have C2 := put A2 c2 (r1.map c41) wt (by rw [List.length_map]; exact conv41 h2) hin
          rw [hp, List.length_map] at C2
          have q1 : ((r1.length : Nat) : Int) ≤ 1024 := by omega
          clear hp hl2 hin CT h2 l2
          go_wp2_with fail
          refine C2.mono ?_
          rintro e w3 ⟨rfl, b3⟩
          clear C2
          go_wp2_with fail
          refine (awake _).mono ?_
          rintro e w4 ⟨rfl, b4⟩
          go_wp2
          go_ret
          exact ⟨rfl, bstep (bstep bbt.out b3) b4⟩
        · have hn := HT.out.2 he
          subst hn
          have he' : (r2 == 0) = false := beq_eq_false_iff_ne.2 he
          clear CT h2 l2
          go_wp2_with fail
          refine (awake _).mono ?_
          rintro e w4 ⟨rfl, b4⟩
          go_wp2
          go_ret
          exact ⟨rfl, bstep bbt.out b4⟩
end Go.Proofs.Ytimalojaiaofkaa.ScrK
namespace Go.Proofs.Ytimalojaiaofkaa.Open
open Go.RowKit Base
section
variable {H : Type} {enc : TypeId × Value → H} {P : Program} {w : World}
/-- Some cells read as a value of a type, and whatever is in it is no larger than what may come in. -/
def Tr {H : Type} (enc : TypeId × Value → H) (P : Program) (w : World) (t : TypeId) (cs : List Value) : Prop :=
  ∃ fuel x, DataW.trod enc P w 0 (fun _ => true) true fuel t cs = some x ∧ ∀ n ∈ x.1.weights P t, n ≤ reachBytes

/-- An argument as the row has it: how it reads, and how large it is. -/
def TrodZ {H : Type} (enc : TypeId × Value → H) (P : Program) (w : World) (t : TypeId) (v : Value) (d : DataW H) (ps : List MemPlace) : Prop :=
  DataW.Trod enc P w 0 (fun _ => true) true t v d ps ∧ ∀ n ∈ d.weights P t, n ≤ reachBytes

theorem tr_of {t : TypeId} {v : Value} {d : DataW H} {ps : List MemPlace} (h : TrodZ enc P w t v d ps) : Tr enc P w t v.cells.toList := by
  obtain ⟨⟨f, h⟩, hz⟩ := h
  exact ⟨f, _, h, hz⟩

theorem tr_int {t : TypeId} {k : IntKind} {cs : List Value} (hu : P.underlying t = some (.int k)) (h : Tr enc P w t cs) : ∃ n, cs = [.int k n] ∧ (Lit.int k n).wf = true := by
  obtain ⟨f, x, h, _⟩ := h
  cases f with
  | zero => simp [DataW.trod] at h
  | succ f =>
    simp only [DataW.trod, hu] at h
    split at h <;> simp_all

theorem tr_bool {t : TypeId} {cs : List Value} (hu : P.underlying t = some .bool) (h : Tr enc P w t cs) : ∃ b, cs = [.bool b] := by
  obtain ⟨f, x, h, _⟩ := h
  cases f with
  | zero => simp [DataW.trod] at h
  | succ f =>
    simp only [DataW.trod, hu] at h
    split at h <;> simp_all

theorem tr_string {t : TypeId} {cs : List Value} (hu : P.underlying t = some .string) (h : Tr enc P w t cs) : ∃ s, cs = [.string s] ∧ s.size ≤ reachBytes := by
  obtain ⟨f, x, h, hz⟩ := h
  cases f with
  | zero => simp [DataW.trod] at h
  | succ f =>
    simp only [DataW.trod, hu] at h
    split at h <;> try (simp_all; done)
    rename_i s _
    split at h
    · obtain rfl := (Option.some.inj h).symm
      refine ⟨s, rfl, ?_⟩
      have := hz s.data.toList.length (by simp [DataW.weights])
      rw [Array.length_toList] at this
      exact this
    · simp at h

theorem mapM_at {α β : Type} {g : α → Option β} : ∀ {l : List α} {r : List β}, l.mapM g = some r → r.length = l.length ∧ ∀ (i : Nat) (a : α), l[i]? = some a → ∃ b, r[i]? = some b ∧ g a = some b
  | [], r, h => by
    obtain rfl : [] = r := by simpa using h
    exact ⟨rfl, fun i a h => by simp at h⟩
  | x :: l, r, h => by
    simp only [List.mapM_cons, Option.pure_def, Option.bind_eq_bind] at h
    cases hx : g x with
    | none => simp [hx] at h
    | some b =>
      simp only [hx, Option.bind_some] at h
      cases hl : l.mapM g with
      | none => simp [hl] at h
      | some bs =>
        simp only [hl, Option.bind_some, Option.some.injEq] at h
        subst h
        obtain ⟨e1, e2⟩ := mapM_at hl
        refine ⟨by simp [e1], fun i a hi => ?_⟩
        cases i with
        | zero =>
          obtain rfl : x = a := by simpa using hi
          exact ⟨b, rfl, hx⟩
        | succ i =>
          obtain ⟨y, h1, h2⟩ := e2 i a (by simpa using hi)
          exact ⟨y, by simpa using h1, h2⟩
theorem all_mem {e : TypeId} : ∀ {l : List (DataW H)} {d : DataW H}, d ∈ l → ∀ n ∈ d.weights P e, n ∈ DataW.weightsAll P e l
  | y :: l, d, hd, n, hn => by
    simp only [DataW.weightsAll, List.mem_append]
    rcases List.mem_cons.1 hd with rfl | hd
    · exact .inl hn
    · exact .inr (all_mem hd n hn)

theorem tr_array {t e : TypeId} {n : Nat} {cs : List Value} (hu : P.underlying t = some (.array n e)) (h : Tr enc P w t cs) :
    cs.length = P.cellsOf t ∧ ∀ i, i < n → Tr enc P w e ((cs.drop (i * P.cellsOf e)).take (P.cellsOf e)) := by
  obtain ⟨f, x, h, hz⟩ := h
  cases f with
  | zero => simp [DataW.trod] at h
  | succ f =>
    simp only [DataW.trod, hu] at h
    split at h
    · rename_i hl
      refine ⟨hl, fun i hi => ?_⟩
      cases hm : (List.range n).mapM fun i => DataW.trod enc P w 0 (fun _ => true) true f e ((cs.drop (i * P.cellsOf e)).take (P.cellsOf e)) with
      | none => simp [hm] at h
      | some r =>
        simp only [hm, Option.map_some, Option.some.injEq] at h
        subst h
        obtain ⟨b, hb, hg⟩ := (mapM_at hm).2 i i (List.getElem?_range hi)
        refine ⟨f, b, hg, fun n hn => hz n ?_⟩
        simp only [DataW.weights, hu]
        exact all_mem (List.mem_map.2 ⟨b, List.mem_of_getElem? hb, rfl⟩) n hn
    · simp at h

theorem tr_struct {t : TypeId} {fs : Array Field} {cs : List Value} (hu : P.underlying t = some (.struct fs)) (h : Tr enc P w t cs) :
    cs.length = P.cellsOf t ∧ ∀ f ∈ fs.toList, Tr enc P w f.type ((cs.drop f.offset).take (P.cellsOf f.type)) := by
  obtain ⟨f, x, h, hz⟩ := h
  cases f with
  | zero => simp [DataW.trod] at h
  | succ f =>
    simp only [DataW.trod, hu] at h
    split at h
    · rename_i hl
      refine ⟨hl, fun g hg => ?_⟩
      cases hm : fs.toList.mapM fun g => DataW.trod enc P w 0 (fun _ => true) true f g.type ((cs.drop g.offset).take (P.cellsOf g.type)) with
      | none => simp [hm] at h
      | some r =>
        simp only [hm, Option.map_some, Option.some.injEq] at h
        subst h
        obtain ⟨j, hj⟩ := List.mem_iff_getElem?.1 hg
        obtain ⟨b, hb, hgb⟩ := (mapM_at hm).2 j g hj
        refine ⟨f, b, hgb, fun n hn => hz n ?_⟩
        simp only [DataW.weights, hu]
        exact DataW.weights_mem_each (j := j) (by rw [List.getElem?_map, hj]; rfl) (by rw [List.getElem?_map, hb]; rfl) n hn
    · simp at h

theorem tr_slice {t e : TypeId} {cs : List Value} (hu : P.underlying t = some (.slice e)) (h : Tr enc P w t cs) :
    (cs = [.slice none 0 0]) ∨ ∃ a len cap, cs = [.slice (some a) len cap] ∧ len ≤ cap ∧ cap ≤ maxLen ∧ cap * P.bytesOf e ≤ reachBytes ∧ ∀ i, i < len → ∃ c, w.cells? 0 (a.add (i * P.cellsOf e)) (P.cellsOf e) = some c ∧ Tr enc P w e c := by
  obtain ⟨f, x, h, hz⟩ := h
  cases f with
  | zero => simp [DataW.trod] at h
  | succ f =>
    simp only [DataW.trod, hu] at h
    split at h <;> try (simp_all; done)
    rename_i _ _ e' a len cap hu' 
    obtain rfl : e = e' := by simpa using hu'
    refine .inr ⟨a, len, cap, rfl, ?_⟩
    split at h
    · rename_i hb
      cases hm : (List.range len).mapM fun i => (w.cells? 0 (a.add (i * P.cellsOf e)) (P.cellsOf e)).bind (DataW.trod enc P w 0 (fun _ => true) true f e) with
      | none => simp [hm] at h
      | some r =>
        cases hm2 : (List.range (cap - len)).mapM fun j => (w.cells? 0 (a.add ((len + j) * P.cellsOf e)) (P.cellsOf e)).bind (DataW.trod enc P w 0 (fun _ => true) true f e) with
        | none => simp [hm, hm2] at h
        | some r2 =>
          simp only [hm, hm2, if_true, Option.bind_some, Option.map_some, Option.some.injEq] at h
          subst h
          obtain ⟨l1, h1⟩ := mapM_at hm
          obtain ⟨l2, _⟩ := mapM_at hm2
          rw [List.length_range] at l1 l2
          refine ⟨hb.2.1, hb.2.2, ?_, fun i hi => ?_⟩
          · have := hz ((r.map (·.1)).length + (r2.map (·.1)).length |>.mul (P.bytesOf e)) (by simp [DataW.weights, hu])
            simp only [List.length_map, l1, l2] at this
            have e1 : len + (cap - len) = cap := by omega
            rw [e1] at this
            exact this
          · obtain ⟨b, hbi, hgb⟩ := h1 i i (List.getElem?_range hi)
            cases hc : w.cells? 0 (a.add (i * P.cellsOf e)) (P.cellsOf e) with
            | none => simp [hc] at hgb
            | some c =>
              refine ⟨c, rfl, f, b, by simpa [hc] using hgb, fun n hn => hz n ?_⟩
              simp only [DataW.weights, hu, List.mem_cons, List.mem_append]
              exact .inr (.inl (all_mem (List.mem_map.2 ⟨b, List.mem_of_getElem? hbi, rfl⟩) n hn))
    · simp at h

/-- An argument that is an array. -/
theorem agg_array {r : Reach} {base : Nat} {t e : TypeId} {n : Nat} {v : Value} {d : DataW H} {ps : List MemPlace} (hu : P.underlying t = some (.array n e)) (hok : Value.okWide P w r base t v)
    (h : TrodZ enc P w t v d ps) : ∃ cs : Array Value, v = .agg cs ∧ cs.size = P.cellsOf t ∧ Tr enc P w t cs.toList := by
  unfold Value.okWide at hok
  rw [hu] at hok
  obtain ⟨cs, rfl, hs, _⟩ := hok
  exact ⟨cs, rfl, hs, tr_of h⟩
/-- An argument that is a struct. -/
theorem agg_struct {r : Reach} {base : Nat} {t : TypeId} {fs : Array Field} {v : Value} {d : DataW H} {ps : List MemPlace} (hu : P.underlying t = some (.struct fs)) (hok : Value.okWide P w r base t v)
    (h : TrodZ enc P w t v d ps) : ∃ cs : Array Value, v = .agg cs ∧ cs.size = P.cellsOf t ∧ Tr enc P w t cs.toList := by
  unfold Value.okWide at hok
  rw [hu] at hok
  obtain ⟨cs, rfl, hs, _⟩ := hok
  exact ⟨cs, rfl, hs, tr_of h⟩

theorem two_u64 {t e : TypeId} {cs : Array Value} (hu : P.underlying t = some (.array 2 e)) (he : P.underlying e = some (.int .u64)) (hn : P.cellsOf t = 2 ∧ P.cellsOf e = 1) (hs : cs.size = P.cellsOf t) (h : Tr enc P w t cs.toList) :
    ∃ x y, cs = #[.int .u64 x, .int .u64 y] ∧ 0 ≤ x ∧ x < 18446744073709551616 ∧ 0 ≤ y ∧ y < 18446744073709551616 := by
  obtain ⟨h1, h2⟩ := hn
  rw [h1] at hs
  obtain ⟨_, h⟩ := tr_array hu h
  rw [h2] at h
  obtain ⟨l⟩ := cs
  match l, hs with
  | [a, b], _ =>
    obtain ⟨x, e0, w0⟩ := tr_int he (h 0 (by omega))
    obtain ⟨y, e1, w1⟩ := tr_int he (h 1 (by omega))
    simp at e0 e1
    exact ⟨x, y, by rw [e0, e1], (wf_u64 w0).1, (wf_u64 w0).2, (wf_u64 w1).1, (wf_u64 w1).2⟩
end
end Go.Proofs.Ytimalojaiaofkaa.Open
namespace Go.Proofs.Ytimalojaiaofkaa.Open
open Go.RowKit Base
section
variable {H : Type} {enc : TypeId × Value → H} {P : Program} {w : World}
theorem u8_of {n : Int} (h : (Lit.int .u8 n).wf = true) : ∃ c : UInt8, n = (c.toNat : Int) := by
  obtain ⟨h0, h1⟩ := wf_u8 h
  refine ⟨UInt8.ofNat n.toNat, ?_⟩
  rw [UInt8.toNat_ofNat']
  omega
theorem four_u8 {t e : TypeId} {cs : Array Value} (hu : P.underlying t = some (.array 4 e)) (he : P.underlying e = some (.int .u8)) (hn : P.cellsOf t = 4 ∧ P.cellsOf e = 1) (hs : cs.size = P.cellsOf t) (h : Tr enc P w t cs.toList) :
    ∃ f : Nat → UInt8, cs = #[.int .u8 ((f 0).toNat : Int), .int .u8 ((f 1).toNat : Int), .int .u8 ((f 2).toNat : Int), .int .u8 ((f 3).toNat : Int)] := by
  obtain ⟨h1, h2⟩ := hn
  rw [h1] at hs
  obtain ⟨_, h⟩ := tr_array hu h
  rw [h2] at h
  obtain ⟨l⟩ := cs
  match l, hs with
  | [a, b, c, d], _ =>
    obtain ⟨x, e0, w0⟩ := tr_int he (h 0 (by omega))
    obtain ⟨y, e1, w1⟩ := tr_int he (h 1 (by omega))
    obtain ⟨z, e2, w2⟩ := tr_int he (h 2 (by omega))
    obtain ⟨u, e3, w3⟩ := tr_int he (h 3 (by omega))
    obtain ⟨x, rfl⟩ := u8_of w0
    obtain ⟨y, rfl⟩ := u8_of w1
    obtain ⟨z, rfl⟩ := u8_of w2
    obtain ⟨u, rfl⟩ := u8_of w3
    simp at e0 e1 e2 e3
    exact ⟨fun i => if i = 0 then x else if i = 1 then y else if i = 2 then z else u, by rw [e0, e1, e2, e3]; rfl⟩
end
end Go.Proofs.Ytimalojaiaofkaa.Open
namespace Go.Proofs.Ytimalojaiaofkaa.Open
open Go.RowKit Base Go.Proofs.YtimalojaiaofkaaW.PrintWords
section
variable {H : Type} {enc : TypeId × Value → H} {P : Program} {w : World}
/-- A type's cells open as a kind's. -/
def Opens (P : Program) {α : Type} (t : TypeId) (d : Kd α) (G : α → Prop) : Prop :=
  ∀ (H : Type) (enc : TypeId × Value → H) (w : World) (cs : List Value), Tr enc P w t cs → ∃ a, d.K w a cs ∧ G a
theorem opens_int {t : TypeId} {k : IntKind} (hu : P.underlying t = some (.int k)) : Opens P t (Kd.int k) (fun n => (Lit.int k n).wf = true) := by
  intro H enc w cs h
  obtain ⟨n, rfl, hw⟩ := tr_int hu h
  exact ⟨n, rfl, hw⟩
theorem opens_bool {t : TypeId} (hu : P.underlying t = some .bool) : Opens P t Kd.bool (fun _ => True) := by
  intro H enc w cs h
  obtain ⟨n, rfl⟩ := tr_bool hu h
  exact ⟨n, rfl, trivial⟩
theorem opens_string {t : TypeId} (hu : P.underlying t = some .string) : Opens P t Kd.string (fun s => s.size ≤ reachBytes) := by
  intro H enc w cs h
  obtain ⟨n, rfl, hs⟩ := tr_string hu h
  exact ⟨n, rfl, hs⟩
theorem cells_spec {base : Nat} {a : Addr} {n : Nat} {c : List Value} (h : w.cells? base a n = some c) : c.length = n ∧ ∀ i u, c[i]? = some u → w.cell? (a.add i) = some u := by
  unfold World.cells? at h
  split at h
  · have hg : ∀ {α β : Type} {g : α → Option β} {l : List α} {r : List β}, l.mapM g = some r → r.length = l.length ∧ ∀ (i : Nat) (u : β), r[i]? = some u → ∃ x, l[i]? = some x ∧ g x = some u := by
      intro α β g l
      induction l with
      | nil =>
        intro r h
        obtain rfl : [] = r := by simpa using h
        exact ⟨rfl, fun i u h => by simp at h⟩
      | cons x l ih =>
        intro r h
        simp only [List.mapM_cons, Option.pure_def, Option.bind_eq_bind] at h
        cases hx : g x with
        | none => simp [hx] at h
        | some b =>
          simp only [hx, Option.bind_some] at h
          cases hl : l.mapM g with
          | none => simp [hl] at h
          | some bs =>
            simp only [hl, Option.bind_some, Option.some.injEq] at h
            subst h
            obtain ⟨e1, e2⟩ := ih hl
            refine ⟨by simp [e1], fun i u hi => ?_⟩
            cases i with
            | zero =>
              obtain rfl : b = u := by simpa using hi
              exact ⟨x, rfl, hx⟩
            | succ i =>
              obtain ⟨y, h1, h2⟩ := e2 i u (by simpa using hi)
              exact ⟨y, by simpa using h1, h2⟩
    obtain ⟨e1, e2⟩ := hg h
    refine ⟨by rw [e1, List.length_range], fun i u hi => ?_⟩
    obtain ⟨y, h1, h2⟩ := e2 i u hi
    obtain ⟨hl, h1⟩ := List.getElem?_eq_some_iff.1 h1
    rw [List.getElem_range] at h1
    rw [h1]
    exact h2
  · simp at h
theorem opens_slice {α : Type} {t e : TypeId} {d : Kd α} {G : α → Prop} (hu : P.underlying t = some (.slice e)) (he : Opens P e d G) (hs : P.cellsOf e = d.sz) :
    Opens P t (Kd.slice e d) (fun l => (l.length ≤ maxLen ∧ l.length * P.bytesOf e ≤ reachBytes) ∧ ∀ x ∈ l, G x) := by
  intro H enc w cs h
  rcases tr_slice hu h with rfl | ⟨a, len, cap, rfl, h1, h2, hby, h3⟩
  · exact ⟨[], ⟨none, 0, rfl, Nat.le_refl _, rfl, by simp, (fun h => by simp at h)⟩, ⟨by simp, by simp⟩, (fun x hx => by cases hx)⟩
  · have key : ∀ n, n ≤ len → ∃ l : List α, l.length = n ∧ (∀ x ∈ l, G x) ∧ ∀ j p, l[j]? = some p → ∃ c, c.length = d.sz ∧ d.K w p c ∧ ∀ i u, c[i]? = some u → w.cell? (a.add (j * d.sz + i)) = some u := by
      intro n
      induction n with
      | zero => exact fun _ => ⟨[], rfl, (fun x hx => by cases hx), (fun j p h => by simp at h)⟩
      | succ n ih =>
        intro hn
        obtain ⟨l, hl, hG, hc⟩ := ih (by omega)
        obtain ⟨c, hcell, htr⟩ := h3 n (by omega)
        obtain ⟨x, hK, hGx⟩ := he H enc w c htr
        obtain ⟨hlen, hget⟩ := cells_spec hcell
        refine ⟨l ++ [x], by simp [hl], fun y hy => ?_, fun j p hj => ?_⟩
        · rcases List.mem_append.1 hy with hy | hy
          · exact hG y hy
          · rw [List.mem_singleton.1 hy]; exact hGx
        · rcases Nat.lt_or_ge j l.length with hjl | hjl
          · rw [List.getElem?_append_left hjl] at hj
            exact hc j p hj
          · have hj' : j = n := by
              have := (List.getElem?_eq_some_iff.1 hj).1
              rw [List.length_append, List.length_singleton] at this
              omega
            subst hj'
            rw [List.getElem?_append_right hjl, hl, Nat.sub_self] at hj
            have hp : x = p := by simpa using hj
            subst hp
            refine ⟨c, by rw [hlen, hs], hK, fun i u hi => ?_⟩
            have := hget i u hi
            rw [hs, add_add] at this
            exact this
    obtain ⟨l, hl, hG, hc⟩ := key len (Nat.le_refl _)
    subst hl
    exact ⟨l, ⟨some a, cap, rfl, h1, rfl, by unfold maxLen at h2; omega, fun _ => ⟨a, rfl, hc⟩⟩, ⟨Nat.le_trans h1 h2, Nat.le_trans (Nat.mul_le_mul_right _ h1) hby⟩, hG⟩
theorem slice_arg {α : Type} {t e : TypeId} {k : Kd α} {G : α → Prop} {r : Reach} {base : Nat} {v : Value} {d : DataW H} {ps : List MemPlace}
    (hu : P.underlying t = some (.slice e)) (he : Opens P e k G) (hs : P.cellsOf e = k.sz) (hok : Value.okWide P w r base t v) (h : TrodZ enc P w t v d ps) :
    ∃ (A : Option Addr) (c : Nat) (l : List α), v = .slice A l.length c ∧ Kd.C k w A l.length l ∧ l.length ≤ c ∧ (l.length ≤ maxLen ∧ l.length * P.bytesOf e ≤ reachBytes) ∧ ∀ x ∈ l, G x := by
  obtain ⟨a, len, cap, rfl⟩ := Go.WideShapes.okWide_slice hu hok
  obtain ⟨l, ⟨A, c, e, hc, hC⟩, hl, hG⟩ := opens_slice hu he hs H enc w _ (tr_of h)
  have e' : [Value.slice a len cap] = [Value.slice A l.length c] := e
  exact ⟨A, c, l, (List.cons.inj e').1, hC, hc, hl, hG⟩
end
end Go.Proofs.Ytimalojaiaofkaa.Open
namespace Go.Proofs.Ytimalojaiaofkaa.Open
open Go.RowKit Base Go.Proofs.YtimalojaiaofkaaW.PrintWords
section
variable {P : Program}
/-- Both. -/
def GPair {α β : Type} (G1 : α → Prop) (G2 : β → Prop) : α × β → Prop := fun x => G1 x.1 ∧ G2 x.2
/-- Fields in line, from an offset on. -/
def OpensF (P : Program) {α : Type} (fs : List Field) (off : Nat) (d : Kd α) (G : α → Prop) : Prop :=
  ∀ (H : Type) (enc : TypeId × Value → H) (w : World) (cs : List Value), cs.length = off + d.sz → (∀ f ∈ fs, Tr enc P w f.type ((cs.drop f.offset).take (P.cellsOf f.type))) → ∃ a, d.K w a (cs.drop off) ∧ G a
theorem fields_last {α : Type} {f : Field} {d : Kd α} {G : α → Prop} (h : Opens P f.type d G) (hs : P.cellsOf f.type = d.sz) : OpensF P [f] f.offset d G := by
  intro H enc w cs hl ht
  have h1 := ht f (List.mem_singleton.2 rfl)
  rw [hs, List.take_of_length_le (by rw [List.length_drop]; omega)] at h1
  exact h H enc w _ h1
theorem fields_cons {α β : Type} {f : Field} {fs : List Field} {d1 : Kd α} {d2 : Kd β} {G1 : α → Prop} {G2 : β → Prop} (h : Opens P f.type d1 G1) (hs : P.cellsOf f.type = d1.sz) (hr : OpensF P fs (f.offset + d1.sz) d2 G2) :
    OpensF P (f :: fs) f.offset (Kd.pair d1 d2) (GPair G1 G2) := by
  intro H enc w cs hl ht
  have hl' : cs.length = f.offset + (d1.sz + d2.sz) := hl
  have h1 := ht f (List.mem_cons_self ..)
  rw [hs] at h1
  obtain ⟨a, ha, ga⟩ := h H enc w _ h1
  obtain ⟨b, hb, gb⟩ := hr H enc w cs (by omega) (fun g hg => ht g (List.mem_cons_of_mem _ hg))
  refine ⟨(a, b), ⟨_, _, ?_, ha, hb⟩, ga, gb⟩
  rw [← List.drop_drop, List.take_append_drop]
theorem opens_struct {α : Type} {t : TypeId} {fs : Array Field} {d : Kd α} {G : α → Prop} (hu : P.underlying t = some (.struct fs)) (hs : P.cellsOf t = d.sz) (h : OpensF P fs.toList 0 d G) : Opens P t d G := by
  intro H enc w cs ht
  obtain ⟨hl, hf⟩ := tr_struct hu ht
  exact h H enc w cs (by omega) hf
theorem opens_iso {α β : Type} {t : TypeId} {d : Kd α} {G : α → Prop} (h : Opens P t d G) (f : β → α) (g : α → β) (hg : ∀ a, f (g a) = a) : Opens P t (Kd.iso d f) (fun x => G (f x)) := by
  intro H enc w cs ht
  obtain ⟨a, ha, ga⟩ := h H enc w cs ht
  refine ⟨g a, ?_, ?_⟩
  · show d.K w (f (g a)) cs
    rw [hg]
    exact ha
  · show G (f (g a))
    rw [hg]
    exact ga
/-- An argument that is a struct, by its kind. -/
theorem struct_arg {H : Type} {enc : TypeId × Value → H} {w : World} {α : Type} {t : TypeId} {fs : Array Field} {k : Kd α} {G : α → Prop} {r : Reach} {base : Nat} {v : Value} {d : DataW H} {ps : List MemPlace}
    (hu : P.underlying t = some (.struct fs)) (hk : Opens P t k G) (hok : Value.okWide P w r base t v) (h : TrodZ enc P w t v d ps) :
    ∃ (a : α) (cs : Array Value), v = .agg cs ∧ k.K w a cs.toList ∧ G a := by
  obtain ⟨cs, rfl, hs, ht⟩ := agg_struct hu hok h
  obtain ⟨a, ha, ga⟩ := hk H enc w _ ht
  exact ⟨a, cs, rfl, ha, ga⟩
end
end Go.Proofs.Ytimalojaiaofkaa.Open
namespace Go.Proofs.Ytimalojaiaofkaa.Open
open Go.RowKit Base Go.Proofs.YtimalojaiaofkaaW.PrintWords Go.Proofs.Ytimalojaiaofkaa.PScriptPuts
def GAct (x : S43) : Prop := GPair (fun n => (Lit.int .i64 n).wf = true) (GPair (fun n => (Lit.int .i64 n).wf = true) (fun s : ByteArray => s.size ≤ reachBytes)) (x.f0, x.f1, x.f2)
theorem act_opens : Opens Try.prog 43 k43 GAct := by
  unfold k43
  refine opens_iso (d := Kd.pair (Kd.int .i64) (Kd.pair (Kd.int .i64) Kd.string)) ?_ (fun x : S43 => (x.f0, x.f1, x.f2)) (fun a => ⟨a.1, a.2.1, a.2.2⟩) (fun _ => rfl)
  refine opens_struct Try.underlying43 (by kernel_rfl) ?_
  refine fields_cons (opens_int Try.underlying3) (by kernel_rfl) ?_
  refine fields_cons (opens_int Try.underlying3) (by kernel_rfl) ?_
  exact fields_last (opens_string Try.underlying9) (by kernel_rfl)
def GActs (l : List S43) : Prop := (l.length ≤ maxLen ∧ l.length * Try.prog.bytesOf 43 ≤ reachBytes) ∧ ∀ a ∈ l, GAct a
def GTurn (x : S41) : Prop := GActs x.f0
theorem turn_opens : Opens Try.prog 41 k41 GTurn := by
  unfold k41
  refine opens_iso (d := Kd.slice 43 k43) (G := GActs) ?_ (fun x : S41 => x.f0) (fun a => ⟨a⟩) (fun _ => rfl)
  refine opens_struct Try.underlying41 (by kernel_rfl) ?_
  exact fields_last (opens_slice Try.underlying39 act_opens (by kernel_rfl)) (by kernel_rfl)
theorem act_rng {x : S43} (h : GAct x) : Scr.Rng x := by
  have h2 : -9223372036854775808 ≤ x.f1 ∧ x.f1 < 9223372036854775808 := wf_i64 h.2.1
  have e2 : reachBytes = 140737488351232 := rfl
  have h3 : x.f2.size ≤ reachBytes := h.2.2
  rw [e2] at h3
  exact ⟨h2.1, h2.2, by omega⟩
theorem turns_small {l : List S41} (h : l.length * Try.prog.bytesOf 41 ≤ reachBytes) (hG : ∀ x ∈ l, GTurn x) : l.length ≤ 140737488355328 ∧ ∀ x ∈ l, x.f0.length ≤ 140737488355328 ∧ ∀ a ∈ x.f0, Scr.Rng a := by
  have e : Try.prog.bytesOf 41 = 24 := by kernel_rfl
  have e1 : Try.prog.bytesOf 43 = 32 := by kernel_rfl
  have e2 : reachBytes = 140737488351232 := rfl
  rw [e, e2] at h
  refine ⟨by omega, fun x hx => ⟨?_, fun a ha => act_rng ((hG x hx).2 a ha)⟩⟩
  have h3 := (hG x hx).1.2
  rw [e1, e2] at h3
  omega
end Go.Proofs.Ytimalojaiaofkaa.Open
