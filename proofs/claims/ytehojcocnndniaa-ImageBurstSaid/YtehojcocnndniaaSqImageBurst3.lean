import Derived.Test.YtehojcocnndniaaPImageTakesx0
import Derived.Test.YtehojcocnndniaaPImageTakesx1
import Derived.Test.YtehojcocnndniaaPImageTakesx9
import Derived.Lib.ConvBytes
import Derived.Laws.BytesArg
import Derived.ProofKit
import Derived.SizedLaws
import Derived.Test.YtehojcocnndniaaSqImageBurst2
set_option linter.unusedVariables false
set_option linter.unusedSimpArgs false
namespace Go.Proofs.Ytehojcocnndniaa.Img
open Go.RowKit Base Sp Flat Go.Proofs.YtehojcocnndniaaW.PrintWords Wd Al Buf Cur
/-! What is put is taken. -/
theorem pto_ok {n s : Int} (L : List UInt8) (hc : pcode n s = 0) : pto L n s = pbytes L n s := by unfold pto; rw [if_pos hc]
theorem pbytes_app (L : List UInt8) (n s : Int) : ∃ R, pbytes L n s = L ++ R := ⟨_, by unfold pbytes; rw [List.append_assoc]⟩
theorem pto_app (L : List UInt8) (n s : Int) : ∃ R, pto L n s = L ++ R := by
  unfold pto
  split
  · exact pbytes_app L n s
  · exact ⟨[], (List.append_nil _).symm⟩
theorem stp_app (L : List UInt8) (x : Int × ByteArray) : ∃ R, stp L x = L ++ R := by
  obtain ⟨R1, h1⟩ := pto_app L x.1 2
  obtain ⟨R2, h2⟩ := pto_app (pto L x.1 2) (x.2.size : Int) 4
  refine ⟨R1 ++ (R2 ++ x.2.data.toList), ?_⟩
  unfold stp
  rw [h2, h1]
  simp only [List.append_assoc]
theorem fold_app : ∀ (l : List (Int × ByteArray)) (L : List UInt8), ∃ R, l.foldl stp L = L ++ R
  | [], L => ⟨[], (List.append_nil _).symm⟩
  | x :: l, L => by
    obtain ⟨R1, h1⟩ := stp_app L x
    obtain ⟨R2, h2⟩ := fold_app l (stp L x)
    exact ⟨R1 ++ R2, by rw [List.foldl_cons, h2, h1, List.append_assoc]⟩
theorem sec_back (L R : List UInt8) (x : Int × ByteArray) (last : Int) (h1 : 1 ≤ x.1) (h2 : x.1 ≤ 255) (h3 : last < x.1) (hz : x.2.size ≤ 100000) :
    sec (tx (stp L x ++ R)) L.length last = (x.1, x.2, (stp L x).length, 0) := by
  have c1 : pcode x.1 2 = 0 := pcode0 _ _ rfl (by show x.1 < 65536; omega)
  have c2 : pcode (x.2.size : Int) 4 = 0 := pcode0 _ _ rfl (by show (x.2.size : Int) < 4294967296; omega)
  have e : stp L x = pbytes (pbytes L x.1 2) (x.2.size : Int) 4 ++ x.2.data.toList := by unfold stp; rw [pto_ok _ c1, pto_ok _ c2]
  obtain ⟨R1, hR1⟩ := pbytes_app (pbytes L x.1 2) (x.2.size : Int) 4
  have r1 := ctake_back L x.1 2 c1 (by omega) (R1 ++ x.2.data.toList ++ R)
  have r2 := ctake_back (pbytes L x.1 2) (x.2.size : Int) 4 c2 (by omega) (x.2.data.toList ++ R)
  have r3 := ctext_back (pbytes (pbytes L x.1 2) (x.2.size : Int) 4) x.2 R
  have e1 : pbytes L x.1 2 ++ (R1 ++ x.2.data.toList ++ R) = stp L x ++ R := by rw [e, hR1]; simp only [List.append_assoc]
  have e2 : pbytes (pbytes L x.1 2) (x.2.size : Int) 4 ++ (x.2.data.toList ++ R) = stp L x ++ R := by rw [e]; simp only [List.append_assoc]
  rw [e1] at r1
  rw [e2] at r2
  rw [← e] at r3
  exact sec_eq r1 h1 h2 h3 r2 r3
theorem slp_back (R : List UInt8) : ∀ (l : List (Int × ByteArray)) (L : List UInt8) (last : Int) (out : List (Int × ByteArray)), kds last l = 0 → (∀ x ∈ l, x.2.size ≤ 100000) →
    slp (tx (l.foldl stp L ++ R)) l.length L.length last out = (out ++ l, (l.foldl stp L).length, 0)
  | [], L, last, out, _, _ => by simp [slp]
  | x :: l, L, last, out, hk, hz => by
    have hk2 := kds_ok (x :: l) last hk x List.mem_cons_self
    rw [kds, if_neg (by omega)] at hk
    by_cases hl : x.1 ≤ last
    · rw [if_pos hl] at hk; cases hk
    · rw [if_neg hl] at hk
      obtain ⟨R1, hR1⟩ := fold_app l (stp L x)
      have hs := sec_back L (R1 ++ R) x last hk2.1 hk2.2 (by omega) (hz x List.mem_cons_self)
      have e : stp L x ++ (R1 ++ R) = l.foldl stp (stp L x) ++ R := by rw [hR1, List.append_assoc]
      rw [e] at hs
      rw [List.foldl_cons, List.length_cons, slp, hs]
      dsimp only
      rw [if_neg (fun h => h rfl), slp_back R l (stp L x) x.1 (out ++ [(x.1, x.2)]) hk (fun y hy => hz y (List.mem_cons_of_mem _ hy)), List.append_assoc]
      rfl
theorem gapv4 (a : Nat) : gapv (a : Int) 4 = (-(a : Int)) % 4 := by
  unfold gapv
  rw [if_neg (by omega), if_pos (show sz 4 = true from rfl)]
theorem gap_fil (P : List UInt8) : gapv ((fil P).length : Int) 4 = 0 := by
  unfold fil
  rw [List.length_append, List.length_replicate, gapv4, gapv4]
  omega
theorem iend_eq (P : List UInt8) : iend P = pbytes P (CrcP.num (CrcP.sum (Crc.bytes (tx (fil P))))) 4 ∧ iend P = fil P ++ nbytes (CrcP.num (CrcP.sum (Crc.bytes (tx (fil P))))) 4 ∧ pcode (CrcP.num (CrcP.sum (Crc.bytes (tx (fil P))))) 4 = 0 := by
  have hc : pcode (CrcP.num (CrcP.sum (Crc.bytes (tx (fil P))))) 4 = 0 := pcode0 _ _ rfl (CrcP.num_hi _)
  have h2 : iend P = fil P ++ nbytes (CrcP.num (CrcP.sum (Crc.bytes (tx (fil P))))) 4 := by
    unfold iend
    rw [pto_ok _ hc]
    unfold pbytes
    rw [gap_fil]
    simp
  refine ⟨?_, h2, hc⟩
  rw [h2]
  unfold pbytes fil
  rfl
theorem extract_pre (A B : List UInt8) : (tx (A ++ B)).extract 0 A.length = tx A := by
  have := extract_mid (tx []) (tx A) (tx B)
  rw [← tx_app, ← tx_app, List.nil_append] at this
  rw [show (tx []).size = 0 from rfl, Nat.zero_add, tx_size] at this
  exact this
theorem crc_bytes_tx (L : List UInt8) : Crc.bytes (tx L) = L := rfl
theorem ipt_ok {l : List (Int × ByteArray)} {s : ByteArray} (h : ipt l = (s, 0)) : kds 0 l = 0 ∧ ¬ 65536 < smz l ∧ ¬ 65536 < ilen l ∧ s = tx (iend (bod l (ilen l))) := by
  unfold ipt at h
  by_cases h1 : kds 0 l ≠ 0
  · rw [if_pos h1] at h
    simp only [Prod.mk.injEq] at h
    exact absurd h.2 h1
  · rw [if_neg h1] at h
    by_cases h2 : 65536 < smz l
    · rw [if_pos h2] at h
      simp only [Prod.mk.injEq] at h
      exact absurd h.2 (by decide)
    · rw [if_neg h2] at h
      by_cases h3 : 65536 < ilen l
      · rw [if_pos h3] at h
        simp only [Prod.mk.injEq] at h
        exact absurd h.2 (by decide)
      · rw [if_neg h3] at h
        simp only [Prod.mk.injEq] at h
        exact ⟨Classical.not_not.1 h1, h2, h3, h.1.symm⟩
set_option maxRecDepth 20000 in
/-- What is put is taken; its length is a multiple of four. -/
theorem put_take {l : List (Int × ByteArray)} {s : ByteArray} (hl : l.length ≤ 1000) (h : ipt l = (s, 0)) : itk s = (l, 0) ∧ s.size ≤ 65536 ∧ s.size % 4 = 0 := by
  obtain ⟨hk, hs, hi, rfl⟩ := ipt_ok h
  have hz : ∀ x ∈ l, x.2.size ≤ 65536 := fun x hx => mn_size (by have := smz_mem l x hx; omega)
  obtain ⟨N, hN⟩ : ∃ N : Nat, ilen l = (N : Int) := ⟨(ilen l).toNat, by have := ilen_eq l; omega⟩
  rw [hN] at hi ⊢
  have hcg := bod_congr l N 0 (by omega) (by decide)
  have hil : ilen l = ((bod l 0).length : Int) + (gapv (bod l 0).length 4 + 4) := rfl
  obtain ⟨i1, i2, i3⟩ := iend_eq (bod l N)
  have hc0 := CrcP.num_lo (CrcP.sum (Crc.bytes (tx (fil (bod l N)))))
  have hplen := pbytes_len (bod l N) i3
  rw [← i1] at hplen
  have hsize : (tx (iend (bod l N))).size = N := by rw [tx_size]; rw [hcg] at hplen; omega
  have hfl : (fil (bod l N)).length + 4 = N := by
    have := congrArg List.length i2
    rw [List.length_append, nbytes_len] at this
    have h4 : ((4 : Int)).toNat = 4 := rfl
    rw [tx_size] at hsize
    omega
  have hmod : N % 4 = 0 := by
    have hg := gap_fil (bod l N)
    unfold gapv at hg
    rw [if_neg (by omega), if_pos (show sz 4 = true from rfl)] at hg
    omega
  refine ⟨?_, by rw [hsize]; omega, by rw [hsize]; exact hmod⟩
  -- the head
  have c1 : pcode (N : Int) 4 = 0 := pcode0 _ _ rfl (by show (N : Int) < 4294967296; omega)
  have c2 : pcode (l.length : Int) 4 = 0 := pcode0 _ _ rfl (by show (l.length : Int) < 4294967296; omega)
  have hd : hdr N (l.length : Int) = pbytes (pbytes [66, 83, 72, 49] N 4) (l.length : Int) 4 := by unfold hdr; rw [pto_ok _ c1, pto_ok _ c2]
  obtain ⟨R1, hR1⟩ := fold_app l (hdr N (l.length : Int))
  obtain ⟨R2, hR2⟩ := pbytes_app (pbytes [66, 83, 72, 49] N 4) (l.length : Int) 4
  obtain ⟨R3, hR3⟩ := pbytes_app [66, 83, 72, 49] N 4
  obtain ⟨R0, hR0⟩ := pbytes_app (bod l N) (CrcP.num (CrcP.sum (Crc.bytes (tx (fil (bod l N)))))) 4
  have hb : bod l N = l.foldl stp (hdr N (l.length : Int)) := rfl
  have E0 : iend (bod l N) = bod l N ++ R0 := by rw [i1, hR0]
  have E2 : iend (bod l N) = pbytes (pbytes [66, 83, 72, 49] N 4) (l.length : Int) 4 ++ (R1 ++ R0) := by rw [E0, hb, hR1, hd, List.append_assoc]
  have E1 : iend (bod l N) = pbytes [66, 83, 72, 49] N 4 ++ (R2 ++ (R1 ++ R0)) := by rw [E2, hR2, List.append_assoc]
  have Em : iend (bod l N) = [66, 83, 72, 49] ++ (R3 ++ (R2 ++ (R1 ++ R0))) := by rw [E1, hR3, List.append_assoc]
  have hmg : (tx (iend (bod l N))).extract 0 4 = ⟨#[66, 83, 72, 49]⟩ := by rw [Em]; exact extract_pre [66, 83, 72, 49] _
  have hbig : 16 ≤ N := by
    have h8 := pbytes_len [66, 83, 72, 49] c1
    have h12 := pbytes_len (pbytes [66, 83, 72, 49] N 4) c2
    have hg1 := gapv_le (([66, 83, 72, 49] : List UInt8).length : Int) 4
    have hg2 := gapv_le ((pbytes [66, 83, 72, 49] N 4).length : Int) 4
    have hg3 := gapv_le ((bod l N).length : Int) 4
    have h4 : (([66, 83, 72, 49] : List UInt8).length : Int) = 4 := rfl
    have e := congrArg List.length E2
    rw [List.length_append] at e
    rw [tx_size] at hsize
    have h0 := pbytes_len (bod l N) i3
    rw [← i1] at h0
    have e5 : (bod l N).length = (pbytes (pbytes [66, 83, 72, 49] N 4) (l.length : Int) 4).length + R1.length := by rw [hb, hR1, hd, List.length_append]
    omega
  have t1 : Img.h1 (tx (iend (bod l N))) = ((tx (iend (bod l N))).extract 0 4, 4, 0) := by
    unfold Img.h1 ctext
    rw [if_pos rfl, if_neg (by decide), if_neg (by rw [hsize]; omega)]
    rfl
  have t2 : Img.h2 (tx (iend (bod l N))) = ((N : Int), ((pbytes [66, 83, 72, 49] N 4).length : Int), 0) := by
    unfold Img.h2
    rw [t1]
    have := ctake_back [66, 83, 72, 49] N 4 c1 (by omega) (R2 ++ (R1 ++ R0))
    rw [← E1] at this
    exact this
  have t3 : Img.h3 (tx (iend (bod l N))) = ((l.length : Int), ((hdr N (l.length : Int)).length : Int), 0) := by
    unfold Img.h3
    rw [t2]
    have := ctake_back (pbytes [66, 83, 72, 49] N 4) (l.length : Int) 4 c2 (by omega) (R1 ++ R0)
    rw [← E2, ← hd] at this
    dsimp only
    rw [Int.toNat_natCast]
    exact this
  have t4 : ihd (tx (iend (bod l N))) = ((l.length : Int), 0) := by
    unfold ihd
    rw [t3, t2]
    dsimp only
    rw [if_neg (fun h => h rfl), if_neg (fun h => h (by rw [hsize]))]
  have t5 := slp_back R0 l (hdr N (l.length : Int)) 0 [] hk (fun x hx => Nat.le_trans (hz x hx) (by decide))
  rw [← hb, ← E0, List.nil_append] at t5
  have t6 := ctake_back (bod l N) (CrcP.num (CrcP.sum (Crc.bytes (tx (fil (bod l N)))))) 4 i3 hc0 []
  rw [List.append_nil, ← i1] at t6
  have t7 : ien (tx (iend (bod l N))) (bod l N).length 0 = 0 := by
    unfold ien
    rw [t6]
    dsimp only
    have hlen : (iend (bod l N)).length = N := by rw [← tx_size]; exact hsize
    have hcs : csum (tx (iend (bod l N))) (((iend (bod l N)).length : Int) - 4).toNat = CrcP.num (CrcP.sum (Crc.bytes (tx (fil (bod l N))))) := by
      unfold csum
      rw [hlen, show ((N : Int) - 4).toNat = (fil (bod l N)).length from by omega]
      conv => lhs; rw [i2]
      rw [extract_pre]
    rw [if_neg (fun h => h rfl), hcs, if_neg (fun h => h rfl)]
    unfold cdone
    rw [Int.toNat_natCast, tx_size]
    rw [if_neg (fun h => Nat.lt_irrefl _ h.2)]
  unfold itk
  rw [if_neg (by rw [hsize]; omega), if_neg (by rw [hsize]; omega), if_neg (fun h => h hmg), t4, t3]
  dsimp only
  rw [if_neg (fun h => h rfl), Int.toNat_natCast, Int.toNat_natCast, t5]
  dsimp only
  rw [if_neg (fun h => h rfl), t7, if_neg (fun h => h rfl)]
/-! The sum of all. -/
theorem emb_of (x : BitVec 8) : CrcP.emb (UInt8.ofBitVec x) = x.setWidth 32 := rfl
theorem nbytes_num (x : BitVec 32) : nbytes (CrcP.num x) 4 = [UInt8.ofBitVec (x.setWidth 8), UInt8.ofBitVec ((x >>> (8 : Nat)).setWidth 8), UInt8.ofBitVec ((x >>> (16 : Nat)).setWidth 8), UInt8.ofBitVec ((x >>> (24 : Nat)).setWidth 8)] := by
  have hb : ∀ (n : Nat) (y : BitVec 8), y.toNat = n % 256 → UInt8.ofNat n = UInt8.ofBitVec y := by
    intro n y h
    apply UInt8.toNat_inj.1
    rw [UInt8.toNat_ofNat']
    show n % 2 ^ 8 = y.toNat
    rw [h]
  unfold nbytes
  show (strOfNums (le (CrcP.num x) 4)).data.toList = _
  unfold CrcP.num
  simp only [le, strOfNums, List.map_cons, List.map_nil]
  have e : ∀ a b : Nat, ((a : Int) / 256 : Int) = ((a / 256 : Nat) : Int) ∧ ((a : Int) % 256).toNat = a % 256 := fun a b => ⟨rfl, by omega⟩
  rw [(e x.toNat 0).1, (e (x.toNat / 256) 0).1, (e (x.toNat / 256 / 256) 0).1, (e x.toNat 0).2, (e (x.toNat / 256) 0).2, (e (x.toNat / 256 / 256) 0).2, (e (x.toNat / 256 / 256 / 256) 0).2]
  rw [hb (x.toNat % 256) (x.setWidth 8) (by rw [BitVec.toNat_setWidth]; omega),
    hb (x.toNat / 256 % 256) ((x >>> (8 : Nat)).setWidth 8) (by rw [BitVec.toNat_setWidth, BitVec.toNat_ushiftRight, Nat.shiftRight_eq_div_pow]; omega),
    hb (x.toNat / 256 / 256 % 256) ((x >>> (16 : Nat)).setWidth 8) (by rw [BitVec.toNat_setWidth, BitVec.toNat_ushiftRight, Nat.shiftRight_eq_div_pow]; omega),
    hb (x.toNat / 256 / 256 / 256 % 256) ((x >>> (24 : Nat)).setWidth 8) (by rw [BitVec.toNat_setWidth, BitVec.toNat_ushiftRight, Nat.shiftRight_eq_div_pow]; omega)]
theorem quad_num (x : BitVec 32) : CrcP.quad (UInt8.ofBitVec (x.setWidth 8)) (UInt8.ofBitVec ((x >>> (8 : Nat)).setWidth 8)) (UInt8.ofBitVec ((x >>> (16 : Nat)).setWidth 8)) (UInt8.ofBitVec ((x >>> (24 : Nat)).setWidth 8)) = x := by
  unfold CrcP.quad
  simp only [emb_of]
  apply BitVec.eq_of_getLsbD_eq
  intro i hi
  simp only [BitVec.getLsbD_xor, BitVec.getLsbD_shiftLeft, BitVec.getLsbD_setWidth, BitVec.getLsbD_ushiftRight]
  by_cases h1 : i < 8
  · simp [h1, hi, show i < 16 by omega, show i < 24 by omega]
  · by_cases h2 : i < 16
    · simp [h1, hi, h2, show i < 24 by omega, show i - 8 < 8 by omega, show i - 8 < 32 by omega, show 8 + (i - 8) = i by omega]
    · by_cases h3 : i < 24
      · simp [h1, hi, h2, h3, show ¬ i - 8 < 8 by omega, show i - 16 < 8 by omega, show i - 16 < 32 by omega, show i - 8 < 32 by omega, show 16 + (i - 16) = i by omega]
      · simp [h1, hi, h2, h3, show ¬ i - 8 < 8 by omega, show ¬ i - 16 < 8 by omega, show i - 24 < 8 by omega, show i - 24 < 32 by omega, show i - 16 < 32 by omega, show i - 8 < 32 by omega, show 24 + (i - 24) = i by omega]
theorem stepL_residue (r : BitVec 32) : CrcP.stepL r (nbytes (CrcP.num (~~~ r)) 4) = CrcP.shN 32 (BitVec.allOnes 32) := by
  rw [nbytes_num, CrcP.stepL_quad, quad_num]
  congr 1
  have h : ∀ x : BitVec 32, x ^^^ ~~~ x = BitVec.allOnes 32 := fun x => by
    apply BitVec.eq_of_getLsbD_eq
    intro i hi
    rw [BitVec.getLsbD_xor, BitVec.getLsbD_not, BitVec.getLsbD_allOnes]
    cases x.getLsbD i <;> simp [hi]
  exact h r
/-- With its sum behind it, every text has one sum. -/
theorem sum_whole (F : List UInt8) : CrcP.sum (F ++ nbytes (CrcP.num (CrcP.sum F)) 4) = ~~~ (CrcP.shN 32 (BitVec.allOnes 32)) := by
  unfold CrcP.sum CrcP.more
  rw [CrcP.stepL_append]
  rw [stepL_residue]
theorem iend_sum (P : List UInt8) : CrcP.sum (iend P) = ~~~ (CrcP.shN 32 (BitVec.allOnes 32)) := by
  rw [(iend_eq P).2.1]
  exact sum_whole (fil P)
end Go.Proofs.Ytehojcocnndniaa.Img
namespace Go.Proofs.Ytehojcocnndniaa.Img
open Go.RowKit Base Sp Flat Go.Proofs.YtehojcocnndniaaW.PrintWords Wd Al Buf Cur
/-! What is taken is put so. -/
/-- The bytes of a text. -/
def by_ (b : ByteArray) : List UInt8 := b.data.toList
theorem by_len (b : ByteArray) : (by_ b).length = b.size := rfl
theorem tx_by (b : ByteArray) : tx (by_ b) = b := rfl
theorem by_tx (L : List UInt8) : by_ (tx L) = L := by unfold by_ tx; simp
theorem nb_cv (b : ByteArray) (a : Nat) (s : Int) (h : a + s.toNat ≤ b.size) : nbytes (Call.cv b a s) s = ((by_ b).drop a).take s.toNat := by
  unfold nbytes Call.cv by_
  rw [Call.le_lev (fun i => bt b ((a : Int) + i)) (fun i => bt_range b _)]
  apply List.ext_getElem
  · simp [strOfNums]
    have : b.data.size = b.size := rfl
    omega
  · intro i h1 h2
    have hi : a + i < b.size := by
      simp at h2
      have : b.data.size = b.size := rfl
      omega
    have hb := bt_get b (a + i) hi
    simp [strOfNums]
    rw [show (a : Int) + (i : Int) = ((a + i : Nat) : Int) from by omega, hb]
    simp
    rfl
theorem pad_inv (b : ByteArray) : ∀ (g a : Nat), pad b g a = 0 → a + g ≤ b.size ∧ ((by_ b).drop a).take g = List.replicate g 0 ∨ g = 0
  | 0, a, _ => .inr rfl
  | g + 1, a, h => by
    left
    rw [pad] at h
    by_cases hlt : a < b.size
    · rw [dif_pos hlt] at h
      by_cases hz : b[a] = 0
      · rw [if_pos hz] at h
        have hlt2 : a < (by_ b).length := hlt
        have hd : (by_ b).drop a = 0 :: (by_ b).drop (a + 1) := by
          rw [List.drop_eq_getElem_cons hlt2]
          have h9 : (by_ b)[a]'hlt2 = 0 := hz
          rw [h9]
        rw [hd, List.take_succ_cons, List.replicate_succ]
        rcases pad_inv b g (a + 1) h with ⟨h1, h2⟩ | h1
        · exact ⟨by omega, by rw [h2]⟩
        · subst h1
          exact ⟨by omega, by simp⟩
      · rw [if_neg hz] at h
        cases h
    · rw [dif_neg hlt] at h
      cases h
theorem take_add_ (L : List UInt8) (a k : Nat) : L.take (a + k) = L.take a ++ (L.drop a).take k := List.take_add
theorem ctake_inv {b : ByteArray} {a a2 : Nat} {s n : Int} (ha : a ≤ b.size) (h : ctake b a 0 s = (n, (a2 : Int), 0)) :
    (by_ b).take a2 = pbytes ((by_ b).take a) n s ∧ pcode n s = 0 ∧ 0 ≤ n ∧ a2 ≤ b.size ∧ a ≤ a2 := by
  have hg := gapv_le a s
  unfold ctake at h
  rw [if_neg (fun h => h rfl)] at h
  by_cases h2 : sz s = false
  · rw [if_pos h2] at h
    simp only [Prod.mk.injEq] at h
    exact absurd h.2.2 (by decide)
  · rw [if_neg h2] at h
    have hs : sz s = true := by simpa using h2
    have hc := sz_cases hs
    by_cases h3 : pad b (gapv a s).toNat a ≠ 0
    · rw [if_pos h3] at h
      simp only [Prod.mk.injEq] at h
      exact absurd h.2.2 h3
    · rw [if_neg h3] at h
      by_cases h4 : (takev b ((a : Int) + gapv a s) s).2 ≠ 0
      · rw [if_pos h4] at h
        simp only [Prod.mk.injEq] at h
        exact absurd h.2.2 (by decide)
      · rw [if_neg h4] at h
        simp only [Prod.mk.injEq] at h
        obtain ⟨e1, e2, _⟩ := h
        have h5 : ¬ ((b.size : Int) < (a : Int) + gapv a s + s) := fun h => h4 ((takev_err b _ s (by omega) (by omega)).2 h)
        obtain ⟨g, hgn⟩ : ∃ g : Nat, gapv a s = (g : Int) := ⟨(gapv a s).toNat, by omega⟩
        rw [hgn] at e1 e2 h5 h3
        have hcv := Call.takev_cv b ((a + g : Nat) : Int) s (by omega) (by omega) (by omega)
        rw [show ((a : Int) + (g : Int)) = ((a + g : Nat) : Int) from by omega, hcv] at e1
        have e1' : Call.cv b ((a + g : Nat) : Int) s = n := e1
        have ha2 : a2 = a + g + s.toNat := by omega
        have hnb := nb_cv b (a + g) s (by omega)
        rw [e1'] at hnb
        have hr := Call.cv_range b ((a + g : Nat) : Int) s
        rw [e1', pw_pow hs] at hr
        have hp := pad_inv b g a (by rw [Int.toNat_natCast] at h3; exact Classical.not_not.1 h3)
        have hz : ((by_ b).drop a).take g = List.replicate g 0 := by
          rcases hp with ⟨_, hp⟩ | hp
          · exact hp
          · subst hp; rfl
        refine ⟨?_, pcode0 n s hs hr.2, hr.1, by omega, by omega⟩
        have hlen : ((by_ b).take a).length = a := by rw [List.length_take, by_len]; omega
        unfold pbytes
        rw [hlen, hgn, Int.toNat_natCast, ha2, take_add_, take_add_, hz, hnb]
theorem ctext_inv {b : ByteArray} {a a2 : Nat} {n : Int} {t : ByteArray} (ha : a ≤ b.size) (h : ctext b a 0 n = (t, (a2 : Int), 0)) :
    (by_ b).take a2 = (by_ b).take a ++ t.data.toList ∧ (t.size : Int) = n ∧ a2 ≤ b.size ∧ a ≤ a2 := by
  unfold ctext at h
  rw [if_pos rfl] at h
  by_cases h1 : n < 0
  · rw [if_pos h1] at h
    simp only [Prod.mk.injEq] at h
    exact absurd h.2.2 (by decide)
  · rw [if_neg h1] at h
    by_cases h2 : (b.size : Int) - a < n
    · rw [if_pos h2] at h
      simp only [Prod.mk.injEq] at h
      exact absurd h.2.2 (by decide)
    · rw [if_neg h2] at h
      simp only [Prod.mk.injEq] at h
      obtain ⟨e1, e2, _⟩ := h
      have ha2 : a2 = a + n.toNat := by omega
      have ht : t.data.toList = ((by_ b).drop a).take n.toNat := by
        rw [← e1, ByteArray.data_extract, Array.toList_extract, List.extract_eq_take_drop, Nat.add_sub_cancel_left]
        rfl
      refine ⟨by rw [ha2, take_add_, ht], ?_, by omega, by omega⟩
      rw [← e1, ByteArray.size_extract]
      omega
theorem sec_inv {b : ByteArray} {a a2 : Nat} {last k : Int} {t : ByteArray} (ha : a ≤ b.size) (h : sec b a last = (k, t, a2, 0)) :
    (by_ b).take a2 = stp ((by_ b).take a) (k, t) ∧ 1 ≤ k ∧ k ≤ 255 ∧ last < k ∧ a2 ≤ b.size ∧ a ≤ a2 := by
  by_cases hb : sbad b a 0 last ≠ 0
  · rw [sec_bad hb] at h
    simp only [Prod.mk.injEq] at h
    exact absurd h.2.2.2 hb
  · obtain ⟨n1, a1, e1, r1, l1⟩ := ctake_ex b a 0 2 ha
    obtain ⟨n2, a2', e2, r2, l2⟩ := ctake_ex b a1 0 4 l1
    obtain ⟨s, a3, e3, r3, l3⟩ := ctext_ex b a2' e2 n2 l2
    have hb0 : sbad b a 0 last = 0 := Classical.not_not.1 hb
    unfold sbad k1 at hb0
    rw [r1] at hb0
    have q1 : e1 = 0 := by
      by_cases q : e1 = 0
      · exact q
      · rw [if_pos q] at hb0; exact hb0
    subst q1
    rw [if_neg (fun h => h rfl)] at hb0
    have q2 : ¬ (n1 < 1 ∨ 255 < n1) := fun q => by rw [if_pos q] at hb0; cases hb0
    rw [if_neg q2] at hb0
    have q3 : ¬ n1 ≤ last := fun q => by rw [if_pos q] at hb0; cases hb0
    have e := sec_eq (last := last) r1 (by omega) (by omega) (by omega) r2 r3
    rw [e] at h
    simp only [Prod.mk.injEq] at h
    obtain ⟨rfl, rfl, rfl, he3⟩ := h
    subst he3
    -- the text is taken without an error, so was its length
    have q4 : e2 = 0 := by
      unfold ctext at r3
      by_cases q : e2 = 0
      · exact q
      · rw [if_neg q] at r3
        simp only [Prod.mk.injEq] at r3
        exact r3.2.2
    subst q4
    obtain ⟨i1, c1, g1, _, o1⟩ := ctake_inv ha r1
    obtain ⟨i2, c2, g2, _, o2⟩ := ctake_inv l1 r2
    obtain ⟨i3, g3, _, o3⟩ := ctext_inv l2 r3
    refine ⟨?_, by omega, by omega, by omega, l3, by omega⟩
    unfold stp
    dsimp only
    rw [pto_ok _ c1, ← i1, g3, pto_ok _ c2, ← i2, i3]
theorem slp_inv {b : ByteArray} : ∀ (n a : Nat) (last : Int) (out m : List (Int × ByteArray)) (a2 : Nat), a ≤ b.size → slp b n a last out = (m, a2, 0) →
    ∃ m', m = out ++ m' ∧ m'.length = n ∧ (by_ b).take a2 = m'.foldl stp ((by_ b).take a) ∧ kds last m' = 0 ∧ a2 ≤ b.size
  | 0, a, last, out, m, a2, ha, h => by
    rw [slp] at h
    simp only [Prod.mk.injEq] at h
    obtain ⟨rfl, rfl, _⟩ := h
    exact ⟨[], (List.append_nil _).symm, rfl, rfl, rfl, ha⟩
  | n + 1, a, last, out, m, a2, ha, h => by
    rw [slp] at h
    obtain ⟨k, t, a3, e, hsec⟩ : ∃ k t a3 e, sec b a last = (k, t, a3, e) := ⟨_, _, _, _, rfl⟩
    rw [hsec] at h
    dsimp only at h
    by_cases he : e ≠ 0
    · rw [if_pos he] at h
      simp only [Prod.mk.injEq] at h
      exact absurd h.2.2 he
    · rw [if_neg he] at h
      obtain rfl : e = 0 := Classical.not_not.1 he
      obtain ⟨i1, g1, g2, g3, l3, _⟩ := sec_inv ha hsec
      obtain ⟨m', e1, e2, e3, e4, e5⟩ := slp_inv n a3 k (out ++ [(k, t)]) m a2 l3 h
      refine ⟨(k, t) :: m', by rw [e1, List.append_assoc]; rfl, by rw [List.length_cons, e2], ?_, ?_, e5⟩
      · rw [List.foldl_cons, ← i1]
        exact e3
      · rw [kds, if_neg (by dsimp only; omega), if_neg (by dsimp only; omega)]
        exact e4
theorem tot_fold : ∀ (l : List (Int × ByteArray)) (L : List UInt8), L.length + tot l ≤ (l.foldl stp L).length
  | [], L => Nat.le_refl _
  | x :: l, L => by
    have h := tot_fold l (stp L x)
    obtain ⟨R1, h1⟩ := pto_app L x.1 2
    obtain ⟨R2, h2⟩ := pto_app (pto L x.1 2) (x.2.size : Int) 4
    have hs : (stp L x).length = (pto (pto L x.1 2) (x.2.size : Int) 4).length + x.2.size := by unfold stp; rw [List.length_append]; rfl
    rw [h2, h1, List.length_append, List.length_append] at hs
    rw [List.foldl_cons, tot]
    omega
set_option maxRecDepth 20000 in
/-- What is taken is put so. -/
theorem take_put {b : ByteArray} {m : List (Int × ByteArray)} (h : itk b = (m, 0)) : ipt m = (b, 0) ∧ b.size ≤ 65536 ∧ (∃ P, b = tx (iend P)) := by
  unfold itk at h
  by_cases h1 : 65536 < b.size
  · rw [if_pos h1] at h; simp only [Prod.mk.injEq] at h; exact absurd h.2 (by decide)
  rw [if_neg h1] at h
  by_cases h2 : b.size < 4
  · rw [if_pos h2] at h; simp only [Prod.mk.injEq] at h; exact absurd h.2 (by decide)
  rw [if_neg h2] at h
  by_cases h3 : b.extract 0 4 ≠ ⟨#[66, 83, 72, 49]⟩
  · rw [if_pos h3] at h; simp only [Prod.mk.injEq] at h; exact absurd h.2 (by decide)
  rw [if_neg h3] at h
  have hmg := Classical.not_not.1 h3
  by_cases h4 : (ihd b).2 ≠ 0
  · rw [if_pos h4] at h; simp only [Prod.mk.injEq] at h; exact absurd h.2 h4
  rw [if_neg h4] at h
  have hh1 : Img.h1 b = (b.extract 0 4, 4, 0) := by
    unfold Img.h1 ctext
    rw [if_pos rfl, if_neg (by decide), if_neg (by omega)]
    rfl
  have hh2 : Img.h2 b = ctake b 4 0 4 := by unfold Img.h2; rw [hh1]; rfl
  obtain ⟨n2, a2, e2, r2, l2⟩ := ctake_ex b 4 0 4 (by omega)
  obtain ⟨n3, a3, e3, r3, l3⟩ := ctake_ex b a2 e2 4 l2
  have q2 : Img.h2 b = (n2, (a2 : Int), e2) := hh2.trans r2
  have q3 : Img.h3 b = (n3, (a3 : Int), e3) := by unfold Img.h3; rw [q2]; exact r3
  have hihd : ihd b = if e3 ≠ 0 then (0, e3) else if n2 ≠ b.size then (0, 7) else (n3, 0) := by unfold ihd; rw [q3, q2]
  have he3 : e3 = 0 := by
    by_cases q : e3 = 0
    · exact q
    · rw [hihd, if_pos q] at h4; exact absurd (Classical.not_not.1 h4) q
  subst he3
  have hn2 : n2 = b.size := by
    by_cases q : n2 = b.size
    · exact q
    · rw [hihd, if_neg (fun h => h rfl), if_pos q] at h4; exact absurd (Classical.not_not.1 h4) (by decide)
  have he2 : e2 = 0 := by
    unfold ctake at r3
    by_cases q : e2 ≠ 0
    · rw [if_pos q] at r3; simp only [Prod.mk.injEq] at r3; exact r3.2.2
    · exact Classical.not_not.1 q
  subst he2
  have hi2 : ihd b = (n3, 0) := by rw [hihd, if_neg (fun h => h rfl), if_neg (fun h => h hn2)]
  have g3 := ctake_range (by decide) r3
  obtain ⟨N, rfl⟩ : ∃ N : Nat, n3 = (N : Int) := ⟨n3.toNat, by omega⟩
  rw [hi2, q3] at h
  dsimp only at h
  rw [Int.toNat_natCast, Int.toNat_natCast] at h
  obtain ⟨m0, a4, e4, hsl⟩ : ∃ m0 a4 e4, slp b N a3 0 [] = (m0, a4, e4) := ⟨_, _, _, rfl⟩
  rw [hsl] at h
  dsimp only at h
  by_cases h5 : e4 ≠ 0
  · rw [if_pos h5] at h; simp only [Prod.mk.injEq] at h; exact absurd h.2 h5
  rw [if_neg h5] at h
  obtain rfl : e4 = 0 := Classical.not_not.1 h5
  by_cases h6 : ien b a4 0 ≠ 0
  · rw [if_pos h6] at h; simp only [Prod.mk.injEq] at h; exact absurd h.2 h6
  rw [if_neg h6] at h
  simp only [Prod.mk.injEq] at h
  obtain ⟨rfl, _⟩ := h
  have hien := Classical.not_not.1 h6
  obtain ⟨i2, c2, g2, _, _⟩ := ctake_inv (show 4 ≤ b.size by omega) r2
  obtain ⟨i3, c3, _, _, _⟩ := ctake_inv l2 r3
  obtain ⟨m', em, hlen, hfold, hk, l4⟩ := slp_inv N a3 0 [] m0 a4 l3 hsl
  rw [List.nil_append] at em
  subst em
  -- the end
  obtain ⟨n5, a5, e5, r5, l5⟩ := ctake_ex b a4 0 4 l4
  unfold ien at hien
  rw [r5] at hien
  dsimp only at hien
  have he5 : e5 = 0 := by
    by_cases q : e5 = 0
    · exact q
    · rw [if_pos q] at hien; exact hien
  subst he5
  rw [if_neg (fun h => h rfl)] at hien
  have hcs : n5 = csum b ((a5 : Int) - 4).toNat := by
    by_cases q : n5 = csum b ((a5 : Int) - 4).toNat
    · exact q
    · rw [if_pos q] at hien; exact absurd hien (by decide)
  rw [if_neg (fun h => h hcs)] at hien
  have ha5 : a5 = b.size := by
    unfold cdone at hien
    rw [Int.toNat_natCast] at hien
    by_cases q : a5 < b.size
    · rw [if_pos ⟨rfl, q⟩] at hien; cases hien
    · omega
  subst ha5
  obtain ⟨i5, c5, g5, _, _⟩ := ctake_inv l4 r5
  have hb : (by_ b).take b.size = by_ b := List.take_of_length_le (Nat.le_refl _)
  rw [hb] at i5
  have hm4 : (by_ b).take 4 = [66, 83, 72, 49] := by
    have := congrArg (fun x : ByteArray => x.data.toList) hmg
    rw [ByteArray.data_extract, Array.toList_extract, List.extract_eq_take_drop] at this
    exact this
  have hP : (by_ b).take a4 = bod m0 b.size := by
    have c2' : pcode (b.size : Int) 4 = 0 := by rw [← hn2]; exact c2
    rw [hfold, i3, i2, hm4, hn2]
    unfold bod hdr
    rw [hlen, pto_ok _ c3, pto_ok _ c2']
  rw [hP] at i5
  have h4le := ctake_four b a4 0 n5 b.size r5
  have hfl : by_ b = fil (bod m0 b.size) ++ nbytes n5 4 := by
    rw [i5]
    unfold pbytes fil
    rfl
  have hnl : (nbytes n5 4).length = 4 := nbytes_len n5 4
  have hfs : (fil (bod m0 b.size)).length = b.size - 4 := by
    have := congrArg List.length hfl
    rw [by_len, List.length_append, hnl] at this
    omega
  have hext : b.extract 0 ((b.size : Int) - 4).toNat = tx (fil (bod m0 b.size)) := by
    have h8 := extract_pre (fil (bod m0 b.size)) (nbytes n5 4)
    rw [← hfl, tx_by, hfs] at h8
    rw [show ((b.size : Int) - 4).toNat = b.size - 4 from by omega]
    exact h8
  have hn5 : n5 = CrcP.num (CrcP.sum (Crc.bytes (tx (fil (bod m0 b.size))))) := by
    rw [hcs]
    unfold csum
    rw [hext]
  have hend : by_ b = iend (bod m0 b.size) := by
    rw [(iend_eq (bod m0 b.size)).1, ← hn5]
    exact i5
  have hbt : b = tx (iend (bod m0 b.size)) := by rw [← hend]; rfl
  have hlen5 := pbytes_len (bod m0 b.size) c5
  rw [← i5, by_len] at hlen5
  have hcg := bod_congr m0 b.size 0 (by omega) (by decide)
  have hil : ilen m0 = b.size := by
    unfold ilen
    rw [← hcg]
    omega
  refine ⟨?_, by omega, ⟨_, hbt⟩⟩
  have htot : tot m0 ≤ 65536 := by
    have := tot_fold m0 (hdr b.size (m0.length : Int))
    have hb2 : (bod m0 b.size).length ≤ b.size := by rw [← hP, List.length_take]; omega
    unfold bod at hb2
    omega
  have hsm : ¬ 65536 < smz m0 := fun q => by have := (smz_tot m0).1.1 q; omega
  unfold ipt
  rw [if_neg (fun h => h hk), if_neg hsm, if_neg (by rw [hil]; omega), hil, ← hbt]
/-- Of two images that are unlike in four bytes side by side at most, one is none. -/
theorem burst_no {l m : List (Int × ByteArray)} {s b : ByteArray} (hs : ipt l = (s, 0)) (hb : itk b = (m, 0)) (k : Nat) (hz : b.size = s.size) (hd : ∀ i, i < k ∨ k + 4 ≤ i → (by_ s)[i]? = (by_ b)[i]?) : s = b := by
  obtain ⟨_, _, P, hP⟩ := take_put hb
  obtain ⟨_, _, _, hS⟩ := ipt_ok hs
  have h1 : CrcP.sum (by_ s) = ~~~ (CrcP.shN 32 (BitVec.allOnes 32)) := by rw [hS, by_tx]; exact iend_sum _
  have h2 : CrcP.sum (by_ b) = ~~~ (CrcP.shN 32 (BitVec.allOnes 32)) := by rw [hP, by_tx]; exact iend_sum _
  have h3 := (CrcP.burst (a := by_ s) (b := by_ b) k (by rw [by_len, by_len, hz]) hd).1 (h1.trans h2.symm)
  exact ByteArray.ext (Array.toList_inj.1 h3)
end Go.Proofs.Ytehojcocnndniaa.Img
namespace Go.Proofs.Ytehojcocnndniaa.PImageTakes
open Go.RowKit Go.Proofs.YtehojcocnndniaaW.PrintWords Go.Proofs.YtehojcocnndniaaW.PrintLast Go.Proofs.YtehojcocnndniaaW.PrintMore
attribute [local go_sem] max2_int min2_int max_two min_two max_three min_three max_four min_four   -- for this text's walks alone

attribute [local go_sem high] eqA98
/-! ### broadsheetref25_Same: function 34 -/
def broadsheetref25_Same.l0 : Nat → List (S98) → List (S98) → Int → Option (Bool)
  | 0, _, _, _ => none
  | k + 1, x0, x1, x5 => if x5 < (x0.length : Int) then (if 0 ≤ x5 then (if x5 < (x1.length : Int) then (if (!(((rd_T98 x0 x5).f0) == ((rd_T98 x1 x5).f0)) || (!((((rd_T98 x0 x5).f1).toList) == (((rd_T98 x1 x5).f1).toList)))) = true then (some false) else (broadsheetref25_Same.l0 k x0 x1 (wrap64 (x5 + 1)))) else (none)) else (none)) else (some true)
def broadsheetref25_Same.f (k : Nat) (l0 : List (S98)) (l1 : List (S98)) : Option (Bool) := if (l0.length : Int) = (l1.length : Int) then (broadsheetref25_Same.l0 k l0 l1 0) else (some false)
theorem broadsheetref25_Same.mono_l : ∀ k, (∀ y0 y1 y2, LeO (broadsheetref25_Same.l0 k y0 y1 y2) (broadsheetref25_Same.l0 (k + 1) y0 y1 y2))
  | 0 => fun _ _ _ r h => by simp [broadsheetref25_Same.l0] at h
  | k + 1 => by
    have ih0 := broadsheetref25_Same.mono_l k
    · intro y0 y1 y2
      unfold broadsheetref25_Same.l0
      repeat' first
      | (with_reducible exact ih0 _ _ _)
      | (with_reducible exact LeO.refl _)
      | (with_reducible exact LeO.none _)
      | (with_reducible refine LeO.ite ?_ ?_)
      | (with_reducible refine LeO.bind ?_ (fun _ => ?_))
      | exact ih0 _ _ _
      | exact LeO.none _
      | refine LeO.ite ?_ ?_
      | refine LeO.bind ?_ (fun _ => ?_)
theorem broadsheetref25_Same.mono : ∀ a0 a1 k, LeO (broadsheetref25_Same.f k a0 a1) (broadsheetref25_Same.f (k + 1) a0 a1) := by
  intro a0 a1 k
  have ih0 := broadsheetref25_Same.mono_l k
  unfold broadsheetref25_Same.f
  repeat' first
      | (with_reducible exact ih0 _ _ _)
      | (with_reducible exact LeO.refl _)
      | (with_reducible exact LeO.none _)
      | (with_reducible refine LeO.ite ?_ ?_)
      | (with_reducible refine LeO.bind ?_ (fun _ => ?_))
      | exact ih0 _ _ _
      | exact LeO.none _
      | refine LeO.ite ?_ ?_
      | refine LeO.bind ?_ (fun _ => ?_)
set_option maxHeartbeats 8000000 in
set_option maxRecDepth 100000 in
theorem broadsheetref25_Same.calls (k : Nat) (A0 : Option Addr) (c0 : Nat) (l0 : List (S98)) (A1 : Option Addr) (c1 : Nat) (l1 : List (S98)) (r : Bool) (w : World) (hr0 : Kd.C k98 w A0 l0.length l0) (hc0 : l0.length ≤ c0) (hr1 : Kd.C k98 w A1 l1.length l1) (hc1 : l1.length ≤ c1) (h : broadsheetref25_Same.f k l0 l1 = some r) :
    Calls Try.prog 34 #[.slice A0 l0.length c0, .slice A1 l1.length c1] w fun e w' => e = .returned (.bool r) ∧ Drawn0 w w' := by
  have hu98 := Try.underlying98
  have HR0 := Aside0.mk hr0
  have HC0 := Aside0.mk hc0
  clear hr0 hc0
  have HR1 := Aside0.mk hr1
  have HC1 := Aside0.mk hc1
  clear hr1 hc1
  have H : (if (l0.length : Int) = (l1.length : Int) then (broadsheetref25_Same.l0 k l0 l1 0) else (some false)) = some r := h
  clear h
  by_cases c3 : (l0.length : Int) = (l1.length : Int)
  · rw [if_pos c3] at H
    have c3b0 : ((l0.length : Int) == (l1.length : Int)) = true := beq_iff_eq.mpr c3
    have c3b1 : ((l0.length : Int) != (l1.length : Int)) = false := bne_eq_false_iff_eq.mpr c3
    have c3b2 : (l0.length == l1.length) = true := by first | simpa using c3 | (simp at c3 ⊢; omega)
    clear c3
    have H' := Aside0.mk H
    clear H
    go_enter Try.func34, Try.ntmps34
    go_wp2
    repeat (go_quiet (fail); try go_wp2)
    go_loopg [5] k (fun kq v5 w' => ∃ (x5_1 : Int), v5 = .int .i64 x5_1 ∧ Aside0 (broadsheetref25_Same.l0 kq l0 l1 x5_1 = some r) ∧ Aside0 (kq ≤ k) ∧ Drawn0 w w')
    case atStart => exact ⟨(0), (by first | rfl | (simp; done) | (simp [*]; done)), H', ⟨Nat.le_refl _⟩, by repeat (first | exact Drawn0.refl _ | apply Drawn0.step)⟩
    case round =>
      clear H'
      try clear c1
      try clear p2
      try clear c3
      try clear c3b0
      try clear c3b1
      try clear c3b2
      obtain ⟨x5_1, rfl, HA, HK1, ⟨m1, rfl⟩⟩ := hrel
      cases gk with
      | zero => exact absurd HA.out (by simp [broadsheetref25_Same.l0])
      | succ k1 =>
        have H := HA.out
        clear HA
        simp only [broadsheetref25_Same.l0] at H
        by_cases c4 : x5_1 < (l0.length : Int)
        · rw [if_pos c4] at H
          have c4b0 : decide (x5_1 < (l0.length : Int)) = true := decide_eq_true c4
          clear c4
          by_cases c5 : 0 ≤ x5_1
          · rw [if_pos c5] at H
            have c5b0 : decide (0 ≤ x5_1) = true := decide_eq_true c5
            clear c5
            by_cases c6 : x5_1 < (l1.length : Int)
            · rw [if_pos c6] at H
              have c6b0 : decide (x5_1 < (l1.length : Int)) = true := decide_eq_true c6
              clear c6
              by_cases c7 : (!(((rd_T98 l0 x5_1).f0) == ((rd_T98 l1 x5_1).f0)) || (!((((rd_T98 l0 x5_1).f1).toList) == (((rd_T98 l1 x5_1).f1).toList)))) = true
              · rw [if_pos c7] at H
                have c7b0 : (!(((rd_T98 l0 x5_1).f0) == ((rd_T98 l1 x5_1).f0)) || (!((((rd_T98 l0 x5_1).f1).toList) == (((rd_T98 l1 x5_1).f1).toList)))) = true := c7
                clear c7
                obtain rfl := Option.some.inj H
                have p188 : 0 ≤ (x5_1 : Int) := of_decide_eq_true (by first | (with_reducible assumption) | assumption)
                have q188 : x5_1 < (l0.length : Int) := of_decide_eq_true (by first | (with_reducible assumption) | assumption)
                obtain ⟨ad188, e188, hx188_0, hx188_1⟩ := at_T98 HR0.out x5_1 p188 q188
                cases e188
                replace p188 := eq_true p188
                replace q188 := eq_true q188
                have p189 : 0 ≤ (x5_1 : Int) := of_decide_eq_true (by first | (with_reducible assumption) | assumption)
                have q189 : x5_1 < (l1.length : Int) := of_decide_eq_true (by first | (with_reducible assumption) | assumption)
                obtain ⟨ad189, e189, hx189_0, hx189_1⟩ := at_T98 HR1.out x5_1 p189 q189
                cases e189
                replace p189 := eq_true p189
                replace q189 := eq_true q189
                go_wp2
                repeat (go_quiet (fail); try go_wp2)
                go_ret
                exact ⟨by first | rfl | (simp; done) | (simp [*]; done), by repeat (first | exact Drawn0.refl _ | apply Drawn0.step)⟩
              · rw [if_neg c7] at H
                have c7b0 : (!(((rd_T98 l0 x5_1).f0) == ((rd_T98 l1 x5_1).f0)) || (!((((rd_T98 l0 x5_1).f1).toList) == (((rd_T98 l1 x5_1).f1).toList)))) = false := by simpa using c7
                clear c7
                have H' := Aside0.mk H
                clear H
                have p188 : 0 ≤ (x5_1 : Int) := of_decide_eq_true (by first | (with_reducible assumption) | assumption)
                have q188 : x5_1 < (l0.length : Int) := of_decide_eq_true (by first | (with_reducible assumption) | assumption)
                obtain ⟨ad188, e188, hx188_0, hx188_1⟩ := at_T98 HR0.out x5_1 p188 q188
                cases e188
                replace p188 := eq_true p188
                replace q188 := eq_true q188
                have p189 : 0 ≤ (x5_1 : Int) := of_decide_eq_true (by first | (with_reducible assumption) | assumption)
                have q189 : x5_1 < (l1.length : Int) := of_decide_eq_true (by first | (with_reducible assumption) | assumption)
                obtain ⟨ad189, e189, hx189_0, hx189_1⟩ := at_T98 HR1.out x5_1 p189 q189
                cases e189
                replace p189 := eq_true p189
                replace q189 := eq_true q189
                go_wp2
                repeat (go_quiet (fail); try go_wp2)
                go_roundg k1
                case measure => have := HK1.out; omega
                case rel => exact ⟨(wrap64 (x5_1 + 1)), (by first | rfl | (simp; done) | (simp [*]; done)), H', ⟨by have := HK1.out; omega⟩, by repeat (first | exact Drawn0.refl _ | apply Drawn0.step)⟩
            · rw [if_neg c6] at H
              exact absurd H (by simp)
          · rw [if_neg c5] at H
            exact absurd H (by simp)
        · rw [if_neg c4] at H
          have c4b0 : decide (x5_1 < (l0.length : Int)) = false := decide_eq_false c4
          clear c4
          obtain rfl := Option.some.inj H
          go_wp2
          repeat (go_quiet (fail); try go_wp2)
          go_ret
          exact ⟨by first | rfl | (simp; done) | (simp [*]; done), by repeat (first | exact Drawn0.refl _ | apply Drawn0.step)⟩
  · rw [if_neg c3] at H
    have c3b0 : ((l0.length : Int) == (l1.length : Int)) = false := beq_eq_false_iff_ne.mpr c3
    have c3b1 : ((l0.length : Int) != (l1.length : Int)) = true := bne_iff_ne.mpr c3
    have c3b2 : (l0.length == l1.length) = false := by first | simpa using c3 | (simp at c3 ⊢; omega)
    obtain rfl := Option.some.inj H
    go_enter Try.func34, Try.ntmps34
    go_wp2
    repeat (go_quiet (fail); try go_wp2)
    go_ret
    exact ⟨by first | rfl | (simp; done) | (simp [*]; done), by repeat (first | exact Drawn0.refl _ | apply Drawn0.step)⟩

end Go.Proofs.Ytehojcocnndniaa.PImageTakes
namespace Go.Proofs.Ytehojcocnndniaa.Img
open Go.RowKit Base Sp Flat Go.Proofs.YtehojcocnndniaaW.PrintWords Go.Proofs.YtehojcocnndniaaW.PrintLast Go.Proofs.YtehojcocnndniaaW.PrintMore Wd Al Buf Cur Go.Proofs.Ytehojcocnndniaa.PImageTakes
/-- Pairs as the program's sections. -/
def mkI (x : Int × ByteArray) : S102 := ⟨x.1, x.2⟩
theorem C_iso {α β : Type} {d : Kd α} {f : β → α} {w : World} {A : Option Addr} {n : Nat} {ys : List β} (h : Kd.C d w A n (ys.map f)) : Kd.C (Kd.iso d f) w A n ys := by
  obtain ⟨h1, h2, h3⟩ := h
  refine ⟨by rw [← h1, List.length_map], h2, fun hn => ?_⟩
  obtain ⟨ad, e, hc⟩ := h3 hn
  refine ⟨ad, e, fun j p hj => ?_⟩
  exact hc j (f p) (by rw [List.getElem?_map, hj]; rfl)
theorem C_mkI {w : World} {A : Option Addr} {l : List (Int × ByteArray)} (h : Kd.C kp w A l.length l) : Kd.C k102 w A (l.map mkI).length (l.map mkI) := by
  unfold k102
  refine C_iso ?_
  rw [List.map_map, List.length_map]
  have : ((fun x : S102 => (x.f0, x.f1)) ∘ mkI) = id := rfl
  rw [this, List.map_id]
  exact h
theorem rdI_at (l : List S102) (k : Nat) (hk : k < l.length) : rd_T102 l (k : Int) = l[k] := by
  unfold rd_T102
  rw [Int.toNat_natCast, List.getD_eq_getElem?_getD, List.getElem?_eq_getElem hk]
  rfl
theorem rdS_at (l : List S98) (k : Nat) (hk : k < l.length) : rd_T98 l (k : Int) = l[k] := by
  unfold rd_T98
  rw [Int.toNat_natCast, List.getD_eq_getElem?_getD, List.getElem?_eq_getElem hk]
  rfl
theorem w64s {k : Nat} (h : k ≤ 4611686018427387904) : wrap64 ((k : Int) + 1) = ((k + 1 : Nat) : Int) := by unfold wrap64; omega
def toS (x : S102) : S98 := ⟨x.f0, x.f1⟩
theorem theirs_from (l : List S102) (hl : l.length ≤ 5000000000) : ∀ (d i : Nat), i + d = l.length → Ev (fun k => broadsheetlaw25_theirs.l0 k l ((l.take i).map toS) (i : Int)) (l.map toS)
  | 0, i, h => by
    refine Ev.step (f := fun _ => some _) (fun k => ?_) (Ev.now _)
    simp only [broadsheetlaw25_theirs.l0]
    rw [if_neg (by omega), List.take_of_length_le (by omega)]
  | d + 1, i, h => by
    have hi : i < l.length := by omega
    have ih := theirs_from l hl d (i + 1) (by omega)
    rw [List.take_succ_eq_append_getElem hi, List.map_append] at ih
    refine Ev.step (fun k => ?_) ih
    simp only [broadsheetlaw25_theirs.l0]
    rw [if_pos (by omega), if_pos (by omega), if_pos (by rw [List.length_map, List.length_take]; omega), rdI_at l i hi, w64s (by omega)]
    rfl
theorem theirs_ev (l : List S102) (hl : l.length ≤ 5000000000) : Ev (fun k => broadsheetlaw25_theirs.f k l) (l.map toS) :=
  theirs_from l hl l.length 0 (by omega)
theorem same_from (l : List S98) (hl : l.length ≤ 5000000000) : ∀ (d i : Nat), i + d = l.length → Ev (fun k => broadsheetref25_Same.l0 k l l (i : Int)) true
  | 0, i, h => by
    refine Ev.step (f := fun _ => some _) (fun k => ?_) (Ev.now _)
    simp only [broadsheetref25_Same.l0]
    rw [if_neg (by omega)]
  | d + 1, i, h => by
    have hi : i < l.length := by omega
    have ih := same_from l hl d (i + 1) (by omega)
    refine Ev.step (fun k => ?_) ih
    simp only [broadsheetref25_Same.l0]
    rw [if_pos (by omega), if_pos (by omega), if_pos (by omega), if_neg (by simp), w64s (by omega)]
theorem same_ev (l : List S98) (hl : l.length ≤ 5000000000) : Ev (fun k => broadsheetref25_Same.f k l l) true := by
  unfold broadsheetref25_Same.f
  simp only [if_pos]
  exact same_from l hl l.length 0 (by omega)
end Go.Proofs.Ytehojcocnndniaa.Img
namespace Go.Proofs.Ytehojcocnndniaa.Img
open Go.RowKit Base Sp Flat Go.Proofs.YtehojcocnndniaaW.PrintWords Go.Proofs.YtehojcocnndniaaW.PrintMore Wd Al Buf Cur Go.Proofs.Ytehojcocnndniaa.PImagePuts
theorem secs_of {w : World} {A : Option Addr} {l : List S98} (h : Kd.C k102 w A (l.map toI).length (l.map toI)) : Secs w A (prs l) := by
  intro k hk
  have hkl : k < l.length := by rw [show (prs l).length = l.length from List.length_map _] at hk; exact hk
  obtain ⟨ad, e, c0, c1⟩ := at_T102 h (k : Int) (by omega) (by rw [List.length_map]; omega)
  rw [Int.toNat_natCast] at c0 c1
  have e2 : rd_T102 (l.map toI) (k : Int) = toI l[k] := by
    unfold rd_T102
    rw [Int.toNat_natCast, List.getD_eq_getElem?_getD, List.getElem?_map, List.getElem?_eq_getElem hkl]
    rfl
  rw [e2] at c0 c1
  have e3 : (prs l)[k]'hk = (l[k].f0, l[k].f1) := List.getElem_map _
  rw [e3]
  exact ⟨ad, e, c0, c1⟩
end Go.Proofs.Ytehojcocnndniaa.Img
namespace Go.Proofs.Ytehojcocnndniaa.Img
open Go.RowKit Base Sp Flat Go.Proofs.YtehojcocnndniaaW.PrintWords Go.Proofs.YtehojcocnndniaaW.PrintLast Go.Proofs.YtehojcocnndniaaW.PrintMore Wd Al Buf Cur
abbrev SP := Go.Proofs.Ytehojcocnndniaa.PImagePuts.S98
abbrev kSP := Go.Proofs.Ytehojcocnndniaa.PImagePuts.k98
abbrev kST := Go.Proofs.Ytehojcocnndniaa.PImageTakes.k98
theorem C_un {α β : Type} {d : Kd α} {f : β → α} {w : World} {A : Option Addr} {n : Nat} {ys : List β} (h : Kd.C (Kd.iso d f) w A n ys) : Kd.C d w A n (ys.map f) := by
  obtain ⟨h1, h2, h3⟩ := h
  refine ⟨by rw [List.length_map]; exact h1, h2, fun hn => ?_⟩
  obtain ⟨ad, e, hc⟩ := h3 hn
  refine ⟨ad, e, fun j p hj => ?_⟩
  rw [List.getElem?_map] at hj
  obtain ⟨q, hq, rfl⟩ := Option.map_eq_some_iff.1 hj
  exact hc j q hq
theorem C_toT {w : World} {A : Option Addr} {l : List SP} (h : Kd.C kSP w A l.length l) : Kd.C kST w A (prs l).length ((prs l).map mkS) := by
  have h1 : Kd.C kp w A l.length (prs l) := C_un h
  have e : (prs l).length = l.length := List.length_map _
  rw [e]
  unfold kST Go.Proofs.Ytehojcocnndniaa.PImageTakes.k98
  refine C_iso ?_
  rw [List.map_map]
  have : ((fun x : Go.Proofs.Ytehojcocnndniaa.PImageTakes.S98 => (x.f0, x.f1)) ∘ mkS) = id := rfl
  rw [this, List.map_id]
  exact h1
theorem secs_kp {w : World} {A : Option Addr} {l : List (Int × ByteArray)} (h : Kd.C kp w A l.length l) : Secs w A l := by
  intro k hk
  obtain ⟨_, _, h3⟩ := h
  obtain ⟨ad, e, hc⟩ := h3 (by omega)
  obtain ⟨c, c1, ⟨c0, c1', e1, e2, e3⟩, c3⟩ := hc k l[k] (List.getElem?_eq_getElem hk)
  have e2' : c0 = [.int .i64 l[k].1] := e2
  have e3' : c1' = [.string l[k].2] := e3
  subst e2' e3' e1
  refine ⟨ad, e, ?_, ?_⟩
  · have := c3 0 _ rfl
    rw [Nat.add_zero] at this
    exact this
  · have := c3 1 _ rfl
    have e4 : (⟨(ad.add (k * 2)).block, (ad.add (k * 2)).off + 1, none⟩ : Addr) = ad.add (k * 2 + 1) := by
      unfold Addr.add at *
      split <;> simp_all <;> omega
    rw [e4]
    exact this
theorem kds_len : ∀ (l : List (Int × ByteArray)) (last : Int), 0 ≤ last → last ≤ 255 → kds last l = 0 → (l.length : Int) + last ≤ 255
  | [], last, _, h, _ => by simpa using h
  | x :: l, last, h0, h1, hk => by
    rw [kds] at hk
    by_cases p : x.1 < 1 ∨ 255 < x.1
    · rw [if_pos p] at hk; cases hk
    · rw [if_neg p] at hk
      by_cases q : x.1 ≤ last
      · rw [if_pos q] at hk; cases hk
      · rw [if_neg q] at hk
        have := kds_len l x.1 (by omega) (by omega) hk
        rw [List.length_cons]
        omega
theorem itk_err {b : ByteArray} (h : (itk b).2 ≠ 0) : (itk b).1 = [] := by
  unfold itk at h ⊢
  split
  · rfl
  · rename_i h1
    rw [if_neg h1] at h
    split
    · rfl
    · rename_i h2
      rw [if_neg h2] at h
      split
      · rfl
      · rename_i h3
        rw [if_neg h3] at h
        split
        · rfl
        · rename_i h4
          rw [if_neg h4] at h
          split
          · rfl
          · rename_i h5
            rw [if_neg h5] at h
            split
            · rfl
            · rename_i h6
              rw [if_neg h6] at h
              exact absurd rfl h
set_option maxRecDepth 20000 in
set_option maxHeartbeats 4000000 in
theorem backs (A : Option Addr) (c : Nat) (l : List SP) (b : ByteArray) (w : World) (hC : Kd.C kSP w A l.length l) (hc : l.length ≤ c) (hS : Small l) :
    Calls Try.prog 9 #[.slice A l.length c, .string b] w fun e w' => e = .returned (.bool true) ∧ Below w.heap.size w w' := by
  obtain ⟨k0, hk0⟩ := Ev.rounds (great_ev l hS)
  have HG := Go.Proofs.Ytehojcocnndniaa.PImagePuts.broadsheetlaw25_Great.calls k0 A c l _ w hC hc hk0
  clear hk0
  cases hg : grt (prs l) with
  | true =>
    rw [hg] at HG
    clear hg hS
    go_enter Try.func9, Try.ntmps9
    go_wp2_with fail
    refine HG.mono ?_
    rintro e w1 ⟨rfl, b1⟩
    go_wp2_with fail
    refine (awake _).mono ?_
    rintro e w2 ⟨rfl, b2⟩
    go_wp2
    go_ret
    exact ⟨rfl, bstep b1 b2⟩
  | false =>
    rw [hg] at HG
    obtain ⟨hl, ht⟩ := grt_not hg
    rw [show (prs l).length = l.length from List.length_map _] at hl
    by_cases hbz : 4000 < b.size
    · have q1 : (4000 : Int) < (b.size : Int) := by omega
      clear hg hS ht hl hbz
      go_enter Try.func9, Try.ntmps9
      go_wp2_with fail
      refine HG.mono ?_
      rintro e w1 ⟨rfl, b1⟩
      go_wp2_with fail
      refine (awake _).mono ?_
      rintro e w2 ⟨rfl, b2⟩
      go_wp2
      go_ret
      exact ⟨rfl, bstep b1 b2⟩
    · have q1 : ¬ (4000 : Int) < (b.size : Int) := by omega
      obtain ⟨k1, hk1⟩ := Ev.rounds (ours_ev l hl)
      have HO := fun W h => Go.Proofs.Ytehojcocnndniaa.PImagePuts.broadsheetlaw25_ours.calls k1 A c l _ W h hc hk1
      have HP := fun A' c' W h => put A' c' (prs l) W h (by rw [show (prs l).length = l.length from List.length_map _]; omega)
      rw [show (prs l).length = l.length from List.length_map _] at HP
      have HTb := fun W => take_ b W (by omega)
      unfold Tak at HTb
      have HNb : Hid ((itk b).2 ≠ 0 → (itk b).1 = []) := Lib.hid itk_err
      have HPb : Hid ((itk b).2 = 0 → True ∧ ∀ A c W, Secs W A (itk b).1 → Calls Try.prog 29 #[.slice A (itk b).1.length c] W fun e w' => e = .returned (.tuple #[.string b, .int .i64 0]) ∧ Below W.heap.size W w') := Lib.hid (fun h0 => ⟨trivial, fun A c W hs => by
        have hi := (take_put (b := b) (m := (itk b).1) (by rw [← h0])).1
        have hk := (ipt_ok hi).1
        have hln := kds_len _ 0 (Int.le_refl _) (by decide) hk
        have := put A c (itk b).1 W hs (by omega)
        rw [hi] at this
        exact this⟩)
      generalize itk b = M at *
      obtain ⟨M1, M2⟩ := M
      dsimp only at HTb HNb HPb
      obtain ⟨R1, R2, hR⟩ : ∃ R1 R2, ipt (prs l) = (R1, R2) := ⟨_, _, rfl⟩
      rw [hR] at HP
      by_cases hr : R2 = 0
      · subst hr
        obtain ⟨hti, hts, htm⟩ := put_take (by rw [show (prs l).length = l.length from List.length_map _]; omega) hR
        have HTs := fun W => take_ R1 W (by omega)
        unfold Tak at HTs
        rw [hti] at HTs
        obtain ⟨k2, hk2⟩ := Ev.rounds (theirs_ev ((prs l).map mkI) (by rw [List.length_map, show (prs l).length = l.length from List.length_map _]; omega))
        obtain ⟨k3, hk3⟩ := Ev.rounds (same_ev ((prs l).map mkS) (by rw [List.length_map, show (prs l).length = l.length from List.length_map _]; omega))
        have hlp : (prs l).length = l.length := List.length_map _
        have HTh : ∀ A c W, Kd.C Go.Proofs.Ytehojcocnndniaa.PImageTakes.k102 W A l.length ((prs l).map mkI) → l.length ≤ c → Calls Try.prog 35 #[.slice A l.length c] W fun e w' => ∃ v0_ : Value, e = .returned (v0_) ∧ Kd.R kST 98 w' W.heap.size (fun _ => True) v0_ (((prs l).map mkI).map toS) ∧ Below W.heap.size W w' := fun A c W h hc => by
          have := Go.Proofs.Ytehojcocnndniaa.PImageTakes.broadsheetlaw25_theirs.calls k2 A c ((prs l).map mkI) _ W (by rw [List.length_map, hlp]; exact h) (by rw [List.length_map, hlp]; exact hc) hk2
          rw [List.length_map, hlp] at this
          exact this
        have HSm : ∀ A c A' c' W, Kd.C kST W A l.length ((prs l).map mkS) → l.length ≤ c → Kd.C kST W A' l.length ((prs l).map mkS) → l.length ≤ c' → Calls Try.prog 34 #[.slice A l.length c, .slice A' l.length c'] W fun e w' => e = .returned (.bool true) ∧ Drawn0 W w' := fun A c A' c' W h hc h' hc' => by
          have := Go.Proofs.Ytehojcocnndniaa.PImageTakes.broadsheetref25_Same.calls k3 A c ((prs l).map mkS) A' c' ((prs l).map mkS) _ W (by rw [List.length_map, hlp]; exact h) (by rw [List.length_map, hlp]; exact hc) (by rw [List.length_map, hlp]; exact h') (by rw [List.length_map, hlp]; exact hc') hk3
          rw [List.length_map, hlp] at this
          exact this
        have q2 : ¬ (65536 : Int) < (R1.size : Int) := by omega
        have q3 : Int.tmod (R1.size : Int) 4 = 0 := by rw [Int.tmod_eq_emod_of_nonneg (by omega)]; omega
        have q4 : (R1.size : Int) % 4 = 0 := by omega
        have hCT := fun W hb => C_toT (w := W) (Kd.C_below hC (w1 := W) hb)
        rw [hlp] at hCT
        clear hk1 hk2 hk3 hg ht hl hti hts htm hS hbz hR
        go_enter Try.func9, Try.ntmps9
        go_wp2_with fail
        refine HG.mono ?_
        rintro e w1 ⟨rfl, b1⟩
        go_wp2_with fail
        refine (HO w1 (Kd.C_below hC b1)).mono ?_
        rintro e w2 ⟨v, rfl, hr, b2⟩
        obtain ⟨A2, c2, rfl, hc2, hC2⟩ := Kd.R_reads hr
        have hSec := secs_of hC2
        rw [List.length_map]
        have bb2 := bstep b1 b2
        clear hr hC2 HG HO b1 b2
        go_wp2_with fail
        refine (HP _ _ w2 hSec).mono ?_
        rintro e w3 ⟨rfl, b3⟩
        have bb3 := bstep bb2 b3
        clear HP hSec bb2 b3
        go_wp2_with fail
        refine (HTs w3).mono ?_
        rintro e w4 ⟨v4, rfl, ho4, b4⟩
        obtain ⟨A4, c4, rfl, hc4, hC4⟩ := ho4.rd.get
        have hC4' := C_mkI hC4
        rw [List.length_map, hlp] at hC4'
        rw [hlp] at hc4 ⊢
        have bb4 := bstep bb3 b4
        clear HTs ho4 hC4 b4 bb3
        go_wp2_with fail
        refine (HTh _ _ w4 hC4' hc4).mono ?_
        rintro e w5 ⟨v5, rfl, hr5, b5⟩
        obtain ⟨A5, c5, rfl, hc5, hC5⟩ := Kd.R_reads hr5
        have e7 : ((prs l).map mkI).map toS = (prs l).map mkS := by rw [List.map_map]; rfl
        rw [e7, List.length_map, hlp] at hC5 hc5 ⊢
        have bb5 := bstep bb4 b5
        clear hr5 HTh hC4' b5 bb4
        go_wp2_with fail
        refine (HSm _ _ _ _ w5 hC5 hc5 (hCT w5 bb5) hc).mono ?_
        rintro e w5' ⟨rfl, b5⟩
        have bb := bstep bb5 (drawn_below b5)
        clear HSm hC5 hCT b5 bb5
        go_wp2_with fail
        refine (HTb _).mono ?_
        rintro e w6 ⟨v6, rfl, ho6, b6⟩
        have bb6 := bstep bb b6
        clear HTb bb b6
        by_cases hf : M2 = 0
        · subst hf
          have hpb := HPb.out rfl
          obtain ⟨A6, c6, rfl, hc6, hC6⟩ := ho6.rd.get
          have hS6 := secs_kp hC6
          have hput := hpb.2 A6 c6 w6 hS6
          clear ho6 hC6 hS6 HPb hpb
          go_wp2_with fail
          refine hput.mono ?_
          rintro e w7 ⟨rfl, b7⟩
          have bb7 := bstep bb6 b7
          clear hput b7 bb6
          go_wp2_with fail
          refine (awake _).mono ?_
          rintro e w2 ⟨rfl, b2⟩
          go_wp2
          go_ret
          exact ⟨rfl, bstep bb7 b2⟩
        · have hq : (M2 != 0) = true := by simpa using hf
          have hnil := HNb.out hf
          subst hnil
          obtain ⟨A6, c6, rfl, hc6, hC6⟩ := ho6.rd.get
          clear ho6 hC6 HPb
          go_wp2_with fail
          refine (awake _).mono ?_
          rintro e w2 ⟨rfl, b2⟩
          go_wp2
          go_ret
          exact ⟨rfl, bstep bb6 b2⟩
      · have hrq : (R2 == 0) = false := beq_eq_false_iff_ne.2 hr
        clear hk1 hg ht hl hS hbz hR
        go_enter Try.func9, Try.ntmps9
        go_wp2_with fail
        refine HG.mono ?_
        rintro e w1 ⟨rfl, b1⟩
        go_wp2_with fail
        refine (HO w1 (Kd.C_below hC b1)).mono ?_
        rintro e w2 ⟨v, rfl, hr', b2⟩
        obtain ⟨A2, c2, rfl, hc2, hC2⟩ := Kd.R_reads hr'
        have hSec := secs_of hC2
        rw [List.length_map]
        have bb2 := bstep b1 b2
        clear hr' hC2 HG HO b1 b2
        go_wp2_with fail
        refine (HP _ _ w2 hSec).mono ?_
        rintro e w3 ⟨rfl, b3⟩
        have bb := bstep bb2 b3
        clear HP hSec bb2 b3
        go_wp2_with fail
        refine (HTb _).mono ?_
        rintro e w6 ⟨v6, rfl, ho6, b6⟩
        have bb6 := bstep bb b6
        clear HTb bb b6
        by_cases hf : M2 = 0
        · subst hf
          have hpb := HPb.out rfl
          obtain ⟨A6, c6, rfl, hc6, hC6⟩ := ho6.rd.get
          have hS6 := secs_kp hC6
          have hput := hpb.2 A6 c6 w6 hS6
          clear ho6 hC6 hS6 HPb hpb
          go_wp2_with fail
          refine hput.mono ?_
          rintro e w7 ⟨rfl, b7⟩
          have bb7 := bstep bb6 b7
          clear hput b7 bb6
          go_wp2_with fail
          refine (awake _).mono ?_
          rintro e w2 ⟨rfl, b2⟩
          go_wp2
          go_ret
          exact ⟨rfl, bstep bb7 b2⟩
        · have hq : (M2 != 0) = true := by simpa using hf
          have hnil := HNb.out hf
          subst hnil
          obtain ⟨A6, c6, rfl, hc6, hC6⟩ := ho6.rd.get
          clear ho6 hC6 HPb
          go_wp2_with fail
          refine (awake _).mono ?_
          rintro e w2 ⟨rfl, b2⟩
          go_wp2
          go_ret
          exact ⟨rfl, bstep bb6 b2⟩
end Go.Proofs.Ytehojcocnndniaa.Img
namespace Go.Proofs.Ytehojcocnndniaa.Row8
open Go.RowKit Base
/-- n bytes in block g, of a row that may be written. -/
def Row (w : World) (g n : Nat) (l : List UInt8) : Prop :=
  l.length = n ∧ ∀ j, j < n → w.cell? ⟨g, j, none⟩ = some (.int .u8 ((l.getD j 0).toNat : Int)) ∧ w.frozen? ⟨g, j, none⟩ = false
theorem set {w : World} {g n j : Nat} {l : List UInt8} (h : Row w g n l) (hj : j < n) (c : UInt8) : Row (w.setCell ⟨g, j, none⟩ (.int .u8 (c.toNat : Int))) g n (l.set j c) := by
  refine ⟨by rw [List.length_set, h.1], fun i hi => ⟨?_, ?_⟩⟩
  · by_cases e : j = i
    · subst e
      rw [List.getD_eq_getElem?_getD, List.getElem?_set_self (by rw [h.1]; exact hi)]
      exact csame (h.2 j hj).1
    · rw [List.getD_eq_getElem?_getD, List.getElem?_set_ne e, ← List.getD_eq_getElem?_getD]
      exact coff (h.2 i hi).1 e
  · rw [World.frozen?_setCell]
    exact (h.2 i hi).2
theorem far {w : World} {g n : Nat} {l : List UInt8} (h : Row w g n l) {p : Addr} (hp : p.block ≠ g) (v : Value) : Row (w.setCell p v) g n l :=
  ⟨h.1, fun j hj => ⟨cfar (h.2 j hj).1 hp, by rw [World.frozen?_setCell]; exact (h.2 j hj).2⟩⟩
theorem start (w : World) (e : TypeId) (s : ByteArray) : Row (Lib.bytesWorld w e s) w.heap.size s.size s.data.toList := by
  refine ⟨by simp, fun j hj => ⟨Lib.bytesWorld_cell w e s j hj, ?_⟩⟩
  have h := Lib.bytesWorld_at_new w e s
  have hs : s.size ≤ (Lib.bytesCells w e s).size := by simp [Lib.bytesCells]
  simp only [World.frozen?, h]
  have : ¬ (Lib.bytesCells w e s).size ≤ j := by omega
  simp [this]
theorem below {w w' : World} {B g n : Nat} {l : List UInt8} (h : Row w g n l) (hb : Below B w w') (hg : g < B) : Row w' g n l :=
  ⟨h.1, fun j hj => ⟨cbel hb (h.2 j hj).1 hg, fbel hb (h.2 j hj).2 hg⟩⟩
theorem str_of (l : List UInt8) : strOfNums (l.map fun c => (c.toNat : Int)) = ⟨l.toArray⟩ := by
  unfold strOfNums
  rw [List.map_map]
  have : ((fun n : Int => UInt8.ofNat n.toNat) ∘ fun c : UInt8 => (c.toNat : Int)) = id := by
    funext c
    simp
  rw [this, List.map_id]
theorem string {P : Program} {w : World} {src dst e : TypeId} {g n c : Nat} {l : List UInt8} (hs : P.underlying src = some (.slice e)) (he : P.underlying e = some (.int .u8)) (hd : P.underlying dst = some .string)
    (h : Row w g n l) : (convert src dst (.slice (some ⟨g, 0, none⟩) n c)).run P w = .ok (.string ⟨l.toArray⟩) w := by
  rw [run_convert_bytes_arg (P := P) w src e hs he g 0 n c (l.map fun c => (c.toNat : Int)) (by simp [h.1]) (fun i hi => ?_) dst hd, str_of]
  rw [Nat.zero_add, (h.2 i hi).1]
  have hl : i < l.length := by rw [h.1]; exact hi
  simp [List.getD_eq_getElem?_getD, List.getElem?_eq_getElem hl]
theorem u8_xor (x y : UInt8) : bits .xor .u8 (x.toNat : Int) (y.toNat : Int) = ((x ^^^ y).toNat : Int) := by
  have e : ∀ z : UInt8, BitVec.ofInt 8 (z.toNat : Int) = z.toBitVec := fun z => by
    rw [BitVec.ofInt_natCast]
    apply BitVec.eq_of_toNat_eq
    simp
  have hw : ∀ z : UInt8, IntKind.u8.wrap (z.toNat : Int) = (z.toNat : Int) := fun z => by
    have := z.toNat_lt
    simp [IntKind.wrap, IntKind.bits, IntKind.signed]
    omega
  have hx : ((x.toBitVec ^^^ y.toBitVec).toNat : Int) = ((x ^^^ y).toNat : Int) := rfl
  show IntKind.u8.wrap ((BitVec.ofInt 8 (x.toNat : Int) ^^^ BitVec.ofInt 8 (y.toNat : Int)).toNat : Int) = _
  rw [e, e, hx, hw]
end Go.Proofs.Ytehojcocnndniaa.Row8
namespace Go.Proofs.Ytehojcocnndniaa.Open
open Go.RowKit Base
section
variable {H : Type} {enc : TypeId × Value → H} {P : Program} {w : World}
/-- Some cells read as a value of a type, and whatever is in it is no larger than what may come in. -/
def Tr {H : Type} (enc : TypeId × Value → H) (P : Program) (w : World) (t : TypeId) (cs : List Value) : Prop :=
  ∃ fuel x, DataW.trod enc P w 0 (fun _ => true) true fuel t cs = some x ∧ ∀ n ∈ x.1.weights P t, n ≤ reachBytes

/-- An argument as the row has it: how it reads, and how large it is. -/
def TrodZ {H : Type} (enc : TypeId × Value → H) (P : Program) (w : World) (t : TypeId) (v : Value) (d : DataW H) (ps : List MemPlace) : Prop :=
  DataW.Trod enc P w 0 (fun _ => true) true t v d ps ∧ ∀ n ∈ d.weights P t, n ≤ reachBytes

theorem tr_of {t : TypeId} {v : Value} {d : DataW H} {ps : List MemPlace} (h : TrodZ enc P w t v d ps) : Tr enc P w t v.cells.toList := by
  obtain ⟨⟨f, h⟩, hz⟩ := h
  exact ⟨f, _, h, hz⟩

theorem tr_int {t : TypeId} {k : IntKind} {cs : List Value} (hu : P.underlying t = some (.int k)) (h : Tr enc P w t cs) : ∃ n, cs = [.int k n] ∧ (Lit.int k n).wf = true := by
  obtain ⟨f, x, h, _⟩ := h
  cases f with
  | zero => simp [DataW.trod] at h
  | succ f =>
    simp only [DataW.trod, hu] at h
    split at h <;> simp_all

theorem tr_bool {t : TypeId} {cs : List Value} (hu : P.underlying t = some .bool) (h : Tr enc P w t cs) : ∃ b, cs = [.bool b] := by
  obtain ⟨f, x, h, _⟩ := h
  cases f with
  | zero => simp [DataW.trod] at h
  | succ f =>
    simp only [DataW.trod, hu] at h
    split at h <;> simp_all

theorem tr_string {t : TypeId} {cs : List Value} (hu : P.underlying t = some .string) (h : Tr enc P w t cs) : ∃ s, cs = [.string s] ∧ s.size ≤ reachBytes := by
  obtain ⟨f, x, h, hz⟩ := h
  cases f with
  | zero => simp [DataW.trod] at h
  | succ f =>
    simp only [DataW.trod, hu] at h
    split at h <;> try (simp_all; done)
    rename_i s _
    split at h
    · obtain rfl := (Option.some.inj h).symm
      refine ⟨s, rfl, ?_⟩
      have := hz s.data.toList.length (by simp [DataW.weights])
      rw [Array.length_toList] at this
      exact this
    · simp at h

theorem mapM_at {α β : Type} {g : α → Option β} : ∀ {l : List α} {r : List β}, l.mapM g = some r → r.length = l.length ∧ ∀ (i : Nat) (a : α), l[i]? = some a → ∃ b, r[i]? = some b ∧ g a = some b
  | [], r, h => by
    obtain rfl : [] = r := by simpa using h
    exact ⟨rfl, fun i a h => by simp at h⟩
  | x :: l, r, h => by
    simp only [List.mapM_cons, Option.pure_def, Option.bind_eq_bind] at h
    cases hx : g x with
    | none => simp [hx] at h
    | some b =>
      simp only [hx, Option.bind_some] at h
      cases hl : l.mapM g with
      | none => simp [hl] at h
      | some bs =>
        simp only [hl, Option.bind_some, Option.some.injEq] at h
        subst h
        obtain ⟨e1, e2⟩ := mapM_at hl
        refine ⟨by simp [e1], fun i a hi => ?_⟩
        cases i with
        | zero =>
          obtain rfl : x = a := by simpa using hi
          exact ⟨b, rfl, hx⟩
        | succ i =>
          obtain ⟨y, h1, h2⟩ := e2 i a (by simpa using hi)
          exact ⟨y, by simpa using h1, h2⟩
theorem all_mem {e : TypeId} : ∀ {l : List (DataW H)} {d : DataW H}, d ∈ l → ∀ n ∈ d.weights P e, n ∈ DataW.weightsAll P e l
  | y :: l, d, hd, n, hn => by
    simp only [DataW.weightsAll, List.mem_append]
    rcases List.mem_cons.1 hd with rfl | hd
    · exact .inl hn
    · exact .inr (all_mem hd n hn)

theorem tr_array {t e : TypeId} {n : Nat} {cs : List Value} (hu : P.underlying t = some (.array n e)) (h : Tr enc P w t cs) :
    cs.length = P.cellsOf t ∧ ∀ i, i < n → Tr enc P w e ((cs.drop (i * P.cellsOf e)).take (P.cellsOf e)) := by
  obtain ⟨f, x, h, hz⟩ := h
  cases f with
  | zero => simp [DataW.trod] at h
  | succ f =>
    simp only [DataW.trod, hu] at h
    split at h
    · rename_i hl
      refine ⟨hl, fun i hi => ?_⟩
      cases hm : (List.range n).mapM fun i => DataW.trod enc P w 0 (fun _ => true) true f e ((cs.drop (i * P.cellsOf e)).take (P.cellsOf e)) with
      | none => simp [hm] at h
      | some r =>
        simp only [hm, Option.map_some, Option.some.injEq] at h
        subst h
        obtain ⟨b, hb, hg⟩ := (mapM_at hm).2 i i (List.getElem?_range hi)
        refine ⟨f, b, hg, fun n hn => hz n ?_⟩
        simp only [DataW.weights, hu]
        exact all_mem (List.mem_map.2 ⟨b, List.mem_of_getElem? hb, rfl⟩) n hn
    · simp at h

theorem tr_struct {t : TypeId} {fs : Array Field} {cs : List Value} (hu : P.underlying t = some (.struct fs)) (h : Tr enc P w t cs) :
    cs.length = P.cellsOf t ∧ ∀ f ∈ fs.toList, Tr enc P w f.type ((cs.drop f.offset).take (P.cellsOf f.type)) := by
  obtain ⟨f, x, h, hz⟩ := h
  cases f with
  | zero => simp [DataW.trod] at h
  | succ f =>
    simp only [DataW.trod, hu] at h
    split at h
    · rename_i hl
      refine ⟨hl, fun g hg => ?_⟩
      cases hm : fs.toList.mapM fun g => DataW.trod enc P w 0 (fun _ => true) true f g.type ((cs.drop g.offset).take (P.cellsOf g.type)) with
      | none => simp [hm] at h
      | some r =>
        simp only [hm, Option.map_some, Option.some.injEq] at h
        subst h
        obtain ⟨j, hj⟩ := List.mem_iff_getElem?.1 hg
        obtain ⟨b, hb, hgb⟩ := (mapM_at hm).2 j g hj
        refine ⟨f, b, hgb, fun n hn => hz n ?_⟩
        simp only [DataW.weights, hu]
        exact DataW.weights_mem_each (j := j) (by rw [List.getElem?_map, hj]; rfl) (by rw [List.getElem?_map, hb]; rfl) n hn
    · simp at h

theorem tr_slice {t e : TypeId} {cs : List Value} (hu : P.underlying t = some (.slice e)) (h : Tr enc P w t cs) :
    (cs = [.slice none 0 0]) ∨ ∃ a len cap, cs = [.slice (some a) len cap] ∧ len ≤ cap ∧ cap ≤ maxLen ∧ cap * P.bytesOf e ≤ reachBytes ∧ ∀ i, i < len → ∃ c, w.cells? 0 (a.add (i * P.cellsOf e)) (P.cellsOf e) = some c ∧ Tr enc P w e c := by
  obtain ⟨f, x, h, hz⟩ := h
  cases f with
  | zero => simp [DataW.trod] at h
  | succ f =>
    simp only [DataW.trod, hu] at h
    split at h <;> try (simp_all; done)
    rename_i _ _ e' a len cap hu' 
    obtain rfl : e = e' := by simpa using hu'
    refine .inr ⟨a, len, cap, rfl, ?_⟩
    split at h
    · rename_i hb
      cases hm : (List.range len).mapM fun i => (w.cells? 0 (a.add (i * P.cellsOf e)) (P.cellsOf e)).bind (DataW.trod enc P w 0 (fun _ => true) true f e) with
      | none => simp [hm] at h
      | some r =>
        cases hm2 : (List.range (cap - len)).mapM fun j => (w.cells? 0 (a.add ((len + j) * P.cellsOf e)) (P.cellsOf e)).bind (DataW.trod enc P w 0 (fun _ => true) true f e) with
        | none => simp [hm, hm2] at h
        | some r2 =>
          simp only [hm, hm2, if_true, Option.bind_some, Option.map_some, Option.some.injEq] at h
          subst h
          obtain ⟨l1, h1⟩ := mapM_at hm
          obtain ⟨l2, _⟩ := mapM_at hm2
          rw [List.length_range] at l1 l2
          refine ⟨hb.2.1, hb.2.2, ?_, fun i hi => ?_⟩
          · have := hz ((r.map (·.1)).length + (r2.map (·.1)).length |>.mul (P.bytesOf e)) (by simp [DataW.weights, hu])
            simp only [List.length_map, l1, l2] at this
            have e1 : len + (cap - len) = cap := by omega
            rw [e1] at this
            exact this
          · obtain ⟨b, hbi, hgb⟩ := h1 i i (List.getElem?_range hi)
            cases hc : w.cells? 0 (a.add (i * P.cellsOf e)) (P.cellsOf e) with
            | none => simp [hc] at hgb
            | some c =>
              refine ⟨c, rfl, f, b, by simpa [hc] using hgb, fun n hn => hz n ?_⟩
              simp only [DataW.weights, hu, List.mem_cons, List.mem_append]
              exact .inr (.inl (all_mem (List.mem_map.2 ⟨b, List.mem_of_getElem? hbi, rfl⟩) n hn))
    · simp at h

/-- An argument that is an array. -/
theorem agg_array {r : Reach} {base : Nat} {t e : TypeId} {n : Nat} {v : Value} {d : DataW H} {ps : List MemPlace} (hu : P.underlying t = some (.array n e)) (hok : Value.okWide P w r base t v)
    (h : TrodZ enc P w t v d ps) : ∃ cs : Array Value, v = .agg cs ∧ cs.size = P.cellsOf t ∧ Tr enc P w t cs.toList := by
  unfold Value.okWide at hok
  rw [hu] at hok
  obtain ⟨cs, rfl, hs, _⟩ := hok
  exact ⟨cs, rfl, hs, tr_of h⟩
/-- An argument that is a struct. -/
theorem agg_struct {r : Reach} {base : Nat} {t : TypeId} {fs : Array Field} {v : Value} {d : DataW H} {ps : List MemPlace} (hu : P.underlying t = some (.struct fs)) (hok : Value.okWide P w r base t v)
    (h : TrodZ enc P w t v d ps) : ∃ cs : Array Value, v = .agg cs ∧ cs.size = P.cellsOf t ∧ Tr enc P w t cs.toList := by
  unfold Value.okWide at hok
  rw [hu] at hok
  obtain ⟨cs, rfl, hs, _⟩ := hok
  exact ⟨cs, rfl, hs, tr_of h⟩

theorem two_u64 {t e : TypeId} {cs : Array Value} (hu : P.underlying t = some (.array 2 e)) (he : P.underlying e = some (.int .u64)) (hn : P.cellsOf t = 2 ∧ P.cellsOf e = 1) (hs : cs.size = P.cellsOf t) (h : Tr enc P w t cs.toList) :
    ∃ x y, cs = #[.int .u64 x, .int .u64 y] ∧ 0 ≤ x ∧ x < 18446744073709551616 ∧ 0 ≤ y ∧ y < 18446744073709551616 := by
  obtain ⟨h1, h2⟩ := hn
  rw [h1] at hs
  obtain ⟨_, h⟩ := tr_array hu h
  rw [h2] at h
  obtain ⟨l⟩ := cs
  match l, hs with
  | [a, b], _ =>
    obtain ⟨x, e0, w0⟩ := tr_int he (h 0 (by omega))
    obtain ⟨y, e1, w1⟩ := tr_int he (h 1 (by omega))
    simp at e0 e1
    exact ⟨x, y, by rw [e0, e1], (wf_u64 w0).1, (wf_u64 w0).2, (wf_u64 w1).1, (wf_u64 w1).2⟩
end
end Go.Proofs.Ytehojcocnndniaa.Open
namespace Go.Proofs.Ytehojcocnndniaa.Open
open Go.RowKit Base
section
variable {H : Type} {enc : TypeId × Value → H} {P : Program} {w : World}
theorem u8_of {n : Int} (h : (Lit.int .u8 n).wf = true) : ∃ c : UInt8, n = (c.toNat : Int) := by
  obtain ⟨h0, h1⟩ := wf_u8 h
  refine ⟨UInt8.ofNat n.toNat, ?_⟩
  rw [UInt8.toNat_ofNat']
  omega
theorem four_u8 {t e : TypeId} {cs : Array Value} (hu : P.underlying t = some (.array 4 e)) (he : P.underlying e = some (.int .u8)) (hn : P.cellsOf t = 4 ∧ P.cellsOf e = 1) (hs : cs.size = P.cellsOf t) (h : Tr enc P w t cs.toList) :
    ∃ f : Nat → UInt8, cs = #[.int .u8 ((f 0).toNat : Int), .int .u8 ((f 1).toNat : Int), .int .u8 ((f 2).toNat : Int), .int .u8 ((f 3).toNat : Int)] := by
  obtain ⟨h1, h2⟩ := hn
  rw [h1] at hs
  obtain ⟨_, h⟩ := tr_array hu h
  rw [h2] at h
  obtain ⟨l⟩ := cs
  match l, hs with
  | [a, b, c, d], _ =>
    obtain ⟨x, e0, w0⟩ := tr_int he (h 0 (by omega))
    obtain ⟨y, e1, w1⟩ := tr_int he (h 1 (by omega))
    obtain ⟨z, e2, w2⟩ := tr_int he (h 2 (by omega))
    obtain ⟨u, e3, w3⟩ := tr_int he (h 3 (by omega))
    obtain ⟨x, rfl⟩ := u8_of w0
    obtain ⟨y, rfl⟩ := u8_of w1
    obtain ⟨z, rfl⟩ := u8_of w2
    obtain ⟨u, rfl⟩ := u8_of w3
    simp at e0 e1 e2 e3
    exact ⟨fun i => if i = 0 then x else if i = 1 then y else if i = 2 then z else u, by rw [e0, e1, e2, e3]; rfl⟩
end
end Go.Proofs.Ytehojcocnndniaa.Open
