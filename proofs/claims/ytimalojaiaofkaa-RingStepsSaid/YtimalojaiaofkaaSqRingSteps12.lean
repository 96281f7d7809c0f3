import Derived.Test.YtimalojaiaofkaaSqRingSteps11
set_option linter.unusedVariables false
set_option linter.unusedSimpArgs false
namespace Go.Proofs.Ytimalojaiaofkaa.Rng
open Go.RowKit Base Sp Flat Go.Proofs.YtimalojaiaofkaaW.PrintWords Go.Shelf Smp His
/-- The reference's queue in its variable, beside the ring's queue. -/
structure RP (w : World) (F : Nat → Prop) (c b : Nat) (n : Qn) (q : St) : Prop where
  ex : ∃ (G : Nat → Prop) (A : Option Addr) (k : Nat), w.heap[b]? = some (.cells (qcs n (.slice A q.xs.length k) q.lost q.ev).toArray 89 (0, 0)) ∧ Rd ks w G (.slice A q.xs.length k) q.xs ∧ ∀ j, G j → ¬ F j ∧ j ≠ c ∧ j ≠ b ∧ j < w.heap.size
  off : ¬ F b
  ne : b ≠ c
theorem RP.lt {w : World} {F : Nat → Prop} {c b : Nat} {n : Qn} {q : St} (h : RP w F c b n q) : b < w.heap.size := by
  obtain ⟨G, A, k, h1, _⟩ := h.ex
  exact blk_lt h1
theorem RP.below {w w' : World} {F : Nat → Prop} {c b : Nat} {n : Qn} {q : St} (h : RP w F c b n q) (hb : Below w.heap.size w w') : RP w' F c b n q := by
  obtain ⟨G, A, k, h1, h2, h3⟩ := h.ex
  exact ⟨⟨G, A, k, blk_below h1 hb, rd_below h2 hb, fun j hj => ⟨(h3 j hj).1, (h3 j hj).2.1, (h3 j hj).2.2.1, Nat.lt_of_lt_of_le (h3 j hj).2.2.2 hb.size⟩⟩, h.off, h.ne⟩
theorem RP.beside {w w' : World} {F F' : Nat → Prop} {c b : Nat} {n : Qn} {q : St} (h : RP w F c b n q) (m : Mod (HM F c) w w') (g : Grow F F' w) : RP w' F' c b n q := by
  have hlt := h.lt
  obtain ⟨G, A, k, h1, h2, h3⟩ := h.ex
  refine ⟨⟨G, A, k, (m.block b hlt (fun hh => hh.elim (fun e => h.ne e) h.off)).trans h1, h2.same flat_ks (fun j hj => m.block j (h3 j hj).2.2.2 (fun hh => hh.elim (fun e => (h3 j hj).2.1 e) (h3 j hj).1)), fun j hj => ⟨fun hf => (g j hf).elim (h3 j hj).1 (fun hh => absurd (h3 j hj).2.2.2 (Nat.not_lt.2 hh)), (h3 j hj).2.1, (h3 j hj).2.2.1, Nat.lt_of_lt_of_le (h3 j hj).2.2.2 m.size⟩⟩, fun hf => (g b hf).elim h.off (fun hh => absurd hlt (Nat.not_lt.2 hh)), h.ne⟩
/-- The reference's variable is stored. -/
theorem RP.put {w2 w3 : World} {F G' : Nat → Prop} {c b : Nat} {n : Qn} {q q' : St} {lo ev : Int} {ys : List Smp} {A A' : Option Addr} {k k' : Nat} (hq : QS w2 F c n lo ev ys) (hoff : ¬ F b) (hne : b ≠ c) (h1 : w2.heap[b]? = some (.cells (qcs n (.slice A q.xs.length k) q.lost q.ev).toArray 89 (0, 0)))
    (h2 : Rd ks w2 G' (.slice A' q'.xs.length k') q'.xs) (h3 : ∀ j, G' j → ¬ F j ∧ j ≠ c ∧ j ≠ b ∧ j < w2.heap.size) (e : w3 = w2.setCells b 0 (qcs n (.slice A' q'.xs.length k') q'.lost q'.ev)) :
    RP w3 F c b n q' ∧ QS w3 F c n lo ev ys ∧ ∀ {B : Nat} {w0 : World}, Below B w0 w2 → B ≤ b → B ≤ w2.heap.size → Below B w0 w3 := by
  obtain ⟨n9, K9⟩ := q_store rfl h1 n (.slice A' q'.xs.length k') q'.lost q'.ev e
  have hm : Mod (fun j => j = b) w2 w3 := by rw [e]; exact setCells_mod w2 b 0 _
  have hs : w3.heap.size = w2.heap.size := by rw [e, setCells_size]
  exact ⟨⟨⟨G', A', k', n9, h2.same flat_ks (fun j hj => hm.block j (h3 j hj).2.2.2 (h3 j hj).2.2.1), fun j hj => ⟨(h3 j hj).1, (h3 j hj).2.1, (h3 j hj).2.2.1, by rw [hs]; exact (h3 j hj).2.2.2⟩⟩, hoff, hne⟩, hq.same hm (fun j hj => by rw [show j = b from hj]; exact ⟨hoff, hne⟩), K9⟩
theorem q_range {w : World} {g : Nat} {t : TypeId} {n : Qn} {v : Value} {lo ev : Int} (h : w.heap[g]? = some (.cells (qcs n v lo ev).toArray t (0, 0))) : w.rangeAt g 0 (qcs n v lo ev) := fun j u hj => by
  rw [Nat.zero_add, blk_cell h, List.getElem?_toArray]
  exact hj
/-- A frame with new values in slots 9, 10 and 40 to 96. -/
def updl (l : List Value) (v9 v10 : Value) (us : List Value) : List Value := l.take 9 ++ (v9 :: v10 :: ((l.drop 11).take 29 ++ (us ++ l.drop 97)))
theorem tailcut2 {P : Program} {ops : Array Oper} {Q : Exit → Act → World → Prop} {rest : List Oper} {a : Act} {w : World} (K : Act → World → Prop) (Pre : World → Prop)
    (h1 : ∀ (v9 v10 u40 u41 u42 u43 u44 u45 u46 u47 u48 u49 u50 u51 u52 u53 u54 u55 u56 u57 u58 u59 u60 u61 u62 u63 u64 u65 u66 u67 u68 u69 u70 u71 u72 u73 u74 u75 u76 u77 u78 u79 u80 u81 u82 u83 u84 u85 u86 u87 u88 u89 u90 u91 u92 u93 u94 u95 u96 : Value) (W : World), Pre W → K { tmps := (updl a.tmps.toList v9 v10 [u40, u41, u42, u43, u44, u45, u46, u47, u48, u49, u50, u51, u52, u53, u54, u55, u56, u57, u58, u59, u60, u61, u62, u63, u64, u65, u66, u67, u68, u69, u70, u71, u72, u73, u74, u75, u76, u77, u78, u79, u80, u81, u82, u83, u84, u85, u86, u87, u88, u89, u90, u91, u92, u93, u94, u95, u96]).toArray, defers := a.defers } W)
    (h2 : (∀ (v9 v10 u40 u41 u42 u43 u44 u45 u46 u47 u48 u49 u50 u51 u52 u53 u54 u55 u56 u57 u58 u59 u60 u61 u62 u63 u64 u65 u66 u67 u68 u69 u70 u71 u72 u73 u74 u75 u76 u77 u78 u79 u80 u81 u82 u83 u84 u85 u86 u87 u88 u89 u90 u91 u92 u93 u94 u95 u96 : Value) (W : World), Pre W → K { tmps := (updl a.tmps.toList v9 v10 [u40, u41, u42, u43, u44, u45, u46, u47, u48, u49, u50, u51, u52, u53, u54, u55, u56, u57, u58, u59, u60, u61, u62, u63, u64, u65, u66, u67, u68, u69, u70, u71, u72, u73, u74, u75, u76, u77, u78, u79, u80, u81, u82, u83, u84, u85, u86, u87, u88, u89, u90, u91, u92, u93, u94, u95, u96]).toArray, defers := a.defers } W) → wpList P ops Q rest a w) : wpList P ops Q rest a w := h2 h1
set_option maxHeartbeats 4000000 in
set_option maxRecDepth 20000 in
theorem steps (k0 k1 k2 : Int) (A : Option Addr) (cap : Nat) (l : List Rst) (w : World) (hC : Kd.C krst w A l.length l) (h0 : k0 < 9223372036854775808) (h1 : k1 < 9223372036854775808) :
    Calls Try.prog 13 #[.agg #[.int .i64 k0, .int .i64 k1, .int .i64 k2], .slice A l.length cap] w fun e w' => e = .returned (.bool true) ∧ Below w.heap.size w w' := by
  have bb1 : Below w.heap.size w (w.alloc (.cells #[.int .i64 k0, .int .i64 k1, .int .i64 k2] 79)) := (Below.refl _ _).alloc (Nat.le_refl _) _
  by_cases hl : (l.length : Int) > 200
  · have hl1 : (200 : Int) < (l.length : Int) := by omega
    clear hl h0 h1
    go_enter Try.func13, Try.ntmps13
    go_wp2_with fail
    refine (awake _).mono ?_
    rintro e w1 ⟨rfl, b1⟩
    go_wp2
    go_ret
    exact ⟨rfl, bstep bb1 b1⟩
  · have hl1 : ¬ (200 : Int) < (l.length : Int) := by omega
    have n0 := heap_alloc_new w (.cells #[.int .i64 k0, .int .i64 k1, .int .i64 k2] 79)
    have c0 : (w.alloc (.cells #[.int .i64 k0, .int .i64 k1, .int .i64 k2] 79)).cell? ⟨w.heap.size, 0, none⟩ = some (.int .i64 k0) := blk_cell n0 0
    have c1 : (w.alloc (.cells #[.int .i64 k0, .int .i64 k1, .int .i64 k2] 79)).cell? ⟨w.heap.size, 1, none⟩ = some (.int .i64 k1) := blk_cell n0 1
    have c2 : (w.alloc (.cells #[.int .i64 k0, .int .i64 k1, .int .i64 k2] 79)).cell? ⟨w.heap.size, 2, none⟩ = some (.int .i64 k2) := blk_cell n0 2
    have C0 := new k0 k1 k2 (w.alloc (.cells #[.int .i64 k0, .int .i64 k1, .int .i64 k2] 79)) h0 h1
    have CR := rnew k0 k1 k2
    have HC := Lib.hid hC
    have HL : Hid (l.length ≤ 200) := Lib.hid (by omega)
    have HB1 := Lib.hid bb1
    have HB0 : Hid (w.heap.size < (w.alloc (.cells #[.int .i64 k0, .int .i64 k1, .int .i64 k2] 79)).heap.size) := Lib.hid (by simp)
    have HK := Lib.hid (And.intro c0 (And.intro c1 c2))
    clear hl hC n0 h0 h1 bb1
    generalize hn : (⟨mx0 k0, mx0 k1, k2 != 0⟩ : Qn) = n at C0 CR
    clear hn
    go_enter Try.func13, Try.ntmps13
    go_wp2_with fail
    generalize hW : w.alloc (.cells #[.int .i64 k0, .int .i64 k1, .int .i64 k2] 79) = w1 at *
    clear hW c0 c1 c2
    refine C0.mono ?_
    rintro e w2 ⟨rfl, q2, b2⟩
    have HQ2 := Lib.hid (And.intro q2 b2)
    have d0 := cbel b2 HK.out.1 HB0.out
    have d1 := cbel b2 HK.out.2.1 HB0.out
    have d2 := cbel b2 HK.out.2.2 HB0.out
    generalize hc : w1.heap.size = c at *
    have HCC := Lib.hid hc
    clear C0 b2 q2 hc
    go_wp2_with fail
    refine (CR _).mono ?_
    rintro e w3 ⟨rfl, b3⟩
    unfold rqv
    clear CR d0 d1 d2
    have HQ3 := Lib.hid (And.intro (HQ2.out.1.below b3) (And.intro b3 HQ2.out.2))
    clear b3
    have hb0 := heap_alloc_new w3 (.cells #[.int .i64 n.room, .int .i64 n.depth, .bool n.newest, .slice none 0 0, .int .u64 0, .int .u64 0] 89)
    have bA : Below w3.heap.size w3 (w3.alloc (.cells #[.int .i64 n.room, .int .i64 n.depth, .bool n.newest, .slice none 0 0, .int .u64 0, .int .u64 0] 89)) := (Below.refl _ _).alloc (Nat.le_refl _) _
    have HST : Hid (QS (w3.alloc (.cells #[.int .i64 n.room, .int .i64 n.depth, .bool n.newest, .slice none 0 0, .int .u64 0, .int .u64 0] 89)) (fun _ => False) c n 0 0 [] ∧ RP (w3.alloc (.cells #[.int .i64 n.room, .int .i64 n.depth, .bool n.newest, .slice none 0 0, .int .u64 0, .int .u64 0] 89)) (fun _ => False) c w3.heap.size n ⟨[], 0, 0⟩ ∧ Below c w1 (w3.alloc (.cells #[.int .i64 n.room, .int .i64 n.depth, .bool n.newest, .slice none 0 0, .int .u64 0, .int .u64 0] 89))) :=
      Lib.hid ⟨HQ3.out.1.below bA, ⟨⟨fun _ => False, none, 0, hb0, Rd.nil _ _ _, fun j hj => hj.elim⟩, fun h => h, fun e => by have := HQ3.out.1.lt; omega⟩, (HQ3.out.2.2.trans (HQ3.out.2.1.mono (Nat.le_of_lt HQ2.out.1.lt))).trans (bA.mono (Nat.le_of_lt HQ3.out.1.lt))⟩
    have HCB : Hid (c ≤ w3.heap.size) := Lib.hid (Nat.le_of_lt HQ3.out.1.lt)
    clear hb0 bA
    go_wp2
    generalize w3.heap.size = b at *
    go_loopw [7] (fun v7 wr => ∃ (i : Nat) (q : St) (F : Nat → Prop), v7 = .int .i64 (i : Int) ∧ i ≤ l.length ∧ Bd i q ∧ QS wr F c n q.lost q.ev q.xs ∧ RP wr F c b n q ∧ Fr c F c ∧ Below c w1 wr) (fun v7 _ => l.length - (intOf v7).toNat)
    case atStart => exact ⟨0, ⟨[], 0, 0⟩, fun _ => False, rfl, Nat.zero_le _, ⟨Nat.le_refl _, Int.le_refl _, Int.le_refl _, Int.le_refl _, Int.le_refl _⟩, HST.out.1, HST.out.2.1, ⟨Nat.le_refl _, fun k h => h.elim⟩, HST.out.2.2⟩
    case round =>
      clear HST
      obtain ⟨i, q, F, rfl, hi, hB, hq, hp, hf, bb⟩ := hrel
      by_cases hlt : i < l.length
      · obtain ⟨ad, rfl, st⟩ := rst_at HC.out hlt
        have bw : Below w.heap.size w wr := bstep HB1.out (HCC.out ▸ bb)
        have stw := st.below bw st.lt
        have q0 : (0 : Int) ≤ (i : Int) := by omega
        have q1 : (i : Int) < (l.length : Int) := by omega
        have hwi : wrap64 ((i : Int) + 1) = ((i + 1 : Nat) : Int) := by have := HL.out; unfold wrap64; omega
        have hi1 : Hid (i + 1 ≤ l.length) := Lib.hid (by omega)
        have hms : Hid (l.length - (intOf (.int .i64 ((i + 1 : Nat) : Int))).toNat < l.length - (intOf (.int .i64 (i : Int))).toNat) := Lib.hid (meas _ _ hlt)
        have hi200 : Hid (i + 1 ≤ 200) := Lib.hid (by have := HL.out; omega)
        have HB0' := Lib.hid hB
        have HQ0 := Lib.hid hq
        have HP0 := Lib.hid hp
        have HF0 := Lib.hid hf
        have BB0 := Lib.hid bb
        generalize l[i] = x at st stw
        clear hlt hi hB hq hp hf bb st bw
        go_wp2_with (first | ((with_reducible refine gate_dst (N := 38) rfl ?_); refine load_any (by kernel_rfl) 84 (.tmp 37) rfl _ rfl (rstc x) _ stw.all Try.underlying84 rfl (rst26 x) ?_; clear stw) | ((with_reducible refine gate_dst (N := 8) rfl ?_); refine box_event rfl (N := 8) rfl (cs := (rstc zrst).toArray) (t := 84) ?hr ?_; (case hr => go_simp; rfl); intro gb hgb w8 hbox hb; subst hgb) | ((with_reducible refine gate_store (p := 8) (v := .tmp 38) rfl ?_); refine store_ev rfl 84 (.tmp 8) (.tmp 38) rfl wr.heap.size 0 (rstc x) rfl rfl (there_of hbox (by rw [rstc_len, rstc_len]; omega)) (rst26 x) (rstc_one x) ?_; intro w9 hw9; obtain ⟨B9, n9⟩ := rbox_alive hb hb.size hbox hw9; clear hb hbox hw9) | ((with_reducible refine gate_dst (N := 40) rfl ?_); refine Hid.out (p := _) ?_) | fail)
        rename_i K1 hK1 K0 hK0
        have H9 := Lib.hid (And.intro B9 n9)
        clear B9 n9
        refine Lib.hid ?_
        refine tailcut2 K1 (fun W => ∃ (q' : St) (F' : Nat → Prop), Bd (i + 1) q' ∧ QS W F' c n q'.lost q'.ev q'.xs ∧ RP W F' c b n q' ∧ Fr c F' c ∧ Below c w1 W) ?_ ?_
        · clear hK0 H9 HB0' HQ0 HP0 HF0 BB0
          rintro v9 v10 u40 u41 u42 u43 u44 u45 u46 u47 u48 u49 u50 u51 u52 u53 u54 u55 u56 u57 u58 u59 u60 u61 u62 u63 u64 u65 u66 u67 u68 u69 u70 u71 u72 u73 u74 u75 u76 u77 u78 u79 u80 u81 u82 u83 u84 u85 u86 u87 u88 u89 u90 u91 u92 u93 u94 u95 u96 w11 ⟨q', F', hB2, q2, p2, hf2, bb2⟩
          simp only [updl, List.take_succ_cons, List.take_zero, List.drop_succ_cons, List.drop_zero, List.cons_append, List.nil_append]
          refine hK1 _ _ ?_
          clear hK1
          have HBa := Lib.hid hB2
          have HQa := Lib.hid q2
          have HPa := Lib.hid p2
          have HFa := Lib.hid hf2
          have BBa := Lib.hid bb2
          obtain ⟨G, A5, k5, hb5, hr5, hs5⟩ := p2.ex
          have e3 : w11.cell? ⟨b, 3, none⟩ = some (.slice A5 q'.xs.length k5) := blk_cell hb5 3
          have e4 : w11.cell? ⟨b, 4, none⟩ = some (.int .u64 q'.lost) := blk_cell hb5 4
          have e5 : w11.cell? ⟨b, 5, none⟩ = some (.int .u64 q'.ev) := blk_cell hb5 5
          have QD : QS w11.drew F' c n q'.lost q'.ev q'.xs := q2.below (below_drew (Below.refl _ _))
          have C6 := len QD
          have C7 := lost QD
          have C8 := evicted QD
          have C9 := read QD (by have h := HBa.out.1; have h2 := hi200.out; omega) (q'.xs.length : Int)
          rw [Int.toNat_natCast, List.take_length] at C9
          have HR5 : Hid (Rd ks w11.drew G (.slice A5 q'.xs.length k5) q'.xs ∧ b < w11.drew.heap.size) := Lib.hid ⟨hr5.same flat_ks (fun _ _ => rfl), p2.lt⟩
          clear hB2 q2 p2 hf2 bb2 hb5 hr5 hs5 QD
          go_wp2_with fail
          refine Reg.wp_plan (S := fun w' => w'.cell? ⟨b, 3, none⟩ = some (.slice A5 q'.xs.length k5) ∧ w'.cell? ⟨b, 4, none⟩ = some (.int .u64 q'.lost) ∧ w'.cell? ⟨b, 5, none⟩ = some (.int .u64 q'.ev)) 30 (.fl 0 (.fl 2 (.fl 3 (.fl 4 (.one 1 (.fl 5 (.fl 6 (.fl 7 (.fl 9 (.fl 10 (.one 8 (.fl 11 (.fl 12 (.fl 13 (.fl 14 (.fl 16 (.fl 17 (.one 15 (.fl 18 (.fl 19 (.fl 20 (.fl 21 (.fl 22 (.fl 25 (.fl 26 (.one 23 (.one 24 (.one 27 (.fl 28 (.fl 29 .done)))))))))))))))))))))))))))))) (by kernel_rfl) (by kernel_rfl) (by kernel_rfl) (by kernel_rfl) (fun _ _ _ d _ h => by cases d <;> exact h) ?_ (fun hHeld => ?_)
          · exact ⟨e3, e4, e5⟩
          refine Reg.G_on (o := { dst := some 97, op := Op.move (Operand.tmp 5), type := 81, pos := "law.go:60", after := #[], guard := Option.none }) (v := ?_) (by rfl) ?_ (fun wS hSw => ?_) ?_
          rotate_left
          · kernel_rfl
          · (try dsimp only at hSw); go_simp; (try with_reducible rfl)
          try simp only [Act.put, List.setIfInBounds_toArray, List.set_cons_zero, List.set_cons_succ]
          refine Reg.G_on (o := { dst := some 99, op := Op.fieldAddr 89 (Operand.tmp 6) 3, type := 0, pos := "law.go:60", after := #[], guard := Option.none }) (v := ?_) (by rfl) ?_ (fun wS hSw => ?_) ?_
          rotate_left
          · kernel_rfl
          · (try dsimp only at hSw); go_simp; (try with_reducible rfl)
          try simp only [Act.put, List.setIfInBounds_toArray, List.set_cons_zero, List.set_cons_succ]
          refine Reg.G_on (o := { dst := some 100, op := Op.load 56 (Operand.tmp 99), type := 56, pos := "law.go:60", after := #[{ on := 2, ground := Ground.data }], guard := Option.none }) (v := ?_) (by rfl) ?_ (fun wS hSw => ?_) ?_
          rotate_left
          · kernel_rfl
          · (try dsimp only at hSw); go_simp; (try with_reducible rfl)
          try simp only [Act.put, List.setIfInBounds_toArray, List.set_cons_zero, List.set_cons_succ]
          refine Reg.G_on (o := { dst := some 101, op := Op.call { callee := Callee.builtin Builtin.len, args := #[Operand.tmp 100], argTypes := #[56] }, type := 3, pos := "law.go:60", after := #[{ on := 3, ground := Ground.data }], guard := Option.none }) (v := ?_) (by rfl) ?_ (fun wS hSw => ?_) ?_
          rotate_left
          · kernel_rfl
          · (try dsimp only at hSw); go_simp; (try with_reducible rfl)
          try simp only [Act.put, List.setIfInBounds_toArray, List.set_cons_zero, List.set_cons_succ]
          refine Reg.G_step (o := { dst := some 98, op := Op.call { callee := Callee.value (Operand.func 48), args := #[Operand.tmp 97], argTypes := #[81] }, type := 3, pos := "law.go:60", after := #[{ on := 0, ground := Ground.data }], guard := Option.none }) (by rfl) ?_ (fun K hK => ?_)
          · kernel_rfl
          go_simp
          refine (C6).mono ?_
          rintro e w' ⟨rfl, rfl⟩
          refine hK.out _ _ ?_ (fun hHeld => ?_)
          · exact ⟨e3, e4, e5⟩
          clear hK K
          try simp only [Act.put, List.setIfInBounds_toArray, List.set_cons_zero, List.set_cons_succ]
          refine Reg.G_on (o := { dst := some 102, op := Op.binOp BinOp.neq 3 (Operand.tmp 98) (Operand.tmp 101) 3, type := 4, pos := "law.go:60", after := #[{ on := 1, ground := Ground.data }, { on := 4, ground := Ground.data }], guard := Option.none }) (v := ?_) (by rfl) ?_ (fun wS hSw => ?_) ?_
          rotate_left
          · kernel_rfl
          · (try dsimp only at hSw); go_simp; (try with_reducible rfl)
          try simp only [Act.put, List.setIfInBounds_toArray, List.set_cons_zero, List.set_cons_succ]
          refine Reg.G_on (o := { dst := some 103, op := Op.move (Operand.tmp 102), type := 4, pos := "law.go:60", after := #[{ on := 5, ground := Ground.data }, { on := 1, ground := Ground.chain }], guard := Option.none }) (v := ?_) (by rfl) ?_ (fun wS hSw => ?_) ?_
          rotate_left
          · kernel_rfl
          · (try dsimp only at hSw); go_simp; (try with_reducible rfl)
          try simp only [Act.put, List.setIfInBounds_toArray, List.set_cons_zero, List.set_cons_succ]
          refine Reg.G_on (o := { dst := some 104, op := Op.move (Operand.tmp 5), type := 81, pos := "law.go:60", after := #[{ on := 6, ground := Ground.guard }], guard := some (6, false) }) (v := ?_) (by rfl) ?_ (fun wS hSw => ?_) ?_
          rotate_left
          · kernel_rfl
          · (try dsimp only at hSw); go_simp; (try with_reducible rfl)
          try simp only [Act.put, List.setIfInBounds_toArray, List.set_cons_zero, List.set_cons_succ]
          refine Reg.G_on (o := { dst := some 106, op := Op.fieldAddr 89 (Operand.tmp 6) 4, type := 0, pos := "law.go:60", after := #[{ on := 6, ground := Ground.guard }], guard := some (6, false) }) (v := ?_) (by rfl) ?_ (fun wS hSw => ?_) ?_
          rotate_left
          · kernel_rfl
          · (try dsimp only at hSw); go_simp; (try with_reducible rfl)
          try simp only [Act.put, List.setIfInBounds_toArray, List.set_cons_zero, List.set_cons_succ]
          refine Reg.G_on (o := { dst := some 107, op := Op.load 58 (Operand.tmp 106), type := 58, pos := "law.go:60", after := #[{ on := 9, ground := Ground.data }, { on := 6, ground := Ground.guard }], guard := some (6, false) }) (v := ?_) (by rfl) ?_ (fun wS hSw => ?_) ?_
          rotate_left
          · kernel_rfl
          · (try dsimp only at hSw); go_simp; (try with_reducible rfl)
          try simp only [Act.put, List.setIfInBounds_toArray, List.set_cons_zero, List.set_cons_succ]
          refine Reg.G_step (o := { dst := some 105, op := Op.call { callee := Callee.value (Operand.func 49), args := #[Operand.tmp 104], argTypes := #[81] }, type := 58, pos := "law.go:60", after := #[{ on := 7, ground := Ground.data }, { on := 6, ground := Ground.chain }, { on := 6, ground := Ground.guard }], guard := some (6, false) }) (by rfl) ?_ (fun K hK => ?_)
          · kernel_rfl
          go_simp
          refine (C7).mono ?_
          rintro e w' ⟨rfl, rfl⟩
          refine hK.out _ _ ?_ (fun hHeld => ?_)
          · exact ⟨e3, e4, e5⟩
          clear hK K
          try simp only [Act.put, List.setIfInBounds_toArray, List.set_cons_zero, List.set_cons_succ]
          refine Reg.G_on (o := { dst := some 108, op := Op.binOp BinOp.neq 58 (Operand.tmp 105) (Operand.tmp 107) 58, type := 4, pos := "law.go:60", after := #[{ on := 8, ground := Ground.data }, { on := 10, ground := Ground.data }, { on := 6, ground := Ground.guard }], guard := some (6, false) }) (v := ?_) (by rfl) ?_ (fun wS hSw => ?_) ?_
          rotate_left
          · kernel_rfl
          · (try dsimp only at hSw); go_simp; (try with_reducible rfl)
          try simp only [Act.put, List.setIfInBounds_toArray, List.set_cons_zero, List.set_cons_succ]
          refine Reg.G_on (o := { dst := some 109, op := Op.pick (Operand.tmp 103) (Operand.const (Value.bool true)) (Operand.tmp 108), type := 4, pos := "law.go:60", after := #[{ on := 6, ground := Ground.data }, { on := 11, ground := Ground.data }], guard := Option.none }) (v := ?_) (by rfl) ?_ (fun wS hSw => ?_) ?_
          rotate_left
          · kernel_rfl
          · (try dsimp only at hSw); go_simp; (try with_reducible rfl)
          try simp only [Act.put, List.setIfInBounds_toArray, List.set_cons_zero, List.set_cons_succ]
          refine Reg.G_on (o := { dst := some 110, op := Op.move (Operand.tmp 109), type := 4, pos := "law.go:60", after := #[{ on := 12, ground := Ground.data }, { on := 8, ground := Ground.chain }], guard := Option.none }) (v := ?_) (by rfl) ?_ (fun wS hSw => ?_) ?_
          rotate_left
          · kernel_rfl
          · (try dsimp only at hSw); go_simp; (try with_reducible rfl)
          try simp only [Act.put, List.setIfInBounds_toArray, List.set_cons_zero, List.set_cons_succ]
          refine Reg.G_on (o := { dst := some 111, op := Op.move (Operand.tmp 5), type := 81, pos := "law.go:60", after := #[{ on := 13, ground := Ground.guard }], guard := some (13, false) }) (v := ?_) (by rfl) ?_ (fun wS hSw => ?_) ?_
          rotate_left
          · kernel_rfl
          · (try dsimp only at hSw); go_simp; (try with_reducible rfl)
          try simp only [Act.put, List.setIfInBounds_toArray, List.set_cons_zero, List.set_cons_succ]
          refine Reg.G_on (o := { dst := some 113, op := Op.fieldAddr 89 (Operand.tmp 6) 5, type := 0, pos := "law.go:60", after := #[{ on := 13, ground := Ground.guard }], guard := some (13, false) }) (v := ?_) (by rfl) ?_ (fun wS hSw => ?_) ?_
          rotate_left
          · kernel_rfl
          · (try dsimp only at hSw); go_simp; (try with_reducible rfl)
          try simp only [Act.put, List.setIfInBounds_toArray, List.set_cons_zero, List.set_cons_succ]
          refine Reg.G_on (o := { dst := some 114, op := Op.load 58 (Operand.tmp 113), type := 58, pos := "law.go:60", after := #[{ on := 16, ground := Ground.data }, { on := 13, ground := Ground.guard }], guard := some (13, false) }) (v := ?_) (by rfl) ?_ (fun wS hSw => ?_) ?_
          rotate_left
          · kernel_rfl
          · (try dsimp only at hSw); go_simp; (try with_reducible rfl)
          try simp only [Act.put, List.setIfInBounds_toArray, List.set_cons_zero, List.set_cons_succ]
          refine Reg.G_step (o := { dst := some 112, op := Op.call { callee := Callee.value (Operand.func 50), args := #[Operand.tmp 111], argTypes := #[81] }, type := 58, pos := "law.go:60", after := #[{ on := 14, ground := Ground.data }, { on := 13, ground := Ground.chain }, { on := 13, ground := Ground.guard }], guard := some (13, false) }) (by rfl) ?_ (fun K hK => ?_)
          · kernel_rfl
          go_simp
          refine (C8).mono ?_
          rintro e w' ⟨rfl, rfl⟩
          refine hK.out _ _ ?_ (fun hHeld => ?_)
          · exact ⟨e3, e4, e5⟩
          clear hK K
          try simp only [Act.put, List.setIfInBounds_toArray, List.set_cons_zero, List.set_cons_succ]
          refine Reg.G_on (o := { dst := some 115, op := Op.binOp BinOp.neq 58 (Operand.tmp 112) (Operand.tmp 114) 58, type := 4, pos := "law.go:60", after := #[{ on := 15, ground := Ground.data }, { on := 17, ground := Ground.data }, { on := 13, ground := Ground.guard }], guard := some (13, false) }) (v := ?_) (by rfl) ?_ (fun wS hSw => ?_) ?_
          rotate_left
          · kernel_rfl
          · (try dsimp only at hSw); go_simp; (try with_reducible rfl)
          try simp only [Act.put, List.setIfInBounds_toArray, List.set_cons_zero, List.set_cons_succ]
          refine Reg.G_on (o := { dst := some 116, op := Op.pick (Operand.tmp 110) (Operand.const (Value.bool true)) (Operand.tmp 115), type := 4, pos := "law.go:60", after := #[{ on := 13, ground := Ground.data }, { on := 18, ground := Ground.data }], guard := Option.none }) (v := ?_) (by rfl) ?_ (fun wS hSw => ?_) ?_
          rotate_left
          · kernel_rfl
          · (try dsimp only at hSw); go_simp; (try with_reducible rfl)
          try simp only [Act.put, List.setIfInBounds_toArray, List.set_cons_zero, List.set_cons_succ]
          refine Reg.G_on (o := { dst := some 117, op := Op.move (Operand.tmp 116), type := 4, pos := "law.go:60", after := #[{ on := 19, ground := Ground.data }, { on := 15, ground := Ground.chain }], guard := Option.none }) (v := ?_) (by rfl) ?_ (fun wS hSw => ?_) ?_
          rotate_left
          · kernel_rfl
          · (try dsimp only at hSw); go_simp; (try with_reducible rfl)
          try simp only [Act.put, List.setIfInBounds_toArray, List.set_cons_zero, List.set_cons_succ]
          refine Reg.G_on (o := { dst := some 118, op := Op.move (Operand.tmp 5), type := 81, pos := "law.go:60", after := #[{ on := 20, ground := Ground.guard }], guard := some (20, false) }) (v := ?_) (by rfl) ?_ (fun wS hSw => ?_) ?_
          rotate_left
          · kernel_rfl
          · (try dsimp only at hSw); go_simp; (try with_reducible rfl)
          try simp only [Act.put, List.setIfInBounds_toArray, List.set_cons_zero, List.set_cons_succ]
          refine Reg.G_on (o := { dst := some 119, op := Op.move (Operand.tmp 5), type := 81, pos := "law.go:60", after := #[{ on := 20, ground := Ground.guard }], guard := some (20, false) }) (v := ?_) (by rfl) ?_ (fun wS hSw => ?_) ?_
          rotate_left
          · kernel_rfl
          · (try dsimp only at hSw); go_simp; (try with_reducible rfl)
          try simp only [Act.put, List.setIfInBounds_toArray, List.set_cons_zero, List.set_cons_succ]
          refine Reg.G_on (o := { dst := some 122, op := Op.fieldAddr 89 (Operand.tmp 6) 3, type := 0, pos := "law.go:60", after := #[{ on := 20, ground := Ground.guard }], guard := some (20, false) }) (v := ?_) (by rfl) ?_ (fun wS hSw => ?_) ?_
          rotate_left
          · kernel_rfl
          · (try dsimp only at hSw); go_simp; (try with_reducible rfl)
          try simp only [Act.put, List.setIfInBounds_toArray, List.set_cons_zero, List.set_cons_succ]
          refine Reg.G_on (o := { dst := some 123, op := Op.load 56 (Operand.tmp 122), type := 56, pos := "law.go:60", after := #[{ on := 25, ground := Ground.data }, { on := 20, ground := Ground.guard }], guard := some (20, false) }) (v := ?_) (by rfl) ?_ (fun wS hSw => ?_) ?_
          rotate_left
          · kernel_rfl
          · (try dsimp only at hSw); go_simp; (try with_reducible rfl)
          try simp only [Act.put, List.setIfInBounds_toArray, List.set_cons_zero, List.set_cons_succ]
          refine Reg.G_step (o := { dst := some 120, op := Op.call { callee := Callee.value (Operand.func 48), args := #[Operand.tmp 119], argTypes := #[81] }, type := 3, pos := "law.go:60", after := #[{ on := 22, ground := Ground.data }, { on := 20, ground := Ground.chain }, { on := 20, ground := Ground.guard }], guard := some (20, false) }) (by rfl) ?_ (fun K hK => ?_)
          · kernel_rfl
          go_simp
          refine (C6).mono ?_
          rintro e w' ⟨rfl, rfl⟩
          refine hK.out _ _ ?_ (fun hHeld => ?_)
          · exact ⟨e3, e4, e5⟩
          clear hK K
          try simp only [Act.put, List.setIfInBounds_toArray, List.set_cons_zero, List.set_cons_succ]
          skip
          refine Reg.G_step (o := { dst := some 121, op := Op.call { callee := Callee.value (Operand.func 46), args := #[Operand.tmp 118, Operand.tmp 120], argTypes := #[81, 3] }, type := 56, pos := "law.go:60", after := #[{ on := 21, ground := Ground.data }, { on := 23, ground := Ground.data }, { on := 23, ground := Ground.chain }, { on := 20, ground := Ground.guard }], guard := some (20, false) }) (by rfl) ?_ (fun K hK => ?_)
          · kernel_rfl
          go_simp
          refine (C9).mono ?_
          rintro e w' ⟨v14, rfl, r14, b14⟩
          refine hK.out _ _ ?_ (fun hHeld => ?_)
          · exact ⟨cbel (w := w11.drew) b14 e3 HR5.out.2, cbel (w := w11.drew) b14 e4 HR5.out.2, cbel (w := w11.drew) b14 e5 HR5.out.2⟩
          clear hK K
          try simp only [Act.put, List.setIfInBounds_toArray, List.set_cons_zero, List.set_cons_succ]
          rename World => w14
          have C10 := rsame2 (row_rd r14) (rd_below HR5.out.1 b14)
          rw [decide_eq_true rfl] at C10
          have f3 := cbel (w := w11.drew) b14 e3 HR5.out.2
          have f4 := cbel (w := w11.drew) b14 e4 HR5.out.2
          have f5 := cbel (w := w11.drew) b14 e5 HR5.out.2
          skip
          refine Reg.G_step (o := { dst := some 124, op := Op.call { callee := Callee.value (Operand.func 34), args := #[Operand.tmp 121, Operand.tmp 123], argTypes := #[56, 56] }, type := 4, pos := "law.go:60", after := #[{ on := 24, ground := Ground.data }, { on := 26, ground := Ground.data }, { on := 24, ground := Ground.chain }, { on := 20, ground := Ground.guard }], guard := some (20, false) }) (by rfl) ?_ (fun K hK => ?_)
          · kernel_rfl
          go_simp
          refine (C10).mono ?_
          rintro e w' ⟨rfl, b15⟩
          refine hK.out _ _ ?_ (fun hHeld => ?_)
          · exact ⟨cbel b15 f3 (Nat.lt_of_lt_of_le HR5.out.2 b14.size), cbel b15 f4 (Nat.lt_of_lt_of_le HR5.out.2 b14.size), cbel b15 f5 (Nat.lt_of_lt_of_le HR5.out.2 b14.size)⟩
          clear hK K
          try simp only [Act.put, List.setIfInBounds_toArray, List.set_cons_zero, List.set_cons_succ]
          refine Reg.G_on (o := { dst := some 125, op := Op.unOp UnOp.not 4 (Operand.tmp 124), type := 4, pos := "law.go:60", after := #[{ on := 27, ground := Ground.data }, { on := 20, ground := Ground.guard }], guard := some (20, false) }) (v := ?_) (by rfl) ?_ (fun wS hSw => ?_) ?_
          rotate_left
          · kernel_rfl
          · (try dsimp only at hSw); go_simp; (try with_reducible rfl)
          try simp only [Act.put, List.setIfInBounds_toArray, List.set_cons_zero, List.set_cons_succ]
          refine Reg.G_on (o := { dst := some 126, op := Op.pick (Operand.tmp 117) (Operand.const (Value.bool true)) (Operand.tmp 125), type := 4, pos := "law.go:60", after := #[{ on := 20, ground := Ground.data }, { on := 28, ground := Ground.data }], guard := Option.none }) (v := ?_) (by rfl) ?_ (fun wS hSw => ?_) ?_
          rotate_left
          · kernel_rfl
          · (try dsimp only at hSw); go_simp; (try with_reducible rfl)
          try simp only [Act.put, List.setIfInBounds_toArray, List.set_cons_zero, List.set_cons_succ]
          refine Reg.G_done ?_
          have HBZ := Lib.hid (bstep (bstep (below_drew (Below.refl w11.heap.size w11)) b14) b15)
          clear hHeld C6 C7 C8 C9 C10 e3 e4 e5 f3 f4 f5 b14 b15 r14
          go_wp2
          rw [show (i : Int) + 1 = ((i + 1 : Nat) : Int) from rfl]
          exact ⟨⟨i + 1, q', F', rfl, hi1.out, HBa.out, HQa.out.below HBZ.out, HPa.out.below HBZ.out, HFa.out, BBa.out.trans (HBZ.out.mono (Nat.le_of_lt HQa.out.lt))⟩, hms.out⟩
        · intro TAIL
          simp only [updl, List.take_succ_cons, List.take_zero, List.drop_succ_cons, List.drop_zero, List.cons_append, List.nil_append] at TAIL
          have hT := Lib.hid TAIL
          clear TAIL hK1
          obtain ⟨B9, n9⟩ := H9.out
          have bb9 := Lib.hid (BB0.out.trans (B9.mono (Nat.le_of_lt HQ0.out.lt)))
          have hs9 := Lib.hid (Nat.le_trans (Nat.le_of_lt HQ0.out.lt) B9.size)
          have q9 := HQ0.out.below B9
          have p9 := HP0.out.below B9
          have y0 := (RstAt.box n9).kind
          have y24 := (RstAt.box n9).n
          have y25 := (RstAt.box n9).now
          have r48 := (RstAt.box n9).smp
          have hl80 : (q.xs.length + 1) * 80 ≤ 140737488355328 := by have h := HB0'.out.1; have h2 := hi200.out; omega
          have hl8 : q.xs.length * 80 ≤ 140737488355328 := Nat.le_trans (Nat.mul_le_mul_right _ (Nat.le_succ _)) hl80
          have HGX : Hid (¬ F wr.heap.size ∧ wr.heap.size ≠ c ∧ wr.heap.size ≠ b ∧ wr.heap.size < w9.heap.size) := Lib.hid ⟨fun hf => Nat.lt_irrefl _ (HQ0.out.old _ hf), fun e => Nat.lt_irrefl _ (e ▸ HQ0.out.lt), fun e => Nat.lt_irrefl _ (e ▸ HP0.out.lt), blk_lt n9⟩
          by_cases hk1 : x.kind = 1
          · rw [hk1] at y0
            have hev9 : (0 ≤ q.ev ∧ q.ev < 1000000000) ∧ (0 ≤ q.lost ∧ q.lost < 1000000000) := by have h := HB0'.out; have h2 := hi200.out; unfold Bd at h; omega
            have C1 : Calls Try.prog 45 _ _ (fun e w' => e = .returned (.tuple #[]) ∧ ∃ F', QS w' F' c n (q.push n x.s).lost (q.push n x.s).ev (q.push n x.s).xs ∧ Grow F F' _ ∧ Mod (HM F c) _ w') := push q9 x.s hl80 hev9.1 hev9.2
            have hB2 : Hid (Bd (i + 1) (q.push n x.s)) := Lib.hid (by
              have h := HB0'.out
              have h1 := pushm_le n q.xs q.lost q.ev x.s
              unfold Bd at h ⊢
              unfold St.push
              dsimp only at h1 ⊢
              omega)
            have HR := Lib.hid (fun (W : World) (G : Nat → Prop) (v : Value) (hr : Rd ks W G v q.xs) (hg : ∀ j, G j → j < W.heap.size) => (show Calls Try.prog 54 #[rqv n v q.lost q.ev, .agg (cells x.s).toArray] W (fun e w' => ∃ v', e = .returned (rqv n v' (q.push n x.s).lost (q.push n x.s).ev) ∧ Rd ks w' (fun k => G k ∨ (W.heap.size ≤ k ∧ k < w'.heap.size)) v' (q.push n x.s).xs ∧ Below W.heap.size W w') from rpush n q.lost q.ev hr hg x.s hl80 hev9.1 hev9.2 q9.r0))
            have P9 := Lib.hid (And.intro p9 n9)
            generalize q.push n x.s = q' at C1 hB2 HR
            clear B9 n9 y24 y25 q9 p9 hl80 hl8 hev9 hk1
            go_wp2_with (first | ((with_reducible refine gate_dst (N := 48) rfl ?_); refine wpList_load_mid rfl 60 (.tmp 47) rfl wr.heap.size 1 rfl (cells x.s) _ r48 Try.underlying60 rfl (size23 _) ?_) | fail)
            refine C1.mono ?_
            rintro e w11 ⟨rfl, F', q2, g2, m2⟩
            obtain ⟨hf2, bb2, hs2⟩ := HF0.out.step bb9.out hs9.out m2 g2
            have p11 := P9.out.1.beside m2 g2
            have n11 := (m2.block _ HGX.out.2.2.2 (fun hh => hh.elim HGX.out.2.1 HGX.out.1)).trans P9.out.2
            have HQ2 := Lib.hid (And.intro q2 (And.intro hf2 (And.intro bb2 hs2)))
            have r52 := (RstAt.box n11).smp
            clear C1 g2 m2 q2 hf2 bb2 hs2 y0 r48 n11
            obtain ⟨G, A5, k5, hb5, hr5, hs5⟩ := p11.ex
            have HP11 := Lib.hid (And.intro p11 (And.intro hb5 (And.intro hr5 hs5)))
            have e0 : w11.cell? ⟨b, 0, none⟩ = some (.int .i64 n.room) := blk_cell hb5 0
            have e1 : w11.cell? ⟨b, 1, none⟩ = some (.int .i64 n.depth) := blk_cell hb5 1
            have e2 : w11.cell? ⟨b, 2, none⟩ = some (.bool n.newest) := blk_cell hb5 2
            have e3 : w11.cell? ⟨b, 3, none⟩ = some (.slice A5 q.xs.length k5) := blk_cell hb5 3
            have e4 : w11.cell? ⟨b, 4, none⟩ = some (.int .u64 q.lost) := blk_cell hb5 4
            have e5 : w11.cell? ⟨b, 5, none⟩ = some (.int .u64 q.ev) := blk_cell hb5 5
            have CE := HR.out w11 G _ hr5 (fun j hj => (hs5 j hj).2.2.2)
            unfold rqv at CE
            clear hr5 hs5 hb5 p11
            go_wp2_with (first | ((with_reducible refine gate_dst (N := 52) rfl ?_); refine wpList_load_mid rfl 60 (.tmp 51) rfl wr.heap.size 1 rfl (cells x.s) _ r52 Try.underlying60 rfl (size23 _) ?_; clear r52) | fail)
            refine CE.mono ?_
            rintro e w12 ⟨v6, rfl, r6, b12⟩
            obtain ⟨A6, k6, rfl, _, _, _⟩ := r6
            rename_i hz1 hz2 hz3
            have R6 : Rd ks w12 (fun k => G k ∨ (w11.heap.size ≤ k ∧ k < w12.heap.size)) (.slice A6 q'.xs.length k6) q'.xs := ⟨A6, k6, rfl, hz1, hz2, hz3⟩
            have hbW := blk_below HP11.out.2.1 b12
            have HT9 := q_there (cur := (qcs n (.slice A5 q.xs.length k5) q.lost q.ev).toArray) rfl hbW n (.slice A6 q'.xs.length k6) q'.lost q'.ev
            have HS6 : Hid (∀ j, (G j ∨ (w11.heap.size ≤ j ∧ j < w12.heap.size)) → ¬ F' j ∧ j ≠ c ∧ j ≠ b ∧ j < w12.heap.size) := Lib.hid (fun j hj => hj.elim (fun hh => ⟨(HP11.out.2.2.2 j hh).1, (HP11.out.2.2.2 j hh).2.1, (HP11.out.2.2.2 j hh).2.2.1, Nat.lt_of_lt_of_le (HP11.out.2.2.2 j hh).2.2.2 b12.size⟩) (fun hh => ⟨fun hf => absurd (HQ2.out.1.old j hf) (Nat.not_lt.2 hh.1), fun e => absurd (e ▸ HQ2.out.1.lt) (Nat.not_lt.2 hh.1), fun e => absurd (e ▸ HP11.out.1.lt) (Nat.not_lt.2 hh.1), hh.2⟩))
            have HW12 := Lib.hid (And.intro hbW (And.intro R6 (And.intro (HQ2.out.1.below b12) (HQ2.out.2.2.1.trans (b12.mono HQ2.out.2.2.2)))))
            have HZ12 := Lib.hid (Nat.le_trans HQ2.out.2.2.2 b12.size)
            clear hbW R6 b12 CE
            go_wp2_with (first | ((with_reducible refine gate_store (p := 6) (v := .tmp 53) rfl ?_); refine Hid.out (p := _) ?_) | fail)
            refine Lib.hid ?_
            refine store_ev rfl 89 (.tmp 6) (.tmp 53) rfl b 0 (qcs n (.slice A6 q'.xs.length k6) q'.lost q'.ev) rfl (q_lit n (.slice A6 q'.xs.length k6) q'.lost q'.ev) ?_ ?_ ?_ ?_
            · exact HT9
            · exact size6 _ _ _ _
            · exact qcs_one _ _ _ _ _ _
            intro w13 hw13
            obtain ⟨p13, q13, K13⟩ := RP.put HW12.out.2.2.1 HP11.out.1.off HP11.out.1.ne HW12.out.1 HW12.out.2.1 HS6.out hw13
            have HY := Lib.hid (And.intro q13 (And.intro p13 (K13 HW12.out.2.2.2 HCB.out HZ12.out)))
            clear hw13 p13 q13 K13 HT9 e0 e1 e2 e3 e4 e5
            go_wp2
            exact hT.out _ _ _ _ _ _ _ _ _ _ _ _ _ _ _ _ _ _ _ _ _ _ _ _ _ _ _ _ _ _ _ _ _ _ _ _ _ _ _ _ _ _ _ _ _ _ _ _ _ _ _ _ _ _ _ _ _ _ _ _ ⟨q', F', hB2.out, HY.out.1, HY.out.2.1, HQ2.out.2.1, HY.out.2.2⟩
          · have hk1' : (x.kind == 1) = false := beq_eq_false_iff_ne.2 hk1
            by_cases hk2 : x.kind = 2
            · rw [hk2] at y0
              have C1 := read (q9.below (w' := w9.drew) (below_drew (Below.refl _ _))) hl8 x.n
              obtain ⟨G, A5, k5, hb5, hr5, hs5⟩ := p9.ex
              have CR : ∀ W, Below w9.heap.size w9 W → Calls Try.prog 55 #[.agg (qcs n (.slice A5 q.xs.length k5) q.lost q.ev).toArray, .int .i64 x.n] W fun e w' => ∃ v', e = .returned v' ∧ Rd ks w' G v' (q.xs.take x.n.toNat) ∧ Below W.heap.size W w' := fun W hW => rread n q.lost q.ev (rd_below hr5 hW) x.n
              have hB2 : Hid (Bd (i + 1) q) := Lib.hid (by
                have h := HB0'.out
                unfold Bd at h ⊢
                omega)
              have HQ9 := Lib.hid (And.intro q9 (And.intro p9 (blk_lt n9)))
              clear B9 n9 y25 q9 p9 hl8 hl80 hk1 hk1' hk2 r48 hr5 hs5
              go_wp2_with fail
              refine Reg.wp_plan (S := fun w' => w'.cell? ⟨wr.heap.size, 24, none⟩ = some (.int .i64 x.n) ∧ w'.heap[b]? = some (.cells (qcs n (.slice A5 q.xs.length k5) q.lost q.ev).toArray 89 (0, 0))) 10 (.fl 0 (.fl 1 (.fl 2 (.fl 4 (.fl 5 (.fl 6 (.one 3 (.one 7 (.one 8 (.fl 9 .done)))))))))) (by kernel_rfl) (by kernel_rfl) (by kernel_rfl) (by kernel_rfl) (fun _ _ _ d _ h => by cases d <;> exact h) ?_ (fun hHeld => ?_)
              · exact ⟨y24, hb5⟩
              refine Reg.G_on (o := { dst := some 56, op := Op.move (Operand.tmp 5), type := 81, pos := "law.go:44", after := #[], guard := Option.none }) (v := ?_) (by rfl) ?_ (fun wS hSw => ?_) ?_
              rotate_left
              · kernel_rfl
              · (try dsimp only at hSw); go_simp; (try with_reducible rfl)
              try simp only [Act.put, List.setIfInBounds_toArray, List.set_cons_zero, List.set_cons_succ]
              refine Reg.G_on (o := { dst := some 57, op := Op.fieldAddr 84 (Operand.tmp 8) 2, type := 0, pos := "law.go:44", after := #[], guard := Option.none }) (v := ?_) (by rfl) ?_ (fun wS hSw => ?_) ?_
              rotate_left
              · kernel_rfl
              · (try dsimp only at hSw); go_simp; (try with_reducible rfl)
              try simp only [Act.put, List.setIfInBounds_toArray, List.set_cons_zero, List.set_cons_succ]
              refine Reg.G_on (o := { dst := some 58, op := Op.load 3 (Operand.tmp 57), type := 3, pos := "law.go:44", after := #[{ on := 1, ground := Ground.data }], guard := Option.none }) (v := ?_) (by rfl) ?_ (fun wS hSw => ?_) ?_
              rotate_left
              · kernel_rfl
              · (try dsimp only at hSw); go_simp; (try with_reducible rfl)
              try simp only [Act.put, List.setIfInBounds_toArray, List.set_cons_zero, List.set_cons_succ]
              refine Reg.G_on (o := { dst := some 60, op := Op.load 89 (Operand.tmp 6), type := 89, pos := "law.go:44", after := #[], guard := Option.none }) (v := .agg (qcs n (.slice A5 q.xs.length k5) q.lost q.ev).toArray) (by rfl) ?_ (fun wS hSw => ?_) ?_
              · kernel_rfl
              · exact load_yields rfl rfl (q_range hSw.2) Try.underlying89 rfl (size6 _ _ _ _)
              try simp only [Act.put, List.setIfInBounds_toArray, List.set_cons_zero, List.set_cons_succ]
              refine Reg.G_on (o := { dst := some 61, op := Op.fieldAddr 84 (Operand.tmp 8) 2, type := 0, pos := "law.go:44", after := #[], guard := Option.none }) (v := ?_) (by rfl) ?_ (fun wS hSw => ?_) ?_
              rotate_left
              · kernel_rfl
              · (try dsimp only at hSw); go_simp; (try with_reducible rfl)
              try simp only [Act.put, List.setIfInBounds_toArray, List.set_cons_zero, List.set_cons_succ]
              refine Reg.G_on (o := { dst := some 62, op := Op.load 3 (Operand.tmp 61), type := 3, pos := "law.go:44", after := #[{ on := 5, ground := Ground.data }], guard := Option.none }) (v := ?_) (by rfl) ?_ (fun wS hSw => ?_) ?_
              rotate_left
              · kernel_rfl
              · (try dsimp only at hSw); go_simp; (try with_reducible rfl)
              try simp only [Act.put, List.setIfInBounds_toArray, List.set_cons_zero, List.set_cons_succ]
              refine Reg.G_step (o := { dst := some 59, op := Op.call { callee := Callee.value (Operand.func 46), args := #[Operand.tmp 56, Operand.tmp 58], argTypes := #[81, 3] }, type := 56, pos := "law.go:44", after := #[{ on := 0, ground := Ground.data }, { on := 2, ground := Ground.data }], guard := Option.none }) (by rfl) ?_ (fun K hK => ?_)
              · kernel_rfl
              go_simp
              refine (C1).mono ?_
              rintro e w' ⟨v10, rfl, r10, b10⟩
              refine hK.out _ _ ?_ (fun hHeld => ?_)
              · exact ⟨cbel (w := w9.drew) b10 y24 HQ9.out.2.2, blk_below (w := w9.drew) hb5 b10⟩
              clear hK K
              try simp only [Act.put, List.setIfInBounds_toArray, List.set_cons_zero, List.set_cons_succ]
              rename World => w10
              have bb10 : Below w9.heap.size w9 w10 := bstep (below_drew (Below.refl w9.heap.size w9)) b10
              have y24b := cbel (w := w9.drew) b10 y24 HQ9.out.2.2
              have hb5b := blk_below (w := w9.drew) hb5 b10
              skip
              refine Reg.G_step (o := { dst := some 63, op := Op.call { callee := Callee.value (Operand.func 55), args := #[Operand.tmp 60, Operand.tmp 62], argTypes := #[89, 3] }, type := 56, pos := "law.go:44", after := #[{ on := 4, ground := Ground.data }, { on := 6, ground := Ground.data }, { on := 3, ground := Ground.chain }], guard := Option.none }) (by rfl) ?_ (fun K hK => ?_)
              · kernel_rfl
              go_simp
              refine (CR _ bb10).mono ?_
              rintro e w' ⟨v12, rfl, r12, b12⟩
              refine hK.out _ _ ?_ (fun hHeld => ?_)
              · exact ⟨cbel b12 y24b (Nat.lt_of_lt_of_le HQ9.out.2.2 bb10.size), blk_below hb5b b12⟩
              clear hK K
              try simp only [Act.put, List.setIfInBounds_toArray, List.set_cons_zero, List.set_cons_succ]
              rename World => w12
              have C10 := rsame2 (rd_below (row_rd r10) b12) r12
              rw [decide_eq_true rfl] at C10
              have y24c := cbel b12 y24b (Nat.lt_of_lt_of_le HQ9.out.2.2 bb10.size)
              have hb5c := blk_below hb5b b12
              have bb12 := bstep bb10 b12
              skip
              refine Reg.G_step (o := { dst := some 64, op := Op.call { callee := Callee.value (Operand.func 34), args := #[Operand.tmp 59, Operand.tmp 63], argTypes := #[56, 56] }, type := 4, pos := "law.go:44", after := #[{ on := 3, ground := Ground.data }, { on := 7, ground := Ground.data }, { on := 7, ground := Ground.chain }], guard := Option.none }) (by rfl) ?_ (fun K hK => ?_)
              · kernel_rfl
              go_simp
              refine (C10).mono ?_
              rintro e w' ⟨rfl, b15⟩
              refine hK.out _ _ ?_ (fun hHeld => ?_)
              · exact ⟨cbel b15 y24c (Nat.lt_of_lt_of_le HQ9.out.2.2 bb12.size), blk_below hb5c b15⟩
              clear hK K
              try simp only [Act.put, List.setIfInBounds_toArray, List.set_cons_zero, List.set_cons_succ]
              refine Reg.G_on (o := { dst := some 65, op := Op.unOp UnOp.not 4 (Operand.tmp 64), type := 4, pos := "law.go:44", after := #[{ on := 8, ground := Ground.data }], guard := Option.none }) (v := ?_) (by rfl) ?_ (fun wS hSw => ?_) ?_
              rotate_left
              · kernel_rfl
              · (try dsimp only at hSw); go_simp; (try with_reducible rfl)
              try simp only [Act.put, List.setIfInBounds_toArray, List.set_cons_zero, List.set_cons_succ]
              refine Reg.G_done ?_
              have HBZ := Lib.hid (bstep bb12 b15)
              clear hHeld C1 C10 CR y24 y24b y24c hb5 hb5b hb5c b10 b12 b15 bb10 bb12 r10 r12 y0
              go_wp2
              exact hT.out _ _ _ _ _ _ _ _ _ _ _ _ _ _ _ _ _ _ _ _ _ _ _ _ _ _ _ _ _ _ _ _ _ _ _ _ _ _ _ _ _ _ _ _ _ _ _ _ _ _ _ _ _ _ _ _ _ _ _ _ ⟨q, F, hB2.out, HQ9.out.1.below HBZ.out, HQ9.out.2.1.below HBZ.out, HF0.out, bb9.out.trans (HBZ.out.mono hs9.out)⟩
            · by_cases hk3 : x.kind = 3
              · rw [hk3] at y0
                obtain ⟨q', hq'⟩ : ∃ q' : St, q' = { q with xs := q.xs.drop x.n.toNat } := ⟨_, rfl⟩
                obtain ⟨out, hout⟩ : ∃ out, out = q.xs.take x.n.toNat := ⟨_, rfl⟩
                obtain ⟨G, A5, k5, hb5, hr5, hs5⟩ := p9.ex
                have CE : Calls Try.prog 56 #[rqv n (.slice A5 q.xs.length k5) q.lost q.ev, .int .i64 x.n] w9 fun e w' => ∃ v1 v2, e = .returned (.tuple #[rqv n v1 q'.lost q'.ev, v2]) ∧ Rd ks w' G v1 q'.xs ∧ Rd ks w' G v2 out ∧ Below w9.heap.size w9 w' := by rw [hq', hout]; exact rtake n q.lost q.ev hr5 (fun j hj => (hs5 j hj).2.2.2) x.n
                unfold rqv at CE
                have hB2 : Hid (Bd (i + 1) q') := Lib.hid (by
                  have h := HB0'.out
                  rw [hq']
                  unfold Bd at h ⊢
                  dsimp only
                  rw [List.length_drop]
                  omega)
                have CT := Lib.hid (fun (W : World) (hW : QS W F c n q.lost q.ev q.xs) => (show Calls Try.prog 47 #[.pointer (some ⟨c, 0, none⟩), .int .i64 x.n] W (fun e w' => ∃ v', e = .returned v' ∧ Row w' (fun k => W.heap.size ≤ k ∧ k < w'.heap.size) v' out ∧ QS w' F c n q'.lost q'.ev q'.xs ∧ Mod (HM F c) W w') from by rw [hq', hout]; exact take hW hl8 x.n))
                have HP9 := Lib.hid (And.intro q9 (And.intro p9 (And.intro n9 (And.intro hb5 hs5))))
                have e0 : w9.cell? ⟨b, 0, none⟩ = some (.int .i64 n.room) := blk_cell hb5 0
                have e1 : w9.cell? ⟨b, 1, none⟩ = some (.int .i64 n.depth) := blk_cell hb5 1
                have e2 : w9.cell? ⟨b, 2, none⟩ = some (.bool n.newest) := blk_cell hb5 2
                have e3 : w9.cell? ⟨b, 3, none⟩ = some (.slice A5 q.xs.length k5) := blk_cell hb5 3
                have e4 : w9.cell? ⟨b, 4, none⟩ = some (.int .u64 q.lost) := blk_cell hb5 4
                have e5 : w9.cell? ⟨b, 5, none⟩ = some (.int .u64 q.ev) := blk_cell hb5 5
                clear B9 n9 y25 q9 p9 hl8 hl80 hk1 hk1' hk2 r48 hr5 hs5 hb5 hq' hout
                go_wp2_with fail
                refine CE.mono ?_
                rintro e w10 ⟨v1, v2, rfl, r1, r2, b10⟩
                obtain ⟨A6, k6, rfl, hz1, hz2, hz3⟩ := r1
                have R6 : Rd ks w10 G (.slice A6 q'.xs.length k6) q'.xs := ⟨A6, k6, rfl, hz1, hz2, hz3⟩
                have R7 := Lib.hid r2
                obtain ⟨A7, k7, rfl, _, _, _⟩ := r2
                obtain ⟨w12, hw12⟩ : ∃ w12, w12 = w10.alloc (.cells #[.int .i64 n.room, .int .i64 n.depth, .bool n.newest, .slice A6 q'.xs.length k6, .int .u64 q'.lost, .int .u64 q'.ev] 89) := ⟨_, rfl⟩
                have b12 : Below w10.heap.size w10 w12 := hw12 ▸ (Below.refl _ _).alloc (Nat.le_refl _) _
                have bb12 := bstep b10 b12
                have hbW := blk_below HP9.out.2.2.2.1 bb12
                have HT9 := q_there (cur := (qcs n (.slice A5 q.xs.length k5) q.lost q.ev).toArray) rfl hbW n (.slice A6 q'.xs.length k6) q'.lost q'.ev
                have HW12 := Lib.hid (And.intro hbW (And.intro (rd_below R6 b12) (And.intro (HP9.out.1.below bb12) (And.intro (bb9.out.trans (bb12.mono hs9.out)) (And.intro (Nat.le_trans hs9.out bb12.size) (And.intro (blk_below HP9.out.2.2.1 bb12) (And.intro (rd_below R7.out b12) bb12.size)))))))
                have HW := Lib.hid hw12
                clear CE R6 R7 b10 b12 bb12 hbW hw12 e0 e1 e2 e3 e4 e5
                go_wp2_with (first | ((with_reducible refine gate_store (p := 6) (v := .tmp 75) rfl ?_); refine Hid.out (p := _) ?_) | fail)
                refine Lib.hid ?_
                rw [← HW.out]
                clear HW
                refine store_ev rfl 89 (.tmp 6) (.tmp 75) rfl b 0 (qcs n (.slice A6 q'.xs.length k6) q'.lost q'.ev) rfl (q_lit n (.slice A6 q'.xs.length k6) q'.lost q'.ev) ?_ ?_ ?_ ?_
                · exact HT9
                · exact size6 _ _ _ _
                · exact qcs_one _ _ _ _ _ _
                intro w13 hw13
                obtain ⟨p13, q13, K13⟩ := RP.put (q' := q') HW12.out.2.2.1 HP9.out.2.1.off HP9.out.2.1.ne HW12.out.1 HW12.out.2.1 (fun j hj => ⟨(HP9.out.2.2.2.2 j hj).1, (HP9.out.2.2.2.2 j hj).2.1, (HP9.out.2.2.2.2 j hj).2.2.1, Nat.lt_of_lt_of_le (HP9.out.2.2.2.2 j hj).2.2.2 HW12.out.2.2.2.2.2.2.2⟩) hw13
                have B13 := K13 HW12.out.2.2.2.1 HCB.out HW12.out.2.2.2.2.1
                have n13 : w13.heap[wr.heap.size]? = some (.cells (rstc x).toArray 84 (0, 0)) := by
                  rw [hw13, setCells_other _ _ _ _ _ HGX.out.2.2.1]
                  exact HW12.out.2.2.2.2.2.1
                have s13 : w13.heap.size = w12.heap.size := by rw [hw13, setCells_size]
                have r13 : Rd ks w13 G (.slice A7 out.length k7) out := HW12.out.2.2.2.2.2.2.1.same flat_ks (fun j hj => by rw [hw13]; exact setCells_other _ _ _ _ j (HP9.out.2.2.2.2 j hj).2.2.1)
                have CT1 := CT.out w13 q13
                have y24d := (RstAt.box n13).n
                have HY := Lib.hid (And.intro p13 (And.intro q13 (And.intro B13 (And.intro r13 (And.intro s13 (Nat.le_trans HW12.out.2.2.2.2.1 (Nat.le_of_eq s13.symm)))))))
                clear hw13 p13 q13 K13 HT9 n13 s13 r13 B13 y24 CT
                go_wp2_with fail
                refine CT1.mono ?_
                rintro e w14 ⟨v14, rfl, r14, q14, m14⟩
                have R14 : Rd ks w14 G (.slice A7 out.length k7) out := HY.out.2.2.2.1.same flat_ks (fun j hj => m14.block j (by rw [HY.out.2.2.2.2.1]; exact Nat.lt_of_lt_of_le (HP9.out.2.2.2.2 j hj).2.2.2 HW12.out.2.2.2.2.2.2.2) (fun hh => hh.elim (HP9.out.2.2.2.2 j hj).2.1 (HP9.out.2.2.2.2 j hj).1))
                have C15 := rsame2 (row_rd r14) R14
                rw [decide_eq_true rfl] at C15
                obtain ⟨hf2, bb2, hs2⟩ := HF0.out.step HY.out.2.2.1 HY.out.2.2.2.2.2 m14 (Grow.refl F w13)
                have HZ := Lib.hid (And.intro q14 (And.intro (HY.out.1.beside m14 (Grow.refl F w13)) (And.intro hf2 (And.intro bb2 hs2))))
                clear CT1 y24d r14 q14 m14 R14 hf2 bb2 hs2
                go_wp2_with fail
                refine C15.mono ?_
                rintro e w15 ⟨rfl, b15⟩
                have HBZ := Lib.hid b15
                clear C15 b15 y0
                go_wp2
                exact hT.out _ _ _ _ _ _ _ _ _ _ _ _ _ _ _ _ _ _ _ _ _ _ _ _ _ _ _ _ _ _ _ _ _ _ _ _ _ _ _ _ _ _ _ _ _ _ _ _ _ _ _ _ _ _ _ _ _ _ _ _ ⟨q', F, hB2.out, HZ.out.1.below HBZ.out, HZ.out.2.1.below HBZ.out, HZ.out.2.2.1, HZ.out.2.2.2.1.trans (HBZ.out.mono HZ.out.2.2.2.2)⟩
              · have hk2' : (x.kind == 2) = false := beq_eq_false_iff_ne.2 hk2
                have hk3' : (x.kind == 3) = false := beq_eq_false_iff_ne.2 hk3
                by_cases hk4 : x.kind = 4
                · rw [hk4] at y0
                  have gn := wf_i64 x.good.2.1
                  obtain ⟨q', hq'⟩ : ∃ q' : St, q' = { q with xs := expm x.now x.n q.xs } := ⟨_, rfl⟩
                  have C1 : Calls Try.prog 51 #[.pointer (some ⟨c, 0, none⟩), .int .u64 x.now, .int .i64 x.n] w9 fun e w' => e = .returned (.tuple #[]) ∧ ∃ F', QS w' F' c n q'.lost q'.ev q'.xs ∧ Grow F F' w9 ∧ Mod (HM F c) w9 w' := by rw [hq']; exact expire q9 hl8 x.now x.n (wf_u64 x.good.2.2).2 gn.1 gn.2
                  have hB2 : Hid (Bd (i + 1) q') := Lib.hid (by
                    have h := HB0'.out
                    have h2 := expm_le x.now x.n q.xs
                    rw [hq']
                    unfold Bd at h ⊢
                    dsimp only
                    omega)
                  have HR := Lib.hid (fun (W : World) (G : Nat → Prop) (v : Value) (hr : Rd ks W G v q.xs) (hg : ∀ j, G j → j < W.heap.size) => (show Calls Try.prog 57 #[rqv n v q.lost q.ev, .int .u64 x.now, .int .i64 x.n] W (fun e w' => ∃ v', e = .returned (rqv n v' q'.lost q'.ev) ∧ Rd ks w' (fun k => G k ∨ (W.heap.size ≤ k ∧ k < w'.heap.size)) v' q'.xs ∧ Below W.heap.size W w') from by rw [hq']; exact rexpire n q.lost q.ev hr hg x.now x.n hl8 (wf_u64 x.good.2.2).2 gn.1 gn.2))
                  have P9 := Lib.hid (And.intro p9 n9)
                  clear B9 n9 q9 p9 hl8 hl80 hk1 hk1' hk2 hk2' hk3 hk3' r48 gn hq'
                  go_wp2_with fail
                  refine C1.mono ?_
                  rintro e w11 ⟨rfl, F', q2, g2, m2⟩
                  obtain ⟨hf2, bb2, hs2⟩ := HF0.out.step bb9.out hs9.out m2 g2
                  have p11 := P9.out.1.beside m2 g2
                  have n11 := (m2.block _ HGX.out.2.2.2 (fun hh => hh.elim HGX.out.2.1 HGX.out.1)).trans P9.out.2
                  have HQ2 := Lib.hid (And.intro q2 (And.intro hf2 (And.intro bb2 hs2)))
                  have y24b := (RstAt.box n11).n
                  have y25b := (RstAt.box n11).now
                  clear C1 g2 m2 q2 hf2 bb2 hs2 y0 y24 y25 n11
                  obtain ⟨G, A5, k5, hb5, hr5, hs5⟩ := p11.ex
                  have HP11 := Lib.hid (And.intro p11 (And.intro hb5 (And.intro hr5 hs5)))
                  have e0 : w11.cell? ⟨b, 0, none⟩ = some (.int .i64 n.room) := blk_cell hb5 0
                  have e1 : w11.cell? ⟨b, 1, none⟩ = some (.int .i64 n.depth) := blk_cell hb5 1
                  have e2 : w11.cell? ⟨b, 2, none⟩ = some (.bool n.newest) := blk_cell hb5 2
                  have e3 : w11.cell? ⟨b, 3, none⟩ = some (.slice A5 q.xs.length k5) := blk_cell hb5 3
                  have e4 : w11.cell? ⟨b, 4, none⟩ = some (.int .u64 q.lost) := blk_cell hb5 4
                  have e5 : w11.cell? ⟨b, 5, none⟩ = some (.int .u64 q.ev) := blk_cell hb5 5
                  have CE := HR.out w11 G _ hr5 (fun j hj => (hs5 j hj).2.2.2)
                  unfold rqv at CE
                  clear hr5 hs5 hb5 p11
                  go_wp2_with fail
                  refine CE.mono ?_
                  rintro e w12 ⟨v6, rfl, r6, b12⟩
                  obtain ⟨A6, k6, rfl, _, _, _⟩ := r6
                  rename_i hz1 hz2 hz3
                  have R6 : Rd ks w12 (fun k => G k ∨ (w11.heap.size ≤ k ∧ k < w12.heap.size)) (.slice A6 q'.xs.length k6) q'.xs := ⟨A6, k6, rfl, hz1, hz2, hz3⟩
                  clear y24b y25b
                  have hbW := blk_below HP11.out.2.1 b12
                  have HT9 := q_there (cur := (qcs n (.slice A5 q.xs.length k5) q.lost q.ev).toArray) rfl hbW n (.slice A6 q'.xs.length k6) q'.lost q'.ev
                  have HS6 : Hid (∀ j, (G j ∨ (w11.heap.size ≤ j ∧ j < w12.heap.size)) → ¬ F' j ∧ j ≠ c ∧ j ≠ b ∧ j < w12.heap.size) := Lib.hid (fun j hj => hj.elim (fun hh => ⟨(HP11.out.2.2.2 j hh).1, (HP11.out.2.2.2 j hh).2.1, (HP11.out.2.2.2 j hh).2.2.1, Nat.lt_of_lt_of_le (HP11.out.2.2.2 j hh).2.2.2 b12.size⟩) (fun hh => ⟨fun hf => absurd (HQ2.out.1.old j hf) (Nat.not_lt.2 hh.1), fun e => absurd (e ▸ HQ2.out.1.lt) (Nat.not_lt.2 hh.1), fun e => absurd (e ▸ HP11.out.1.lt) (Nat.not_lt.2 hh.1), hh.2⟩))
                  have HW12 := Lib.hid (And.intro hbW (And.intro R6 (And.intro (HQ2.out.1.below b12) (HQ2.out.2.2.1.trans (b12.mono HQ2.out.2.2.2)))))
                  have HZ12 := Lib.hid (Nat.le_trans HQ2.out.2.2.2 b12.size)
                  clear hbW R6 b12 CE
                  go_wp2_with (first | ((with_reducible refine gate_store (p := 6) (v := .tmp 96) rfl ?_); refine Hid.out (p := _) ?_) | fail)
                  refine Lib.hid ?_
                  refine store_ev rfl 89 (.tmp 6) (.tmp 96) rfl b 0 (qcs n (.slice A6 q'.xs.length k6) q'.lost q'.ev) rfl (q_lit n (.slice A6 q'.xs.length k6) q'.lost q'.ev) ?_ ?_ ?_ ?_
                  · exact HT9
                  · exact size6 _ _ _ _
                  · exact qcs_one _ _ _ _ _ _
                  intro w13 hw13
                  obtain ⟨p13, q13, K13⟩ := RP.put HW12.out.2.2.1 HP11.out.1.off HP11.out.1.ne HW12.out.1 HW12.out.2.1 HS6.out hw13
                  have HY := Lib.hid (And.intro q13 (And.intro p13 (K13 HW12.out.2.2.2 HCB.out HZ12.out)))
                  clear hw13 p13 q13 K13 HT9 e0 e1 e2 e3 e4 e5
                  go_wp2
                  exact hT.out _ _ _ _ _ _ _ _ _ _ _ _ _ _ _ _ _ _ _ _ _ _ _ _ _ _ _ _ _ _ _ _ _ _ _ _ _ _ _ _ _ _ _ _ _ _ _ _ _ _ _ _ _ _ _ _ _ _ _ _ ⟨q', F', hB2.out, HY.out.1, HY.out.2.1, HQ2.out.2.1, HY.out.2.2⟩
                · have hk4' : (x.kind == 4) = false := beq_eq_false_iff_ne.2 hk4
                  have C1 := clear q9
                  have hB2 : Hid (Bd (i + 1) { q with xs := [] }) := Lib.hid (by
                    have h := HB0'.out
                    unfold Bd at h ⊢
                    dsimp only
                    exact ⟨Nat.zero_le _, h.2.1, by omega, h.2.2.2.1, by omega⟩)
                  have P9 := Lib.hid p9
                  clear B9 n9 q9 p9 hl8 hl80 hk1 hk2 hk3 hk4 y24 y25 r48
                  go_wp2_with fail
                  refine C1.mono ?_
                  rintro e w11 ⟨rfl, q2, m2⟩
                  obtain ⟨hf2, bb2, hs2⟩ := HF0.out.step bb9.out hs9.out m2 (Grow.refl F w9)
                  have p11 := P9.out.beside m2 (Grow.refl F w9)
                  obtain ⟨G, A5, k5, hb5, hr5, hs5⟩ := p11.ex
                  have e3 : w11.cell? ⟨b, 3, none⟩ = some (.slice A5 q.xs.length k5) := blk_cell hb5 3
                  have z3 := blk_frozen hb5 3
                  have HY : Hid (QS (w11.setCell ⟨b, 3, none⟩ (.slice none 0 0)) F c n q.lost q.ev [] ∧ RP (w11.setCell ⟨b, 3, none⟩ (.slice none 0 0)) F c b n { q with xs := [] } ∧ Fr c F c ∧ Below c w1 (w11.setCell ⟨b, 3, none⟩ (.slice none 0 0))) := Lib.hid
                    ⟨q2.same ((Mod.refl (fun j => j = b) w11).set (p := ⟨b, 3, none⟩) (.inl rfl) _) (fun j hj => by rw [show j = b from hj]; exact ⟨p11.off, p11.ne⟩),
                     ⟨⟨fun _ => False, none, 0, blk_put hb5 3 _ rfl, Rd.nil _ _ _, fun j hj => hj.elim⟩, p11.off, p11.ne⟩, hf2, bb2.setCell (p := ⟨b, 3, none⟩) HCB.out _⟩
                  clear C1 y0 q2 m2 hf2 bb2 hs2 p11 hb5 hr5 hs5
                  go_wp2
                  exact hT.out _ _ _ _ _ _ _ _ _ _ _ _ _ _ _ _ _ _ _ _ _ _ _ _ _ _ _ _ _ _ _ _ _ _ _ _ _ _ _ _ _ _ _ _ _ _ _ _ _ _ _ _ _ _ _ _ _ _ _ _ ⟨{ q with xs := [] }, F, hB2.out, HY.out.1, HY.out.2.1, HY.out.2.2.1, HY.out.2.2.2⟩
      · have q1 : ¬ (i : Int) < (l.length : Int) := by omega
        have bw : Below w.heap.size w wr := bstep HB1.out (HCC.out ▸ bb)
        clear hq hp hf hlt hi hB bb
        go_wp2_with fail
        refine (awake _).mono ?_
        rintro e w9 ⟨rfl, b9⟩
        go_wp2
        go_ret
        exact ⟨rfl, bstep bw b9⟩
end Go.Proofs.Ytimalojaiaofkaa.Rng
