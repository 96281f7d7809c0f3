import Derived.Test.YtimalojaiaofkaaPScriptPutsx1
import Derived.Test.YtimalojaiaofkaaWWords
import Derived.Lib.FrozenHead
import Derived.Lib.UnsafeStr
import Derived.RegionTactic
import Derived.Outline
import Derived.Test.YtimalojaiaofkaaSqScriptBack4
set_option linter.unusedVariables false
set_option linter.unusedSimpArgs false
namespace Go.Proofs.Ytimalojaiaofkaa.PScriptTakes
open Go.RowKit Go.Proofs.YtimalojaiaofkaaW.PrintWords Go.Proofs.YtimalojaiaofkaaW.PrintLast Go.Proofs.YtimalojaiaofkaaW.PrintMore Go.Proofs.Ytimalojaiaofkaa Base Wd
theorem tk1 {b : ByteArray} {a : Int} (h0 : 0 ≤ a) (h : a + 1 ≤ b.size) : (takev b a 1).1 = bt b a := by
  unfold takev
  rw [if_neg (by omega), if_neg (by omega)]
  show lev (fun i => bt b (a + i)) 1 = bt b a
  simp [lev]
theorem nxt {b : ByteArray} {a2 a' e' r1 r2 : Int} {r3 : ByteArray} {acc : List S43} {m : Nat} {A : List S43 × Int × Int} (h : acts b (m + 1) a2 acc = A) (he : e' = (oneM b a2).2.2.2.2) (hh : e' = 0 → (r1, r2, r3, a', (0 : Int)) = oneM b a2) :
    if e' = 0 then acts b m a' (acc ++ [(⟨r1, r2, r3⟩ : S43)]) = A ∧ 0 ≤ a' ∧ a' ≤ b.size else A.2.2 = e' := by
  rw [acts] at h
  by_cases c : e' = 0
  · rw [if_pos c]
    rw [if_pos (he.symm.trans c)] at h
    have h1 := hh c
    have h2 := one_at (he.symm.trans c)
    unfold oneA at h
    rw [← h1] at h h2
    exact ⟨h, h2⟩
  · rw [if_neg c]
    rw [if_neg (fun q => c (he.trans q))] at h
    rw [← h]
    exact he.symm
/-- A slice's length. -/
def slen : Value → Nat
  | .slice _ n _ => n
  | _ => 0
theorem R_op {P : Program} {o : Oper} {a : Act} {Q : Exit → Act → World → Prop} {Kc : Act → World → Prop} {α : Type} (d : Kd α) {w0 W : World} (base : Nat) (hgd : o.guard = none) (s x : Operand) (t e : TypeId) (z : Value) (bytes : Nat)
    (ho : o.op = .call { callee := .builtin .append, args := #[s, x], argTypes := #[t, t] })
    (ht : P.underlying t = some (.slice e)) (hinfo : (P.info? e).map (fun i => (i.zero, i.size, i.bytes)) = some (some z, d.sz, bytes)) (hz : z.cells.size = d.sz) (hs0 : 0 < d.sz) (hb0 : 0 < bytes)
    (v : Value) (xs : List α) (p : α) (cs : List Value) (ok okp : Nat → Prop) (hs : a.eval s = v) (hx : a.eval x = .slice (some ⟨W.heap.size, 0, none⟩) 1 1) (hp : d.M W base okp p cs) (hokp : ∀ k, okp k → ok k ∧ some k ≠ v.ownBlock) (hfresh : ∀ k, W.heap.size ≤ k → ok k)
    (HO : d.R e W base ok v xs) (HB : Below base w0 W) (hbase : base ≤ W.heap.size) (hl : (xs.length + 1) * bytes ≤ 140737488355328)
    (h : ∀ v1 w1, d.R e w1 base ok v1 (xs ++ [p]) → Below base w0 w1 → W.grownBy w1 v.ownBlock → (v1.ownBlock = v.ownBlock ∨ ∃ b, v1.ownBlock = some b ∧ W.heap.size ≤ b) → Kc (a.put o.dst v1) w1) :
    Oper.wp P o a (W.alloc (.cells cs.toArray e)) Kc Q := by
  have h0 : Region.wanted o (yielded #[] a.tmps) = true := by unfold Region.wanted; rw [hgd]
  have h1 := Kd.R_append_step (P := P) (ops := #[]) (Q := Q) d base h0 s x t e z bytes ho ht hinfo hz hs0 hb0 v xs p cs ok okp hs hx hp hokp hfresh HO HB hbase hl h
  rwa [if_pos h0] at h1
set_option maxHeartbeats 2000000 in
set_option maxRecDepth 20000 in
theorem ptake (b : ByteArray) (w : World) (hz : b.size ≤ 4611686018427387904) :
    Calls Try.prog 26 #[.string b] w fun e w' => ∃ v : Value, e = .returned (.tuple #[v, .int .i64 (turns b 1024 0 []).2]) ∧ Kd.S k41 41 w' w.heap.size (fun _ => True) v (turns b 1024 0 []).1 ∧ Below w.heap.size w w' := by
  have b0 : Below w.heap.size w (w.alloc (.cells #[.string b, .int .i64 0, .int .i64 0] 114)) := (Below.refl _ _).alloc (Nat.le_refl _) _
  have I0 : IsS114 w (w.alloc (.cells #[.string b, .int .i64 0, .int .i64 0] 114)) w.heap.size b 0 0 := ⟨heap_alloc_new _ _, Nat.le_refl _⟩
  have HZ := Lib.hid hz
  clear hz
  go_enter Try.func26, Try.ntmps26
  go_wp2
  go_loopw [4] (fun v wr => ∃ (d : Nat) (l : List S41) (a : Int), d + l.length = 1024 ∧ Hid (turns b d a l = turns b 1024 0 []) ∧ Hid (0 ≤ a ∧ a ≤ b.size) ∧ Kd.S k41 41 wr w.heap.size (fun k => k ≠ w.heap.size) v l ∧ IsS114 w wr w.heap.size b a 0 ∧ Below w.heap.size w wr) (fun v _ => 1024 - slen v)
  case atStart => exact ⟨1024, [], 0, rfl, Lib.hid rfl, Lib.hid ⟨Int.le_refl _, by omega⟩, Kd.S_nil _ _ _ _ _, I0, b0⟩
  case round =>
    clear b0 I0
    obtain ⟨d, l, a, hd, ht, ha, hS, hI, bb⟩ := hrel
    obtain ⟨Ao, co, rfl⟩ := Kd.S_slice hS
    have c0 : wr.cell? ⟨w.heap.size, 0, none⟩ = some (.string b) := blk_cell hI.1 0
    have c1 : wr.cell? ⟨w.heap.size, 1, none⟩ = some (.int .i64 a) := blk_cell hI.1 1
    by_cases h : a < b.size
    · have hlt : (a : Int) < (b.size : Int) := h
      cases d with
      | zero =>
        have HT : Hid (turns b 1024 0 [] = ([], 3)) := Lib.hid (by rw [← ht.out, turns, if_pos h])
        have h10 : (l.length : Int) = 1024 := by omega
        clear ht hd
        go_wp2
        go_ret2
        exact ⟨.slice none 0 0, by rw [HT.out]; rfl, by rw [HT.out]; exact Kd.S_nil _ _ _ _ _, bb⟩
      | succ d =>
        have h10 : ¬ (l.length : Int) = 1024 := by omega
        have hN := num0 b a 1 12 (by decide) rfl HZ.out ha.out.1 ha.out.2
        rw [if_pos (by omega)] at hN
        have C1 := script_taker_number.calls 12 w.heap.size b a 0 1 _ _ _ _ w (wr.alloc (.cells #[.slice none 0 0] 41)) (hI.alloc _) (bb.alloc bb.size _) hN
        go_wp2_with fail
        refine C1.mono ?_
        rintro e w1 ⟨rfl, I1, b1, kb1⟩
        have g1 := kb1.blk (heap_alloc_new wr (.cells #[.slice none 0 0] 41)) (by have := blk_lt hI.1; omega) (by simp)
        rw [tk1 ha.out.1 (by omega)]
        have hbt := bt_range b a
        obtain ⟨N, hN2⟩ : ∃ N : Nat, bt b a = (N : Int) := ⟨(bt b a).toNat, by omega⟩
        have hNs : Hid (turns b (d + 1) a l = (if (acts b N (a + 1) []).2.2 = 0 then turns b d (acts b N (a + 1) []).2.1 (l ++ [⟨(acts b N (a + 1) []).1⟩]) else ([], (acts b N (a + 1) []).2.2))) := Lib.hid (by rw [turns, if_pos h, hN2, Int.toNat_natCast])
        have hN3 : Hid (N ≤ 255) := Lib.hid (by omega)
        rw [hN2]
        have hS1 := Kd.S_below (Kd.S_alloc hS (.cells #[.slice none 0 0] 41)) (w1 := w1)
        clear C1 hbt hN hN2
        go_wp2
        have hS2 : Kd.S k41 41 w1 w.heap.size (fun k => k ≠ w.heap.size ∧ k ≠ wr.heap.size) (.slice Ao l.length co) l := Kd.S_mono (Kd.S_keep (Kd.S_alloc (Kd.S_mono (Kd.S_bound hS) (fun k hk => (⟨hk.1, Nat.ne_of_lt hk.2.2.1⟩ : k ≠ w.heap.size ∧ k ≠ wr.heap.size))) (.cells #[.slice none 0 0] 41)) kb1 (fun k hk => hk.1)) (fun k hk => hk)
        have hgl := Lib.hid (blk_lt hI.1)
        clear kb1 c0 c1 hI bb hS
        go_wp2
        generalize hgx : wr.heap.size = gx at *
        clear hgx
        go_loopw [7] (fun v wr2 => ∃ (x a2 e2 : Int) (acc : List S43) (u : Value), v = .int .u64 x ∧ Hid (0 ≤ x ∧ acc.length + x.toNat ≤ 255 ∧ (if e2 = 0 then acts b x.toNat a2 acc = acts b N (a + 1) [] ∧ 0 ≤ a2 ∧ a2 ≤ b.size else (acts b N (a + 1) []).2.2 = e2)) ∧ IsS114 w wr2 w.heap.size b a2 e2 ∧ wr2.heap[gx]? = some (.cells #[u] 41 (0, 0)) ∧ Kd.R k43 43 wr2 w.heap.size (fun k => k ≠ w.heap.size ∧ k ≠ gx) u acc ∧ Kd.S k41 41 wr2 w.heap.size (fun k => some k ≠ u.ownBlock ∧ k ≠ w.heap.size ∧ k ≠ gx) (.slice Ao l.length co) l ∧ Below w.heap.size w wr2) (fun v _ => (intOf v).toNat)
        case atStart => exact ⟨(N : Int), a + 1, 0, [], .slice none 0 0, rfl, Lib.hid ⟨by omega, by have := hN3.out; simp; omega, by rw [if_pos rfl, Int.toNat_natCast]; exact ⟨rfl, by have := ha.out; omega, by have := ha.out; omega⟩⟩, I1, g1, Kd.R_nil _ _ _ _ _, Kd.S_mono hS2 (fun k hk => ⟨by simp [Value.ownBlock], hk⟩), b1⟩
        case round =>
          clear I1 g1 hS2 b1
          obtain ⟨x, a2, e2, acc, u, rfl, hx, hI, g2, hR, hS, bb⟩ := hrel
          obtain ⟨A2, c2, rfl⟩ := Kd.R_slice hR
          have t2 : wr.cell? ⟨w.heap.size, 2, none⟩ = some (.int .i64 e2) := blk_cell hI.1 2
          have x0 : wr.cell? ⟨gx, 0, none⟩ = some (.slice A2 acc.length c2) := blk_cell g2 0
          have z0 := blk_frozen g2 0
          by_cases he : e2 = 0
          · subst he
            have hx3 : Hid (acts b x.toNat a2 acc = acts b N (a + 1) [] ∧ 0 ≤ a2 ∧ a2 ≤ b.size) := Lib.hid (by have h := hx.out.2.2; rw [if_pos rfl] at h; exact h)
            by_cases hx0 : 0 < x
            · obtain ⟨r1, r2, r3, a', e', hf, he', hh⟩ := act_ev b a2 HZ.out hx3.out.2.1 hx3.out.2.2
              have C2 := script_taker_act.calls 20 w.heap.size b a2 0 r1 r2 r3 b a' e' w wr.drew hI.drew bb.drew hf
              have hw : IntKind.u64.wrap (x - 1) = x - 1 := wrapu64 (by omega) (by have := hx.out.2.1; omega)
              have hX := Lib.hid (And.intro he' hh)
              clear he' hh hf
              go_wp2
              refine Reg.wp_plan (S := fun w' => w'.cell? ⟨gx, 0, none⟩ = some (.slice A2 acc.length c2)) 7 (.fl 0 (.fl 1 (.fl 2 (.one 3 (.one 4 (.one 5 (.fl 6 (.one 7 .done)))))))) (by kernel_rfl) (by kernel_rfl) (by kernel_rfl) (by kernel_rfl) (fun _ _ _ d _ h => by cases d <;> exact h) ?_ (fun hHeld => ?_)
              · exact x0
              refine Reg.G_on (o := { dst := some 34, op := Op.fieldAddr 41 (Operand.tmp 6) 0, type := 0, pos := "script.go:139", after := #[], guard := Option.none }) (v := ?_) (by rfl) ?_ (fun wS hSw => ?_) ?_
              rotate_left
              · kernel_rfl
              · (try dsimp only at hSw); go_simp; (try with_reducible rfl)
              try simp only [Act.put, List.setIfInBounds_toArray, List.set_cons_zero, List.set_cons_succ]
              refine Reg.G_on (o := { dst := some 35, op := Op.load 39 (Operand.tmp 34), type := 39, pos := "script.go:139", after := #[{ on := 0, ground := Ground.data }], guard := Option.none }) (v := ?_) (by rfl) ?_ (fun wS hSw => ?_) ?_
              rotate_left
              · kernel_rfl
              · (try dsimp only at hSw); go_simp; (try with_reducible rfl)
              try simp only [Act.put, List.setIfInBounds_toArray, List.set_cons_zero, List.set_cons_succ]
              refine Reg.G_on (o := { dst := some 36, op := Op.move (Operand.tmp 5), type := 112, pos := "script.go:139", after := #[], guard := Option.none }) (v := ?_) (by rfl) ?_ (fun wS hSw => ?_) ?_
              rotate_left
              · kernel_rfl
              · (try dsimp only at hSw); go_simp; (try with_reducible rfl)
              try simp only [Act.put, List.setIfInBounds_toArray, List.set_cons_zero, List.set_cons_succ]
              refine Reg.G_step (o := { dst := some 37, op := Op.call { callee := Callee.value (Operand.func 67), args := #[Operand.tmp 36], argTypes := #[112] }, type := 43, pos := "script.go:139", after := #[{ on := 2, ground := Ground.data }], guard := Option.none }) (by rfl) ?_ (fun K hK => ?_)
              · kernel_rfl
              go_simp
              refine (C2).mono ?_
              rintro e w' ⟨rfl, I3, b3, kb3⟩
              refine hK.out _ _ ?_ (fun hHeld => ?_)
              · exact blk_cell (kb3.blk g2 (Nat.ne_of_gt hgl.out) (by simp)) 0
              clear hK K
              try simp only [Act.put, List.setIfInBounds_toArray, List.set_cons_zero, List.set_cons_succ]
              rename World => w3
              have g3 := kb3.blk g2 (Nat.ne_of_gt hgl.out) (by simp)
              have R3 := Kd.R_keep (Kd.R_drew hR) kb3 (fun k hk => hk.1)
              have S3 := Kd.S_keep (Kd.S_drew hS) kb3 (fun k hk => hk.2.1)
              have L3 := blk_lt g3
              clear kb3 hI g2 hR hS bb t2 x0 C2
              refine Reg.G_step (o := { dst := some 38, op := Op.buildSlice 39 1 #[(0, Operand.tmp 37)], type := 39, pos := "script.go:139", after := #[{ on := 3, ground := Ground.data }], guard := Option.none }) (by rfl) ?_ (fun K hK => ?_)
              · kernel_rfl
              go_simp
              refine hK.out _ _ ?_ (fun hHeld => ?_)
              · exact cnew (blk_cell g3 0)
              clear hK K
              try simp only [Act.put, List.setIfInBounds_toArray, List.set_cons_zero, List.set_cons_succ]
              refine Reg.G_step (o := { dst := some 39, op := Op.call { callee := Callee.builtin Builtin.append, args := #[Operand.tmp 35, Operand.tmp 38], argTypes := #[39, 39] }, type := 39, pos := "script.go:139", after := #[{ on := 1, ground := Ground.data }, { on := 4, ground := Ground.data }, { on := 3, ground := Ground.chain }], guard := Option.none }) (by rfl) ?_ (fun K hK => ?_)
              · kernel_rfl
              refine R_op k43 (w0 := w) w.heap.size rfl (.tmp 35) (.tmp 38) 39 43 (.agg #[.int .i64 0, .int .i64 0, .string ⟨#[]⟩]) 32 rfl Try.underlying39 info43 rfl (by decide) (by decide) (.slice A2 acc.length c2) acc (⟨r1, r2, r3⟩ : S43) [.int .i64 r1, .int .i64 r2, .string r3] (fun k => k ≠ w.heap.size ∧ k ≠ gx) (fun _ => False) rfl rfl (k43_mkM _ _ _ _) (fun _ h => h.elim) (fun k hk => ⟨by have := hgl.out; omega, by omega⟩) R3 b3 b3.size (by have := hx.out.2.1; omega) (fun v1 w4 ho hb hg hat => ?_)
              refine hK.out _ _ ?_ (fun hHeld => ?_)
              · exact blk_cell (blk_grown g3 hg (Kd.R_away R3 (fun _ hk => hk.2))) 0
              clear hK K
              try simp only [Act.put, List.setIfInBounds_toArray, List.set_cons_zero, List.set_cons_succ]
              have g4 := blk_grown g3 hg (Kd.R_away R3 (fun _ hk => hk.2))
              have I4 := blk_grown I3.1 hg (Kd.R_away R3 (fun _ hk => hk.1))
              have S4 := Kd.S_after (ok := fun k => k ≠ w.heap.size ∧ k ≠ gx) (Kd.S_mono S3 (fun k hk => ⟨hk.2, hk.1⟩)) hg hat
              have z4 := blk_frozen g4 0
              have x4 := blk_cell g4 0
              clear R3 S3 I3 g3 b3 hg hat z0 hHeld
              obtain ⟨A4, c4, rfl⟩ := Kd.R_slice ho
              refine Reg.G_on (o := { dst := some 40, op := Op.fieldAddr 41 (Operand.tmp 6) 0, type := 0, pos := "script.go:139", after := #[{ on := 0, ground := Ground.phase }, { on := 1, ground := Ground.phase }, { on := 2, ground := Ground.phase }, { on := 3, ground := Ground.phase }, { on := 4, ground := Ground.phase }, { on := 5, ground := Ground.phase }], guard := Option.none }) (v := ?_) (by rfl) ?_ (fun wS hSw => ?_) ?_
              rotate_left
              · kernel_rfl
              · (try dsimp only at hSw); go_simp; (try with_reducible rfl)
              try simp only [Act.put, List.setIfInBounds_toArray, List.set_cons_zero, List.set_cons_succ]
              refine Reg.G_last (o := { dst := Option.none, op := Op.store 39 (Operand.tmp 40) (Operand.tmp 39), type := 0, pos := "script.go:139", after := #[{ on := 6, ground := Ground.data }, { on := 5, ground := Ground.data }, { on := 5, ground := Ground.chain }, { on := 0, ground := Ground.phase }, { on := 1, ground := Ground.phase }, { on := 2, ground := Ground.phase }, { on := 3, ground := Ground.phase }, { on := 4, ground := Ground.phase }, { on := 5, ground := Ground.phase }], guard := Option.none }) (by rfl) (by rfl) ?_ (fun K hK => ?_)
              · kernel_rfl
              go_simp
              refine hK.out _ _ ?_
              clear hK K
              try simp only [Act.put, List.setIfInBounds_toArray, List.set_cons_zero, List.set_cons_succ]
              go_wp2
              have hlen : (acc ++ [(⟨r1, r2, r3⟩ : S43)]).length = acc.length + 1 := by rw [List.length_append, List.length_singleton]
              rw [hlen] at ho S4
              have hgw : w.heap.size ≤ gx := Nat.le_of_lt hgl.out
              refine ⟨⟨x - 1, a', e', acc ++ [(⟨r1, r2, r3⟩ : S43)], .slice A4 (acc.length + 1) c4, rfl, ?_, ⟨blk_far I4 (Nat.ne_of_lt hgl.out) _, Nat.le_refl _⟩, blk_put g4 0 _ rfl, Kd.R_far (p := ⟨gx, 0, none⟩) ho (fun _ hk => hk.2) _, Kd.S_mono (Kd.S_far (p := ⟨gx, 0, none⟩) S4 (fun _ hk => hk.1.2) _) (fun k hk => ⟨hk.2, hk.1⟩), hb.setCell (p := ⟨gx, 0, none⟩) hgw _⟩, ?_⟩
              · obtain ⟨m, hm⟩ : ∃ m : Nat, x.toNat = m + 1 := ⟨x.toNat - 1, by omega⟩
                have hm1 : (x - 1).toNat = m := by omega
                have h3 := hx3.out
                rw [hm] at h3
                refine Lib.hid ⟨by omega, ?_, ?_⟩
                · rw [hlen, hm1]
                  have := hx.out.2.1
                  omega
                · rw [hm1]
                  exact nxt h3.1 hX.out.1 hX.out.2
              · show (x - 1).toNat < x.toNat
                omega
            · obtain rfl : x = 0 := by have := hx.out.1; omega
              have h3 := hx3.out
              have hT2 : Hid (turns b d a2 (l ++ [(⟨acc⟩ : S41)]) = turns b 1024 0 []) := Lib.hid (by
                rw [← ht.out, hNs.out, ← h3.1]
                rfl)
              have ha2 := Lib.hid h3.2
              have hl2 : Hid (l.length + 1 ≤ 1024) := Lib.hid (by omega)
              have hd2 : Hid (d + 1 + l.length = 1024) := Lib.hid hd
              have hR2 := Kd.R_apart' hR (Kd.S_typed hS) (by decide)
              have y0 := Kd.S_away hS (g := gx) (fun _ hk => hk.2.2)
              have y1 := Kd.S_away hS (g := w.heap.size) (fun _ hk => hk.2.1)
              clear h3 hx3 hx hNs ht hd hN3 ha
              go_wp2_with (at_builtin; refine Kd.S_append k41 (w0 := w) w.heap.size rfl (.tmp 50) (.tmp 52) 35 41 (.agg #[.slice none 0 0]) 24 rfl Try.underlying35 info41 rfl (by decide) (by decide) (.slice Ao l.length co) l (⟨acc⟩ : S41) [.slice A2 acc.length c2] (fun k => k ≠ w.heap.size ∧ k ≠ gx) (fun k => some k = (.slice A2 acc.length c2 : Value).ownBlock) rfl rfl (k41_mkM _ _ _ (⟨acc⟩ : S41) (Kd.R_tight rfl hR)) (fun k hk => hR2.1 k hk.symm) (fun k hk => ⟨by have := blk_lt hI.1; omega, by have := blk_lt g2; omega⟩) (Kd.S_mono hS (fun k hk => ⟨hk.2, fun e => hk.1 e⟩)) bb bb.size (by have := hl2.out; omega) ?_; intro v1 w4 ho hb hg hat; have I4 := blk_grown hI.1 hg y1; clear hR hR2 hS bb g2 hI t2 x0 z0 hg hat y0 y1)
              refine ⟨⟨d, l ++ [(⟨acc⟩ : S41)], a2, ?_, hT2, ha2, Kd.S_mono ho (fun k hk => hk.1), ⟨I4, Nat.le_refl _⟩, hb⟩, ?_⟩
              · rw [List.length_append, List.length_singleton]
                have := hd2.out
                omega
              · obtain ⟨A5, c5, rfl⟩ := Kd.S_slice ho
                show 1024 - (l ++ [(⟨acc⟩ : S41)]).length < 1024 - l.length
                rw [List.length_append, List.length_singleton]
                have := hl2.out
                omega
          · have h3 := hx.out.2.2
            rw [if_neg he] at h3
            have HT : Hid (turns b 1024 0 [] = ([], e2)) := Lib.hid (by rw [← ht.out, hNs.out, h3, if_neg he])
            have he1 : (e2 == 0) = false := beq_eq_false_iff_ne.2 he
            have he2 : (e2 != 0) = true := bne_iff_ne.2 he
            clear h3 hx hNs ht hd hN3 ha he
            by_cases hx0 : 0 < x
            · go_wp2
              refine Reg.wp_plan (S := fun w' => w'.cell? ⟨w.heap.size, 2, none⟩ = some (.int .i64 e2)) 6 (.fl 0 (.fl 1 (.fl 2 (.fl 3 (.fl 4 (.fl 5 .done)))))) (by kernel_rfl) (by kernel_rfl) (by kernel_rfl) (by kernel_rfl) (fun _ _ _ d _ h => by cases d <;> exact h) ?_ (fun hHeld => ?_)
              · exact t2
              refine Reg.G_on (o := { dst := some 46, op := Op.move (Operand.tmp 5), type := 112, pos := "script.go:142", after := #[{ on := 4, ground := Ground.gcOnly Departure.lateStores }], guard := Option.none }) (v := ?_) (by rfl) ?_ (fun wS hSw => ?_) ?_
              rotate_left
              · kernel_rfl
              · (try dsimp only at hSw); go_simp; (try with_reducible rfl)
              try simp only [Act.put, List.setIfInBounds_toArray, List.set_cons_zero, List.set_cons_succ]
              refine Reg.G_on (o := { dst := some 47, op := Op.nilCheck (Operand.tmp 46), type := 0, pos := "script.go:142", after := #[{ on := 0, ground := Ground.data }, { on := 4, ground := Ground.gcOnly Departure.lateStores }], guard := Option.none }) (v := ?_) (by rfl) ?_ (fun wS hSw => ?_) ?_
              rotate_left
              · kernel_rfl
              · (try dsimp only at hSw); go_simp; (try with_reducible rfl)
              try simp only [Act.put, List.setIfInBounds_toArray, List.set_cons_zero, List.set_cons_succ]
              refine Reg.G_on (o := { dst := some 48, op := Op.fieldAddr 114 (Operand.tmp 47) 2, type := 0, pos := "script.go:142", after := #[{ on := 1, ground := Ground.data }, { on := 4, ground := Ground.gcOnly Departure.lateStores }], guard := Option.none }) (v := ?_) (by rfl) ?_ (fun wS hSw => ?_) ?_
              rotate_left
              · kernel_rfl
              · (try dsimp only at hSw); go_simp; (try with_reducible rfl)
              try simp only [Act.put, List.setIfInBounds_toArray, List.set_cons_zero, List.set_cons_succ]
              refine Reg.G_on (o := { dst := some 49, op := Op.load 24 (Operand.tmp 48), type := 24, pos := "script.go:142", after := #[{ on := 2, ground := Ground.data }, { on := 4, ground := Ground.gcOnly Departure.lateStores }], guard := Option.none }) (v := ?_) (by rfl) ?_ (fun wS hSw => ?_) ?_
              rotate_left
              · kernel_rfl
              · (try dsimp only at hSw); go_simp; (try with_reducible rfl)
              try simp only [Act.put, List.setIfInBounds_toArray, List.set_cons_zero, List.set_cons_succ]
              refine Reg.G_on (o := { dst := some 2, op := Op.assign (Operand.const (Value.slice Option.none 0 0)), type := 35, pos := "script.go:142", after := #[{ on := 0, ground := Ground.textOnly Departure.lateStores }, { on := 1, ground := Ground.textOnly Departure.lateStores }, { on := 2, ground := Ground.textOnly Departure.lateStores }, { on := 3, ground := Ground.textOnly Departure.lateStores }], guard := Option.none }) (v := ?_) (by rfl) ?_ (fun wS hSw => ?_) ?_
              rotate_left
              · kernel_rfl
              · (try dsimp only at hSw); go_simp; (try with_reducible rfl)
              try simp only [Act.put, List.setIfInBounds_toArray, List.set_cons_zero, List.set_cons_succ]
              refine Reg.G_on (o := { dst := some 3, op := Op.assign (Operand.tmp 49), type := 24, pos := "script.go:142", after := #[{ on := 3, ground := Ground.data }, { on := 4, ground := Ground.chain }, { on := 0, ground := Ground.phase }, { on := 1, ground := Ground.phase }, { on := 2, ground := Ground.phase }, { on := 3, ground := Ground.phase }, { on := 4, ground := Ground.phase }], guard := Option.none }) (v := ?_) (by rfl) ?_ (fun wS hSw => ?_) ?_
              rotate_left
              · kernel_rfl
              · (try dsimp only at hSw); go_simp; (try with_reducible rfl)
              try simp only [Act.put, List.setIfInBounds_toArray, List.set_cons_zero, List.set_cons_succ]
              refine Reg.G_done ?_
              clear hHeld
              go_wp2
              go_ret2
              exact ⟨.slice none 0 0, by rw [HT.out]; rfl, by rw [HT.out]; exact Kd.S_nil _ _ _ _ _, bb.drew⟩
            · go_wp2
              refine Reg.wp_plan (S := fun w' => w'.cell? ⟨w.heap.size, 2, none⟩ = some (.int .i64 e2)) 6 (.fl 0 (.fl 1 (.fl 2 (.fl 3 (.fl 4 (.fl 5 .done)))))) (by kernel_rfl) (by kernel_rfl) (by kernel_rfl) (by kernel_rfl) (fun _ _ _ d _ h => by cases d <;> exact h) ?_ (fun hHeld => ?_)
              · exact t2
              refine Reg.G_on (o := { dst := some 46, op := Op.move (Operand.tmp 5), type := 112, pos := "script.go:142", after := #[{ on := 4, ground := Ground.gcOnly Departure.lateStores }], guard := Option.none }) (v := ?_) (by rfl) ?_ (fun wS hSw => ?_) ?_
              rotate_left
              · kernel_rfl
              · (try dsimp only at hSw); go_simp; (try with_reducible rfl)
              try simp only [Act.put, List.setIfInBounds_toArray, List.set_cons_zero, List.set_cons_succ]
              refine Reg.G_on (o := { dst := some 47, op := Op.nilCheck (Operand.tmp 46), type := 0, pos := "script.go:142", after := #[{ on := 0, ground := Ground.data }, { on := 4, ground := Ground.gcOnly Departure.lateStores }], guard := Option.none }) (v := ?_) (by rfl) ?_ (fun wS hSw => ?_) ?_
              rotate_left
              · kernel_rfl
              · (try dsimp only at hSw); go_simp; (try with_reducible rfl)
              try simp only [Act.put, List.setIfInBounds_toArray, List.set_cons_zero, List.set_cons_succ]
              refine Reg.G_on (o := { dst := some 48, op := Op.fieldAddr 114 (Operand.tmp 47) 2, type := 0, pos := "script.go:142", after := #[{ on := 1, ground := Ground.data }, { on := 4, ground := Ground.gcOnly Departure.lateStores }], guard := Option.none }) (v := ?_) (by rfl) ?_ (fun wS hSw => ?_) ?_
              rotate_left
              · kernel_rfl
              · (try dsimp only at hSw); go_simp; (try with_reducible rfl)
              try simp only [Act.put, List.setIfInBounds_toArray, List.set_cons_zero, List.set_cons_succ]
              refine Reg.G_on (o := { dst := some 49, op := Op.load 24 (Operand.tmp 48), type := 24, pos := "script.go:142", after := #[{ on := 2, ground := Ground.data }, { on := 4, ground := Ground.gcOnly Departure.lateStores }], guard := Option.none }) (v := ?_) (by rfl) ?_ (fun wS hSw => ?_) ?_
              rotate_left
              · kernel_rfl
              · (try dsimp only at hSw); go_simp; (try with_reducible rfl)
              try simp only [Act.put, List.setIfInBounds_toArray, List.set_cons_zero, List.set_cons_succ]
              refine Reg.G_on (o := { dst := some 2, op := Op.assign (Operand.const (Value.slice Option.none 0 0)), type := 35, pos := "script.go:142", after := #[{ on := 0, ground := Ground.textOnly Departure.lateStores }, { on := 1, ground := Ground.textOnly Departure.lateStores }, { on := 2, ground := Ground.textOnly Departure.lateStores }, { on := 3, ground := Ground.textOnly Departure.lateStores }], guard := Option.none }) (v := ?_) (by rfl) ?_ (fun wS hSw => ?_) ?_
              rotate_left
              · kernel_rfl
              · (try dsimp only at hSw); go_simp; (try with_reducible rfl)
              try simp only [Act.put, List.setIfInBounds_toArray, List.set_cons_zero, List.set_cons_succ]
              refine Reg.G_on (o := { dst := some 3, op := Op.assign (Operand.tmp 49), type := 24, pos := "script.go:142", after := #[{ on := 3, ground := Ground.data }, { on := 4, ground := Ground.chain }, { on := 0, ground := Ground.phase }, { on := 1, ground := Ground.phase }, { on := 2, ground := Ground.phase }, { on := 3, ground := Ground.phase }, { on := 4, ground := Ground.phase }], guard := Option.none }) (v := ?_) (by rfl) ?_ (fun wS hSw => ?_) ?_
              rotate_left
              · kernel_rfl
              · (try dsimp only at hSw); go_simp; (try with_reducible rfl)
              try simp only [Act.put, List.setIfInBounds_toArray, List.set_cons_zero, List.set_cons_succ]
              refine Reg.G_done ?_
              clear hHeld
              go_wp2
              go_ret2
              exact ⟨.slice none 0 0, by rw [HT.out]; rfl, by rw [HT.out]; exact Kd.S_nil _ _ _ _ _, bb.drew⟩
    · have HT : Hid (turns b 1024 0 [] = (l, 0)) := Lib.hid (by rw [← ht.out]; cases d <;> rw [turns, if_neg h])
      clear ht
      go_wp2
      go_ret2
      exact ⟨.slice Ao l.length co, by rw [HT.out]; rfl, by rw [HT.out]; exact Kd.S_mono hS (fun _ _ => trivial), bb⟩
end Go.Proofs.Ytimalojaiaofkaa.PScriptTakes
namespace Go.Proofs.Ytimalojaiaofkaa.Scr
open Go.RowKit Base Wd
/-- A number's bytes, and an action's: what is wrong with it, what they are. -/
def nby (n s : Int) : ByteArray := (if sz s then putv n s else (⟨#[]⟩, 4)).1
def actE (k a : Int) (s : ByteArray) : Int := if k ≠ 1 ∧ k ≠ 2 then 4 else if k = 1 ∧ (bitv a 4).2 ≠ 0 then 7 else if 65535 < s.size then 3 else 0
def actP (k a : Int) : ByteArray := if k = 1 then nby k 1 ++ nby (bitv a 4).1 4 else nby k 1
def actB (k a : Int) (s : ByteArray) : ByteArray := actP k a ++ nby s.size 2 ++ s
def ract (k a : Int) (s : ByteArray) : ByteArray × Int := if actE k a s ≠ 0 then (⟨#[]⟩, actE k a s) else (actB k a s, 0)
theorem nby_size (n s : Int) (hs : s ≤ 8) : (nby n s).size ≤ 8 := by
  unfold nby
  split
  · unfold putv
    split
    · show (strOfNums (le n s.toNat)).size ≤ 8
      rw [strOfNums_size, le_len]
      omega
    · exact Nat.zero_le _
  · exact Nat.zero_le _
theorem actP_size (k a : Int) : (actP k a).size ≤ 16 := by
  have h1 := nby_size k 1 (by decide)
  have h2 := nby_size (bitv a 4).1 4 (by decide)
  unfold actP
  split
  · rw [ByteArray.size_append]; omega
  · omega
theorem bitv_range (a : Int) : 0 ≤ (bitv a 4).1 ∧ (bitv a 4).1 < 4294967296 := by
  unfold bitv
  split
  · show 0 ≤ a % 4294967296 ∧ a % 4294967296 < 4294967296
    omega
  · exact ⟨Int.le_refl _, by decide⟩
end Go.Proofs.Ytimalojaiaofkaa.Scr
namespace Go.Proofs.Ytimalojaiaofkaa.ScW
open Go.RowKit Base Go.Proofs.YtimalojaiaofkaaW.PrintWords Go.Proofs.YtimalojaiaofkaaW.PrintLast Go.Proofs.YtimalojaiaofkaaW.PrintMore Wd Go.Proofs.Ytimalojaiaofkaa.PScriptPuts
theorem sized_eq (s : Int) : word_sized.f s = some (sz s) := by
  unfold word_sized.f sz
  by_cases h1 : s = 1
  · simp [h1]
  · by_cases h2 : s = 2
    · simp [h2]
    · by_cases h4 : s = 4
      · simp [h4]
      · simp [h1, h2, h4]
theorem sign_1 (n : Int) : word_Sign.f n 1 = some (sgn n 1) := by
  unfold word_Sign.f
  rw [sized_eq, show sz 1 = true from rfl, Option.bind_some, if_pos rfl, show IntKind.u64.wrap (wrap64 (64 - wrap64 (8 * 1))) = ((56 : Nat) : Int) from by kernel_rfl, if_pos (by decide), shi _ _ (by decide), sl_ _ _ (by decide)]
  congr 1
  unfold sgn pw hf wrap64
  simp only [if_true]
  omega
theorem sign_2 (n : Int) : word_Sign.f n 2 = some (sgn n 2) := by
  unfold word_Sign.f
  rw [sized_eq, show sz 2 = true from rfl, Option.bind_some, if_pos rfl, show IntKind.u64.wrap (wrap64 (64 - wrap64 (8 * 2))) = ((48 : Nat) : Int) from by kernel_rfl, if_pos (by decide), shi _ _ (by decide), sl_ _ _ (by decide)]
  congr 1
  unfold sgn pw hf wrap64
  simp
  omega
theorem sign_4 (n : Int) : word_Sign.f n 4 = some (sgn n 4) := by
  unfold word_Sign.f
  rw [sized_eq, show sz 4 = true from rfl, Option.bind_some, if_pos rfl, show IntKind.u64.wrap (wrap64 (64 - wrap64 (8 * 4))) = ((32 : Nat) : Int) from by kernel_rfl, if_pos (by decide), shi _ _ (by decide), sl_ _ _ (by decide)]
  congr 1
  unfold sgn pw hf wrap64
  simp
  omega
theorem sign_8 (n : Int) : word_Sign.f n 8 = some (sgn n 8) := by
  unfold word_Sign.f
  rw [sized_eq, show sz 8 = true from rfl, Option.bind_some, if_pos rfl, show IntKind.u64.wrap (wrap64 (64 - wrap64 (8 * 8))) = ((0 : Nat) : Int) from by kernel_rfl, if_pos (by decide), shi _ _ (by decide), sl_ _ _ (by decide)]
  congr 1
  unfold sgn pw hf wrap64
  simp
  omega
theorem sign_eq (n s : Int) : word_Sign.f n s = some (if sz s then sgn n s else 0) := by
  cases h : sz s with
  | false =>
    unfold word_Sign.f
    rw [sized_eq, h]
    rfl
  | true =>
    rcases sz_cases h with rfl | rfl | rfl | rfl
    · exact sign_1 n
    · exact sign_2 n
    · exact sign_4 n
    · exact sign_8 n
theorem mask_eq {s : Int} (h : sz s = true) : word_mask.f s = some (pw s - 1) := by
  rcases sz_cases h with rfl | rfl | rfl | rfl <;> kernel_rfl
theorem bits_eq (n s : Int) (h0 : -9223372036854775808 ≤ n) (h1 : n < 9223372036854775808) : word_Bits.f n s = some (if sz s then bitv n s else (0, 4)) := by
  unfold word_Bits.f
  rw [sized_eq, Option.bind_some]
  cases h : sz s with
  | false => rfl
  | true =>
    rw [if_pos rfl, sign_eq, h, if_pos rfl, Option.bind_some, if_pos rfl]
    unfold bitv
    by_cases hb : -hf s ≤ n ∧ n < hf s
    · rw [if_pos ((sgn_back n s h h0 h1).2 hb), if_pos hb, mask_eq h, Option.bind_some, and_mask h (by rw [u64_mod]; omega) (by rw [u64_mod]; omega), u64_mod]
      congr 2
      rcases sz_cases h with rfl | rfl | rfl | rfl
      · show n % 18446744073709551616 % 256 = n % 256; omega
      · show n % 18446744073709551616 % 65536 = n % 65536; omega
      · show n % 18446744073709551616 % 4294967296 = n % 4294967296; omega
      · show n % 18446744073709551616 % 18446744073709551616 = n % 18446744073709551616; omega
    · rw [if_neg (fun h' => hb ((sgn_back n s h h0 h1).1 h')), if_neg hb]
end Go.Proofs.Ytimalojaiaofkaa.ScW
namespace Go.Proofs.Ytimalojaiaofkaa.Wd
open Go.RowKit Base Go.Proofs.YtimalojaiaofkaaW.PrintWords Go.Proofs.YtimalojaiaofkaaW.PrintLast Go.Proofs.YtimalojaiaofkaaW.PrintMore Go.Proofs.Ytimalojaiaofkaa.PScriptPuts
theorem sized_eq (s : Int) : word_sized.f s = some (sz s) := by
  unfold word_sized.f sz
  by_cases h1 : s = 1
  · simp [h1]
  · by_cases h2 : s = 2
    · simp [h2]
    · by_cases h4 : s = 4
      · simp [h4]
      · simp [h1, h2, h4]
theorem mask_eq {s : Int} (h : sz s = true) : word_mask.f s = some (pw s - 1) := by
  rcases sz_cases h with rfl | rfl | rfl | rfl <;> kernel_rfl
theorem put_loop (a s : Int) (hs : s ≤ 8) : ∀ (j i : Nat) (pre : List Int) (k : Nat), ((i + j : Nat) : Int) = s → pre.length = i →
    word_Put.l0 (j + 1 + k) a (pre ++ List.replicate j 0) s (i : Int) = some (strOfNums (pre ++ le (a / 256 ^ i) j), 0)
  | 0, i, pre, k, h, hp => by
    rw [show 0 + 1 + k = k + 1 from by omega]
    simp only [word_Put.l0]
    rw [if_neg (by omega)]
    simp [le]
  | j + 1, i, pre, k, h, hp => by
    rw [show j + 1 + 1 + k = (j + 1 + k) + 1 from by omega]
    simp only [word_Put.l0]
    have e0 : (0 : Int) ≤ IntKind.u64.wrap (wrap64 (8 * (i : Int))) := by
      rw [u64_mod]
      omega
    have ew : wrap64 ((i : Int) + 1) = ((i + 1 : Nat) : Int) := by unfold wrap64; omega
    have es : (pre ++ List.replicate (j + 1) 0).set ((i : Int)).toNat (shr .u64 a (IntKind.u64.wrap (wrap64 (8 * (i : Int)))) % 256) = (pre ++ [a / 256 ^ i % 256]) ++ List.replicate j 0 := by
      rw [Int.toNat_natCast, List.set_append_right _ _ (by omega), hp, Nat.sub_self, shr_8 a i (by omega)]
      simp [List.replicate_succ]
    rw [if_pos (by omega), if_pos e0, if_pos (by omega), if_pos (by simp; omega), ew, es, put_loop a s hs j (i + 1) (pre ++ [a / 256 ^ i % 256]) k (by omega) (by simp [hp])]
    congr 2
    rw [le, List.append_assoc, List.singleton_append, Int.pow_succ, Int.ediv_ediv_of_nonneg (Int.pow_nonneg (by decide))]
theorem put_eq (a s : Int) (k : Nat) (hk : 12 ≤ k) (h0 : 0 ≤ a) (h1 : a < 18446744073709551616) : word_Put.f k a s = some (if sz s then putv a s else (⟨#[]⟩, 4)) := by
  unfold word_Put.f
  rw [sized_eq, Option.bind_some]
  cases h : sz s with
  | false => rfl
  | true =>
    have hs := sz_cases h
    rw [if_pos rfl, mask_eq h, Option.bind_some, if_pos rfl]
    unfold putv
    by_cases hp : a < pw s
    · rw [if_pos ((andNot_mask h h0 h1).2 hp), if_pos (by omega), if_pos (by omega), if_pos hp]
      obtain ⟨n, rfl⟩ : ∃ n : Nat, s = (n : Int) := ⟨s.toNat, by omega⟩
      have := put_loop a n (by omega) n 0 [] (k - n - 1) (by omega) rfl
      rw [show n + 1 + (k - n - 1) = k from by omega, List.nil_append, List.nil_append] at this
      simp only [Int.toNat_natCast]
      rw [show ((0 : Nat) : Int) = 0 from rfl] at this
      rw [this]
      simp
    · rw [if_neg (fun h' => hp ((andNot_mask h h0 h1).1 h')), if_neg hp]
theorem put (a s : Int) (h0 : 0 ≤ a) (h1 : a < 18446744073709551616) (w : World) :
    Calls Try.prog 84 #[.int .u64 a, .int .i64 s] w fun e w' => e = .returned (.tuple #[.string (if sz s then putv a s else (⟨#[]⟩, 4)).1, .int .i64 (if sz s then putv a s else (⟨#[]⟩, 4)).2]) ∧ Below w.heap.size w w' :=
  word_Put.calls 12 a s _ _ w (put_eq a s 12 (by decide) h0 h1)
end Go.Proofs.Ytimalojaiaofkaa.Wd
namespace Go.Proofs.Ytimalojaiaofkaa.Sp
open Go.RowKit Base
/-- Only blocks of F, and new ones, may have turned. -/
structure Mod (F : Nat → Prop) (w w' : World) : Prop where
  os : w'.os = w.os
  tape : w'.tape = w.tape
  output : w'.output = w.output
  size : w.heap.size ≤ w'.heap.size
  block : ∀ k, k < w.heap.size → ¬ F k → w'.heap[k]? = w.heap[k]?
theorem Mod.refl (F : Nat → Prop) (w : World) : Mod F w w := ⟨rfl, rfl, rfl, Nat.le_refl _, fun _ _ _ => rfl⟩
theorem Mod.of {F : Nat → Prop} {w w' : World} (h : Below w.heap.size w w') : Mod F w w' := ⟨h.os, h.tape, h.output, h.size, fun k hk _ => h.block k hk⟩
theorem Mod.trans {F G : Nat → Prop} {a b c : World} (h : Mod F a b) (k : Mod G b c) (hG : ∀ i, G i → F i ∨ a.heap.size ≤ i) : Mod F a c :=
  ⟨k.os.trans h.os, k.tape.trans h.tape, k.output.trans h.output, Nat.le_trans h.size k.size, fun i hi hF => (k.block i (Nat.lt_of_lt_of_le hi h.size) (fun g => (hG i g).elim hF (fun h => by omega))).trans (h.block i hi hF)⟩
theorem Mod.mono {F G : Nat → Prop} {w w' : World} (h : Mod F w w') (hG : ∀ k, F k → G k ∨ w.heap.size ≤ k) : Mod G w w' := (Mod.refl G w).trans h hG
theorem Mod.below {F : Nat → Prop} {B : Nat} {w0 w w' : World} (hb : Below B w0 w) (h : Mod F w w') (hB : B ≤ w.heap.size) (hF : ∀ k, F k → B ≤ k) : Below B w0 w' :=
  hb.trans ⟨h.os, h.tape, h.output, h.size, fun k hk => h.block k (by omega) (fun hf => by have := hF k hf; omega)⟩
theorem Mod.set {F : Nat → Prop} {w w' : World} (h : Mod F w w') {p : Addr} (hp : F p.block ∨ w.heap.size ≤ p.block) (u : Value) : Mod F w (w'.setCell p u) :=
  ⟨h.os, h.tape, h.output, by simpa [World.setCell] using h.size, fun k hk hF => (Below.heap_setCell _ _ _ _ (fun e => by subst e; exact hp.elim hF (fun h => by omega))).trans (h.block k hk hF)⟩
theorem Mod.alloc {F : Nat → Prop} {w w' : World} (h : Mod F w w') (o : Obj) : Mod F w (w'.alloc o) :=
  ⟨h.os, h.tape, h.output, by have := h.size; simp; omega, fun k hk hF => (Below.heap_alloc _ _ _ (by have := h.size; omega)).trans (h.block k hk hF)⟩
theorem Mod.drew {F : Nat → Prop} {w w' : World} (h : Mod F w w') : Mod F w w'.drew := ⟨h.os, h.tape, h.output, h.size, h.block⟩
theorem Mod.grown {F : Nat → Prop} {w w1 w' : World} {row : Option Nat} (h : Mod F w w1) (hg : w1.grownBy w' row) (hr : ∀ k, row = some k → F k ∨ w.heap.size ≤ k) : Mod F w w' :=
  ⟨hg.os.trans h.os, hg.tape.trans h.tape, hg.output.trans h.output, Nat.le_trans h.size hg.size, fun k hk hF => (hg.block k (Nat.lt_of_lt_of_le hk h.size) (fun e => (hr k e.symm).elim hF (fun h => by omega))).trans (h.block k hk hF)⟩
theorem Mod.cell {F : Nat → Prop} {w w' : World} {a : Addr} {u : Value} (h : Mod F w w') (hc : w.cell? a = some u) (hF : ¬ F a.block) : w'.cell? a = some u := by
  have hl := World.block_lt_of_cell? w a hc
  unfold World.cell? at hc ⊢
  rw [h.block a.block hl hF]
  exact hc
theorem Mod.froz {F : Nat → Prop} {w w' : World} {a : Addr} {u : Bool} (h : Mod F w w') (hc : w.frozen? a = u) (hl : a.block < w.heap.size) (hF : ¬ F a.block) : w'.frozen? a = u := by
  unfold World.frozen? at hc ⊢
  rw [h.block a.block hl hF]
  exact hc
/-- Blocks of F are as they were. -/
def Same (F : Nat → Prop) (w w' : World) : Prop := ∀ k, F k → w'.heap[k]? = w.heap[k]?
theorem Mod.same {F G : Nat → Prop} {w w' : World} (h : Mod F w w') (hl : ∀ k, G k → k < w.heap.size) (hd : ∀ k, G k → ¬ F k) : Same G w w' := fun k hk => h.block k (hl k hk) (hd k hk)
theorem Same.of {G : Nat → Prop} {w w' : World} (h : Below w.heap.size w w') (hl : ∀ k, G k → k < w.heap.size) : Same G w w' := fun k hk => h.block k (hl k hk)
theorem Same.cell {F : Nat → Prop} {w w' : World} (h : Same F w w') {b i : Nat} (hb : F b) : w'.cell? ⟨b, i, none⟩ = w.cell? ⟨b, i, none⟩ := by unfold World.cell?; rw [h b hb]
theorem Same.frozen {F : Nat → Prop} {w w' : World} (h : Same F w w') {b i : Nat} (hb : F b) : w'.frozen? ⟨b, i, none⟩ = w.frozen? ⟨b, i, none⟩ := by unfold World.frozen?; rw [h b hb]
/-- What is F's then is F's before, or new. -/
def Grow (F F' : Nat → Prop) (w : World) : Prop := ∀ k, F' k → F k ∨ w.heap.size ≤ k
theorem Grow.refl (F : Nat → Prop) (w : World) : Grow F F w := fun _ h => .inl h
end Go.Proofs.Ytimalojaiaofkaa.Sp
namespace Go.Proofs.Ytimalojaiaofkaa.Flat
open Go.RowKit Base Sp Go.Proofs.YtimalojaiaofkaaW.PrintWords
section
variable {α : Type} {d : Kd α} {e : Nat} {w w' W : World} {F G : Nat → Prop} {v : Value} {xs : List α}
/-- A kind whose cells hang on nothing else in memory. -/
structure Flat (d : Kd α) : Prop where
  k : ∀ {w w' : World} {x : α} {c : List Value}, d.K w x c → d.K w' x c
  m : ∀ {w : World} {base : Nat} {ok : Nat → Prop} {x : α} {c : List Value}, d.K w x c → d.M w base ok x c
theorem flat_string : Flat Kd.string := ⟨fun h => h, fun h => h⟩
theorem flat_int (k : IntKind) : Flat (Kd.int k) := ⟨fun h => h, fun h => h⟩
theorem flat_bool : Flat Kd.bool := ⟨fun h => h, fun h => h⟩
theorem flat_pair {β : Type} {d1 : Kd α} {d2 : Kd β} (h1 : Flat d1) (h2 : Flat d2) : Flat (Kd.pair d1 d2) :=
  ⟨fun ⟨c0, c1, e, a, b⟩ => ⟨c0, c1, e, h1.k a, h2.k b⟩, fun ⟨c0, c1, e, a, b⟩ => ⟨c0, c1, e, h1.m a, h2.m b⟩⟩
theorem flat_iso {β : Type} {f : β → α} (h : Flat d) : Flat (Kd.iso d f) := ⟨fun a => h.k a, fun a => h.m a⟩
/-- A slice that reads as a list; its block is one of F's. -/
def Rd (d : Kd α) (w : World) (F : Nat → Prop) (v : Value) (xs : List α) : Prop :=
  ∃ A c, v = .slice A xs.length c ∧ xs.length ≤ c ∧ d.C w A xs.length xs ∧ ∀ a, A = some a → F a.block
/-- A slice that reads as a list, and may be appended to. -/
def Own (d : Kd α) (e : Nat) (w : World) (F : Nat → Prop) (v : Value) (xs : List α) : Prop :=
  d.Q e w 0 F v xs ∨ ∃ a, v = .slice (some a) xs.length xs.length ∧ d.C w (some a) xs.length xs ∧ F a.block
theorem Rd.mono (h : Rd d w F v xs) (hF : ∀ k, F k → G k) : Rd d w G v xs := by
  obtain ⟨A, c, e, hl, hC, hA⟩ := h
  exact ⟨A, c, e, hl, hC, fun a ha => hF _ (hA a ha)⟩
theorem Own.mono (h : Own d e w F v xs) (hF : ∀ k, F k → G k) : Own d e w G v xs := by
  rcases h with h | ⟨a, ev, hC, hA⟩
  · exact .inl (Kd.Q_mono h hF)
  · exact .inr ⟨a, ev, hC, hF _ hA⟩
theorem Own.rd (h : Own d e w F v xs) : Rd d w F v xs := by
  rcases h with h | ⟨a, ev, hC, hA⟩
  · obtain ⟨A, c, ev, hl, hC⟩ := Kd.Q_reads h
    refine ⟨A, c, ev, hl, hC, fun a ha => h.1 _ ?_⟩
    rw [ev, ha]
    rfl
  · exact ⟨some a, xs.length, ev, Nat.le_refl _, hC, fun a' ha' => by cases ha'; exact hA⟩
theorem Own.away {b : Nat} (h : Own d e w F v xs) (hb : ¬ F b) : some b ≠ v.ownBlock := by
  rcases h with h | ⟨a, ev, hC, hA⟩
  · exact fun he => hb (h.1 b he.symm)
  · rw [ev]
    intro he
    have : b = a.block := by simpa [Value.ownBlock] using he
    rw [this] at hb
    exact hb hA
theorem Own.base (h : Own d e w F v xs) : ∀ k, v.ownBlock = some k → F k := by
  intro k hk
  refine Classical.byContradiction fun hn => ?_
  exact h.away hn hk.symm
theorem Own.nil (d : Kd α) (e : Nat) (w : World) (F : Nat → Prop) : Own d e w F (.slice none 0 0) [] := .inl (Kd.Q_nil _ _ _ _ _)
theorem Rd.nil (d : Kd α) (w : World) (F : Nat → Prop) : Rd d w F (.slice none 0 0) [] := (Own.nil d 0 w F).rd
theorem C_same {A : Option Addr} {n : Nat} (hd : Flat d) (h : d.C w A n xs) (hA : ∀ a, A = some a → w'.heap[a.block]? = w.heap[a.block]?) : d.C w' A n xs := by
  obtain ⟨h1, h2, h3⟩ := h
  refine ⟨h1, h2, fun hn => ?_⟩
  obtain ⟨ad, e, hc⟩ := h3 hn
  refine ⟨ad, e, fun j p hj => ?_⟩
  obtain ⟨c, c1, c2, c3⟩ := hc j p hj
  refine ⟨c, c1, hd.k c2, fun i u hi => ?_⟩
  have h4 := c3 i u hi
  have hb : (ad.add (j * d.sz + i)).block = ad.block := by unfold Addr.add; split <;> rfl
  unfold World.cell? at h4 ⊢
  rw [hb, hA ad e]
  rw [hb] at h4
  exact h4
theorem Rd.same (hd : Flat d) (h : Rd d w F v xs) (hs : Same F w w') : Rd d w' F v xs := by
  obtain ⟨A, c, e, hl, hC, hA⟩ := h
  exact ⟨A, c, e, hl, C_same hd hC (fun a ha => hs _ (hA a ha)), hA⟩
theorem Own.same (hd : Flat d) (h : Own d e w F v xs) (hs : Same F w w') : Own d e w' F v xs := by
  rcases h with h | ⟨a, ev, hC, hA⟩
  · exact .inl (Kd.Q_move h hs)
  · exact .inr ⟨a, ev, C_same hd hC (fun a' ha' => by cases ha'; exact hs _ hA), hA⟩
theorem Rd.get (h : Rd d w F v xs) : ∃ A c, v = .slice A xs.length c ∧ xs.length ≤ c ∧ d.C w A xs.length xs := by
  obtain ⟨A, c, e, hl, hC, _⟩ := h
  exact ⟨A, c, e, hl, hC⟩
theorem Rd.max (h : Rd d w F v xs) : xs.length ≤ 9223372036854775807 := by
  obtain ⟨A, c, e, hl, hC, _⟩ := h
  exact hC.2.1
/-- The cells of a list, one behind the other. -/
theorem row_of_C {ad : Addr} (h : d.C w (some ad) xs.length xs) : ∀ m, m ≤ xs.length → ∃ cs : List Value, Reps (d.K w) d.sz (xs.take m) cs ∧ ∀ j u, cs[j]? = some u → w.cell? (ad.add j) = some u
  | 0, _ => ⟨[], by rw [List.take_zero]; exact Reps.none _ _, fun j u hj => by simp at hj⟩
  | m + 1, hm => by
    obtain ⟨cs, h1, h2⟩ := row_of_C h m (by omega)
    obtain ⟨_, e, hc⟩ := h.2.2 (by omega)
    obtain rfl := Option.some.inj e
    obtain ⟨c, c1, c2, c3⟩ := hc m _ (List.getElem?_eq_getElem (show m < xs.length by omega))
    have hlen : cs.length = m * d.sz := by rw [h1.1, List.length_take, Nat.min_eq_left (by omega)]
    refine ⟨cs ++ c, by rw [List.take_succ_eq_append_getElem (by omega)]; exact h1.snoc c2 c1, fun j u hj => ?_⟩
    rcases Nat.lt_or_ge j cs.length with hjl | hjl
    · rw [List.getElem?_append_left hjl] at hj
      exact h2 j u hj
    · rw [List.getElem?_append_right hjl, hlen] at hj
      have := c3 _ u hj
      rw [show m * d.sz + (j - m * d.sz) = j from by omega] at this
      exact this
theorem reps_append {R : α → List Value → Prop} {sz : Nat} {xs ys : List α} {cs ds : List Value} (h : Reps R sz xs cs) (k : Reps R sz ys ds) : Reps R sz (xs ++ ys) (cs ++ ds) := by
  refine ⟨by rw [List.length_append, List.length_append, h.1, k.1, Nat.add_mul], fun j p hj => ?_⟩
  rcases Nat.lt_or_ge j xs.length with hjl | hjl
  · rw [List.getElem?_append_left hjl] at hj
    have h1 : j * sz + sz ≤ cs.length := by rw [h.1, ← Nat.succ_mul]; exact Nat.mul_le_mul_right _ hjl
    have h2 := h.2 j p hj
    rw [List.drop_append_of_le_length (by omega), List.take_append_of_le_length (by rw [List.length_drop]; omega)]
    exact h2
  · rw [List.getElem?_append_right hjl] at hj
    have h2 := k.2 _ p hj
    have h1 : xs.length * sz ≤ j * sz := Nat.mul_le_mul_right _ hjl
    rw [List.drop_append, h.1, List.drop_eq_nil_of_le (by rw [h.1]; exact h1), List.nil_append, ← Nat.sub_mul]
    exact h2
/-- append(xs, p). -/
theorem Own.append {P : Program} (hd : Flat d) (t ty : TypeId) (z : Value) (bytes : Nat) (ht : P.underlying t = some (.slice e))
    (hinfo : (P.info? e).map (fun i => (i.zero, i.size, i.bytes)) = some (some z, d.sz, bytes)) (hz : z.cells.size = d.sz) (hs0 : 0 < d.sz) (hb0 : 0 < bytes)
    (p : α) (cs : List Value) (hp : d.K W p cs) (h : Own d e W F v xs) (hF : ∀ k, F k → k < W.heap.size) (hl : (xs.length + 1) * bytes ≤ 140737488355328) :
    ∃ v1 w1, (Builtin.append_ #[t, t] ty #[v, .slice (some ⟨W.heap.size, 0, none⟩) 1 1]).run P (W.alloc (.cells cs.toArray e)) = .ok v1 w1 ∧
      Own d e w1 (fun k => F k ∨ (W.heap.size ≤ k ∧ k < w1.heap.size)) v1 (xs ++ [p]) ∧ W.grownBy w1 v.ownBlock ∧ W.heap.size < w1.heap.size := by
  have hlen : xs.length + 1 ≤ 140737488355328 := Nat.le_trans (Nat.le_mul_of_pos_right _ hb0) hl
  have lt1 : ∀ {w1 : World} {r : Option Nat}, (W.alloc (.cells cs.toArray e)).grownBy w1 r → W.heap.size < w1.heap.size := fun {w1 r} hg => by
    have := hg.size
    simp at this
    omega
  rcases h with h | ⟨a, rfl, hC, hA⟩
  · have h' : d.Q e W 0 (fun k => F k ∨ W.heap.size ≤ k) v xs := Kd.Q_mono h (fun k hk => .inl hk)
    have hq : d.Q e (W.alloc (.cells cs.toArray e)) 0 F v xs := Kd.Q_alloc h _
    obtain ⟨h0, inner, hown, hr⟩ := h
    obtain ⟨v1, w1, hrun, h1, _, h3, h4⟩ := Kd.Q_run (P := P) d (w0 := W) 0 t ty e z bytes ht hinfo hz hs0 hb0 v xs p cs (fun k => F k ∨ W.heap.size ≤ k) (fun k => False) (hd.m hp) (fun k hk => hk.elim) (fun k hk => .inr hk) h'
      (Below.refl 0 W) (by omega) hl
    obtain ⟨i0, hi, hzz⟩ := Option.map_eq_some_iff.1 hinfo
    have hs1 : W.heap.size < w1.heap.size := by
      simp only [Prod.mk.injEq] at hzz
      obtain ⟨hz0, hz1, hz2⟩ := hzz
      have hcl := d.K_len hp
      obtain ⟨v2, w2, hrun2, _, hg2, _⟩ := q_append (P := P) (W.alloc (.cells cs.toArray e)) 0 t ty e i0 z d.sz bytes ht hi hz0 hz1 hz2 hz hs0 v xs.length inner (q_move hown (fun k hk => Below.heap_alloc W _ k (q_lt hown k hk))) ⟨W.heap.size, 0, none⟩ 1 1 cs (by rw [hcl, Nat.one_mul])
        (by simpa using World.news_of_block (cs := cs.toArray) (t := e) (fr := (0, 0)) (heap_alloc_new W (.cells cs.toArray e))) (d.K_one hp) (by omega) (by simp only [maxLen]; omega) hl (by omega)
      rw [hrun] at hrun2
      injection hrun2 with _ hw
      subst hw
      exact lt1 hg2
    refine ⟨v1, w1, hrun, .inl (Kd.Q_mono (Kd.Q_bound h1) (fun k hk => ?_)), h3, hs1⟩
    rcases hk.1 with hf | hf
    · exact .inl hf
    · exact .inr ⟨hf, hk.2.2.1⟩
  · obtain ⟨i0, hi, hzz⟩ := Option.map_eq_some_iff.1 hinfo
    simp only [Prod.mk.injEq] at hzz
    obtain ⟨hz0, hz1, hz2⟩ := hzz
    obtain ⟨olds, ho, hoc⟩ := row_of_C hC xs.length (Nat.le_refl _)
    rw [List.take_length] at ho
    have hcl := d.K_len hp
    obtain ⟨v1, w1, hrun, hown, hg⟩ := run_append_arg_grows (P := P) (w := W.alloc (.cells cs.toArray e)) t ty e i0 z d.sz bytes ht hi hz0 hz1 hz2 hz hs0 a xs.length xs.length olds ho.1
      (fun j u hj => by
        have := hoc j u hj
        exact cnew this) ⟨W.heap.size, 0, none⟩ 1 1 cs (by rw [hcl, Nat.one_mul])
      (by simpa using World.news_of_block (cs := cs.toArray) (t := e) (fr := (0, 0)) (heap_alloc_new W (.cells cs.toArray e))) (by omega) (by simp only [maxLen]; omega) hl
    have hs1 := lt1 hg
    have hg1 : W.grownBy w1 none := World.grownBy.trans (World.grownBy_alloc W _ _) hg
    refine ⟨v1, w1, hrun, .inl ?_, ⟨hg1.os, hg1.tape, hg1.output, hg1.size, fun k hk _ => hg1.block k hk (by simp)⟩, hs1⟩
    have hq : QRow w1 (W.alloc (.cells cs.toArray e)).heap.size e d.sz v1 (xs.length + 1) (olds ++ cs) := q_of_own hown
    refine ⟨fun k hk => ?_, olds ++ cs, by rw [List.length_append, List.length_singleton]; exact q_lower hq (Nat.zero_le _), ?_⟩
    · have h1 := (q_typed hq k hk).1
      have h2 := q_lt hq k hk
      simp at h1
      exact .inr ⟨by omega, h2⟩
    · exact (ho.imp_ (fun _ _ hq => hd.m (hd.k hq))).snoc (hd.m (hd.k hp)) hcl
/-- append(xs, ys...), ys not empty. -/
theorem Own.appends {P : Program} (hd : Flat d) (t ty : TypeId) (z : Value) (bytes : Nat) (ht : P.underlying t = some (.slice e))
    (hinfo : (P.info? e).map (fun i => (i.zero, i.size, i.bytes)) = some (some z, d.sz, bytes)) (hz : z.cells.size = d.sz) (hs0 : 0 < d.sz) (hb0 : 0 < bytes)
    (ys : List α) (B : Addr) (cB : Nat) (hy : d.C W (some B) ys.length ys) (hy0 : 0 < ys.length) (h : Own d e W F v xs) (hF : ∀ k, F k → k < W.heap.size) (hl : (xs.length + ys.length) * bytes ≤ 140737488355328) :
    ∃ v1 w1, (Builtin.append_ #[t, t] ty #[v, .slice (some B) ys.length cB]).run P W = .ok v1 w1 ∧
      Own d e w1 (fun k => F k ∨ (W.heap.size ≤ k ∧ k < w1.heap.size)) v1 (xs ++ ys) ∧ W.grownBy w1 v.ownBlock := by
  have hlen : xs.length + ys.length ≤ 140737488355328 := Nat.le_trans (Nat.le_mul_of_pos_right _ hb0) hl
  obtain ⟨i0, hi, hzz⟩ := Option.map_eq_some_iff.1 hinfo
  simp only [Prod.mk.injEq] at hzz
  obtain ⟨hz0, hz1, hz2⟩ := hzz
  obtain ⟨news, hn, hnc⟩ := row_of_C hy ys.length (Nat.le_refl _)
  rw [List.take_length] at hn
  have hone : ∀ u ∈ news, u.oneCell' = true := by
    intro u hu
    obtain ⟨j, hj, hju⟩ := List.getElem_of_mem hu
    have hjlt : j / d.sz < ys.length := by
      rw [Nat.div_lt_iff_lt_mul hs0, ← hn.1]
      exact hj
    have h1 := hn.2 (j / d.sz) _ (List.getElem?_eq_getElem hjlt)
    refine d.K_one h1 u ?_
    refine List.mem_iff_getElem?.2 ⟨j % d.sz, ?_⟩
    rw [List.getElem?_take, if_pos (Nat.mod_lt _ hs0), List.getElem?_drop, Nat.div_add_mod', List.getElem?_eq_getElem hj, hju]
  rcases h with h | ⟨a, rfl, hC, hA⟩
  · obtain ⟨h0, inner, hown, hr⟩ := h
    obtain ⟨v1, w1, hrun, hq, hg, hat⟩ := q_append (P := P) W 0 t ty e i0 z d.sz bytes ht hi hz0 hz1 hz2 hz hs0 v xs.length inner hown B ys.length cB news hn.1 hnc hone hy0 (by simp only [maxLen]; omega) hl (by omega)
    refine ⟨v1, w1, hrun, .inl ⟨fun k hk => ?_, inner ++ news, by rw [List.length_append]; exact hq, ?_⟩, hg⟩
    · rcases hat with hat | ⟨b, hb, hle⟩
      · rw [hat] at hk
        exact .inl (h0 k hk)
      · have := q_lt hq k hk
        rw [hb] at hk
        injection hk with hk
        exact .inr ⟨by omega, this⟩
    · refine reps_append (hr.imp_ (fun _ _ h => hd.m (hd.k (d.K_of_M h)))) (hn.imp_ (fun _ _ h => hd.m (hd.k h)))
  · obtain ⟨olds, ho, hoc⟩ := row_of_C hC xs.length (Nat.le_refl _)
    rw [List.take_length] at ho
    obtain ⟨v1, w1, hrun, hown, hg⟩ := run_append_arg_grows (P := P) (w := W) t ty e i0 z d.sz bytes ht hi hz0 hz1 hz2 hz hs0 a xs.length xs.length olds ho.1 hoc B ys.length cB news hn.1 hnc (by omega) (by simp only [maxLen]; omega) hl
    refine ⟨v1, w1, hrun, .inl ?_, ⟨hg.os, hg.tape, hg.output, hg.size, fun k hk _ => hg.block k hk (by simp)⟩⟩
    have hq : QRow w1 W.heap.size e d.sz v1 (xs.length + ys.length) (olds ++ news) := q_of_own hown
    refine ⟨fun k hk => .inr ⟨(q_typed hq k hk).1, q_lt hq k hk⟩, olds ++ news, by rw [List.length_append]; exact q_lower hq (Nat.zero_le _), ?_⟩
    exact reps_append (ho.imp_ (fun _ _ h => hd.m (hd.k h))) (hn.imp_ (fun _ _ h => hd.m (hd.k h)))
/-- xs[k:n:n]. -/
theorem Rd.cut {k : Nat} (h : Rd d w F v xs) (hk : k ≤ xs.length) : ∃ A c, v = .slice A xs.length c ∧ xs.length ≤ c ∧
    Own d e w F (.slice (if xs.length = k then A else A.map (·.add (k * d.sz))) (xs.length - k) (xs.length - k)) (xs.drop k) := by
  obtain ⟨A, c, rfl, hl, hC, hA⟩ := h
  refine ⟨A, c, rfl, hl, ?_⟩
  have h1 := Kd.C_drop hC hk (Nat.le_refl _)
  cases A with
  | none =>
    have h0 : xs.length = 0 := by
      by_cases h0 : 0 < xs.length
      · obtain ⟨_, e, _⟩ := hC.2.2 h0
        cases e
      · omega
    obtain rfl := List.eq_nil_of_length_eq_zero h0
    simpa using Own.nil d e w F
  | some a =>
    refine .inr ⟨if xs.length = k then a else a.add (k * d.sz), ?_, ?_, ?_⟩
    · rw [List.length_drop]
      split <;> simp_all
    · split
      · rw [if_pos (by assumption)] at h1; exact h1
      · rw [if_neg (by assumption)] at h1; exact h1
    · split
      · exact hA a rfl
      · have : (a.add (k * d.sz)).block = a.block := by unfold Addr.add; split <;> rfl
        rw [this]
        exact hA a rfl
/-- xs[k:], to be appended to. -/
theorem Own.drop {A : Option Addr} {c k : Nat} (h : Own d e w F (.slice A xs.length c) xs) (hk : k ≤ xs.length) : Own d e w F (.slice (if c = k then A else A.map (·.add (k * d.sz))) (xs.length - k) (c - k)) (xs.drop k) := by
  rcases h with h | ⟨a, ev, hC, hA⟩
  · exact .inl (Kd.Q_drop h hk)
  · injection ev with e1 _ e3
    subst e1 e3
    obtain ⟨A', c', e, _, h1⟩ := Rd.cut (e := e) (F := F) (d := d) (w := w) (v := .slice (some a) xs.length xs.length) ⟨some a, xs.length, rfl, Nat.le_refl _, hC, fun a' ha' => by cases ha'; exact hA⟩ hk
    injection e with e1
    subst e1
    exact h1
/-- A new, empty slice. -/
theorem Own.empty {g : Nat} {cs : Array Value} (hg : w.heap[g]? = some (.cells cs e (0, 0))) (hF : F g) : Own d e w F (.slice (some ⟨g, 0, none⟩) 0 0) [] := by
  refine .inl ⟨fun k hk => ?_, [], ⟨by simp, .inl ⟨rfl, some ⟨g, 0, none⟩, rfl, fun a ha => ?_⟩⟩, Reps.none _ _⟩
  · have : g = k := by simpa [Value.ownBlock] using hk
    rw [← this]
    exact hF
  · cases ha
    exact ⟨Nat.zero_le _, cs, hg⟩
theorem Rd.set {a : Addr} {u : Value} (hd : Flat d) (h : Rd d w F v xs) (ha : ¬ F a.block) : Rd d (w.setCell a u) F v xs :=
  h.same hd (fun k hk => Below.heap_setCell _ _ _ _ (fun e => ha (e ▸ hk)))
theorem Own.set {a : Addr} {u : Value} (hd : Flat d) (h : Own d e w F v xs) (ha : ¬ F a.block) : Own d e (w.setCell a u) F v xs :=
  h.same hd (fun k hk => Below.heap_setCell _ _ _ _ (fun e => ha (e ▸ hk)))
theorem Rd.alloc (hd : Flat d) (h : Rd d w F v xs) (o : Obj) (hF : ∀ k, F k → k < w.heap.size) : Rd d (w.alloc o) F v xs := h.same hd (fun k hk => Below.heap_alloc _ _ _ (hF k hk))
/-- append([]T{}, ys...). -/
theorem Own.copied {P : Program} (hd : Flat d) (t ty : TypeId) (z : Value) (bytes : Nat) (ht : P.underlying t = some (.slice e)) (ht' : P.underlying t = some (.slice (P.elem t)))
    (hinfo : (P.info? e).map (fun i => (i.zero, i.size, i.bytes)) = some (some z, d.sz, bytes)) (hz : z.cells.size = d.sz) (hs0 : 0 < d.sz) (hb0 : 0 < bytes)
    {g : Nat} {cs : Array Value} (hg : W.heap[g]? = some (.cells cs e (0, 0))) (ys : List α) (A : Option Addr) (c : Nat) (h : Rd d W G (.slice A ys.length c) ys) (hl : ys.length * bytes ≤ 140737488355328) :
    ∃ v1 w1, (Builtin.append_ #[t, t] ty #[.slice (some ⟨g, 0, none⟩) 0 0, .slice A ys.length c]).run P W = .ok v1 w1 ∧
      Own d e w1 (fun k => k = g ∨ (W.heap.size ≤ k ∧ k < w1.heap.size)) v1 ys ∧ W.grownBy w1 (some g) := by
  have hgl := blk_lt hg
  have hO : Own d e W (fun k => k = g) (.slice (some ⟨g, 0, none⟩) 0 0) [] := Own.empty hg rfl
  by_cases h0 : 0 < ys.length
  · obtain ⟨A', c', ev, hc, hC, hA⟩ := h
    injection ev with e1 _ e3
    subst e1 e3
    obtain ⟨B, rfl, _⟩ := hC.2.2 h0
    obtain ⟨v1, w1, hr, ho, hgr⟩ := hO.appends (P := P) hd t ty z bytes ht hinfo hz hs0 hb0 ys B c hC h0 (fun k hk => by rw [hk]; exact hgl) (by simpa using hl)
    exact ⟨v1, w1, hr, ho, hgr⟩
  · obtain rfl : ys = [] := List.eq_nil_of_length_eq_zero (by omega)
    obtain ⟨i0, hi, hzz⟩ := Option.map_eq_some_iff.1 hinfo
    refine ⟨.slice (some ⟨g, 0, none⟩) 0 0, W, ?_, hO.mono (fun k hk => .inl hk), ⟨rfl, rfl, rfl, Nat.le_refl _, fun _ _ _ => rfl⟩⟩
    have hsz : (sizeOf e).run P W = .ok d.sz W := by
      simp only [Prod.mk.injEq] at hzz
      simp [sizeOf, typeInfo, hi, hzz.2.1]
    cases A <;> simp [Builtin.append_, run_underlying ht, hsz, Result.andThen, Builtin.lenOf, Builtin.firstCells, storeCells, go_sem]
/-- xs[k:]. -/
theorem Rd.drop {A : Option Addr} {c k : Nat} (h : Rd d w F (.slice A xs.length c) xs) (hk : k ≤ xs.length) : Rd d w F (.slice (if c = k then A else A.map (·.add (k * d.sz))) (xs.length - k) (c - k)) (xs.drop k) := by
  obtain ⟨A', c', e, hl, hC, hA⟩ := h
  injection e with e1 _ e3
  subst e1 e3
  refine ⟨_, c - k, by rw [List.length_drop], by rw [List.length_drop]; omega, Kd.C_drop hC hk hl, fun a ha => ?_⟩
  cases A with
  | none => split at ha <;> simp at ha
  | some b =>
    split at ha
    · exact hA a ha
    · have e : b.add (k * d.sz) = a := by simpa using ha
      have : (b.add (k * d.sz)).block = b.block := by unfold Addr.add; split <;> rfl
      rw [← e, this]
      exact hA b rfl
/-- xs[:k]. -/
theorem Rd.take {A : Option Addr} {c k : Nat} (h : Rd d w F (.slice A xs.length c) xs) (hk : k ≤ xs.length) : Rd d w F (.slice A k c) (xs.take k) := by
  obtain ⟨A', c', e, hl, hC, hA⟩ := h
  injection e with e1 _ e3
  subst e1 e3
  have hk' : (xs.take k).length = k := by rw [List.length_take]; omega
  exact ⟨A, c, by rw [hk'], by omega, Kd.C_take hC hk, hA⟩
end
section
variable {P : Program} {ops : Array Oper} {rest : List Oper} {o : Oper} {a : Act} {Q : Exit → Act → World → Prop}
/-- An append whose run is known. -/
theorem wp_append {W w1 : World} {v1 v u : Value} (hgd : o.guard = none) (s x : Operand) (t : TypeId) (ho : o.op = .call { callee := .builtin .append, args := #[s, x], argTypes := #[t, t] })
    (hs : a.eval s = v) (hx : a.eval x = u) (hrun : (Builtin.append_ #[t, t] o.type #[v, u]).run P W = .ok v1 w1) (h : wpList P ops Q rest (a.put o.dst v1) w1) : wpList P ops Q (o :: rest) a W := by
  refine wpList_plain hgd fun K hK => ?_
  unfold Oper.wp execOp
  simp only [ho, resolve, invoke, builtin, Sem.run_bind, Sem.run_pure, Result.andThen_ok, List.map_toArray, List.map_cons, List.map_nil, hs, hx, hrun]
  exact hK _ _ h
end
end Go.Proofs.Ytimalojaiaofkaa.Flat
namespace Go.Proofs.Ytimalojaiaofkaa.Buf
open Go.RowKit Base Sp Flat Go.Proofs.YtimalojaiaofkaaW.PrintWords Go.Lib
theorem ownF_up {w : World} {base base' : Nat} {e : TypeId} {size : Nat} {v : Value} {n : Nat} {xs : List Value} (h : w.ownsRowF base e size v n xs) (hb : base' ≤ base) : w.ownsRowF base' e size v n xs := by
  refine ⟨h.1, ?_⟩
  rcases h.2 with h1 | ⟨g, cap, cur, fz, hv, hg, r⟩
  · exact .inl h1
  · exact .inr ⟨g, cap, cur, fz, hv, Nat.le_trans hb hg, r⟩
theorem ownF_same {w w' : World} {base : Nat} {e : TypeId} {size : Nat} {v : Value} {n : Nat} {xs : List Value} (h : w.ownsRowF base e size v n xs) (hs : ∀ k, v.ownBlock = some k → w'.heap[k]? = w.heap[k]?) : w'.ownsRowF base e size v n xs := by
  refine ⟨h.1, ?_⟩
  rcases h.2 with h1 | ⟨g, cap, cur, fz, rfl, hb, hg, r⟩
  · exact .inl h1
  · exact .inr ⟨g, cap, cur, fz, rfl, hb, (hs g rfl).trans hg, r⟩
theorem own_str {w : World} {v : Value} {n : Nat} {xs : List Value} (ty : TypeId) (hown : w.ownsRowF 0 5 1 v n xs) (s : ByteArray) (hl : n + s.size ≤ 140737488355328) :
    ∃ v' w', (Builtin.append_ #[104, 9] ty #[v, .string s]).run Try.prog w = .ok v' w' ∧ w'.ownsRowF 0 5 1 v' (n + s.size) (xs ++ strCells s) ∧ w.grownBy w' v.ownBlock ∧ (∀ k, v'.ownBlock = some k → v.ownBlock = some k ∨ w.heap.size ≤ k) := by
  have hinfo : ((Try.prog).info? 5).map (fun i => (i.zero, i.size, i.bytes)) = some (some (.int .u8 0), 1, 1) := by kernel_rfl
  obtain ⟨i0, hi, hz0, hz1, hz2⟩ := info_parts hinfo
  have h63 : n + s.size ≤ maxLen := by simp only [maxLen]; omega
  rcases hown.2 with ⟨rfl, rfl⟩ | ⟨g, cap, cur, fz, rfl, hbg, hg, hfz, hnc, hcm, hcs, htake⟩
  · obtain ⟨v', w', h1, h2, h3, h4⟩ := run_append_own_stringF (P := Try.prog) w w.heap.size 104 9 ty 5 i0 Try.underlying104 Try.underlying9 hi hz0 hz1 hz2 (.slice none 0 0) 0 xs ⟨hown.1, .inl ⟨rfl, rfl⟩⟩ s h63 hl (Nat.le_refl _)
    exact ⟨v', w', h1, ownF_up h2 (Nat.zero_le _), h3, fun k hk => .inr (h2.lt k hk).1⟩
  · obtain ⟨v', w', h1, h2, h3, h4⟩ := run_append_own_stringF (P := Try.prog) w 0 104 9 ty 5 i0 Try.underlying104 Try.underlying9 hi hz0 hz1 hz2 _ n xs hown s h63 hl (Nat.zero_le _)
    refine ⟨v', w', h1, h2, h3, fun k hk => ?_⟩
    by_cases hroom : n + s.size ≤ cap
    · have hr := run_append_room_stringF (P := Try.prog) w 104 9 ty 5 i0 Try.underlying104 Try.underlying9 hi hz1 g n cap cur fz hg (by simpa using hfz) s hroom (by omega)
      rw [h1] at hr
      injection hr with hv _
      subst hv
      left
      simpa [Value.ownBlock] using hk
    · have hxl : xs.length = n := by simpa using hown.1
      have hr := run_append_grow_string (P := Try.prog) w 104 9 ty 5 i0 (.int .u8 0) Try.underlying104 Try.underlying9 hi hz0 ⟨g, 0, none⟩ n cap xs (by rw [hz1]; simpa using hxl) (hown.cells (g := g) rfl) s (by omega) (by omega) (by rw [hz2]; exact growslice_fits (by omega) (by omega))
      rw [h1] at hr
      injection hr with hv _
      subst hv
      right
      have : w.heap.size = k := by simpa [Value.ownBlock] using hk
      omega
/-- Block b. -/
def At (b : Nat) : Nat → Prop := fun k => k = b
theorem at_set {b : Nat} {w w' : World} (h : Mod (At b) w w') (i : Nat) (v : Value) : Mod (At b) w (w'.setCell ⟨b, i, none⟩ v) := h.set (p := ⟨b, i, none⟩) (.inl (show At b b from rfl)) v
theorem freeze_other (w : World) (g n k : Nat) (h : k ≠ g) : (w.freeze ⟨g, 0, none⟩ n).heap[k]? = w.heap[k]? := by
  unfold World.freeze
  split
  · rfl
  · simp only [Array.getElem?_modify]
    rw [if_neg (Ne.symm h)]
theorem freeze_size (w : World) (g n : Nat) : (w.freeze ⟨g, 0, none⟩ n).heap.size = w.heap.size := by
  unfold World.freeze
  split
  · rfl
  · simp
theorem freeze_row (w : World) (g n : Nat) (cur : Array Value) (e : TypeId) (fz : Nat × Nat) (h : w.heap[g]? = some (.cells cur e fz)) (hf : fz.2 ≤ n) : ∃ fz', (w.freeze ⟨g, 0, none⟩ n).heap[g]? = some (.cells cur e fz') ∧ fz'.2 ≤ n := by
  unfold World.freeze
  split
  · exact ⟨fz, h, hf⟩
  · obtain ⟨lo, hi⟩ := fz
    refine ⟨(if lo == hi then (0, 0 + n) else (min lo 0, max hi (0 + n))), by simp [Array.getElem?_modify, h], ?_⟩
    simp only at hf
    split <;> simp <;> omega
theorem Mod.freeze {F : Nat → Prop} {w w' : World} (h : Mod F w w') (g n : Nat) (hg : F g ∨ w.heap.size ≤ g) : Mod F w (w'.freeze ⟨g, 0, none⟩ n) := by
  refine ⟨?_, ?_, ?_, by rw [freeze_size]; exact h.size, fun k hk hF => ?_⟩
  · unfold World.freeze; split <;> exact h.os
  · unfold World.freeze; split <;> exact h.tape
  · unfold World.freeze; split <;> exact h.output
  · rw [freeze_other w' g n k (fun e => by subst e; exact hg.elim hF (fun hg => by omega))]
    exact h.block k hk hF
theorem ownF_froze {w : World} {g cap : Nat} {l : List Value} {n : Nat} (h : w.ownsRowF 0 5 1 (.slice (some ⟨g, 0, none⟩) n cap) n l) : (w.freeze ⟨g, 0, none⟩ n).ownsRowF 0 5 1 (.slice (some ⟨g, 0, none⟩) n cap) n l := by
  refine ⟨h.1, ?_⟩
  rcases h.2 with ⟨hv, _⟩ | ⟨g', cap', cur, fz, hv, hb, hg, hfz, r⟩
  · cases hv
  · injection hv with ha _ hc
    injection ha with ha
    injection ha with hgg _ _
    subst hgg hc
    obtain ⟨fz', h1, h2⟩ := freeze_row w g n cur _ fz hg (by simpa using hfz)
    exact .inr ⟨g, cap, cur, fz', rfl, hb, h1, by simpa using h2, r⟩
theorem unsafeString_none (W : World) (q : Option Addr) : (Builtin.unsafeString_ #[135, 3] 9 #[.pointer q, .int .i64 0]).run Try.prog W = .ok (.string .empty) W :=
  Lib.run_unsafeString_none W 135 3 9 q
/-- An append of a string whose run is known. -/
theorem wp_append' {P : Program} {ops : Array Oper} {rest : List Oper} {o : Oper} {a : Act} {Q : Exit → Act → World → Prop} {W w1 : World} {v1 v u : Value} (hgd : o.guard = none) (s x : Operand) (t t' : TypeId) (ho : o.op = .call { callee := .builtin .append, args := #[s, x], argTypes := #[t, t'] })
    (hs : a.eval s = v) (hx : a.eval x = u) (hrun : (Builtin.append_ #[t, t'] o.type #[v, u]).run P W = .ok v1 w1) (h : wpList P ops Q rest (a.put o.dst v1) w1) : wpList P ops Q (o :: rest) a W := by
  refine wpList_plain hgd fun K hK => ?_
  unfold Oper.wp execOp
  simp only [ho, resolve, invoke, builtin, Sem.run_bind, Sem.run_pure, Result.andThen_ok, List.map_toArray, List.map_cons, List.map_nil, hs, hx, hrun]
  exact hK _ _ h
end Go.Proofs.Ytimalojaiaofkaa.Buf
namespace Go.Proofs.Ytimalojaiaofkaa.Buf
open Go.RowKit Base Sp Flat Go.Proofs.YtimalojaiaofkaaW.PrintWords Go.Lib
/-- A builder at cell 0 of block b, whose blocks are F's. -/
def sB (w : World) (F : Nat → Prop) (b : Nat)  (l : List UInt8) : Prop :=
  ∃ p v, w.heap[b]? = some (.cells #[ p, v] 106 (0, 0)) ∧ (p = .pointer none ∨ p = .pointer (some ⟨b, 0, none⟩)) ∧ w.ownsRowF 0 5 1 v l.length (byteCells l) ∧ v.ownBlock ≠ some b ∧ F b ∧ (∀ k, v.ownBlock = some k → F k) ∧ ∀ k, F k → k < w.heap.size
theorem sB.lt {w : World} {F : Nat → Prop} {b : Nat}  {l : List UInt8} (h : sB w F b  l) : ∀ k, F k → k < w.heap.size := by
  obtain ⟨p, v, _, _, _, _, _, _, h⟩ := h
  exact h
theorem sB.at_ {w : World} {F : Nat → Prop} {b : Nat}  {l : List UInt8} (h : sB w F b  l) : F b := by
  obtain ⟨p, v, _, _, _, _, h, _⟩ := h
  exact h
theorem sB.same {w w' : World} {F : Nat → Prop} {b : Nat}  {l : List UInt8} (h : sB w F b  l) (hs : Same F w w') (hz : w.heap.size ≤ w'.heap.size) : sB w' F b  l := by
  obtain ⟨p, v, h1, h2, h3, h4, h5, h6, h7⟩ := h
  exact ⟨p, v, (hs b h5).trans h1, h2, ownF_same h3 (fun k hk => hs k (h6 k hk)), h4, h5, h6, fun k hk => Nat.lt_of_lt_of_le (h7 k hk) hz⟩
theorem sB.far {w w' : World} {F G : Nat → Prop} {b : Nat}  {l : List UInt8} (h : sB w F b  l) (hm : Mod G w w') (hd : ∀ k, F k → ¬ G k) : sB w' F b  l := h.same (hm.same h.lt hd) hm.size
theorem sB.below {w w' : World} {F : Nat → Prop} {b : Nat}  {l : List UInt8} (h : sB w F b  l) (hb : Below w.heap.size w w') : sB w' F b  l := h.same (Same.of hb h.lt) hb.size
set_option maxRecDepth 100000 in
theorem scheck (b : Nat)  (p v : Value) (w : World) (h : w.heap[b]? = some (.cells #[ p, v] 106 (0, 0))) (hp : p = .pointer none ∨ p = .pointer (some ⟨b, 0, none⟩)) :
    Calls Try.prog 102 #[.pointer (some ⟨b, 0, none⟩)] w fun e w' => e = .returned (.tuple #[]) ∧ w'.heap[b]? = some (.cells #[ .pointer (some ⟨b, 0, none⟩), v] 106 (0, 0)) ∧ Mod (At b) w w' := by
  have hsz : ((Try.prog).info? 106).map (·.size) = some 2 := by kernel_rfl
  obtain ⟨j, hj, hjs⟩ := Option.map_eq_some_iff.1 hsz
  have hsh : w.shape? b = some (106, 0 + 2) := by simp [World.shape?, h]
  have hlies : liesAt Try.prog (Try.prog).depth 106 ((0 + 2) / (Try.prog).cellsOf 106) 0 106 1 = true := by kernel_rfl
  have h0 : w.cell? ⟨b, 0, none⟩ = some p := blk_cell h 0
  have hf0 : w.frozen? ⟨b, 0, none⟩ = false := blk_frozen h 0
  have H := Lib.hid h
  clear h
  rcases hp with rfl | rfl
  · go_enter Try.func102, Try.ntmps102
    go_wp2
    rw [Lib.run_to_unsafe w ⟨b, 0, none⟩ Try.underlying103 Try.underlying147 hj (by rw [hjs]; decide) hsh (by show 0 < 0 + 2; omega)]
    simp only [Result.andThen]
    rw [Oper.upon_value]
    go_wp2
    rw [run_callFunc_extern Try.func108 (by kernel_rfl) (by kernel_rfl) (by kernel_rfl) (e := Extern.AbiNoEscape.same) (by kernel_rfl)]
    rw [Lib.run_noEscape]
    simp only [Result.andThen]
    rw [Oper.upon_value]
    go_wp2
    rw [Lib.run_from_unsafe w ⟨b, 0, none⟩ Try.underlying147 Try.underlying103 hj hsh hlies]
    simp only [Result.andThen]
    rw [Oper.upon_value]
    go_wp2
    go_end0
    refine ⟨rfl, ?_, at_set (Mod.refl _ _) _ _⟩
    have := blk_set H.out 0 (.pointer (some ⟨b, 0, none⟩))
    simpa using this
  · go_enter Try.func102, Try.ntmps102
    go_wp2
    rw [Lib.run_neq_ptr_same w _ Try.underlying103 hj]
    go_wp2
    go_end0
    exact ⟨rfl, H.out, Mod.refl _ _⟩
/-- Bytes were written. -/
def sWrote (w : World) (F : Nat → Prop) (b : Nat)  (l s : List UInt8) (w' : World) : Prop := ∃ F', sB w' F' b  (l ++ s) ∧ Mod F w w' ∧ Grow F F' w
set_option maxHeartbeats 1000000 in
set_option maxRecDepth 100000 in
theorem swrite (F : Nat → Prop) (b : Nat)  (l : List UInt8) (s : ByteArray) (w : World) (h : sB w F b  l) (hl : l.length + s.size ≤ 140737488355328) :
    Calls Try.prog 85 #[.pointer (some ⟨b, 0, none⟩), .string s] w fun e w' => e = .returned (.tuple #[.int .i64 s.size, .nilIface]) ∧ sWrote w F b  l s.data.toList w' := by
  obtain ⟨p, v, h1, h2, h3, h4, h5, h6, h7⟩ := h
  have HC := scheck b  p v w h1 h2
  have HL := Lib.hid hl
  have H3 := Lib.hid h3
  have H7 := Lib.hid h7
  have H6 := Lib.hid h6
  have hlt := blk_lt h1
  clear h1 h2 h3 hl h7 h6
  go_enter Try.func85, Try.ntmps85
  go_wp2_with fail
  refine HC.mono ?_
  rintro e w1 ⟨rfl, g1, m1⟩
  have hlt1 := Nat.lt_of_lt_of_le hlt m1.size
  have k1 := ownF_same H3.out (fun k hk => m1.block k (H7.out k (H6.out k hk)) (fun e => h4 (by rw [hk, show k = b from e])))
  obtain ⟨v', w2, hr, o2, gr, hk⟩ := own_str 104 k1 s (by have := HL.out; omega)
  have g2 : w2.heap[b]? = some (.cells #[ .pointer (some ⟨b, 0, none⟩), v] 106 (0, 0)) := (gr.block b hlt1 (fun e => h4 e.symm)).trans g1
  obtain ⟨ao, n', cap, rfl⟩ : ∃ ao n' cap, v' = .slice ao n' cap := by
    rcases o2.2 with ⟨hv, _⟩ | ⟨g, cap, cur, fz, hv, _⟩
    · exact ⟨_, _, _, hv⟩
    · exact ⟨_, _, _, hv⟩
  have HR := Lib.hid hr
  have HO := Lib.hid o2
  have HG := Lib.hid gr
  have HK := Lib.hid hk
  have H1 := Lib.hid g1
  have H2 := Lib.hid g2
  have c1 : w1.cell? ⟨b, 0 + 1, none⟩ = some v := blk_cell g1 (0 + 1)
  have d1 : w2.cell? ⟨b, 0 + 1, none⟩ = some v := blk_cell g2 (0 + 1)
  have f1 : w2.frozen? ⟨b, 0 + 1, none⟩ = false := blk_frozen g2 (0 + 1)
  clear hr o2 gr hk g1 g2 k1
  go_wp2_with (at_builtin; refine wp_append' rfl (.tmp 12) (.tmp 13) 104 9 rfl rfl rfl HR.out ?_)
  go_ret2
  refine ⟨rfl, ?_⟩
  have hb1 : (Value.slice ao n' cap).ownBlock ≠ some b := fun e => by
    rcases HK.out b e with hx | hx
    · exact h4 hx
    · omega
  refine ⟨fun k => F k ∨ (Value.slice ao n' cap).ownBlock = some k, ⟨_, .slice ao n' cap, by have := blk_set H2.out (0 + 1) (.slice ao n' cap); simpa using this, .inr rfl, ?_, hb1, .inl h5, fun k hk => .inr hk, fun k hk => ?_⟩, ?_, fun k hk => ?_⟩
  · have o2 := HO.out
    have e1 : (l ++ s.data.toList).length = l.length + s.size := by rw [List.length_append]; rfl
    rw [e1, byteCells_append]
    exact ownF_same o2 (fun k hk => Below.heap_setCell _ _ _ _ (fun e => hb1 (by rw [hk]; exact congrArg _ e)))
  · have hz : (w2.setCell ⟨b, 0 + 1, none⟩ (.slice ao n' cap)).heap.size = w2.heap.size := by simp
    rw [hz]
    rcases hk with hk | hk
    · exact Nat.lt_of_lt_of_le (H7.out k hk) (Nat.le_trans m1.size HG.out.size)
    · exact (HO.out.lt k hk).2
  · refine Mod.set ?_ (.inl h5) _
    refine Mod.grown (m1.mono (fun k hk => .inl (by rw [show k = b from hk]; exact h5))) HG.out (fun k hk => .inl (H6.out k hk))
  · rcases hk with hk | hk
    · exact .inl hk
    · rcases HK.out k hk with hx | hx
      · exact .inl (H6.out k hx)
      · exact .inr (Nat.le_trans m1.size hx)
set_option maxHeartbeats 2000000 in
set_option maxRecDepth 100000 in
theorem sstring (F : Nat → Prop) (b : Nat)  (l : List UInt8) (w : World) (h : sB w F b  l) :
    Calls Try.prog 63 #[.pointer (some ⟨b, 0, none⟩)] w fun e w' => e = .returned (.string ⟨l.toArray⟩) ∧ sB w' F b  l ∧ Mod F w w' := by
  obtain ⟨p, v, h1, h2, h3, h4, h5, h6, h7⟩ := h
  have hlt := blk_lt h1
  rcases h3.2 with ⟨rfl, hz⟩ | ⟨g, cap, cur, fz, rfl, hbg, hg, hfz, hnc, hcm, hcs, htake⟩
  · obtain rfl : l = [] := List.eq_nil_of_length_eq_zero hz
    have hA : sB w.drew F b  [] ∧ Mod F w w.drew := ⟨⟨p, _, h1, h2, h3, h4, h5, h6, h7⟩, (Mod.refl F w).drew⟩
    have hUS := unsafeString_none
    have c1 : w.drew.cell? ⟨b, 0 + 1, none⟩ = some (.slice none 0 0) := blk_cell (w := w.drew) h1 (0 + 1)
    have hSD : (Builtin.unsafeSliceData_ #[104] 135 #[.slice none 0 0]).run Try.prog w.drew = .ok (.pointer none) w.drew := rfl
    have HA := Lib.hid hA
    clear hA h1 h3 hz h4 h6 h7 hlt
    go_enter Try.func63, Try.ntmps63
    go_wp2
    go_region
    all_goals (go_wp2; go_ret; exact ⟨rfl, HA.out⟩)
  · by_cases hl0 : l = []
    · subst hl0
      by_cases hc0 : cap = 0
      · subst hc0
        have hk : ∀ k, k < w.heap.size → (w.drew.alloc (.view ⟨g, 0, none⟩ 5)).heap[k]? = w.heap[k]? := fun k hk => Lib.alloc_old w.drew _ k hk
        have hA : sB (w.drew.alloc (.view ⟨g, 0, none⟩ 5)) F b  [] ∧ Mod F w (w.drew.alloc (.view ⟨g, 0, none⟩ 5)) :=
          ⟨⟨p, _, (hk b hlt).trans h1, h2, ownF_same h3 (fun k he => hk k (h7 k (h6 k he))), h4, h5, h6, fun k he => Nat.lt_succ_of_lt (h7 k he) |> (by simpa using ·)⟩, ((Mod.refl F w).drew).alloc _⟩
        have hUS := unsafeString_none
        have c1 : w.drew.cell? ⟨b, 0 + 1, none⟩ = some (.slice (some ⟨g, 0, none⟩) 0 0) := blk_cell (w := w.drew) h1 (0 + 1)
        have hSD : (Builtin.unsafeSliceData_ #[104] 135 #[.slice (some ⟨g, 0, none⟩) 0 0]).run Try.prog w.drew = .ok (.pointer (some ⟨w.drew.heap.size, 0, none⟩)) (w.drew.alloc (.view ⟨g, 0, none⟩ 5)) :=
          Lib.run_unsafeSliceData_zero w.drew _ _ 5 Try.underlying135 ⟨g, 0, none⟩ 0 (5, cur.size) (by have hg' : w.drew.heap[g]? = some (.cells cur 5 fz) := hg; simp [World.shape?, hg'])
        have c2 : (w.drew.alloc (.view ⟨g, 0, none⟩ 5)).cell? ⟨b, 0 + 1, none⟩ = some (.slice (some ⟨g, 0, none⟩) 0 0) := blk_cell ((hk b hlt).trans h1) (0 + 1)
        have c3 : (w.alloc (.view ⟨g, 0, none⟩ 5)).drew.cell? ⟨b, 0 + 1, none⟩ = some (.slice (some ⟨g, 0, none⟩) 0 0) := c2
        have c0 : w.cell? ⟨b, 0 + 1, none⟩ = some (.slice (some ⟨g, 0, none⟩) 0 0) := c1
        have HA := Lib.hid hA
        clear hA h1 h3 h4 h6 h7 hlt hk hg hfz hcs htake
        go_enter Try.func63, Try.ntmps63
        go_wp2
        go_region
        all_goals (go_wp2; go_ret; exact ⟨rfl, HA.out⟩)
      · have hA : sB w.drew F b  [] ∧ Mod F w w.drew := ⟨⟨p, _, h1, h2, h3, h4, h5, h6, h7⟩, (Mod.refl F w).drew⟩
        have hUS := unsafeString_none
        have c1 : w.drew.cell? ⟨b, 0 + 1, none⟩ = some (.slice (some ⟨g, 0, none⟩) 0 cap) := blk_cell (w := w.drew) h1 (0 + 1)
        have hSD : (Builtin.unsafeSliceData_ #[104] 135 #[.slice (some ⟨g, 0, none⟩) 0 cap]).run Try.prog w.drew = .ok (.pointer (some ⟨g, 0, none⟩)) w.drew :=
          Lib.run_unsafeSliceData_row _ _ _ _ _ _ hc0
        have HA := Lib.hid hA
        clear hA h1 h3 h4 h6 h7 hlt hg hfz hcs htake hc0 hnc hcm
        go_enter Try.func63, Try.ntmps63
        go_wp2
        go_region
        all_goals (go_wp2; go_ret; exact ⟨rfl, HA.out⟩)
    · have hl1 : l.length ≠ 0 := by simpa using hl0
      have hcap : cap ≠ 0 := by omega
      have hgb : g ≠ b := fun e => h4 (by simp [Value.ownBlock, e])
      have hFg : F g := h6 g rfl
      have c1 : w.drew.cell? ⟨b, 0 + 1, none⟩ = some (.slice (some ⟨g, 0, none⟩) l.length cap) := blk_cell (w := w.drew) h1 (0 + 1)
      have hSD : (Builtin.unsafeSliceData_ #[104] 135 #[.slice (some ⟨g, 0, none⟩) l.length cap]).run Try.prog w.drew = .ok (.pointer (some ⟨g, 0, none⟩)) w.drew :=
        Lib.run_unsafeSliceData_row _ _ _ _ _ _ hcap
      have hUS : (Builtin.unsafeString_ #[135, 3] 9 #[.pointer (some ⟨g, 0, none⟩), .int .i64 l.length]).run Try.prog w.drew = .ok (.string ⟨l.toArray⟩) (w.drew.freeze ⟨g, 0, none⟩ l.length) := by
        refine Lib.run_unsafeString_row w.drew 135 3 9 5 Try.underlying135 (by kernel_rfl) g cur.size (by have hg' : w.drew.heap[g]? = some (.cells cur 5 fz) := hg; simp [World.shape?, hg']) l hl0 (by omega) (by unfold maxLen at hcm; omega) ?_
        intro j x hx
        have := h3.cells (g := g) rfl j (.int .u8 x.toNat) (by simp [Lib.byteCells, hx])
        exact this
      have hA : sB (w.drew.freeze ⟨g, 0, none⟩ l.length) F b  l ∧ Mod F w (w.drew.freeze ⟨g, 0, none⟩ l.length) := by
        refine ⟨⟨p, .slice (some ⟨g, 0, none⟩) l.length cap, (freeze_other w.drew g l.length b (Ne.symm hgb)).trans h1, h2, ?_, h4, h5, h6, fun k hk => by rw [freeze_size]; exact h7 k hk⟩, Mod.freeze (Mod.refl F w).drew g l.length (.inl hFg)⟩
        exact ownF_froze (w := w.drew) h3
      have HA := Lib.hid hA
      clear hA h1 h3 h4 h6 h7 hlt hg hfz hcs htake hgb
      go_enter Try.func63, Try.ntmps63
      go_wp2
      go_region
      all_goals (go_wp2; go_ret; exact ⟨rfl, HA.out⟩)
end Go.Proofs.Ytimalojaiaofkaa.Buf
