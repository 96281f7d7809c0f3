import Derived.Test.YtmlfnlmdnhblmaaSep
import Derived.Test.YtmlfnlmdnhblmaaWWords
set_option linter.unusedVariables false
set_option linter.unusedSimpArgs false
namespace Go.Proofs.Ytmlfnlmdnhblmaa.Flat
open Go.RowKit Base Sp Go.Proofs.YtmlfnlmdnhblmaaW.PrintWords
section
variable {α : Type} {d : Kd α} {e : Nat} {w w' W : World} {F G : Nat → Prop} {v : Value} {xs : List α}
/-- A kind whose cells hang on nothing else in memory. -/
structure Flat (d : Kd α) : Prop where
  k : ∀ {w w' : World} {x : α} {c : List Value}, d.K w x c → d.K w' x c
  m : ∀ {w : World} {base : Nat} {ok : Nat → Prop} {x : α} {c : List Value}, d.K w x c → d.M w base ok x c
theorem flat_string : Flat Kd.string := ⟨fun h => h, fun h => h⟩
theorem flat_int (k : IntKind) : Flat (Kd.int k) := ⟨fun h => h, fun h => h⟩
theorem flat_bool : Flat Kd.bool := ⟨fun h => h, fun h => h⟩
theorem flat_pair {β : Type} {d1 : Kd α} {d2 : Kd β} (h1 : Flat d1) (h2 : Flat d2) : Flat (Kd.pair d1 d2) :=
  ⟨fun ⟨c0, c1, e, a, b⟩ => ⟨c0, c1, e, h1.k a, h2.k b⟩, fun ⟨c0, c1, e, a, b⟩ => ⟨c0, c1, e, h1.m a, h2.m b⟩⟩
theorem flat_iso {β : Type} {f : β → α} (h : Flat d) : Flat (Kd.iso d f) := ⟨fun a => h.k a, fun a => h.m a⟩
/-- A slice that reads as a list; its block is one of F's. -/
def Rd (d : Kd α) (w : World) (F : Nat → Prop) (v : Value) (xs : List α) : Prop :=
  ∃ A c, v = .slice A xs.length c ∧ xs.length ≤ c ∧ d.C w A xs.length xs ∧ ∀ a, A = some a → F a.block
/-- A slice that reads as a list, and may be appended to. -/
def Own (d : Kd α) (e : Nat) (w : World) (F : Nat → Prop) (v : Value) (xs : List α) : Prop :=
  d.Q e w 0 F v xs ∨ ∃ a, v = .slice (some a) xs.length xs.length ∧ d.C w (some a) xs.length xs ∧ F a.block
theorem Rd.mono (h : Rd d w F v xs) (hF : ∀ k, F k → G k) : Rd d w G v xs := by
  obtain ⟨A, c, e, hl, hC, hA⟩ := h
  exact ⟨A, c, e, hl, hC, fun a ha => hF _ (hA a ha)⟩
theorem Own.mono (h : Own d e w F v xs) (hF : ∀ k, F k → G k) : Own d e w G v xs := by
  rcases h with h | ⟨a, ev, hC, hA⟩
  · exact .inl (Kd.Q_mono h hF)
  · exact .inr ⟨a, ev, hC, hF _ hA⟩
theorem Own.rd (h : Own d e w F v xs) : Rd d w F v xs := by
  rcases h with h | ⟨a, ev, hC, hA⟩
  · obtain ⟨A, c, ev, hl, hC⟩ := Kd.Q_reads h
    refine ⟨A, c, ev, hl, hC, fun a ha => h.1 _ ?_⟩
    rw [ev, ha]
    rfl
  · exact ⟨some a, xs.length, ev, Nat.le_refl _, hC, fun a' ha' => by cases ha'; exact hA⟩
theorem Own.away {b : Nat} (h : Own d e w F v xs) (hb : ¬ F b) : some b ≠ v.ownBlock := by
  rcases h with h | ⟨a, ev, hC, hA⟩
  · exact fun he => hb (h.1 b he.symm)
  · rw [ev]
    intro he
    have : b = a.block := by simpa [Value.ownBlock] using he
    rw [this] at hb
    exact hb hA
theorem Own.base (h : Own d e w F v xs) : ∀ k, v.ownBlock = some k → F k := by
  intro k hk
  refine Classical.byContradiction fun hn => ?_
  exact h.away hn hk.symm
theorem Own.nil (d : Kd α) (e : Nat) (w : World) (F : Nat → Prop) : Own d e w F (.slice none 0 0) [] := .inl (Kd.Q_nil _ _ _ _ _)
theorem Rd.nil (d : Kd α) (w : World) (F : Nat → Prop) : Rd d w F (.slice none 0 0) [] := (Own.nil d 0 w F).rd
theorem C_same {A : Option Addr} {n : Nat} (hd : Flat d) (h : d.C w A n xs) (hA : ∀ a, A = some a → w'.heap[a.block]? = w.heap[a.block]?) : d.C w' A n xs := by
  obtain ⟨h1, h2, h3⟩ := h
  refine ⟨h1, h2, fun hn => ?_⟩
  obtain ⟨ad, e, hc⟩ := h3 hn
  refine ⟨ad, e, fun j p hj => ?_⟩
  obtain ⟨c, c1, c2, c3⟩ := hc j p hj
  refine ⟨c, c1, hd.k c2, fun i u hi => ?_⟩
  have h4 := c3 i u hi
  have hb : (ad.add (j * d.sz + i)).block = ad.block := by unfold Addr.add; split <;> rfl
  unfold World.cell? at h4 ⊢
  rw [hb, hA ad e]
  rw [hb] at h4
  exact h4
theorem Rd.same (hd : Flat d) (h : Rd d w F v xs) (hs : Same F w w') : Rd d w' F v xs := by
  obtain ⟨A, c, e, hl, hC, hA⟩ := h
  exact ⟨A, c, e, hl, C_same hd hC (fun a ha => hs _ (hA a ha)), hA⟩
theorem Own.same (hd : Flat d) (h : Own d e w F v xs) (hs : Same F w w') : Own d e w' F v xs := by
  rcases h with h | ⟨a, ev, hC, hA⟩
  · exact .inl (Kd.Q_move h hs)
  · exact .inr ⟨a, ev, C_same hd hC (fun a' ha' => by cases ha'; exact hs _ hA), hA⟩
theorem Rd.get (h : Rd d w F v xs) : ∃ A c, v = .slice A xs.length c ∧ xs.length ≤ c ∧ d.C w A xs.length xs := by
  obtain ⟨A, c, e, hl, hC, _⟩ := h
  exact ⟨A, c, e, hl, hC⟩
theorem Rd.max (h : Rd d w F v xs) : xs.length ≤ 9223372036854775807 := by
  obtain ⟨A, c, e, hl, hC, _⟩ := h
  exact hC.2.1
/-- The cells of a list, one behind the other. -/
theorem row_of_C {ad : Addr} (h : d.C w (some ad) xs.length xs) : ∀ m, m ≤ xs.length → ∃ cs : List Value, Reps (d.K w) d.sz (xs.take m) cs ∧ ∀ j u, cs[j]? = some u → w.cell? (ad.add j) = some u
  | 0, _ => ⟨[], by rw [List.take_zero]; exact Reps.none _ _, fun j u hj => by simp at hj⟩
  | m + 1, hm => by
    obtain ⟨cs, h1, h2⟩ := row_of_C h m (by omega)
    obtain ⟨_, e, hc⟩ := h.2.2 (by omega)
    obtain rfl := Option.some.inj e
    obtain ⟨c, c1, c2, c3⟩ := hc m _ (List.getElem?_eq_getElem (show m < xs.length by omega))
    have hlen : cs.length = m * d.sz := by rw [h1.1, List.length_take, Nat.min_eq_left (by omega)]
    refine ⟨cs ++ c, by rw [List.take_succ_eq_append_getElem (by omega)]; exact h1.snoc c2 c1, fun j u hj => ?_⟩
    rcases Nat.lt_or_ge j cs.length with hjl | hjl
    · rw [List.getElem?_append_left hjl] at hj
      exact h2 j u hj
    · rw [List.getElem?_append_right hjl, hlen] at hj
      have := c3 _ u hj
      rw [show m * d.sz + (j - m * d.sz) = j from by omega] at this
      exact this
theorem reps_append {R : α → List Value → Prop} {sz : Nat} {xs ys : List α} {cs ds : List Value} (h : Reps R sz xs cs) (k : Reps R sz ys ds) : Reps R sz (xs ++ ys) (cs ++ ds) := by
  refine ⟨by rw [List.length_append, List.length_append, h.1, k.1, Nat.add_mul], fun j p hj => ?_⟩
  rcases Nat.lt_or_ge j xs.length with hjl | hjl
  · rw [List.getElem?_append_left hjl] at hj
    have h1 : j * sz + sz ≤ cs.length := by rw [h.1, ← Nat.succ_mul]; exact Nat.mul_le_mul_right _ hjl
    have h2 := h.2 j p hj
    rw [List.drop_append_of_le_length (by omega), List.take_append_of_le_length (by rw [List.length_drop]; omega)]
    exact h2
  · rw [List.getElem?_append_right hjl] at hj
    have h2 := k.2 _ p hj
    have h1 : xs.length * sz ≤ j * sz := Nat.mul_le_mul_right _ hjl
    rw [List.drop_append, h.1, List.drop_eq_nil_of_le (by rw [h.1]; exact h1), List.nil_append, ← Nat.sub_mul]
    exact h2
/-- append(xs, p). -/
theorem Own.append {P : Program} (hd : Flat d) (t ty : TypeId) (z : Value) (bytes : Nat) (ht : P.underlying t = some (.slice e))
    (hinfo : (P.info? e).map (fun i => (i.zero, i.size, i.bytes)) = some (some z, d.sz, bytes)) (hz : z.cells.size = d.sz) (hs0 : 0 < d.sz) (hb0 : 0 < bytes)
    (p : α) (cs : List Value) (hp : d.K W p cs) (h : Own d e W F v xs) (hF : ∀ k, F k → k < W.heap.size) (hl : (xs.length + 1) * bytes ≤ 140737488355328) :
    ∃ v1 w1, (Builtin.append_ #[t, t] ty #[v, .slice (some ⟨W.heap.size, 0, none⟩) 1 1]).run P (W.alloc (.cells cs.toArray e)) = .ok v1 w1 ∧
      Own d e w1 (fun k => F k ∨ (W.heap.size ≤ k ∧ k < w1.heap.size)) v1 (xs ++ [p]) ∧ W.grownBy w1 v.ownBlock ∧ W.heap.size < w1.heap.size := by
  have hlen : xs.length + 1 ≤ 140737488355328 := Nat.le_trans (Nat.le_mul_of_pos_right _ hb0) hl
  have lt1 : ∀ {w1 : World} {r : Option Nat}, (W.alloc (.cells cs.toArray e)).grownBy w1 r → W.heap.size < w1.heap.size := fun {w1 r} hg => by
    have := hg.size
    simp at this
    omega
  rcases h with h | ⟨a, rfl, hC, hA⟩
  · have h' : d.Q e W 0 (fun k => F k ∨ W.heap.size ≤ k) v xs := Kd.Q_mono h (fun k hk => .inl hk)
    have hq : d.Q e (W.alloc (.cells cs.toArray e)) 0 F v xs := Kd.Q_alloc h _
    obtain ⟨h0, inner, hown, hr⟩ := h
    obtain ⟨v1, w1, hrun, h1, _, h3, h4⟩ := Kd.Q_run (P := P) d (w0 := W) 0 t ty e z bytes ht hinfo hz hs0 hb0 v xs p cs (fun k => F k ∨ W.heap.size ≤ k) (fun k => False) (hd.m hp) (fun k hk => hk.elim) (fun k hk => .inr hk) h'
      (Below.refl 0 W) (by omega) hl
    obtain ⟨i0, hi, hzz⟩ := Option.map_eq_some_iff.1 hinfo
    have hs1 : W.heap.size < w1.heap.size := by
      simp only [Prod.mk.injEq] at hzz
      obtain ⟨hz0, hz1, hz2⟩ := hzz
      have hcl := d.K_len hp
      obtain ⟨v2, w2, hrun2, _, hg2, _⟩ := q_append (P := P) (W.alloc (.cells cs.toArray e)) 0 t ty e i0 z d.sz bytes ht hi hz0 hz1 hz2 hz hs0 v xs.length inner (q_move hown (fun k hk => Below.heap_alloc W _ k (q_lt hown k hk))) ⟨W.heap.size, 0, none⟩ 1 1 cs (by rw [hcl, Nat.one_mul])
        (by simpa using World.news_of_block (cs := cs.toArray) (t := e) (fr := (0, 0)) (heap_alloc_new W (.cells cs.toArray e))) (d.K_one hp) (by omega) (by simp only [maxLen]; omega) hl (by omega)
      rw [hrun] at hrun2
      injection hrun2 with _ hw
      subst hw
      exact lt1 hg2
    refine ⟨v1, w1, hrun, .inl (Kd.Q_mono (Kd.Q_bound h1) (fun k hk => ?_)), h3, hs1⟩
    rcases hk.1 with hf | hf
    · exact .inl hf
    · exact .inr ⟨hf, hk.2.2.1⟩
  · obtain ⟨i0, hi, hzz⟩ := Option.map_eq_some_iff.1 hinfo
    simp only [Prod.mk.injEq] at hzz
    obtain ⟨hz0, hz1, hz2⟩ := hzz
    obtain ⟨olds, ho, hoc⟩ := row_of_C hC xs.length (Nat.le_refl _)
    rw [List.take_length] at ho
    have hcl := d.K_len hp
    obtain ⟨v1, w1, hrun, hown, hg⟩ := run_append_arg_grows (P := P) (w := W.alloc (.cells cs.toArray e)) t ty e i0 z d.sz bytes ht hi hz0 hz1 hz2 hz hs0 a xs.length xs.length olds ho.1
      (fun j u hj => by
        have := hoc j u hj
        exact cnew this) ⟨W.heap.size, 0, none⟩ 1 1 cs (by rw [hcl, Nat.one_mul])
      (by simpa using World.news_of_block (cs := cs.toArray) (t := e) (fr := (0, 0)) (heap_alloc_new W (.cells cs.toArray e))) (by omega) (by simp only [maxLen]; omega) hl
    have hs1 := lt1 hg
    have hg1 : W.grownBy w1 none := World.grownBy.trans (World.grownBy_alloc W _ _) hg
    refine ⟨v1, w1, hrun, .inl ?_, ⟨hg1.os, hg1.tape, hg1.output, hg1.size, fun k hk _ => hg1.block k hk (by simp)⟩, hs1⟩
    have hq : QRow w1 (W.alloc (.cells cs.toArray e)).heap.size e d.sz v1 (xs.length + 1) (olds ++ cs) := q_of_own hown
    refine ⟨fun k hk => ?_, olds ++ cs, by rw [List.length_append, List.length_singleton]; exact q_lower hq (Nat.zero_le _), ?_⟩
    · have h1 := (q_typed hq k hk).1
      have h2 := q_lt hq k hk
      simp at h1
      exact .inr ⟨by omega, h2⟩
    · exact (ho.imp_ (fun _ _ hq => hd.m (hd.k hq))).snoc (hd.m (hd.k hp)) hcl
/-- append(xs, ys...), ys not empty. -/
theorem Own.appends {P : Program} (hd : Flat d) (t ty : TypeId) (z : Value) (bytes : Nat) (ht : P.underlying t = some (.slice e))
    (hinfo : (P.info? e).map (fun i => (i.zero, i.size, i.bytes)) = some (some z, d.sz, bytes)) (hz : z.cells.size = d.sz) (hs0 : 0 < d.sz) (hb0 : 0 < bytes)
    (ys : List α) (B : Addr) (cB : Nat) (hy : d.C W (some B) ys.length ys) (hy0 : 0 < ys.length) (h : Own d e W F v xs) (hF : ∀ k, F k → k < W.heap.size) (hl : (xs.length + ys.length) * bytes ≤ 140737488355328) :
    ∃ v1 w1, (Builtin.append_ #[t, t] ty #[v, .slice (some B) ys.length cB]).run P W = .ok v1 w1 ∧
      Own d e w1 (fun k => F k ∨ (W.heap.size ≤ k ∧ k < w1.heap.size)) v1 (xs ++ ys) ∧ W.grownBy w1 v.ownBlock := by
  have hlen : xs.length + ys.length ≤ 140737488355328 := Nat.le_trans (Nat.le_mul_of_pos_right _ hb0) hl
  obtain ⟨i0, hi, hzz⟩ := Option.map_eq_some_iff.1 hinfo
  simp only [Prod.mk.injEq] at hzz
  obtain ⟨hz0, hz1, hz2⟩ := hzz
  obtain ⟨news, hn, hnc⟩ := row_of_C hy ys.length (Nat.le_refl _)
  rw [List.take_length] at hn
  have hone : ∀ u ∈ news, u.oneCell' = true := by
    intro u hu
    obtain ⟨j, hj, hju⟩ := List.getElem_of_mem hu
    have hjlt : j / d.sz < ys.length := by
      rw [Nat.div_lt_iff_lt_mul hs0, ← hn.1]
      exact hj
    have h1 := hn.2 (j / d.sz) _ (List.getElem?_eq_getElem hjlt)
    refine d.K_one h1 u ?_
    refine List.mem_iff_getElem?.2 ⟨j % d.sz, ?_⟩
    rw [List.getElem?_take, if_pos (Nat.mod_lt _ hs0), List.getElem?_drop, Nat.div_add_mod', List.getElem?_eq_getElem hj, hju]
  rcases h with h | ⟨a, rfl, hC, hA⟩
  · obtain ⟨h0, inner, hown, hr⟩ := h
    obtain ⟨v1, w1, hrun, hq, hg, hat⟩ := q_append (P := P) W 0 t ty e i0 z d.sz bytes ht hi hz0 hz1 hz2 hz hs0 v xs.length inner hown B ys.length cB news hn.1 hnc hone hy0 (by simp only [maxLen]; omega) hl (by omega)
    refine ⟨v1, w1, hrun, .inl ⟨fun k hk => ?_, inner ++ news, by rw [List.length_append]; exact hq, ?_⟩, hg⟩
    · rcases hat with hat | ⟨b, hb, hle⟩
      · rw [hat] at hk
        exact .inl (h0 k hk)
      · have := q_lt hq k hk
        rw [hb] at hk
        injection hk with hk
        exact .inr ⟨by omega, this⟩
    · refine reps_append (hr.imp_ (fun _ _ h => hd.m (hd.k (d.K_of_M h)))) (hn.imp_ (fun _ _ h => hd.m (hd.k h)))
  · obtain ⟨olds, ho, hoc⟩ := row_of_C hC xs.length (Nat.le_refl _)
    rw [List.take_length] at ho
    obtain ⟨v1, w1, hrun, hown, hg⟩ := run_append_arg_grows (P := P) (w := W) t ty e i0 z d.sz bytes ht hi hz0 hz1 hz2 hz hs0 a xs.length xs.length olds ho.1 hoc B ys.length cB news hn.1 hnc (by omega) (by simp only [maxLen]; omega) hl
    refine ⟨v1, w1, hrun, .inl ?_, ⟨hg.os, hg.tape, hg.output, hg.size, fun k hk _ => hg.block k hk (by simp)⟩⟩
    have hq : QRow w1 W.heap.size e d.sz v1 (xs.length + ys.length) (olds ++ news) := q_of_own hown
    refine ⟨fun k hk => .inr ⟨(q_typed hq k hk).1, q_lt hq k hk⟩, olds ++ news, by rw [List.length_append]; exact q_lower hq (Nat.zero_le _), ?_⟩
    exact reps_append (ho.imp_ (fun _ _ h => hd.m (hd.k h))) (hn.imp_ (fun _ _ h => hd.m (hd.k h)))
/-- xs[k:n:n]. -/
theorem Rd.cut {k : Nat} (h : Rd d w F v xs) (hk : k ≤ xs.length) : ∃ A c, v = .slice A xs.length c ∧ xs.length ≤ c ∧
    Own d e w F (.slice (if xs.length = k then A else A.map (·.add (k * d.sz))) (xs.length - k) (xs.length - k)) (xs.drop k) := by
  obtain ⟨A, c, rfl, hl, hC, hA⟩ := h
  refine ⟨A, c, rfl, hl, ?_⟩
  have h1 := Kd.C_drop hC hk (Nat.le_refl _)
  cases A with
  | none =>
    have h0 : xs.length = 0 := by
      by_cases h0 : 0 < xs.length
      · obtain ⟨_, e, _⟩ := hC.2.2 h0
        cases e
      · omega
    obtain rfl := List.eq_nil_of_length_eq_zero h0
    simpa using Own.nil d e w F
  | some a =>
    refine .inr ⟨if xs.length = k then a else a.add (k * d.sz), ?_, ?_, ?_⟩
    · rw [List.length_drop]
      split <;> simp_all
    · split
      · rw [if_pos (by assumption)] at h1; exact h1
      · rw [if_neg (by assumption)] at h1; exact h1
    · split
      · exact hA a rfl
      · have : (a.add (k * d.sz)).block = a.block := by unfold Addr.add; split <;> rfl
        rw [this]
        exact hA a rfl
/-- xs[k:], to be appended to. -/
theorem Own.drop {A : Option Addr} {c k : Nat} (h : Own d e w F (.slice A xs.length c) xs) (hk : k ≤ xs.length) : Own d e w F (.slice (if c = k then A else A.map (·.add (k * d.sz))) (xs.length - k) (c - k)) (xs.drop k) := by
  rcases h with h | ⟨a, ev, hC, hA⟩
  · exact .inl (Kd.Q_drop h hk)
  · injection ev with e1 _ e3
    subst e1 e3
    obtain ⟨A', c', e, _, h1⟩ := Rd.cut (e := e) (F := F) (d := d) (w := w) (v := .slice (some a) xs.length xs.length) ⟨some a, xs.length, rfl, Nat.le_refl _, hC, fun a' ha' => by cases ha'; exact hA⟩ hk
    injection e with e1
    subst e1
    exact h1
/-- A new, empty slice. -/
theorem Own.empty {g : Nat} {cs : Array Value} (hg : w.heap[g]? = some (.cells cs e (0, 0))) (hF : F g) : Own d e w F (.slice (some ⟨g, 0, none⟩) 0 0) [] := by
  refine .inl ⟨fun k hk => ?_, [], ⟨by simp, .inl ⟨rfl, some ⟨g, 0, none⟩, rfl, fun a ha => ?_⟩⟩, Reps.none _ _⟩
  · have : g = k := by simpa [Value.ownBlock] using hk
    rw [← this]
    exact hF
  · cases ha
    exact ⟨Nat.zero_le _, cs, hg⟩
theorem Rd.set {a : Addr} {u : Value} (hd : Flat d) (h : Rd d w F v xs) (ha : ¬ F a.block) : Rd d (w.setCell a u) F v xs :=
  h.same hd (fun k hk => Below.heap_setCell _ _ _ _ (fun e => ha (e ▸ hk)))
theorem Own.set {a : Addr} {u : Value} (hd : Flat d) (h : Own d e w F v xs) (ha : ¬ F a.block) : Own d e (w.setCell a u) F v xs :=
  h.same hd (fun k hk => Below.heap_setCell _ _ _ _ (fun e => ha (e ▸ hk)))
theorem Rd.alloc (hd : Flat d) (h : Rd d w F v xs) (o : Obj) (hF : ∀ k, F k → k < w.heap.size) : Rd d (w.alloc o) F v xs := h.same hd (fun k hk => Below.heap_alloc _ _ _ (hF k hk))
/-- append([]T{}, ys...). -/
theorem Own.copied {P : Program} (hd : Flat d) (t ty : TypeId) (z : Value) (bytes : Nat) (ht : P.underlying t = some (.slice e)) (ht' : P.underlying t = some (.slice (P.elem t)))
    (hinfo : (P.info? e).map (fun i => (i.zero, i.size, i.bytes)) = some (some z, d.sz, bytes)) (hz : z.cells.size = d.sz) (hs0 : 0 < d.sz) (hb0 : 0 < bytes)
    {g : Nat} {cs : Array Value} (hg : W.heap[g]? = some (.cells cs e (0, 0))) (ys : List α) (A : Option Addr) (c : Nat) (h : Rd d W G (.slice A ys.length c) ys) (hl : ys.length * bytes ≤ 140737488355328) :
    ∃ v1 w1, (Builtin.append_ #[t, t] ty #[.slice (some ⟨g, 0, none⟩) 0 0, .slice A ys.length c]).run P W = .ok v1 w1 ∧
      Own d e w1 (fun k => k = g ∨ (W.heap.size ≤ k ∧ k < w1.heap.size)) v1 ys ∧ W.grownBy w1 (some g) := by
  have hgl := blk_lt hg
  have hO : Own d e W (fun k => k = g) (.slice (some ⟨g, 0, none⟩) 0 0) [] := Own.empty hg rfl
  by_cases h0 : 0 < ys.length
  · obtain ⟨A', c', ev, hc, hC, hA⟩ := h
    injection ev with e1 _ e3
    subst e1 e3
    obtain ⟨B, rfl, _⟩ := hC.2.2 h0
    obtain ⟨v1, w1, hr, ho, hgr⟩ := hO.appends (P := P) hd t ty z bytes ht hinfo hz hs0 hb0 ys B c hC h0 (fun k hk => by rw [hk]; exact hgl) (by simpa using hl)
    exact ⟨v1, w1, hr, ho, hgr⟩
  · obtain rfl : ys = [] := List.eq_nil_of_length_eq_zero (by omega)
    obtain ⟨i0, hi, hzz⟩ := Option.map_eq_some_iff.1 hinfo
    refine ⟨.slice (some ⟨g, 0, none⟩) 0 0, W, ?_, hO.mono (fun k hk => .inl hk), ⟨rfl, rfl, rfl, Nat.le_refl _, fun _ _ _ => rfl⟩⟩
    have hsz : (sizeOf e).run P W = .ok d.sz W := by
      simp only [Prod.mk.injEq] at hzz
      simp [sizeOf, typeInfo, hi, hzz.2.1]
    cases A <;> simp [Builtin.append_, run_underlying ht, hsz, Result.andThen, Builtin.lenOf, Builtin.firstCells, storeCells, go_sem]
/-- xs[k:]. -/
theorem Rd.drop {A : Option Addr} {c k : Nat} (h : Rd d w F (.slice A xs.length c) xs) (hk : k ≤ xs.length) : Rd d w F (.slice (if c = k then A else A.map (·.add (k * d.sz))) (xs.length - k) (c - k)) (xs.drop k) := by
  obtain ⟨A', c', e, hl, hC, hA⟩ := h
  injection e with e1 _ e3
  subst e1 e3
  refine ⟨_, c - k, by rw [List.length_drop], by rw [List.length_drop]; omega, Kd.C_drop hC hk hl, fun a ha => ?_⟩
  cases A with
  | none => split at ha <;> simp at ha
  | some b =>
    split at ha
    · exact hA a ha
    · have e : b.add (k * d.sz) = a := by simpa using ha
      have : (b.add (k * d.sz)).block = b.block := by unfold Addr.add; split <;> rfl
      rw [← e, this]
      exact hA b rfl
/-- xs[:k]. -/
theorem Rd.take {A : Option Addr} {c k : Nat} (h : Rd d w F (.slice A xs.length c) xs) (hk : k ≤ xs.length) : Rd d w F (.slice A k c) (xs.take k) := by
  obtain ⟨A', c', e, hl, hC, hA⟩ := h
  injection e with e1 _ e3
  subst e1 e3
  have hk' : (xs.take k).length = k := by rw [List.length_take]; omega
  exact ⟨A, c, by rw [hk'], by omega, Kd.C_take hC hk, hA⟩
end
section
variable {P : Program} {ops : Array Oper} {rest : List Oper} {o : Oper} {a : Act} {Q : Exit → Act → World → Prop}
/-- An append whose run is known. -/
theorem wp_append {W w1 : World} {v1 v u : Value} (hgd : o.guard = none) (s x : Operand) (t : TypeId) (ho : o.op = .call { callee := .builtin .append, args := #[s, x], argTypes := #[t, t] })
    (hs : a.eval s = v) (hx : a.eval x = u) (hrun : (Builtin.append_ #[t, t] o.type #[v, u]).run P W = .ok v1 w1) (h : wpList P ops Q rest (a.put o.dst v1) w1) : wpList P ops Q (o :: rest) a W := by
  refine wpList_plain hgd fun K hK => ?_
  unfold Oper.wp execOp
  simp only [ho, resolve, invoke, builtin, Sem.run_bind, Sem.run_pure, Result.andThen_ok, List.map_toArray, List.map_cons, List.map_nil, hs, hx, hrun]
  exact hK _ _ h
end
end Go.Proofs.Ytmlfnlmdnhblmaa.Flat
