import Derived.Test.YtmlfnlmdnhblmaaSqRecordBack4
set_option linter.unusedVariables false
set_option linter.unusedSimpArgs false
namespace Go.Proofs.Ytmlfnlmdnhblmaa.Rec
open Go.RowKit Base Sp Flat Go.Proofs.YtmlfnlmdnhblmaaW.PrintWords Go.Proofs.YtmlfnlmdnhblmaaW.PrintLast Go.Proofs.YtmlfnlmdnhblmaaW.PrintMore Wd Al Buf Smp Cur
theorem rput_ok {x : Smp} (h : (rput x).2 = 0) : Ok x := by
  unfold Ok
  unfold rput at h ⊢
  split
  · rename_i hb; rw [if_pos hb] at h; exact absurd h (by decide)
  · rename_i hb
    split
    · rename_i hl; rw [if_neg hb, if_pos hl] at h; exact absurd h (by decide)
    · rfl
theorem ok_len {x : Smp} (h : Ok x) : x.data.size ≤ 512 ∧ (recb x).length ≤ 564 := by
  have h1 := rput_size x
  rw [h] at h1
  refine ⟨?_, h1⟩
  unfold Ok rput at h
  split at h
  · simp only [Prod.mk.injEq] at h; exact absurd h.2 (by decide)
  · split at h
    · simp only [Prod.mk.injEq] at h; exact absurd h.2 (by decide)
    · omega
theorem flatr_len : ∀ ys : List Smp, (∀ x ∈ ys, Ok x) → (flatr ys).length ≤ ys.length * 564
  | [], _ => Nat.le_refl _
  | x :: ys, h => by
    have h1 := (ok_len (h x List.mem_cons_self)).2
    have h2 := flatr_len ys (fun y hy => h y (List.mem_cons_of_mem _ hy))
    rw [flatr, List.length_append, List.length_cons]
    omega
theorem flatr_ge : ∀ ys : List Smp, ys.length ≤ (flatr ys).length
  | [] => Nat.le_refl _
  | x :: ys => by
    have h1 := recb_pos x
    have h2 := flatr_ge ys
    rw [flatr, List.length_append, List.length_cons]
    omega
/-- What is known at the start of a round of the law's first loop. -/
structure Bk (xs : List Smp) (w0 w : World) (v : Value) (i : Nat) (ys : List Smp) : Prop where
  own : Own ks 26 w (New w0.heap.size w) v ys
  be : Below w0.heap.size w0 w
  ok : ∀ y ∈ ys, Ok y
  ln : ys.length ≤ i
theorem rd_at2 {w : World} {F : Nat → Prop} {ad : Addr} {n c : Nat} {xs : List Smp} (h : Rd ks w F (.slice (some ad) n c) xs) {i : Nat} (hi : i < xs.length) : CellsAt w (ad.add (i * 23)) (cells xs[i]) := by
  obtain ⟨ad', e, q⟩ := rd_at h hi
  injection e with e
  subst e
  exact q
theorem tx_flat (ys : List Smp) (x : Smp) : tx (flatr ys) ++ tx (recb x) = tx (flatr (ys ++ [x])) := by
  rw [← tx_app, flatr_app]
  simp [flatr]
theorem Bk.bel {xs : List Smp} {w0 w w' : World} {v : Value} {i : Nat} {ys : List Smp} (h : Bk xs w0 w v i ys) (hb : Below w.heap.size w w') : Bk xs w0 w' v i ys :=
  ⟨(own_bel h.own (fun k hk => hk.2) hb).mono (fun k hk => ⟨hk.1, Nat.lt_of_lt_of_le hk.2 hb.size⟩), bstep h.be hb, h.ok, h.ln⟩
theorem flatr_take (ys : List Smp) (m : Nat) : (tx (flatr (ys.take m))).size ≤ (tx (flatr ys)).size ∧ (tx (flatr ys)).extract 0 (tx (flatr (ys.take m))).size = tx (flatr (ys.take m)) := by
  have e : flatr ys = flatr (ys.take m) ++ flatr (ys.drop m) := by rw [← flatr_app, List.take_append_drop]
  refine ⟨by rw [tx_size, tx_size, e, List.length_append]; omega, ?_⟩
  rw [e]
  have := extract_mid (tx []) (tx (flatr (ys.take m))) (tx (flatr (ys.drop m)))
  rw [← tx_app, ← tx_app, List.nil_append] at this
  rw [show (tx []).size = 0 from rfl, Nat.zero_add] at this
  exact this
def Tru (w : World) (e : Ending) (w' : World) : Prop := e = .returned (.bool true) ∧ Below w.heap.size w w'
set_option maxRecDepth 20000 in
set_option maxHeartbeats 4000000 in
theorem back {G : Nat → Prop} {w : World} {v : Value} {xs : List Smp} (h : Rd ks w G v xs) (b : ByteArray) (room : Int) (h0 : -9223372036854775808 ≤ room) (h1 : room < 9223372036854775808) :
    Calls Try.prog 4 #[v, .string b, .int .i64 room] w (Tru w) := by
  have HA := Lib.hid h
  have HR := Lib.hid (And.intro h0 h1)
  have HW := fun w => awake w
  have HM := much h
  have HK := h
  obtain ⟨A, c, rfl, _, _, _⟩ := h
  clear h0 h1
  go_enter Try.func4, Try.ntmps4
  go_wp2_with fail
  refine HM.mono ?_
  rintro e w1 ⟨m, rfl, hm, b1⟩
  clear HM HK
  cases m with
  | true =>
    clear hm
    go_wp2_with fail
    refine (HW _).mono ?_
    rintro e w2 ⟨rfl, b2⟩
    go_wp2
    go_ret
    exact ⟨rfl, bstep b1 b2⟩
  | false =>
    have HL := Lib.hid (hm rfl)
    clear hm
    by_cases hd : (8000 : Int) < (b.size : Int)
    · go_wp2_with fail
      refine (HW _).mono ?_
      rintro e w2 ⟨rfl, b2⟩
      go_wp2
      go_ret
      exact ⟨rfl, bstep b1 b2⟩
    · have HB := Lib.hid (show b.size ≤ 8000 by omega)
      have F0 : Hid (Bk xs w w1 (.slice none 0 0) 0 []) := Lib.hid ⟨Own.nil _ _ _ _, b1, fun y hy => (nomatch hy), Nat.le_refl _⟩
      clear b1
      go_wp2
      clear hd
      go_loopw [7, 8, 9] (fun v7 v8 v9 wr => ∃ (i : Nat) (ys : List Smp), v9 = .int .i64 (i : Int) ∧ v7 = .string (tx (flatr ys)) ∧ i ≤ xs.length ∧ Hid (Bk xs w wr v8 i ys)) (fun _ _ v9 _ => xs.length - (intOf v9).toNat)
      case atStart => exact ⟨0, [], rfl, rfl, Nat.zero_le _, F0⟩
      case round =>
        clear F0
        obtain ⟨i, ys, rfl, rfl, hi, BK⟩ := hrel
        by_cases hlt : i < xs.length
        · have k0 : (0 : Int) ≤ (i : Int) := by omega
          have hlt1 : (i : Int) < (xs.length : Int) := by omega
          obtain ⟨ad, rfl, q1⟩ := rd_at (rd_below HA.out BK.out.be) hlt
          have hwi : wrap64 ((i : Int) + 1) = ((i + 1 : Nat) : Int) := by have := HL.out; unfold wrap64; omega
          have hm := Lib.hid (meas _ _ hlt)
          have hlt2 := Lib.hid hlt
          generalize hxe : xs[i] = x at q1
          have HX := Lib.hid (fun (W : World) (hw : Below w.heap.size w W) => hxe ▸ rd_at2 (rd_below HA.out hw) hlt)
          clear hxe
          have hok := rput_ok (x := x)
          have HP := fun w => put x w
          generalize hr : rput x = r at hok HP
          have HRX := Lib.hid hr
          clear hr
          obtain ⟨r1, r2⟩ := r
          clear hlt hi
          dsimp only at HP hok
          go_wp2_with (first | ((with_reducible refine gate_dst (N := 40) rfl ?_); refine load_any (by kernel_rfl) 26 (.tmp 39) rfl _ rfl (cells x) _ q1 Try.underlying26 rfl (size23 x) ?_))
          refine (HP _).mono ?_
          rintro e w2 ⟨rfl, b2⟩
          clear HP
          by_cases he : r2 = 0
          · subst he
            have OK : Ok x := hok rfl
            have hr1 : r1 = tx (recb x) := by
              have h1 := HRX.out
              have h2 : rput x = (tx (recb x), 0) := OK
              rw [h2] at h1
              exact (congrArg Prod.fst h1).symm
            subst hr1
            have bb2 := bstep BK.out.be b2
            have OW := own_bel BK.out.own (fun k hk => hk.2) b2
            have hsz2 := b2.size
            obtain ⟨v3, w3, hrun, o3, g3⟩ := app_all (own_bel OW (fun k hk => Nat.lt_of_lt_of_le hk.2 hsz2) ((Below.refl _ _).alloc (Nat.le_refl _) _ : Below w2.heap.size w2 (w2.alloc (.cells (cells x).toArray 26)))) (fun k hk => by rw [World.size_alloc]; exact Nat.lt_succ_of_lt (Nat.lt_of_lt_of_le hk.2 hsz2)) (rd_one (heap_alloc_new w2 _)) (by have := BK.out.ln; have := hlt2.out; have := HL.out; show (ys.length + 1) * 80 ≤ _; omega)
            have bb3 : Below w.heap.size w w3 := (bb2.alloc bb2.size _).grown g3 (by rw [World.size_alloc]; exact Nat.le_succ_of_le bb2.size) (fun k hk => (OW.base k hk).1)
            have o4 : Own ks 26 w3 (New w.heap.size w3) v3 (ys ++ [x]) := o3.mono (fun k hk => by
              have hg := g3.size
              rw [World.size_alloc] at hg
              rcases hk with hk | hk
              · exact ⟨hk.1, by have := hk.2; omega⟩
              · refine ⟨?_, hk.2⟩
                have h1 := hk.1
                rw [World.size_alloc] at h1
                have h2 := bb2.size
                omega)
            have B3 : Hid (Bk xs w w3 v3 (i + 1) (ys ++ [x])) := Lib.hid ⟨o4, bb3, fun y hy => by
              rcases List.mem_append.1 hy with hy | hy
              · exact BK.out.ok y hy
              · rw [List.mem_singleton.1 hy]; exact OK, by have := BK.out.ln; rw [List.length_append]; show ys.length + 1 ≤ _; omega⟩
            have q2 := HX.out w2 bb2
            have q3 := HX.out w3 bb3
            have c22 := data_at q3
            have hz : (tx (flatr ys)).size + (tx (recb x)).size ≤ 1000000 := by
              have h1 := flatr_len ys BK.out.ok
              have h2 := (ok_len OK).2
              have h3 := BK.out.ln
              have h4 := hlt2.out
              have h5 := HL.out
              rw [tx_size, tx_size]
              omega
            have hsum := tx_flat ys x
            have hd := (ok_len OK).1
            have hrs : ((tx (recb x)).size : Int) = rsz x.data.size := by rw [tx_size]; exact recb_len x
            have hrr := rsz_rng x.data.size (by omega)
            have hSz := fun w => size x.data.size (by omega) w
            have hmod : (rsz x.data.size).tmod 8 = 0 := by rw [Int.tmod_eq_emod_of_nonneg (by omega)]; exact hrr.2.2
            have hrr1 : 48 ≤ rsz x.data.size := hrr.1
            clear hrr q3 o4 bb3 bb2 o3 g3 OW b2 OK hok HRX BK q1 hd hsz2
            generalize hfl2 : flatr (ys ++ [x]) = fl2 at *
            have HFL := Lib.hid hfl2
            clear hfl2
            generalize flatr ys = fl1 at *
            generalize tx (recb x) = rx at *
            generalize rsz x.data.size = R at *
            have HRUN := Lib.hid hrun
            clear hrun
            go_wp2_with (first | ((with_reducible refine gate_dst (N := 53) rfl ?_); refine load_any (by kernel_rfl) 26 (.tmp 52) rfl _ rfl (cells x) _ q2 Try.underlying26 rfl (size23 x) ?_) | ((with_reducible refine gate_dst (N := 54) rfl ?_); refine build1L rfl rfl rfl ?_) | (at_builtin; refine wp_append rfl _ _ _ rfl rfl rfl HRUN.out ?_))
            refine (hSz _).mono ?_
            rintro e w4 ⟨rfl, b4⟩
            have B4 := Lib.hid (B3.out.bel b4)
            clear B3 b4 hSz c22 q2 HRUN hsum hz
            go_wp2
            rw [hwi, ← HFL.out]
            exact ⟨⟨i + 1, _, rfl, rfl, hlt2.out, B4⟩, hm.out⟩
          · have hne : (r2 == 0) = false := by simpa using he
            have B2 : Hid (Bk xs w w2 u8 (i + 1) ys) := Lib.hid ⟨(own_bel BK.out.own (fun k hk => hk.2) b2).mono (fun k hk => ⟨hk.1, Nat.lt_of_lt_of_le hk.2 b2.size⟩), bstep BK.out.be b2, BK.out.ok, Nat.le_succ_of_le BK.out.ln⟩
            clear he BK b2 q1 hok
            go_wp2
            rw [hwi]
            exact ⟨⟨i + 1, _, rfl, rfl, hlt2.out, B2⟩, hm.out⟩
        · have hk : i = xs.length := by omega
          subst hk
          clear hlt hi
          have hyl : ys.length ≤ 100 := Nat.le_trans BK.out.ln HL.out
          have hys := flatr_len ys BK.out.ok
          have hT := take (tx (flatr ys)) (by rw [tx_size]; omega) wr
          obtain ⟨A8, c8, rfl, hc8, _, _⟩ := BK.out.own.rd
          go_wp2_with fail
          refine hT.mono ?_
          rintro e w2 ⟨v2, zs, cc, rfl, htk, ho, b2⟩
          obtain ⟨rfl, rfl⟩ := tk_puts htk ys BK.out.ok rfl
          have B2 := Lib.hid (BK.out.bel b2)
          have hS := rsame2 ho.rd B2.out.own.rd
          rw [decide_eq_true rfl] at hS
          clear hT htk ho b2 BK
          go_wp2_with fail
          refine hS.mono ?_
          rintro e w3 ⟨rfl, b3⟩
          have B3 := Lib.hid (B2.out.bel b3)
          clear hS b3 B2
          obtain ⟨m, m1, m2, m3, m4⟩ := fit_law room zs 0 [] B3.out.ok
          have hF := fit B3.out.own.rd room HR.out.1 HR.out.2 hyl
          rw [m2, Nat.zero_add, List.nil_append] at hF
          unfold Fi at hF
          dsimp only at hF
          rw [List.nil_append] at m3 m4
          clear m2
          obtain ⟨e1, e2⟩ := flatr_take zs m
          have m0 : (0 : Int) ≤ (m : Int) := by omega
          have mle : (m : Int) ≤ (zs.length : Int) := by omega
          have hTB := fun W => take b (by have := HB.out; omega) W
          rw [← tx_size] at m3 m4
          have hal : ((tx (flatr zs)).size : Int) ≤ 56400 := by rw [tx_size]; omega
          generalize tx (flatr (zs.take m)) = sv at *
          generalize tx (flatr zs) = all at *
          have ele : (sv.size : Int) ≤ (all.size : Int) := by omega
          have e2' := e2
          by_cases hm0 : m = 0
          · have hmm : ¬ (0 : Int) < (m : Int) := by omega
            clear hm0
            by_cases hml : m < zs.length
            · have hroom2 := m4 hml
              rw [recb_len] at hroom2
              have hmi : (m : Int) < (zs.length : Int) := by omega
              have hdl := (ok_len (B3.out.ok _ (List.getElem_mem hml))).1
              have hSz := fun w => size (zs[m]'hml).data.size (by omega) w
              have hrr := rsz_rng (zs[m]'hml).data.size (by omega)
              go_wp2_with fail
              refine hF.mono ?_
              rintro e w4 ⟨rfl, b4⟩
              have B4 := Lib.hid (B3.out.bel b4)
              obtain ⟨ad, rfl, q4⟩ := rd_at (i := m) (rd_below (B3.out.own.rd) b4) hml
              have c22 := data_at q4
              generalize zs[m] = x at *
              clear hF b4 B3 q4 m3 m4
              generalize rsz x.data.size = R at *
              obtain ⟨hr1, hr2, _⟩ := hrr
              have hw64 : wrap64 ((sv.size : Int) + R) = (sv.size : Int) + R := by unfold wrap64; omega
              have hrm : room < (sv.size : Int) + R := hroom2
              clear hroom2 hr2
              go_wp2_with fail
              refine (hSz _).mono ?_
              rintro e w5 ⟨rfl, b5⟩
              have B4 := Lib.hid (B4.out.bel b5)
              clear b5 c22 hSz
              go_wp2_with fail
              refine (hTB _).mono ?_
              rintro e w5 ⟨v5, os, ce, rfl, htk, ho, b5⟩
              have bb5 := bstep B4.out.be b5
              clear b5 B4 e2 e2' ele hal
              by_cases hce : ce = 0
              · subst hce
                have hby := tk_ok htk rfl
                have hol : os.length ≤ 8000 := by
                  have h1 := flatr_ge os
                  rw [← hby.1, by_len] at h1
                  have := HB.out
                  omega
                obtain ⟨A5, c5, rfl, hc5, _, _⟩ := ho.rd
                have HO := Lib.hid ho.rd
                have HY := Lib.hid hby
                have HN := Lib.hid hol
                have F0 := Lib.hid bb5
                clear htk ho hby hol bb5
                go_wp2
                go_loopw [18, 19] (fun v18 v19 wr => ∃ (i : Nat), v19 = .int .i64 (i : Int) ∧ v18 = .string (tx (flatr (os.take i))) ∧ i ≤ os.length ∧ Hid (Below w.heap.size w wr ∧ Below w5.heap.size w5 wr)) (fun _ v19 _ => os.length - (intOf v19).toNat)
                case atStart => exact ⟨0, rfl, rfl, Nat.zero_le _, Lib.hid ⟨F0.out, Below.refl _ _⟩⟩
                case round =>
                  clear F0
                  obtain ⟨i, rfl, rfl, hi, bb⟩ := hrel
                  by_cases hlt : i < os.length
                  · have k0 : (0 : Int) ≤ (i : Int) := by omega
                    have hlt1 : (i : Int) < (os.length : Int) := by omega
                    obtain ⟨ad5, rfl, q5⟩ := rd_at (rd_below HO.out bb.out.2) hlt
                    have hwi : wrap64 ((i : Int) + 1) = ((i + 1 : Nat) : Int) := by have := HN.out; unfold wrap64; omega
                    have hms := Lib.hid (meas _ _ hlt)
                    have hlt2 := Lib.hid hlt
                    have OK : Ok (os[i]'hlt) := HY.out.2 _ (List.getElem_mem hlt)
                    have hsum : tx (flatr (os.take i)) ++ tx (recb (os[i]'hlt)) = tx (flatr (os.take (i + 1))) := by
                      rw [List.take_succ_eq_append_getElem hlt]
                      exact tx_flat _ _
                    have hz : (tx (flatr (os.take i))).size + (tx (recb (os[i]'hlt))).size ≤ 1000000 := by
                      have h1 := congrArg ByteArray.size hsum
                      rw [ByteArray.size_append] at h1
                      have h2 := (flatr_take os (i + 1)).1
                      have h3 : (tx (flatr os)).size = b.size := by rw [← HY.out.1, tx_by]
                      have := HB.out
                      omega
                    have HP := fun w => put (os[i]'hlt) w
                    rw [show rput (os[i]'hlt) = (tx (recb (os[i]'hlt)), 0) from OK] at HP
                    dsimp only at HP
                    generalize (os[i]'hlt) = x at *
                    generalize hfl2 : flatr (os.take (i + 1)) = fl2 at *
                    generalize flatr (os.take i) = fl1 at *
                    generalize tx (recb x) = rx at *
                    have HFL := Lib.hid hfl2
                    clear hfl2 hlt hi OK
                    go_wp2_with (first | ((with_reducible refine gate_dst (N := 167) rfl ?_); refine load_any (by kernel_rfl) 26 (.tmp 166) rfl _ rfl (cells x) _ q5 Try.underlying26 rfl (size23 x) ?_))
                    refine (HP _).mono ?_
                    rintro e w6 ⟨rfl, b6⟩
                    have B6 := Lib.hid (And.intro (bstep bb.out.1 b6) (bstep bb.out.2 b6))
                    clear HP b6 bb q5
                    go_wp2
                    rw [hwi, ← HFL.out]
                    exact ⟨⟨i + 1, rfl, rfl, hlt2.out, B6⟩, hms.out⟩
                  · have hk : i = os.length := by omega
                    subst hk
                    clear hlt hi
                    have hb9 : tx (flatr (os.take os.length)) = b := by rw [List.take_length, ← HY.out.1, tx_by]
                    rw [hb9]
                    clear hb9
                    go_wp2_with fail
                    refine (HW _).mono ?_
                    rintro e w6 ⟨rfl, b6⟩
                    have B6 := bstep bb.out.1 b6
                    go_wp2
                    go_ret
                    exact ⟨rfl, B6⟩
              · have hne : (ce != 0) = true := by simpa using hce
                have hos := tk_none htk hce
                subst hos
                obtain ⟨A5, c5, rfl, hc5, _, _⟩ := ho.rd
                clear htk hce ho
                go_wp2_with fail
                refine (HW _).mono ?_
                rintro e w6 ⟨rfl, b6⟩
                have B6 := bstep bb5 b6
                go_wp2
                go_ret
                exact ⟨rfl, B6⟩
            · have hmi : ¬ (m : Int) < (zs.length : Int) := by omega
              go_wp2_with fail
              refine hF.mono ?_
              rintro e w4 ⟨rfl, b4⟩
              have B4 := Lib.hid (B3.out.bel b4)
              clear hF b4 B3 m3 m4
              go_wp2_with fail
              refine (hTB _).mono ?_
              rintro e w5 ⟨v5, os, ce, rfl, htk, ho, b5⟩
              have bb5 := bstep B4.out.be b5
              clear b5 B4 e2 e2' ele hal
              by_cases hce : ce = 0
              · subst hce
                have hby := tk_ok htk rfl
                have hol : os.length ≤ 8000 := by
                  have h1 := flatr_ge os
                  rw [← hby.1, by_len] at h1
                  have := HB.out
                  omega
                obtain ⟨A5, c5, rfl, hc5, _, _⟩ := ho.rd
                have HO := Lib.hid ho.rd
                have HY := Lib.hid hby
                have HN := Lib.hid hol
                have F0 := Lib.hid bb5
                clear htk ho hby hol bb5
                go_wp2
                go_loopw [18, 19] (fun v18 v19 wr => ∃ (i : Nat), v19 = .int .i64 (i : Int) ∧ v18 = .string (tx (flatr (os.take i))) ∧ i ≤ os.length ∧ Hid (Below w.heap.size w wr ∧ Below w5.heap.size w5 wr)) (fun _ v19 _ => os.length - (intOf v19).toNat)
                case atStart => exact ⟨0, rfl, rfl, Nat.zero_le _, Lib.hid ⟨F0.out, Below.refl _ _⟩⟩
                case round =>
                  clear F0
                  obtain ⟨i, rfl, rfl, hi, bb⟩ := hrel
                  by_cases hlt : i < os.length
                  · have k0 : (0 : Int) ≤ (i : Int) := by omega
                    have hlt1 : (i : Int) < (os.length : Int) := by omega
                    obtain ⟨ad5, rfl, q5⟩ := rd_at (rd_below HO.out bb.out.2) hlt
                    have hwi : wrap64 ((i : Int) + 1) = ((i + 1 : Nat) : Int) := by have := HN.out; unfold wrap64; omega
                    have hms := Lib.hid (meas _ _ hlt)
                    have hlt2 := Lib.hid hlt
                    have OK : Ok (os[i]'hlt) := HY.out.2 _ (List.getElem_mem hlt)
                    have hsum : tx (flatr (os.take i)) ++ tx (recb (os[i]'hlt)) = tx (flatr (os.take (i + 1))) := by
                      rw [List.take_succ_eq_append_getElem hlt]
                      exact tx_flat _ _
                    have hz : (tx (flatr (os.take i))).size + (tx (recb (os[i]'hlt))).size ≤ 1000000 := by
                      have h1 := congrArg ByteArray.size hsum
                      rw [ByteArray.size_append] at h1
                      have h2 := (flatr_take os (i + 1)).1
                      have h3 : (tx (flatr os)).size = b.size := by rw [← HY.out.1, tx_by]
                      have := HB.out
                      omega
                    have HP := fun w => put (os[i]'hlt) w
                    rw [show rput (os[i]'hlt) = (tx (recb (os[i]'hlt)), 0) from OK] at HP
                    dsimp only at HP
                    generalize (os[i]'hlt) = x at *
                    generalize hfl2 : flatr (os.take (i + 1)) = fl2 at *
                    generalize flatr (os.take i) = fl1 at *
                    generalize tx (recb x) = rx at *
                    have HFL := Lib.hid hfl2
                    clear hfl2 hlt hi OK
                    go_wp2_with (first | ((with_reducible refine gate_dst (N := 167) rfl ?_); refine load_any (by kernel_rfl) 26 (.tmp 166) rfl _ rfl (cells x) _ q5 Try.underlying26 rfl (size23 x) ?_))
                    refine (HP _).mono ?_
                    rintro e w6 ⟨rfl, b6⟩
                    have B6 := Lib.hid (And.intro (bstep bb.out.1 b6) (bstep bb.out.2 b6))
                    clear HP b6 bb q5
                    go_wp2
                    rw [hwi, ← HFL.out]
                    exact ⟨⟨i + 1, rfl, rfl, hlt2.out, B6⟩, hms.out⟩
                  · have hk : i = os.length := by omega
                    subst hk
                    clear hlt hi
                    have hb9 : tx (flatr (os.take os.length)) = b := by rw [List.take_length, ← HY.out.1, tx_by]
                    rw [hb9]
                    clear hb9
                    go_wp2_with fail
                    refine (HW _).mono ?_
                    rintro e w6 ⟨rfl, b6⟩
                    have B6 := bstep bb.out.1 b6
                    go_wp2
                    go_ret
                    exact ⟨rfl, B6⟩
              · have hne : (ce != 0) = true := by simpa using hce
                have hos := tk_none htk hce
                subst hos
                obtain ⟨A5, c5, rfl, hc5, _, _⟩ := ho.rd
                clear htk hce ho
                go_wp2_with fail
                refine (HW _).mono ?_
                rintro e w6 ⟨rfl, b6⟩
                have B6 := bstep bb5 b6
                go_wp2
                go_ret
                exact ⟨rfl, B6⟩
          · have hmm : (0 : Int) < (m : Int) := by omega
            have hroom := m3 (by omega)
            clear hm0
            by_cases hml : m < zs.length
            · have hroom2 := m4 hml
              rw [recb_len] at hroom2
              have hmi : (m : Int) < (zs.length : Int) := by omega
              have hdl := (ok_len (B3.out.ok _ (List.getElem_mem hml))).1
              have hSz := fun w => size (zs[m]'hml).data.size (by omega) w
              have hrr := rsz_rng (zs[m]'hml).data.size (by omega)
              go_wp2_with fail
              refine hF.mono ?_
              rintro e w4 ⟨rfl, b4⟩
              have B4 := Lib.hid (B3.out.bel b4)
              obtain ⟨ad, rfl, q4⟩ := rd_at (i := m) (rd_below (B3.out.own.rd) b4) hml
              have c22 := data_at q4
              generalize zs[m] = x at *
              clear hF b4 B3 q4 m3 m4
              generalize rsz x.data.size = R at *
              obtain ⟨hr1, hr2, _⟩ := hrr
              have hw64 : wrap64 ((sv.size : Int) + R) = (sv.size : Int) + R := by unfold wrap64; omega
              have hrm : room < (sv.size : Int) + R := hroom2
              clear hroom2 hr2
              go_wp2_with fail
              refine (hSz _).mono ?_
              rintro e w5 ⟨rfl, b5⟩
              have B4 := Lib.hid (B4.out.bel b5)
              clear b5 c22 hSz
              go_wp2_with fail
              refine (hTB _).mono ?_
              rintro e w5 ⟨v5, os, ce, rfl, htk, ho, b5⟩
              have bb5 := bstep B4.out.be b5
              clear b5 B4 e2 e2' ele hal
              by_cases hce : ce = 0
              · subst hce
                have hby := tk_ok htk rfl
                have hol : os.length ≤ 8000 := by
                  have h1 := flatr_ge os
                  rw [← hby.1, by_len] at h1
                  have := HB.out
                  omega
                obtain ⟨A5, c5, rfl, hc5, _, _⟩ := ho.rd
                have HO := Lib.hid ho.rd
                have HY := Lib.hid hby
                have HN := Lib.hid hol
                have F0 := Lib.hid bb5
                clear htk ho hby hol bb5
                go_wp2
                go_loopw [18, 19] (fun v18 v19 wr => ∃ (i : Nat), v19 = .int .i64 (i : Int) ∧ v18 = .string (tx (flatr (os.take i))) ∧ i ≤ os.length ∧ Hid (Below w.heap.size w wr ∧ Below w5.heap.size w5 wr)) (fun _ v19 _ => os.length - (intOf v19).toNat)
                case atStart => exact ⟨0, rfl, rfl, Nat.zero_le _, Lib.hid ⟨F0.out, Below.refl _ _⟩⟩
                case round =>
                  clear F0
                  obtain ⟨i, rfl, rfl, hi, bb⟩ := hrel
                  by_cases hlt : i < os.length
                  · have k0 : (0 : Int) ≤ (i : Int) := by omega
                    have hlt1 : (i : Int) < (os.length : Int) := by omega
                    obtain ⟨ad5, rfl, q5⟩ := rd_at (rd_below HO.out bb.out.2) hlt
                    have hwi : wrap64 ((i : Int) + 1) = ((i + 1 : Nat) : Int) := by have := HN.out; unfold wrap64; omega
                    have hms := Lib.hid (meas _ _ hlt)
                    have hlt2 := Lib.hid hlt
                    have OK : Ok (os[i]'hlt) := HY.out.2 _ (List.getElem_mem hlt)
                    have hsum : tx (flatr (os.take i)) ++ tx (recb (os[i]'hlt)) = tx (flatr (os.take (i + 1))) := by
                      rw [List.take_succ_eq_append_getElem hlt]
                      exact tx_flat _ _
                    have hz : (tx (flatr (os.take i))).size + (tx (recb (os[i]'hlt))).size ≤ 1000000 := by
                      have h1 := congrArg ByteArray.size hsum
                      rw [ByteArray.size_append] at h1
                      have h2 := (flatr_take os (i + 1)).1
                      have h3 : (tx (flatr os)).size = b.size := by rw [← HY.out.1, tx_by]
                      have := HB.out
                      omega
                    have HP := fun w => put (os[i]'hlt) w
                    rw [show rput (os[i]'hlt) = (tx (recb (os[i]'hlt)), 0) from OK] at HP
                    dsimp only at HP
                    generalize (os[i]'hlt) = x at *
                    generalize hfl2 : flatr (os.take (i + 1)) = fl2 at *
                    generalize flatr (os.take i) = fl1 at *
                    generalize tx (recb x) = rx at *
                    have HFL := Lib.hid hfl2
                    clear hfl2 hlt hi OK
                    go_wp2_with (first | ((with_reducible refine gate_dst (N := 167) rfl ?_); refine load_any (by kernel_rfl) 26 (.tmp 166) rfl _ rfl (cells x) _ q5 Try.underlying26 rfl (size23 x) ?_))
                    refine (HP _).mono ?_
                    rintro e w6 ⟨rfl, b6⟩
                    have B6 := Lib.hid (And.intro (bstep bb.out.1 b6) (bstep bb.out.2 b6))
                    clear HP b6 bb q5
                    go_wp2
                    rw [hwi, ← HFL.out]
                    exact ⟨⟨i + 1, rfl, rfl, hlt2.out, B6⟩, hms.out⟩
                  · have hk : i = os.length := by omega
                    subst hk
                    clear hlt hi
                    have hb9 : tx (flatr (os.take os.length)) = b := by rw [List.take_length, ← HY.out.1, tx_by]
                    rw [hb9]
                    clear hb9
                    go_wp2_with fail
                    refine (HW _).mono ?_
                    rintro e w6 ⟨rfl, b6⟩
                    have B6 := bstep bb.out.1 b6
                    go_wp2
                    go_ret
                    exact ⟨rfl, B6⟩
              · have hne : (ce != 0) = true := by simpa using hce
                have hos := tk_none htk hce
                subst hos
                obtain ⟨A5, c5, rfl, hc5, _, _⟩ := ho.rd
                clear htk hce ho
                go_wp2_with fail
                refine (HW _).mono ?_
                rintro e w6 ⟨rfl, b6⟩
                have B6 := bstep bb5 b6
                go_wp2
                go_ret
                exact ⟨rfl, B6⟩
            · have hmi : ¬ (m : Int) < (zs.length : Int) := by omega
              go_wp2_with fail
              refine hF.mono ?_
              rintro e w4 ⟨rfl, b4⟩
              have B4 := Lib.hid (B3.out.bel b4)
              clear hF b4 B3 m3 m4
              go_wp2_with fail
              refine (hTB _).mono ?_
              rintro e w5 ⟨v5, os, ce, rfl, htk, ho, b5⟩
              have bb5 := bstep B4.out.be b5
              clear b5 B4 e2 e2' ele hal
              by_cases hce : ce = 0
              · subst hce
                have hby := tk_ok htk rfl
                have hol : os.length ≤ 8000 := by
                  have h1 := flatr_ge os
                  rw [← hby.1, by_len] at h1
                  have := HB.out
                  omega
                obtain ⟨A5, c5, rfl, hc5, _, _⟩ := ho.rd
                have HO := Lib.hid ho.rd
                have HY := Lib.hid hby
                have HN := Lib.hid hol
                have F0 := Lib.hid bb5
                clear htk ho hby hol bb5
                go_wp2
                go_loopw [18, 19] (fun v18 v19 wr => ∃ (i : Nat), v19 = .int .i64 (i : Int) ∧ v18 = .string (tx (flatr (os.take i))) ∧ i ≤ os.length ∧ Hid (Below w.heap.size w wr ∧ Below w5.heap.size w5 wr)) (fun _ v19 _ => os.length - (intOf v19).toNat)
                case atStart => exact ⟨0, rfl, rfl, Nat.zero_le _, Lib.hid ⟨F0.out, Below.refl _ _⟩⟩
                case round =>
                  clear F0
                  obtain ⟨i, rfl, rfl, hi, bb⟩ := hrel
                  by_cases hlt : i < os.length
                  · have k0 : (0 : Int) ≤ (i : Int) := by omega
                    have hlt1 : (i : Int) < (os.length : Int) := by omega
                    obtain ⟨ad5, rfl, q5⟩ := rd_at (rd_below HO.out bb.out.2) hlt
                    have hwi : wrap64 ((i : Int) + 1) = ((i + 1 : Nat) : Int) := by have := HN.out; unfold wrap64; omega
                    have hms := Lib.hid (meas _ _ hlt)
                    have hlt2 := Lib.hid hlt
                    have OK : Ok (os[i]'hlt) := HY.out.2 _ (List.getElem_mem hlt)
                    have hsum : tx (flatr (os.take i)) ++ tx (recb (os[i]'hlt)) = tx (flatr (os.take (i + 1))) := by
                      rw [List.take_succ_eq_append_getElem hlt]
                      exact tx_flat _ _
                    have hz : (tx (flatr (os.take i))).size + (tx (recb (os[i]'hlt))).size ≤ 1000000 := by
                      have h1 := congrArg ByteArray.size hsum
                      rw [ByteArray.size_append] at h1
                      have h2 := (flatr_take os (i + 1)).1
                      have h3 : (tx (flatr os)).size = b.size := by rw [← HY.out.1, tx_by]
                      have := HB.out
                      omega
                    have HP := fun w => put (os[i]'hlt) w
                    rw [show rput (os[i]'hlt) = (tx (recb (os[i]'hlt)), 0) from OK] at HP
                    dsimp only at HP
                    generalize (os[i]'hlt) = x at *
                    generalize hfl2 : flatr (os.take (i + 1)) = fl2 at *
                    generalize flatr (os.take i) = fl1 at *
                    generalize tx (recb x) = rx at *
                    have HFL := Lib.hid hfl2
                    clear hfl2 hlt hi OK
                    go_wp2_with (first | ((with_reducible refine gate_dst (N := 167) rfl ?_); refine load_any (by kernel_rfl) 26 (.tmp 166) rfl _ rfl (cells x) _ q5 Try.underlying26 rfl (size23 x) ?_))
                    refine (HP _).mono ?_
                    rintro e w6 ⟨rfl, b6⟩
                    have B6 := Lib.hid (And.intro (bstep bb.out.1 b6) (bstep bb.out.2 b6))
                    clear HP b6 bb q5
                    go_wp2
                    rw [hwi, ← HFL.out]
                    exact ⟨⟨i + 1, rfl, rfl, hlt2.out, B6⟩, hms.out⟩
                  · have hk : i = os.length := by omega
                    subst hk
                    clear hlt hi
                    have hb9 : tx (flatr (os.take os.length)) = b := by rw [List.take_length, ← HY.out.1, tx_by]
                    rw [hb9]
                    clear hb9
                    go_wp2_with fail
                    refine (HW _).mono ?_
                    rintro e w6 ⟨rfl, b6⟩
                    have B6 := bstep bb.out.1 b6
                    go_wp2
                    go_ret
                    exact ⟨rfl, B6⟩
              · have hne : (ce != 0) = true := by simpa using hce
                have hos := tk_none htk hce
                subst hos
                obtain ⟨A5, c5, rfl, hc5, _, _⟩ := ho.rd
                clear htk hce ho
                go_wp2_with fail
                refine (HW _).mono ?_
                rintro e w6 ⟨rfl, b6⟩
                have B6 := bstep bb5 b6
                go_wp2
                go_ret
                exact ⟨rfl, B6⟩
end Go.Proofs.Ytmlfnlmdnhblmaa.Rec
