/- WagerBitter holds: full bars of two pieces or more are won, bars of two rows are lost if the upper row has one piece more, and First is row 1, column 1 for as many rows as columns, row 1 and the last column for two rows. -/
import Derived.Test.YtcngcilinlcmeaaPx17
import Derived.Test.YtcngcilinlcmeaaGames
import Derived.Test.YtcngcilinlcmeaaIdx
import Derived.Test.YtcngcilinlcmeaaEuc
namespace Go.Proofs.Ytcngcilinlcmeaa.Pure
open Go.RowKit Go.Proofs.Ytcngcilinlcmeaa.P Go.Proofs.YtcngcilinlcmeaaW.PrintWords Go.Proofs.YtcngcilinlcmeaaW.PrintLast

set_option linter.unusedVariables false
open Go.Proofs.Ytcngcilinlcmeaa.Ext

theorem u8_bounds {a : Int} (h : (Lit.int .u8 a).wf = true) : 0 ≤ a ∧ a ≤ 255 := by
  have h1 : IntKind.u8.min = 0 := by decide
  have h2 : IntKind.u8.max = 255 := by decide
  simp only [Lit.wf, h1, h2, Bool.and_eq_true, decide_eq_true_eq] at h
  omega
theorem full_l {r c : Int} (hr : 0 ≤ r ∧ r ≤ 6) : ∀ (n i : Nat), i + n = r.toNat → Ev (fun k => drovewayref07_Full.l0 k r c (List.replicate i c) (i : Int)) (List.replicate r.toNat c)
  | 0, i, h => by
    refine Ev.step (f := fun k => some (List.replicate i c)) (fun k => ?_) ?_
    · simp only [drovewayref07_Full.l0]
      rw [if_neg (by omega)]
    · rw [← h, Nat.add_zero]
      exact Ev.now _
  | n + 1, i, h => by
    have ih := full_l (c := c) hr n (i + 1) (by omega)
    refine Ev.step (f := fun k => drovewayref07_Full.l0 k r c (List.replicate (i + 1) c) ((i + 1 : Nat) : Int)) (fun k => ?_) ih
    simp only [drovewayref07_Full.l0]
    rw [if_pos (by omega), if_pos (by rw [List.length_replicate]; omega), w64 (by omega), List.replicate_succ']
    rfl
theorem full_ev {r c : Int} (hr : 0 ≤ r ∧ r ≤ 6) : Ev (fun k => drovewayref07_Full.f k r c) (List.replicate r.toNat c) := full_l hr r.toNat 0 (by omega)

theorem rd_rep {n : Nat} {c i : Int} (h : 0 ≤ i ∧ i < n) : rd (List.replicate n c) i = c := by
  obtain ⟨j, rfl⟩ : ∃ j : Nat, i = (j : Int) := ⟨i.toNat, by omega⟩
  rw [rd_get _ _ (by rw [List.length_replicate]; omega)]
  exact List.getElem_replicate _
theorem pad_rep {r c : Int} (hr : 1 ≤ r ∧ r ≤ 6) : padL (List.replicate r.toNat c) = full6 r c := by
  have e : ∀ i : Int, 0 ≤ i → padAt (List.replicate r.toNat c) ((List.replicate r.toNat c).length : Nat) i = fullAt r c i := by
    intro i hi
    rw [List.length_replicate]
    unfold padAt fullAt
    by_cases h : i < r
    · rw [if_pos (by omega), if_pos h, rd_rep (by omega)]
    · rw [if_neg (by omega), if_neg h]
  unfold padL pad6 full6
  rw [e 0 (by omega), e 1 (by omega), e 2 (by omega), e 3 (by omega), e 4 (by omega), e 5 (by omega)]
theorem bar_rep {r c : Int} (hr : 1 ≤ r ∧ r ≤ 6) (hc : 1 ≤ c ∧ c ≤ 7) : isBarL (List.replicate r.toNat c) = true := by
  rw [isBarL_iff, List.length_replicate]
  refine ⟨by omega, by omega, ?_⟩
  intro i hi
  rw [rd_rep (by omega)]
  refine ⟨by omega, by omega, ?_⟩
  intro h0
  rw [rd_rep (by omega)]
  omega
theorem head_full {r c : Int} (hr : 1 ≤ r ∧ r ≤ 6) (hc : 1 ≤ c) : (full6 r c).headD 0 ≠ 0 := by
  show fullAt r c 0 ≠ 0
  unfold fullAt
  rw [if_pos (by omega)]
  omega
theorem chomp_err {l : List Int} (hb : isBarL l = true) (h0 : (padL l).headD 0 ≠ 0) : (chompL l).2 = if winsS (padL l) = true then 0 else 10 := by
  have h := winM_any (padL_bar hb) h0 42 (by omega)
  unfold chompL
  rw [if_pos hb]
  cases hw : winsS (padL l) with
  | true =>
    rw [if_neg (fun h2 => by rw [h.1 h2] at hw; cases hw)]
    rfl
  | false =>
    rw [if_pos (h.2 hw)]
    rfl
theorem one_one : winsS (full6 1 1) = false := by decide
theorem full_iff {r c : Int} (hr : 1 ≤ r ∧ r ≤ 6) (hc : 1 ≤ c ∧ c ≤ 7) : winsS (full6 r c) = decide (r * c > 1) := by
  by_cases h : r = 1 ∧ c = 1
  · obtain ⟨rfl, rfl⟩ := h
    rw [one_one]
    decide
  · rw [full_wins hr hc (by omega), decide_eq_true]
    have h1 : 1 * c ≤ r * c := Int.mul_le_mul_of_nonneg_right hr.1 (by omega)
    have h2 : r * 1 ≤ r * c := Int.mul_le_mul_of_nonneg_left hc.1 (by omega)
    omega
theorem two_pad {c l : Int} : padL [c, l] = [c, l, 0, 0, 0, 0] := rfl
theorem two_bar {c l : Int} (hc : 1 ≤ c ∧ c ≤ 7) (hl : 0 ≤ l ∧ l ≤ c) : isBarL [c, l] = true := by
  rw [isBarL_iff]
  refine ⟨by simp, by simp, ?_⟩
  intro i hi
  have h2 : i < 2 := hi
  have e0 : rd [c, l] 0 = c := rfl
  have e1 : rd [c, l] 1 = l := rfl
  match i, h2 with
  | 0, _ => exact ⟨by show 0 ≤ rd [c, l] 0; rw [e0]; omega, by show rd [c, l] 0 ≤ 7; rw [e0]; omega, fun h => absurd h (by omega)⟩
  | 1, _ => exact ⟨by show 0 ≤ rd [c, l] 1; rw [e1]; omega, by show rd [c, l] 1 ≤ 7; rw [e1]; omega, fun _ => by show rd [c, l] 1 ≤ rd [c, l] 0; rw [e0, e1]; omega⟩

theorem size_in {r c : Int} (hr : 1 ≤ r ∧ r ≤ 6) (hc : 1 ≤ c ∧ c ≤ 7) : sizedL r c = if 24 < r * c then 8 else 0 := by
  unfold sizedL
  rw [if_neg (by omega)]

theorem WagerBitter : drovewaylaw07_WagerBitter.Pure := by
  intro a0 a1 a2 h0 h1 h2
  have b0 := u8_bounds h0
  have b1 := u8_bounds h1
  have b2 := u8_bounds h2
  apply Ev.rounds
  obtain ⟨r, hr⟩ : ∃ r, 1 + a0 % 6 = r := ⟨_, rfl⟩
  obtain ⟨c, hc⟩ : ∃ c, 1 + a1 % 7 = c := ⟨_, rfl⟩
  have er : wrap64 (1 + wrap64 (Int.tmod a0 6)) = r := by rw [tmod' b0.1, w64 (n := a0 % 6) (by omega), w64 (by omega), hr]
  have ec : wrap64 (1 + wrap64 (Int.tmod a1 7)) = c := by rw [tmod' b1.1, w64 (n := a1 % 7) (by omega), w64 (by omega), hc]
  have br : 1 ≤ r ∧ r ≤ 6 := by omega
  have bc : 1 ≤ c ∧ c ≤ 7 := by omega
  obtain ⟨l, hl⟩ : ∃ l, a2 % (c + 1) = l := ⟨_, rfl⟩
  have bl := mod_lt' a2 (show 0 < c + 1 by omega)
  have el : Int.tmod (wrap64 a2) (wrap64 (c + 1)) = l := by rw [w64 (n := a2) (by omega), w64 (n := c + 1) (by omega), tmod' b2.1, hl]
  have m1 : 1 * c ≤ r * c := Int.mul_le_mul_of_nonneg_right br.1 (by omega)
  have m2 : r * c ≤ 6 * c := Int.mul_le_mul_of_nonneg_right br.2 (by omega)
  have m3 : r * 1 ≤ r * c := Int.mul_le_mul_of_nonneg_left bc.1 (by omega)
  have em : wrap64 (r * c) = r * c := w64 (by omega)
  unfold drovewaylaw07_WagerBitter.f
  rw [er, ec]
  refine Ev.bind (full_ev (c := c) (by omega)) ?_
  -- the full bar
  have e1 : (chompL (List.replicate r.toNat c)).2 = if r * c > 1 then 0 else 10 := by
    rw [chomp_err (bar_rep br bc) (by rw [pad_rep br]; exact head_full br bc.1), pad_rep br, full_iff br bc]
    by_cases h : r * c > 1
    · rw [if_pos h, decide_eq_true h]; rfl
    · rw [if_neg h, decide_eq_false h]; rfl
  have e2 : (chompL [c, l]).2 = if c = l + 1 then 10 else 0 := by
    rw [chomp_err (two_bar bc (by omega)) (by rw [two_pad]; show c ≠ 0; omega), two_pad, two_rows (c + l).toNat c l (Nat.le_refl _) bc (by omega)]
    by_cases h : c = l + 1
    · rw [if_pos h, decide_eq_false (by omega)]; rfl
    · rw [if_neg h, decide_eq_true h]; rfl
  have hbx := full6_bar (rows := r) (cols := c) (by omega)
  have hhd := head_full br bc.1
  -- First
  have hF : Ev (fun k => drovewaylaw07_WagerBitter.j0 k a2 r c false) true := by
    refine Ev.step (f := fun k => (wager_Chomp.f [c, l]).bind fun bt378 => (if ((bt378.2 == 10) != (c == (wrap64 (l + 1)))) = true then (some false) else ((wager_First.f r c).bind fun bt382 => (if (wrap64 (r * c)) > 24 then (if bt382.2.2 = 8 then ((drovewaylaw07_alive.f).bind fun t385 => (some t385)) else (some false)) else (if (wrap64 (r * c)) = 1 then (if bt382.2.2 = 10 then ((drovewaylaw07_alive.f).bind fun t386 => (some t386)) else (some false)) else (if r = c then (if bt382.2.2 = 0 then (if bt382.1 = 1 then (if bt382.2.1 = 1 then ((drovewaylaw07_alive.f).bind fun t387 => (some t387)) else (some false)) else (some false)) else (some false)) else (if r = 2 then (if bt382.2.2 = 0 then (if bt382.1 = 1 then (if bt382.2.1 = (wrap64 (c - 1)) then ((drovewaylaw07_alive.f).bind fun t388 => (some t388)) else (some false)) else (some false)) else (some false)) else (if bt382.2.2 = 0 then (if bt382.1 ≥ 0 then (if bt382.1 < r then (if bt382.2.1 ≥ 0 then (if bt382.2.1 < c then ((drovewaylaw07_alive.f).bind fun t389 => (some t389)) else (some false)) else (some false)) else (some false)) else (some false)) else (some false))))))))) (fun k => ?_) ?_
    · simp only [drovewaylaw07_WagerBitter.j0, Bool.false_eq_true, if_false, el]
      rw [if_neg (by rw [w64 (by omega)]; omega)]
    · refine Ev.bind (g := fun _ => wager_Chomp.f [c, l]) (Ev.now _) ?_
      refine Ev.neg ?_ ?_
      · simp only [e2]
        rw [w64 (n := l + 1) (by omega)]
        by_cases h : c = l + 1
        · rw [if_pos h, show (c == l + 1) = true from beq_iff_eq.2 h]; decide
        · rw [if_neg h, show (c == l + 1) = false from beq_eq_false_iff_ne.2 h]; decide
      · refine Ev.bind (g := fun _ => wager_First.f r c) (Ev.now _) ?_
        rw [em]
        by_cases hbig : r * c > 24
        · refine Ev.pos hbig (Ev.pos ?_ alive_ev)
          unfold firstL
          rw [size_in br bc, if_pos (show 24 < r * c from hbig)]
          rfl
        · refine Ev.neg hbig ?_
          have hf : firstL r c = headOf (winM (full6 r c) 1) := by
            unfold firstL
            rw [size_in br bc, if_neg (show ¬ 24 < r * c from hbig), if_pos rfl]
          rw [hf]
          by_cases h1 : r * c = 1
          · refine Ev.pos h1 (Ev.pos ?_ alive_ev)
            have hw := full_iff br bc
            rw [decide_eq_false (by omega)] at hw
            have h3 := (winM_any hbx hhd 1 (by omega)).2 hw
            rw [List.length_eq_zero_iff.1 h3]
            rfl
          · refine Ev.neg h1 ?_
            by_cases hs : r = c
            · subst hs
              have hr2 : r ≠ 1 := by intro h; rw [h] at h1; exact h1 rfl
              refine Ev.pos rfl ?_
              rw [first_square (by omega)]
              exact Ev.pos rfl (Ev.pos rfl (Ev.pos rfl alive_ev))
            · refine Ev.neg hs ?_
              by_cases h2r : r = 2
              · refine Ev.pos h2r ?_
                rw [h2r, first_two bc]
                exact Ev.pos rfl (Ev.pos rfl (Ev.pos (by rw [w64 (by omega)]; rfl) alive_ev))
              · refine Ev.neg h2r ?_
                have hw := full_iff br bc
                rw [decide_eq_true (by omega)] at hw
                have h3 := winM_any hbx hhd 1 (by omega)
                match hm : winM (full6 r c) 1 with
                | [] => rw [hm] at h3; rw [h3.1 rfl] at hw; cases hw
                | m :: t =>
                  have h4 : m ∈ winM (full6 r c) 1 := by rw [hm]; exact List.mem_cons_self
                  have h5 : m ∈ moves (full6 r c) := (List.mem_filter.1 (List.mem_of_mem_take h4)).1
                  unfold full6 at h5
                  rw [mem_moves6] at h5
                  simp only [fullAt] at h5
                  exact Ev.pos rfl (Ev.pos (show 0 ≤ m.1 by omega) (Ev.pos (show m.1 < r by omega) (Ev.pos (show 0 ≤ m.2 by omega) (Ev.pos (show m.2 < c by omega) alive_ev))))
  refine Ev.bind (g := fun _ => wager_Chomp.f (List.replicate r.toNat c)) (Ev.now _) ?_
  simp only [e1, em]
  refine Ev.neg ?_ ?_
  · by_cases h : r * c > 1
    · rw [if_pos h, decide_eq_true h]; decide
    · rw [if_neg h, decide_eq_false h]; decide
  · by_cases h : r * c > 1
    · refine Ev.pos (by rw [if_pos h]) hF
    · refine Ev.neg (by rw [if_neg h]; decide) ?_
      rw [if_neg h, show ((10 : Int) != 10) = false from by decide]
      exact hF

end Go.Proofs.Ytcngcilinlcmeaa.Pure
