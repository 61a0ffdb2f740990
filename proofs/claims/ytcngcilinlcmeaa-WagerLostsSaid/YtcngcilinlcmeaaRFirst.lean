/- The reference's First in plain Lean. -/
import Derived.Test.YtcngcilinlcmeaaRChomp
namespace Go.Proofs.Ytcngcilinlcmeaa.Pure
open Go.RowKit Go.Proofs.Ytcngcilinlcmeaa.P Go.Proofs.YtcngcilinlcmeaaW.PrintWords Go.Proofs.YtcngcilinlcmeaaW.PrintLast
open Go.Proofs.Ytcngcilinlcmeaa.Ext
set_option linter.unusedVariables false

theorem q_full_l {r c : Int} (hr : 0 ≤ r ∧ r ≤ 6) : ∀ (n i : Nat), i + n = r.toNat → Ev (fun k => drovewayref07_Full.l0 k r c (List.replicate i c) (i : Int)) (List.replicate r.toNat c)
  | 0, i, h => by
    refine Ev.step (f := fun k => some (List.replicate i c)) (fun k => ?_) ?_
    · simp only [drovewayref07_Full.l0]
      rw [if_neg (by omega)]
    · rw [← h, Nat.add_zero]
      exact Ev.now _
  | n + 1, i, h => by
    have ih := q_full_l (c := c) hr n (i + 1) (by omega)
    refine Ev.step (f := fun k => drovewayref07_Full.l0 k r c (List.replicate (i + 1) c) ((i + 1 : Nat) : Int)) (fun k => ?_) ih
    simp only [drovewayref07_Full.l0]
    rw [if_pos (by omega), if_pos (by rw [List.length_replicate]; omega), w64 (by omega), List.replicate_succ']
    rfl
theorem q_full_ev {r c : Int} (hr : 0 ≤ r ∧ r ≤ 6) : Ev (fun k => drovewayref07_Full.f k r c) (List.replicate r.toNat c) := q_full_l hr r.toNat 0 (by omega)

theorem q_rd_rep {n : Nat} {c i : Int} (h : 0 ≤ i ∧ i < n) : rd (List.replicate n c) i = c := by
  obtain ⟨j, rfl⟩ : ∃ j : Nat, i = (j : Int) := ⟨i.toNat, by omega⟩
  rw [rd_get _ _ (by rw [List.length_replicate]; omega)]
  exact List.getElem_replicate _
theorem q_pad_rep {r c : Int} (hr : 1 ≤ r ∧ r ≤ 6) : padL (List.replicate r.toNat c) = full6 r c := by
  have e : ∀ i : Int, 0 ≤ i → padAt (List.replicate r.toNat c) ((List.replicate r.toNat c).length : Nat) i = fullAt r c i := by
    intro i hi
    rw [List.length_replicate]
    unfold padAt fullAt
    by_cases h : i < r
    · rw [if_pos (by omega), if_pos h, q_rd_rep (by omega)]
    · rw [if_neg (by omega), if_neg h]
  unfold padL pad6 full6
  rw [e 0 (by omega), e 1 (by omega), e 2 (by omega), e 3 (by omega), e 4 (by omega), e 5 (by omega)]
theorem q_bar_rep {r c : Int} (hr : 1 ≤ r ∧ r ≤ 6) (hc : 1 ≤ c ∧ c ≤ 7) : isBarL (List.replicate r.toNat c) = true := by
  rw [isBarL_iff, List.length_replicate]
  refine ⟨by omega, by omega, ?_⟩
  intro i hi
  rw [q_rd_rep (by omega)]
  refine ⟨by omega, by omega, ?_⟩
  intro h0
  rw [q_rd_rep (by omega)]
  omega
theorem q_head_full {r c : Int} (hr : 1 ≤ r ∧ r ≤ 6) (hc : 1 ≤ c) : (full6 r c).headD 0 ≠ 0 := by
  show fullAt r c 0 ≠ 0
  unfold fullAt
  rw [if_pos (by omega)]
  omega

theorem asked_ev (a b : Int) : Ev (fun k => drovewayref07_asked.f k a b) (sizedL a b) := by
  have out : ¬ ¬ (a < 1 ∨ 6 < a ∨ b < 1 ∨ 7 < b) → Ev (fun k => drovewayref07_asked.j0 k a b true) (sizedL a b) := by
    intro h
    refine Ev.step (f := fun k => some 2) (fun k => ?_) ?_
    · simp only [drovewayref07_asked.j0]
      rw [if_pos trivial]
    · unfold sizedL
      rw [if_pos (by omega)]
      exact Ev.now _
  unfold drovewayref07_asked.f
  by_cases h1 : a < 1
  · exact Ev.pos h1 (out (by omega))
  · refine Ev.neg h1 ?_
    by_cases h2 : a > 6
    · exact Ev.pos h2 (out (by omega))
    · refine Ev.neg h2 ?_
      by_cases h3 : b < 1
      · exact Ev.pos h3 (out (by omega))
      · refine Ev.neg h3 ?_
        by_cases h4 : b > 7
        · rw [decide_eq_true h4]
          exact out (by omega)
        · rw [decide_eq_false h4]
          have m1 : 1 * b ≤ a * b := Int.mul_le_mul_of_nonneg_right (by omega) (by omega)
          have m2 : a * b ≤ 6 * b := Int.mul_le_mul_of_nonneg_right (by omega) (by omega)
          refine Ev.step (f := fun k => some (sizedL a b)) (fun k => ?_) (Ev.now _)
          simp only [drovewayref07_asked.j0, Bool.false_eq_true, if_false]
          unfold sizedL
          rw [w64 (by omega), if_neg (show ¬ (a < 1 ∨ 6 < a ∨ b < 1 ∨ 7 < b) by omega)]
          by_cases h5 : a * b > 24
          · rw [if_pos h5, if_pos (show 24 < a * b from h5)]
          · rw [if_neg h5, if_neg (show ¬ 24 < a * b from h5)]

theorem rfirst_ev (a b : Int) : Ev (fun k => drovewayref07_First.f k a b) (firstL a b) := by
  unfold drovewayref07_First.f
  refine Ev.bind (asked_ev a b) ?_
  by_cases h : sizedL a b = 0
  · refine Ev.pos h ?_
    have hb : (1 ≤ a ∧ a ≤ 6) ∧ 1 ≤ b ∧ b ≤ 7 := by
      unfold sizedL at h
      split at h
      · cases h
      · omega
    refine Ev.bind (q_full_ev (c := b) (by omega)) (Ev.bind (rchomp_ev _ (by rw [List.length_replicate]; omega)) ?_)
    have hbar := q_bar_rep hb.1 hb.2
    unfold firstL
    rw [if_pos h]
    have e1 : winM (full6 a b) 1 = (winM (full6 a b) 42).take 1 := by
      unfold winM
      rw [List.take_take]
      rfl
    have e2 : chompL (List.replicate a.toNat b) = if (winM (full6 a b) 42).length = 0 then ([], 10) else (winM (full6 a b) 42, 0) := by
      unfold chompL
      rw [if_pos hbar, q_pad_rep hb.1]
    rw [e1, e2]
    cases hm : winM (full6 a b) 42 with
    | nil => exact Ev.neg (by decide) (Ev.now _)
    | cons m t =>
      refine Ev.pos rfl (Ev.pos ?_ ?_)
      · show (0 : Int) < (((m :: t).map mk49).length : Int)
        rw [List.length_map, List.length_cons]
        omega
      · exact Ev.now _
  · refine Ev.neg h ?_
    unfold firstL
    rw [if_neg h]
    exact Ev.now _
end Go.Proofs.Ytcngcilinlcmeaa.Pure
