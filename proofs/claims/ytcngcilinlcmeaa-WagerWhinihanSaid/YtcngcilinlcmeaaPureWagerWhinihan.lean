/- WagerWhinihan holds: for all numbers, Nim takes the tail of the heap, if it is at most the limit, and is refused if it is greater or the heap is empty; Whole is refused exactly for the Fibonacci numbers from 2 on. -/
import Derived.Test.YtcngcilinlcmeaaPx16
import Derived.Test.YtcngcilinlcmeaaIdx
namespace Go.Proofs.Ytcngcilinlcmeaa.Pure
open Go.RowKit Go.Proofs.Ytcngcilinlcmeaa.P Go.Proofs.YtcngcilinlcmeaaW.PrintWords Go.Proofs.YtcngcilinlcmeaaW.PrintLast

def wholeS (n : Int) : Int × Int := if 2 ≤ n ∧ n ≤ 1099511627776 then nimIn n (n - 1) else (0, 2)
theorem whole_ev (n : Int) : Ev (fun k => wager_Whole.f k n) (wholeS n) := by
  unfold wager_Whole.f
  rw [heapF]
  simp only [Option.bind_some]
  unfold wholeS
  by_cases h : 0 ≤ n ∧ n ≤ 1099511627776
  · refine Ev.pos (decide_eq_true h) ?_
    by_cases h2 : n < 2
    · rw [if_neg (by omega)]
      exact Ev.pos h2 (Ev.now _)
    · rw [if_pos (by omega)]
      refine Ev.neg h2 ?_
      rw [w64 (n := n - 1) (by omega)]
      exact Ev.bind (Nim_in h (by omega)) (Ev.now _)
  · rw [if_neg (by omega)]
    exact Ev.neg (by simpa using h) (Ev.now _)
theorem tail_self {m : Int} (h0 : 0 < m) (hm : m ≤ 1099511627776) : (∃ j, j < 60 ∧ fib j = m) ↔ tail m = m := by
  constructor
  · rintro ⟨j, hj, rfl⟩
    unfold tail
    rw [tl_up (show j + 1 ≤ 60 by omega) (fib_lt j), tl_eq rfl]
  · intro h
    obtain ⟨j, hj, h1, _⟩ := tl_fib 60 m h0 (heap_lt hm)
    unfold tail at h
    exact ⟨j, hj, by rw [← h1, h]⟩
theorem wh_j2 {m : Int} (m0 : 0 ≤ m) (m1 : m ≤ 1099511627776) : Ev (fun k => drovewaylaw07_WagerWhinihan.j2 k m (parts m) (wholeS m).1 (wholeS m).2) true := by
  by_cases h2 : m < 2
  · have hw : wholeS m = (0, 2) := by unfold wholeS; rw [if_neg (by omega)]
    rw [hw]
    refine Ev.step (f := fun k => (drovewaylaw07_alive.f).bind fun t363 => (some t363)) (fun k => ?_) alive_ev
    simp only [drovewaylaw07_WagerWhinihan.j2]
    rw [if_pos h2, if_pos trivial]
  · have hw : wholeS m = nimIn m (m - 1) := by unfold wholeS; rw [if_pos (by omega)]
    have hts := tail_self (m := m) (by omega) m1
    have htb := tail_bounds (n := m) (by omega) m1
    have hp := parts_last (n := m) (by omega) m1
    refine Ev.step (f := fun k => (drovewaylaw07_index.f k m).bind fun t364 => (if t364 ≥ 0 then (if (wholeS m).2 = 10 then (if (wholeS m).1 = 0 then ((drovewaylaw07_alive.f).bind fun t365 => (some t365)) else (some false)) else (some false)) else (if (wholeS m).2 = 0 then (if 0 ≤ (wrap64 (((parts m).length : Int) - 1)) then (if (wrap64 (((parts m).length : Int) - 1)) < ((parts m).length : Int) then (if (wholeS m).1 = (rd (parts m) (wrap64 (((parts m).length : Int) - 1))) then ((drovewaylaw07_alive.f).bind fun t367 => (some t367)) else (some false)) else (none)) else (none)) else (some false)))) (fun k => ?_) (Ev.bind (index_ev m1) ?_)
    · simp only [drovewaylaw07_WagerWhinihan.j2]
      rw [if_neg h2]
    by_cases hf : ∃ j, j < 60 ∧ fib j = m
    · rw [if_pos hf]
      have ht := hts.1 hf
      have hN : nimIn m (m - 1) = (0, 10) := nimIn_lost m0 (.inr (by omega))
      rw [hw, hN]
      exact Ev.pos (by omega) (Ev.pos rfl (Ev.pos rfl alive_ev))
    · rw [if_neg hf]
      have hN : nimIn m (m - 1) = (tail m, 0) := nimIn_won (by omega) (by have := mt hts.2 hf; omega)
      rw [hw, hN]
      rw [w64 (n := ((parts m).length : Int) - 1) (by omega), hp.2.1]
      exact Ev.neg (by decide) (Ev.pos rfl (Ev.pos (by omega) (Ev.pos (by omega) (Ev.pos rfl alive_ev))))
theorem WagerWhinihan : drovewaylaw07_WagerWhinihan.Pure := by
  intro a b ha hb
  obtain ⟨m, hm, m0, m1⟩ := heap_some ha
  obtain ⟨l, hl, l0, l1⟩ := heap_some hb
  apply Ev.rounds
  unfold drovewaylaw07_WagerWhinihan.f
  rw [hm, hl]
  simp only [Option.bind_some]
  refine Ev.bind (Parts_ev m) (Ev.bind (Nim_in ⟨m0, m1⟩ ⟨l0, l1⟩) (Ev.bind (whole_ev m) ?_))
  have hp : partsS m = (parts m, 0) := by unfold partsS; rw [if_pos ⟨m0, m1⟩]
  rw [hp]
  refine Ev.pos rfl ?_
  have hj2 := wh_j2 m0 m1
  have j1t : nimIn m l = (0, 10) → Ev (fun k => drovewaylaw07_WagerWhinihan.j1 k m (parts m) (nimIn m l).1 (nimIn m l).2 (wholeS m).1 (wholeS m).2 true) true := by
    intro h
    rw [h]
    refine Ev.step (f := fun k => drovewaylaw07_WagerWhinihan.j2 k m (parts m) (wholeS m).1 (wholeS m).2) (fun k => ?_) hj2
    simp only [drovewaylaw07_WagerWhinihan.j1, if_true]
  by_cases h0 : m > 0
  · have hpl := parts_last h0 m1
    refine Ev.pos h0 ?_
    rw [show (((parts m, (0 : Int)).1.length : Int) == 0) = false from by rw [beq_eq_false_iff_ne]; show ((parts m).length : Int) ≠ 0; omega]
    refine Ev.step (f := fun k => drovewaylaw07_WagerWhinihan.j1 k m (parts m) (nimIn m l).1 (nimIn m l).2 (wholeS m).1 (wholeS m).2 (decide (tail m > l))) (fun k => ?_) ?_
    · simp only [drovewaylaw07_WagerWhinihan.j0, Bool.false_eq_true, if_false]
      rw [if_neg (by omega), w64 (n := ((parts m).length : Int) - 1) (by omega), if_pos (by omega), if_pos (by omega), hpl.2.1]
    by_cases ht : tail m > l
    · rw [decide_eq_true ht]
      exact j1t (nimIn_lost m0 (.inr (by omega)))
    · rw [decide_eq_false ht]
      have hN := nimIn_won h0 (show tail m ≤ l by omega)
      rw [hN]
      refine Ev.step (f := fun k => drovewaylaw07_WagerWhinihan.j2 k m (parts m) (wholeS m).1 (wholeS m).2) (fun k => ?_) hj2
      simp only [drovewaylaw07_WagerWhinihan.j1, Bool.false_eq_true, if_false, if_true]
      rw [w64 (n := ((parts m).length : Int) - 1) (by omega), if_pos (by omega), if_pos (by omega), hpl.2.1, if_pos rfl]
  · refine Ev.neg h0 ?_
    refine Ev.step (f := fun k => drovewaylaw07_WagerWhinihan.j1 k m (parts m) (nimIn m l).1 (nimIn m l).2 (wholeS m).1 (wholeS m).2 true) (fun k => ?_) (j1t (nimIn_lost m0 (.inl (by omega))))
    simp only [drovewaylaw07_WagerWhinihan.j0, Bool.false_eq_true, if_false]
    rw [if_pos (by omega)]

end Go.Proofs.Ytcngcilinlcmeaa.Pure
