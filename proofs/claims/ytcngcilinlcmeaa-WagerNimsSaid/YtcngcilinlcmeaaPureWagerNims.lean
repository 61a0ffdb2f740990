/- WagerNims holds: for all numbers, Parts, Nim and Whole of the program return the numbers and errors of the specification. -/
import Derived.Test.YtcngcilinlcmeaaPx15
import Derived.Test.YtcngcilinlcmeaaRNim
namespace Go.Proofs.Ytcngcilinlcmeaa.Pure
open Go.RowKit Go.Proofs.Ytcngcilinlcmeaa.P Go.Proofs.YtcngcilinlcmeaaW.PrintWords Go.Proofs.YtcngcilinlcmeaaW.PrintLast

def wholeS (n : Int) : Int × Int := if 2 ≤ n ∧ n ≤ 1099511627776 then nimS n (n - 1) else (0, 2)
theorem whole_ev (n : Int) : Ev (fun k => wager_Whole.f k n) (wholeS n) := by
  unfold wager_Whole.f
  rw [heapF]
  simp only [Option.bind_some]
  unfold wholeS
  by_cases h : 0 ≤ n ∧ n ≤ 1099511627776
  · refine Ev.pos (decide_eq_true h) ?_
    by_cases h2 : n < 2
    · rw [if_neg (by omega)]
      exact Ev.pos h2 (Ev.now _)
    · rw [if_pos (by omega)]
      refine Ev.neg h2 ?_
      rw [w64 (n := n - 1) (by omega)]
      exact Ev.bind (Nim_ev n (n - 1)) (Ev.now _)
  · rw [if_neg (by omega)]
    exact Ev.neg (by simpa using h) (Ev.now _)
theorem rwhole_ev (n : Int) : Ev (fun k => drovewayref07_Whole.f k n) (wholeS n) := by
  unfold drovewayref07_Whole.f wholeS
  by_cases h1 : n < 2
  · rw [if_neg (show ¬ (2 ≤ n ∧ n ≤ 1099511627776) by omega)]
    exact Ev.pos h1 (Ev.now _)
  · refine Ev.neg h1 ?_
    by_cases h2 : n > 1099511627776
    · rw [if_neg (show ¬ (2 ≤ n ∧ n ≤ 1099511627776) by omega)]
      exact Ev.pos h2 (Ev.now _)
    · rw [if_pos (show 2 ≤ n ∧ n ≤ 1099511627776 by omega)]
      refine Ev.neg h2 ?_
      rw [w64 (n := n - 1) (by omega)]
      exact Ev.bind (rNim_ev n (n - 1)) (Ev.now _)
theorem WagerNims : drovewaylaw07_WagerNims.Pure := by
  intro n l _ _
  apply Ev.rounds
  unfold drovewaylaw07_WagerNims.f
  have hlen : (partsS n).1.length ≤ 4611686018427387904 := by
    unfold partsS
    split
    · have := gr_len 60 n
      show (parts n).length ≤ _
      unfold parts
      omega
    · simp
  have hs := same_ev (partsS n).1 (partsS n).1 hlen
  rw [decide_eq_true rfl] at hs
  refine Ev.bind (Parts_ev n) (Ev.bind (rParts_ev n) (Ev.bind hs (Ev.pos rfl ?_)))
  rw [show ((partsS n).2 != (partsS n).2) = false from by simp]
  refine Ev.step (f := fun k => (wager_Nim.f k n l).bind fun bt342 => ((drovewayref07_Nim.f k n l).bind fun bt344 => (if bt342.1 = bt344.1 then (drovewaylaw07_WagerNims.j1 k n (bt342.2 != bt344.2)) else (drovewaylaw07_WagerNims.j1 k n true)))) (fun k => by simp only [drovewaylaw07_WagerNims.j0, Bool.false_eq_true, if_false]) ?_
  refine Ev.bind (Nim_ev n l) (Ev.bind (rNim_ev n l) (Ev.pos rfl ?_))
  rw [show ((nimS n l).2 != (nimS n l).2) = false from by simp]
  refine Ev.step (f := fun k => (wager_Whole.f k n).bind fun bt346 => ((drovewayref07_Whole.f k n).bind fun bt348 => (if bt346.1 = bt348.1 then (if bt346.2 = bt348.2 then ((drovewaylaw07_alive.f).bind fun t350 => (some t350)) else (some false)) else (some false)))) (fun k => by simp only [drovewaylaw07_WagerNims.j1, Bool.false_eq_true, if_false]) ?_
  exact Ev.bind (whole_ev n) (Ev.bind (rwhole_ev n) (Ev.pos rfl (Ev.pos rfl alive_ev)))

end Go.Proofs.Ytcngcilinlcmeaa.Pure
