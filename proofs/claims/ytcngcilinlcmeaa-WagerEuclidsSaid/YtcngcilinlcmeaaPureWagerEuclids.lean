/- WagerEuclids holds: for all numbers a and b, Euclid and Steps of the program return the heaps, the quotients and the errors of the specification. -/
import Derived.Test.YtcngcilinlcmeaaPx6
import Derived.Test.YtcngcilinlcmeaaEuc
namespace Go.Proofs.Ytcngcilinlcmeaa.Pure
open Go.RowKit Go.Proofs.Ytcngcilinlcmeaa.P Go.Proofs.YtcngcilinlcmeaaW.PrintWords Go.Proofs.YtcngcilinlcmeaaW.PrintLast

theorem stepsL_short (a b : Int) : (Ext.stepsL a b).1.length ≤ 4611686018427387904 := by
  by_cases h : 0 ≤ a ∧ a ≤ 1099511627776 ∧ 0 ≤ b ∧ b ≤ 1099511627776
  · rw [stepsL_in h]
    have := quots_short (x := mx a b) (y := mn a b) (by have := mx_mn a b; omega)
    simp only
    omega
  · rw [stepsL_out h]; simp
theorem alive_ev : Ev (fun _ => (drovewaylaw07_alive.f).bind fun t160 => (some t160)) true := Ev.now _
theorem WagerEuclids : drovewaylaw07_WagerEuclids.Pure := by
  intro a b _ _
  have h := same_ev (Ext.stepsL a b).1 (Ext.stepsL a b).1 (stepsL_short a b)
  rw [decide_eq_true rfl] at h
  apply Ev.rounds
  unfold drovewaylaw07_WagerEuclids.f
  refine Ev.bind (eucl_ev a b) (Ev.bind (reucl_ev a b) (Ev.pos rfl (Ev.pos rfl ?_)))
  rw [show ((euclS a b).2.2 != (euclS a b).2.2) = false from by simp]
  refine Ev.step (f := fun k => (wager_Steps.f a b).bind fun bt151 => ((drovewayref07_Steps.f k a b).bind fun bt155 => ((drovewaylaw07_same.f k bt151.1 bt155.1).bind fun t159 => (if t159 = true then (if bt151.2 = bt155.2 then ((drovewaylaw07_alive.f).bind fun t160 => (some t160)) else (some false)) else (some false))))) (fun k => by simp only [drovewaylaw07_WagerEuclids.j0, Bool.false_eq_true, if_false]) ?_
  exact Ev.bind (g := fun _ => wager_Steps.f a b) (Ev.now (Ext.stepsL a b)) (Ev.bind (rsteps_ev a b) (Ev.bind h (Ev.pos rfl (Ev.pos rfl alive_ev))))

end Go.Proofs.Ytcngcilinlcmeaa.Pure
