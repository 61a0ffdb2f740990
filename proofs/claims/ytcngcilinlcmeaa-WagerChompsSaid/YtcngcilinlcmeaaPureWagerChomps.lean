/- WagerChomps holds: Chomp and Bitten tell what the reference's tell, and change no argument. -/
import Derived.Test.YtcngcilinlcmeaaPx18
import Derived.Test.YtcngcilinlcmeaaRChomp
namespace Go.Proofs.Ytcngcilinlcmeaa.Pure
open Go.RowKit Go.Proofs.Ytcngcilinlcmeaa.P Go.Proofs.YtcngcilinlcmeaaW.PrintWords Go.Proofs.YtcngcilinlcmeaaW.PrintLast

open Go.Proofs.Ytcngcilinlcmeaa.Ext
set_option linter.unusedVariables false

theorem rbitten_ev (l : List Int) (r c : Int) (hl : l.length ≤ 1000) : Ev (fun k => drovewayref07_Bitten.f k l r c) (bittenL l r c) := by
  unfold drovewayref07_Bitten.f
  refine Ev.bind (isbar_ev l hl) ?_
  unfold bittenL
  by_cases h : isBarL l = true
  · refine Ev.pos h ?_
    rw [if_pos h]
    by_cases h1 : r < 0
    · refine Ev.pos h1 ?_
      rw [if_pos (.inl h1)]
      exact Ev.now _
    · refine Ev.neg h1 ?_
      by_cases h2 : r ≥ (l.length : Int)
      · refine Ev.pos h2 ?_
        rw [if_pos (.inr (.inl h2))]
        exact Ev.now _
      · refine Ev.neg h2 ?_
        by_cases h3 : c < 0
        · refine Ev.pos h3 ?_
          rw [if_pos (.inr (.inr (.inl h3)))]
          exact Ev.now _
        · refine Ev.neg h3 (Ev.pos (show 0 ≤ r by omega) (Ev.pos (show r < (l.length : Int) by omega) ?_))
          by_cases h4 : c ≥ rd l r
          · refine Ev.pos h4 ?_
            rw [if_pos (.inr (.inr (.inr h4)))]
            exact Ev.now _
          · refine Ev.neg h4 ?_
            rw [if_neg (by omega)]
            refine Ev.bind (bitten_ev l r c hl) ?_
            have e : (bite (padL l) r c).take l.length = bite l r c := by
              rw [padL_padz l (row_of h).1, bite_padz (by omega)]
              unfold padz
              rw [List.take_left' (bite_len r c l)]
            rw [e]
            exact Ev.now _
  · refine Ev.neg h ?_
    rw [if_neg h]
    exact Ev.now _

theorem moves_l {l0 : List Int} {a1 a2 : Int} {o : List S49} (hl : l0.length ≤ 20) (ho : o.length ≤ 1000) : ∀ (r i : Nat), i + r = o.length →
    Ev (fun k => drovewaylaw07_WagerChomps.l0 k l0 a1 a2 l0 o o (i : Int)) true
  | 0, i, h => by
    refine Ev.step (f := fun k => (wager_Bitten.f l0 a1 a2).bind fun bt412 => ((drovewayref07_Bitten.f k l0 a1 a2).bind fun bt416 => ((drovewaylaw07_same.f k bt412.1 bt416.1).bind fun t420 => (if t420 = true then (if bt412.2 = bt416.2 then ((drovewaylaw07_same.f k l0 l0).bind fun t421 => (if t421 = true then ((drovewaylaw07_alive.f).bind fun t422 => (some t422)) else (some false))) else (some false)) else (some false))))) (fun k => ?_) ?_
    · simp only [drovewaylaw07_WagerChomps.l0]
      rw [if_neg (by omega)]
    · refine Ev.bind (g := fun _ => wager_Bitten.f l0 a1 a2) (Ev.now _) (Ev.bind (rbitten_ev l0 a1 a2 (by omega)) ?_)
      have hb : (bittenL l0 a1 a2).1.length ≤ 20 := by
        unfold bittenL
        split
        · split
          · exact Nat.zero_le _
          · show ((bite (padL l0) a1 a2).take l0.length).length ≤ 20
            rw [List.length_take]
            omega
        · exact Nat.zero_le _
      refine Ev.bind (same_ev _ _ (by omega)) ?_
      rw [decide_eq_true rfl]
      refine Ev.pos rfl (Ev.pos rfl ?_)
      refine Ev.bind (same_ev l0 l0 (by omega)) ?_
      rw [decide_eq_true rfl]
      exact Ev.pos rfl alive_ev
  | r + 1, i, h => by
    have ih := moves_l (a1 := a1) (a2 := a2) hl ho r (i + 1) (by omega)
    refine Ev.step (f := fun k => drovewaylaw07_WagerChomps.l0 k l0 a1 a2 l0 o o ((i + 1 : Nat) : Int)) (fun k => ?_) ih
    simp only [drovewaylaw07_WagerChomps.l0]
    rw [if_pos (by omega), if_pos (by omega), if_pos (by omega), if_neg (by simp), w64 (by omega)]
    rfl

theorem WagerChomps : drovewaylaw07_WagerChomps.Pure := by
  intro l0 a1 a2 _ _ _ _ _
  apply Ev.rounds
  unfold drovewaylaw07_WagerChomps.f
  by_cases h : (l0.length : Int) > 20
  · exact Ev.pos h alive_ev
  · refine Ev.neg h ?_
    refine Ev.bind (g := fun _ => some ([] : List Int)) (Ev.now _) ?_
    refine Ev.pos (show ([] : List Int).length + l0.length < 17592186044416 by simp; omega) ?_
    refine Ev.bind (g := fun _ => some (([] : List Int) ++ l0)) (Ev.now _) ?_
    rw [List.nil_append]
    refine Ev.bind (g := fun _ => wager_Chomp.f l0) (Ev.now _) (Ev.bind (rchomp_ev l0 (by omega)) ?_)
    refine Ev.pos rfl ?_
    have hlen : ((chompL l0).1.map mk49).length ≤ 1000 := by
      rw [List.length_map]
      unfold chompL
      split
      · split
        · exact Nat.zero_le _
        · show (winM (padL l0) 42).length ≤ 1000
          unfold winM
          rw [List.length_take]
          omega
      · exact Nat.zero_le _
    have h1 := moves_l (l0 := l0) (a1 := a1) (a2 := a2) (by omega) hlen _ 0 (Nat.zero_add _)
    refine Ev.step (f := fun k => drovewaylaw07_WagerChomps.l0 k l0 a1 a2 l0 ((chompL l0).1.map mk49) ((chompL l0).1.map mk49) ((0 : Nat) : Int)) (fun k => ?_) h1
    simp only [drovewaylaw07_WagerChomps.j0]
    rw [if_neg (by simp)]
    rfl

end Go.Proofs.Ytcngcilinlcmeaa.Pure
