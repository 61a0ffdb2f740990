/- WagerPlayed holds: for all numbers, after the move of Nim the other player has no winning move with the new limit; where Nim is refused, every move leaves the other one a winning move; and no lesser number of matches than Nim wins. -/
import Derived.Test.YtcngcilinlcmeaaPx10
import Derived.Test.YtcngcilinlcmeaaIdx
namespace Go.Proofs.Ytcngcilinlcmeaa.Pure
open Go.RowKit Go.Proofs.Ytcngcilinlcmeaa.P Go.Proofs.YtcngcilinlcmeaaW.PrintWords Go.Proofs.YtcngcilinlcmeaaW.PrintLast

theorem played_j1 {x2 m l : Int} (hx : 0 ≤ x2 ∧ x2 ≤ 18446744073709551615) (hm : 0 ≤ m ∧ m ≤ 1099511627776) (hl : 0 ≤ l ∧ l ≤ 1099511627776) : Ev (fun k => drovewaylaw07_WagerPlayed.j1 k x2 m l (nimIn m l).1 (nimIn m l).2) true := by
  obtain ⟨q, hq⟩ : ∃ q, mn m l = q := ⟨_, rfl⟩
  have hmn := mx_mn m l
  rw [hq] at hmn
  by_cases hz : q = 0
  · have hN : nimIn m l = (0, 10) := by
      refine nimIn_lost hm.1 ?_
      by_cases h0 : m = 0
      · exact .inl h0
      · have := tail_bounds (n := m) (by omega) hm.2
        exact .inr (by omega)
    rw [hN]
    refine Ev.step (f := fun k => (drovewaylaw07_alive.f).bind fun t245 => (some t245)) (fun k => ?_) alive_ev
    simp only [drovewaylaw07_WagerPlayed.j1]
    rw [hq, if_pos hz, if_pos trivial]
  · have e := mod_lt' x2 (show 0 < q by omega)
    obtain ⟨x, hxd⟩ : ∃ x, 1 + x2 % q = x := ⟨_, rfl⟩
    have hN : Ev (fun k => wager_Nim.f k (m - x) (mn (2 * x) 1099511627776)) (nimIn (m - x) (mn (2 * x) 1099511627776)) := Nim_in (by omega) (by have := mx_mn (2 * x) 1099511627776; omega)
    refine Ev.step (f := fun k => (wager_Nim.f k (m - x) (mn (2 * x) 1099511627776)).bind fun bt246 => (if bt246.2 = 0 then ((drovewaylaw07_alive.f).bind fun t248 => (some t248)) else (if bt246.2 = 10 then (if (nimIn m l).2 = 0 then (if x ≥ (nimIn m l).1 then ((drovewaylaw07_alive.f).bind fun t249 => (some t249)) else (some false)) else (some false)) else (some false)))) (fun k => ?_) (Ev.bind hN ?_)
    · simp only [drovewaylaw07_WagerPlayed.j1]
      rw [hq, if_neg hz, IntWalk.u64_in q (by omega), if_neg hz, tmod' hx.1, w64 (n := x2 % q) (by omega), hxd, w64 (n := x) (by omega), w64 (n := 2 * x) (by omega), w64 (n := m - x) (by omega)]
    · have hm0 : 0 < m := by omega
      have htm := tail_bounds hm0 hm.2
      by_cases hlt : x < tail m
      · have h1 := tl_less 60 m x hm0 (heap_lt hm.2) (by omega) hlt
        have h2 := tail_bounds (n := m - x) (by omega) (by omega)
        have h3 : nimIn (m - x) (mn (2 * x) 1099511627776) = (tail (m - x), 0) := nimIn_won (by omega) (by have := mx_mn (2 * x) 1099511627776; unfold tail at h2 ⊢; omega)
        rw [h3]
        exact Ev.pos rfl alive_ev
      · have h4 : nimIn m l = (tail m, 0) := nimIn_won hm0 (by omega)
        rw [h4]
        have h5 : (nimIn (m - x) (mn (2 * x) 1099511627776)).2 = 0 ∨ (nimIn (m - x) (mn (2 * x) 1099511627776)).2 = 10 := by
          unfold nimIn
          split
          · exact .inr rfl
          · split
            · exact .inl rfl
            · exact .inr rfl
        rcases h5 with h5 | h5
        · exact Ev.pos h5 alive_ev
        · exact Ev.neg (by omega) (Ev.pos h5 (Ev.pos rfl (Ev.pos (by show x ≥ tail m; omega) alive_ev)))
theorem WagerPlayed : drovewaylaw07_WagerPlayed.Pure := by
  intro a b c ha hb hc
  obtain ⟨m, hm, m0, m1⟩ := heap_some ha
  obtain ⟨l, hl, l0, l1⟩ := heap_some hb
  have hc2 := u64_bounds hc
  apply Ev.rounds
  unfold drovewaylaw07_WagerPlayed.f
  rw [hm, hl]
  simp only [Option.bind_some]
  refine Ev.bind (Nim_in ⟨m0, m1⟩ ⟨l0, l1⟩) ?_
  have hj := played_j1 hc2 ⟨m0, m1⟩ ⟨l0, l1⟩
  by_cases hw : 0 < m ∧ tail m ≤ l
  · have hN := nimIn_won hw.1 hw.2
    rw [hN] at hj ⊢
    have htm := tail_bounds hw.1 m1
    refine Ev.pos rfl (Ev.neg (by show ¬ tail m < 1; omega) (Ev.neg (by show ¬ tail m > m; omega) ?_))
    rw [show decide ((tail m, (0 : Int)).1 > l) = false from decide_eq_false (by show ¬ tail m > l; omega)]
    have h2 : nimIn (m - tail m) (mn (2 * tail m) 1099511627776) = (0, 10) := by
      refine nimIn_lost (by omega) ?_
      by_cases he : m = tail m
      · exact .inl (by omega)
      · have h3 := tl_more 60 m hw.1 (heap_lt m1) he
        refine .inr ?_
        have h4 := mx_mn (2 * tail m) 1099511627776
        have h5 := tail_bounds (n := m - tail m) (by omega) (by omega)
        unfold tail at *
        omega
    have hN2 : Ev (fun k => wager_Nim.f k (m - tail m) (mn (2 * tail m) 1099511627776)) (nimIn (m - tail m) (mn (2 * tail m) 1099511627776)) := Nim_in (by omega) (by have := mx_mn (2 * tail m) 1099511627776; omega)
    rw [h2] at hN2
    refine Ev.step (f := fun k => (wager_Nim.f k (m - tail m) (mn (2 * tail m) 1099511627776)).bind fun bt243 => (if bt243.2 = 10 then (drovewaylaw07_WagerPlayed.j1 k c m l (tail m) 0) else (some false))) (fun k => ?_) (Ev.bind hN2 (Ev.pos rfl hj))
    simp only [drovewaylaw07_WagerPlayed.j0, Bool.false_eq_true, if_false]
    rw [w64 (n := 2 * tail m) (by omega), w64 (n := m - tail m) (by omega)]
  · have hN : nimIn m l = (0, 10) := nimIn_lost m0 (by omega)
    rw [hN] at hj ⊢
    exact Ev.neg (by decide) (Ev.pos rfl hj)

end Go.Proofs.Ytcngcilinlcmeaa.Pure
