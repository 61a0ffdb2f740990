/- WagerCole holds: for all numbers, with heaps above 0 the player who is next wins exactly if the heaps are the same, or x x - x y - y y is above 0; exactly if the number of quotients ahead of the first one that is not 1 is even. -/
import Derived.Test.YtcngcilinlcmeaaPx11
import Derived.Test.YtcngcilinlcmeaaCole
import Derived.Test.YtcngcilinlcmeaaIdx
namespace Go.Proofs.Ytcngcilinlcmeaa.Pure
open Go.RowKit Go.Proofs.Ytcngcilinlcmeaa.P Go.Proofs.YtcngcilinlcmeaaW.PrintWords Go.Proofs.YtcngcilinlcmeaaW.PrintLast

theorem tdiv' {x y : Int} (hx : 0 ≤ x) : Int.tdiv x y = x / y := Int.tdiv_eq_ediv_of_nonneg hx
theorem prod_ev {a b : Int} (ha : 0 ≤ a ∧ a ≤ 1099511627776) (hb : 0 ≤ b ∧ b ≤ 1099511627776) : drovewaylaw07_product.f a b = some (a * b / 1099511627776, a * b % 1099511627776) := by
  obtain ⟨ah, hah⟩ : ∃ q, a / 1048576 = q := ⟨_, rfl⟩
  obtain ⟨al, hal⟩ : ∃ q, a % 1048576 = q := ⟨_, rfl⟩
  obtain ⟨bh, hbh⟩ : ∃ q, b / 1048576 = q := ⟨_, rfl⟩
  obtain ⟨bl, hbl⟩ : ∃ q, b % 1048576 = q := ⟨_, rfl⟩
  have a1 : 0 ≤ ah ∧ ah ≤ 1048576 := by omega
  have a2 : 0 ≤ al ∧ al < 1048576 := by omega
  have b1 : 0 ≤ bh ∧ bh ≤ 1048576 := by omega
  have b2 : 0 ≤ bl ∧ bl < 1048576 := by omega
  have mulb : ∀ {x y : Int}, 0 ≤ x ∧ x ≤ 1048576 → 0 ≤ y ∧ y ≤ 1048576 → 0 ≤ x * y ∧ x * y ≤ 1099511627776 := by
    intro x y hx hy
    have h1 : x * y ≤ 1048576 * y := Int.mul_le_mul_of_nonneg_right hx.2 hy.1
    exact ⟨Int.mul_nonneg hx.1 hy.1, by omega⟩
  have m1 := mulb a1 b1
  have m2 := mulb (show 0 ≤ ah ∧ ah ≤ 1048576 from a1) (show 0 ≤ bl ∧ bl ≤ 1048576 by omega)
  have m3 := mulb (show 0 ≤ al ∧ al ≤ 1048576 by omega) b1
  have m4 := mulb (show 0 ≤ al ∧ al ≤ 1048576 by omega) (show 0 ≤ bl ∧ bl ≤ 1048576 by omega)
  obtain ⟨mid, hmid⟩ : ∃ q, ah * bl + al * bh = q := ⟨_, rfl⟩
  have e : a * b = (ah * bh) * 1099511627776 + mid * 1048576 + al * bl := by
    have h1 : a = ah * 1048576 + al := by omega
    have h2 : b = bh * 1048576 + bl := by omega
    rw [h1, h2, ← hmid, Int.mul_add, Int.add_mul, Int.add_mul, Int.add_mul]
    have h3 : ah * 1048576 * (bh * 1048576) = (ah * bh) * 1099511627776 := by
      rw [Int.mul_assoc, Int.mul_left_comm 1048576, ← Int.mul_assoc]
      rfl
    have h4 : al * (bh * 1048576) = al * bh * 1048576 := by rw [Int.mul_assoc]
    have h5 : ah * 1048576 * bl = ah * bl * 1048576 := by rw [Int.mul_right_comm]
    rw [h3, h4, h5]
    omega
  unfold drovewaylaw07_product.f
  rw [tdiv' ha.1, tdiv' hb.1, tmod' ha.1, tmod' hb.1, hah, hal, hbh, hbl]
  rw [w64 (n := ah) (by omega), w64 (n := bh) (by omega), w64 (n := ah * bh) (by omega), w64 (n := ah * bl) (by omega), w64 (n := al * bh) (by omega), w64 (n := al * bl) (by omega), hmid, w64 (n := mid) (by omega)]
  rw [tdiv' (show 0 ≤ mid by omega), tmod' (show 0 ≤ mid by omega)]
  rw [w64 (n := mid / 1048576) (by omega), w64 (n := mid % 1048576 * 1048576) (by omega), w64 (n := al * bl + mid % 1048576 * 1048576) (by omega)]
  rw [tdiv' (show 0 ≤ al * bl + mid % 1048576 * 1048576 by omega), tmod' (show 0 ≤ al * bl + mid % 1048576 * 1048576 by omega)]
  rw [w64 (n := (al * bl + mid % 1048576 * 1048576) / 1099511627776) (by omega), w64 (n := ah * bh + mid / 1048576) (by omega), w64 (by omega)]
  rw [e]
  congr 1
  ext1
  · show ah * bh + mid / 1048576 + (al * bl + mid % 1048576 * 1048576) / 1099511627776 = _
    omega
  · show (al * bl + mid % 1048576 * 1048576) % 1099511627776 = _
    omega
theorem beyond_ev {x y : Int} (hy : 0 ≤ y) (hx : y ≤ x) (h : x ≤ 1099511627776) : drovewaylaw07_beyond.f x y = some (decide (y * y < x * (x - y))) := by
  unfold drovewaylaw07_beyond.f
  rw [w64 (n := x - y) (by omega), prod_ev (by omega) (by omega), prod_ev (by omega) (by omega)]
  simp only [Option.bind_some]
  obtain ⟨p, hp⟩ : ∃ p, x * (x - y) = p := ⟨_, rfl⟩
  obtain ⟨q, hq⟩ : ∃ q, y * y = q := ⟨_, rfl⟩
  rw [hp, hq]
  by_cases h1 : p / 1099511627776 > q / 1099511627776
  · rw [if_pos h1, decide_eq_true (by omega)]
  · rw [if_neg h1]
    by_cases h2 : p / 1099511627776 = q / 1099511627776
    · rw [if_pos h2]
      congr 1
      rw [decide_eq_decide]
      omega
    · rw [if_neg h2, decide_eq_false (by omega)]

theorem ones_l (w : Bool) : ∀ (s : List Int) (pre : List Int), s ≠ [] → pre.length + s.length ≤ 4611686018427387904 → w = ((pre.length + onesN s) % 2 == 0) →
    Ev (fun k => drovewaylaw07_WagerCole.l0 k (pre ++ s) w (pre.length : Int)) true
  | [], pre, hs, _, _ => absurd rfl hs
  | [x], pre, hs, hl, hw => by
    refine Ev.step (f := fun k => (drovewaylaw07_alive.f).bind fun t267 => (some t267)) (fun k => ?_) alive_ev
    simp only [drovewaylaw07_WagerCole.l0]
    rw [if_neg (by rw [w64 (by rw [List.length_append, List.length_singleton]; omega), List.length_append, List.length_singleton]; omega), tmod' (by omega), if_pos]
    rw [hw]
    simp only [onesN, Nat.add_zero]
    rcases Nat.mod_two_eq_zero_or_one pre.length with h2 | h2
    · rw [h2, show ((pre.length : Int) % 2) = 0 by omega]; rfl
    · rw [h2, show ((pre.length : Int) % 2) = 1 by omega]; rfl
  | x :: y :: t, pre, hs, hl, hw => by
    have hlen : ((pre ++ x :: y :: t).length : Int) = pre.length + (t.length + 2) := by simp; omega
    simp only [List.length_cons] at hl
    have hg : rd (pre ++ x :: y :: t) (pre.length : Int) = x := by
      rw [rd_get _ _ (by simp)]
      simp
    by_cases hx : x = 1
    · have ih := ones_l w (y :: t) (pre ++ [x]) (by simp) (by simp; omega) (by
        rw [hw, onesN, if_pos hx, List.length_append, List.length_singleton]
        rw [show pre.length + (onesN (y :: t) + 1) = pre.length + 1 + onesN (y :: t) by omega])
      rw [List.append_assoc, List.singleton_append, List.length_append, List.length_singleton] at ih
      refine Ev.step (f := fun k => drovewaylaw07_WagerCole.l0 k (pre ++ x :: y :: t) w ((pre.length + 1 : Nat) : Int)) (fun k => ?_) ih
      simp only [drovewaylaw07_WagerCole.l0]
      rw [hlen, w64 (n := (pre.length : Int) + (t.length + 2) - 1) (by omega), if_pos (by omega), if_pos (by omega), if_pos (by omega), hg, if_pos hx, w64 (by omega)]
      rfl
    · refine Ev.step (f := fun k => (drovewaylaw07_alive.f).bind fun t267 => (some t267)) (fun k => ?_) alive_ev
      simp only [drovewaylaw07_WagerCole.l0]
      rw [hlen, w64 (n := (pre.length : Int) + (t.length + 2) - 1) (by omega), if_pos (by omega), if_pos (by omega), if_pos (by omega), hg, if_neg hx, tmod' (by omega), if_pos]
      rw [hw, onesN, if_neg hx, Nat.add_zero]
      rcases Nat.mod_two_eq_zero_or_one pre.length with h2 | h2
      · rw [h2, show ((pre.length : Int) % 2) = 0 by omega]; rfl
      · rw [h2, show ((pre.length : Int) % 2) = 1 by omega]; rfl

theorem WagerCole : drovewaylaw07_WagerCole.Pure := by
  intro a0 b0 ha0 hb0
  obtain ⟨a, ha, a0', a1⟩ := heap_some ha0
  obtain ⟨b, hb, b0', b1⟩ := heap_some hb0
  apply Ev.rounds
  unfold drovewaylaw07_WagerCole.f
  rw [ha, hb]
  simp only [Option.bind_some]
  have hst := stepsL_in (a := a) (b := b) (by omega)
  refine Ev.bind (eucl_ev a b) (Ev.bind (g := fun _ => wager_Steps.f a b) (Ev.now (Ext.stepsL a b)) ?_)
  rw [hst]
  refine Ev.pos rfl ?_
  have hmm := mx_mn a b
  obtain ⟨x, hx⟩ : ∃ x, mx a b = x := ⟨_, rfl⟩
  obtain ⟨y, hy⟩ : ∃ y, mn a b = y := ⟨_, rfl⟩
  rw [hx, hy] at hmm ⊢
  have e0 : ¬ ¬ (0 ≤ a ∧ a ≤ 1099511627776 ∧ 0 ≤ b ∧ b ≤ 1099511627776) := by omega
  by_cases hz : a = 0 ∨ b = 0
  · have he : euclS a b = (0, 0, 10) := by unfold euclS; rw [if_neg e0, if_pos hz]
    rw [he]
    refine Ev.neg (by decide) ?_
    have hq : Ext.quots x y = [] := Ext.quots_zero (by omega)
    rw [hq]
    have fin0 : Ev (fun k => drovewaylaw07_WagerCole.j1 k a b 0 0 10 ([] : List Int) true) true := by
      refine Ev.step (f := fun k => (drovewaylaw07_alive.f).bind fun t263 => (some t263)) (fun k => ?_) alive_ev
      simp [drovewaylaw07_WagerCole.j1]
    refine Ev.step (f := fun k => drovewaylaw07_WagerCole.j1 k a b 0 0 10 ([] : List Int) true) (fun k => ?_) fin0
    simp only [drovewaylaw07_WagerCole.j0, show ((10 : Int) != 10) = false from by decide, Bool.false_eq_true, if_false]
    by_cases h0 : a = 0
    · rw [if_pos h0]
    · rw [if_neg h0, show (b == 0) = true from by rw [beq_iff_eq]; omega]
  · have hyp : 0 < y := by omega
    have hg := gold y.toNat x y (Nat.le_refl _) hyp (by omega)
    have ho := W_ones y.toNat x y (Nat.le_refl _) hyp (by omega)
    have hqs := quots_short (x := x) (y := y) (by omega)
    have hqn := quots_ne (x := x) hyp
    have hone := ones_l (W x y) (Ext.quots x y) [] hqn (by simp; omega) (by simpa using ho)
    rw [List.nil_append] at hone
    -- the error tells who wins
    have herr : (euclS a b).2.2 = if W x y = true then 0 else 10 := by
      unfold euclS
      rw [if_neg e0, if_neg hz, hx, hy]
      by_cases heq : a = b
      · rw [if_pos heq, if_pos (hg.2 (.inl (by omega)))]
      · rw [if_neg heq]
        have hpn := pick_none hyp (show y ≤ x by omega)
        cases hp : pick x y with
        | none =>
          rw [hpn.1 hp]
          rfl
        | some r =>
          have : W x y = true := by
            cases hw : W x y with
            | true => rfl
            | false => rw [hpn.2 hw] at hp; cases hp
          rw [this]
          simp only
          split <;> rfl
    obtain ⟨p1, p2, p3, hp⟩ : ∃ p1 p2 p3, euclS a b = (p1, p2, p3) := ⟨_, _, _, rfl⟩
    rw [hp] at herr ⊢
    simp only at herr
    have j3e : Ev (fun k => drovewaylaw07_WagerCole.j3 k (Ext.quots x y) (W x y) ((((Ext.quots x y).length : Nat) : Int) == 0)) true := by
      have hl0 : (((Ext.quots x y).length : Int) == 0) = false := by
        rw [beq_eq_false_iff_ne]
        have := List.length_pos_iff.2 hqn
        omega
      rw [hl0]
      refine Ev.step (f := fun k => drovewaylaw07_WagerCole.l0 k (Ext.quots x y) (W x y) 0) (fun k => ?_) hone
      simp only [drovewaylaw07_WagerCole.j3, Bool.false_eq_true, if_false]
    have j2e : Ev (fun k => drovewaylaw07_WagerCole.j2 k p3 (Ext.quots x y) (W x y)) true := by
      refine Ev.step (f := fun k => drovewaylaw07_WagerCole.j3 k (Ext.quots x y) (W x y) ((((Ext.quots x y).length : Nat) : Int) == 0)) (fun k => ?_) j3e
      simp only [drovewaylaw07_WagerCole.j2]
      rw [if_neg]
      rw [herr]
      cases W x y <;> decide
    have j1e : Ev (fun k => drovewaylaw07_WagerCole.j1 k a b p1 p2 p3 (Ext.quots x y) false) true := by
      by_cases heq : a = b
      · have hw : W x y = true := hg.2 (.inl (by omega))
        rw [hw] at j2e
        refine Ev.step (f := fun k => drovewaylaw07_WagerCole.j2 k p3 (Ext.quots x y) true) (fun k => ?_) j2e
        simp only [drovewaylaw07_WagerCole.j1, Bool.false_eq_true, if_false]
        rw [if_pos heq]
      · have hw : W x y = decide (y * y < x * (x - y)) := by
          cases hw : W x y with
          | true =>
            rcases hg.1 hw with h | h
            · omega
            · rw [decide_eq_true h]
          | false => rw [decide_eq_false (fun h => by rw [hg.2 (.inr h)] at hw; cases hw)]
        rw [hw] at j2e
        refine Ev.step (f := fun k => drovewaylaw07_WagerCole.j2 k p3 (Ext.quots x y) (decide (y * y < x * (x - y)))) (fun k => ?_) j2e
        simp only [drovewaylaw07_WagerCole.j1, Bool.false_eq_true, if_false]
        rw [if_neg heq, hx, hy, beyond_ev (by omega) (by omega) (by omega)]
        rfl
    have j0e : Ev (fun k => drovewaylaw07_WagerCole.j0 k a b p1 p2 p3 (Ext.quots x y) false) true := by
      refine Ev.step (f := fun k => drovewaylaw07_WagerCole.j1 k a b p1 p2 p3 (Ext.quots x y) false) (fun k => ?_) j1e
      simp only [drovewaylaw07_WagerCole.j0, Bool.false_eq_true, if_false]
      rw [if_neg (by omega), show (b == 0) = false from by rw [beq_eq_false_iff_ne]; omega]
    by_cases h3 : p3 = 0
    · exact Ev.pos h3 j0e
    · refine Ev.neg h3 ?_
      have h10 : p3 = 10 := by
        rw [herr] at h3 ⊢
        split
        · rename_i hw; rw [if_pos hw] at h3; exact absurd rfl h3
        · rfl
      rw [show (p3 != 10) = false from by rw [h10]; decide]
      exact j0e

end Go.Proofs.Ytcngcilinlcmeaa.Pure
