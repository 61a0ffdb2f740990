/- Euclid's game: what wins, Euclid, Steps and their references come to. -/
import Derived.Test.YtcngcilinlcmeaaPx4
namespace Go.Proofs.Ytcngcilinlcmeaa.Pure
open Go.RowKit Go.Proofs.Ytcngcilinlcmeaa.P Go.Proofs.YtcngcilinlcmeaaW.PrintWords Go.Proofs.YtcngcilinlcmeaaW.PrintLast

set_option linter.unusedVariables false

theorem Ev.pos {α : Type} {c : Prop} [Decidable c] {g f : Nat → Option α} {r : α} (h : c) (hg : Ev g r) : Ev (fun k => if c then g k else f k) r := Ev.congr (fun k => if_pos h) hg
theorem Ev.neg {α : Type} {c : Prop} [Decidable c] {g f : Nat → Option α} {r : α} (h : ¬ c) (hg : Ev f r) : Ev (fun k => if c then g k else f k) r := Ev.congr (fun k => if_neg h) hg
theorem w64 {n : Int} (h : -9223372036854775808 ≤ n ∧ n ≤ 9223372036854775807) : wrap64 n = n := IntWalk.wrap64_in n ⟨by omega, by omega⟩
theorem div_le_self' {x y : Int} (hx : 0 ≤ x) (hy : 0 < y) : 0 ≤ x / y ∧ x / y ≤ x := ⟨Int.ediv_nonneg hx (by omega), Int.ediv_le_self _ hx⟩
theorem wdiv {x y : Int} (hx : 0 ≤ x) (hx2 : x ≤ 1099511627776) (hy : 0 < y) : wrap64 (Int.tdiv x y) = x / y := by
  have h := div_le_self' hx hy
  rw [Int.tdiv_eq_ediv_of_nonneg hx]
  exact w64 (by omega)
theorem tmod' {x y : Int} (hx : 0 ≤ x) : Int.tmod x y = x % y := Int.tmod_eq_emod_of_nonneg hx
theorem mod_lt' (x : Int) {y : Int} (hy : 0 < y) : 0 ≤ x % y ∧ x % y < y := ⟨Int.emod_nonneg x (by omega), Int.emod_lt_of_pos x hy⟩
theorem mx_mn (a b : Int) : (mx a b = a ∧ mn a b = b ∧ b ≤ a) ∨ (mx a b = b ∧ mn a b = a ∧ a ≤ b) := by
  unfold mx mn
  split <;> split <;> omega

/-- who is next wins Euclid's game, x at least y -/
def winE : Nat → Int → Int → Bool
  | 0, _, _ => false
  | k + 1, x, y => if y ≤ 0 then false else if 1 < x / y ∨ x % y = 0 then true else !winE k y (x % y)
def W (x y : Int) : Bool := winE (y.toNat + 1) x y
theorem winE_stable : ∀ (k m : Nat) (x y : Int), y.toNat < k → y.toNat < m → winE k x y = winE m x y
  | 0, _, _, _, h, _ => absurd h (Nat.not_lt_zero _)
  | _ + 1, 0, _, _, _, h => absurd h (Nat.not_lt_zero _)
  | k + 1, m + 1, x, y, h1, h2 => by
    unfold winE
    by_cases hy : y ≤ 0
    · rw [if_pos hy, if_pos hy]
    · have e := mod_lt' x (show 0 < y by omega)
      rw [if_neg hy, if_neg hy, winE_stable k m y (x % y) (by omega) (by omega)]
theorem W_zero {x y : Int} (hy : y ≤ 0) : W x y = false := by unfold W winE; rw [if_pos hy]
theorem W_pos {x y : Int} (hy : 0 < y) : W x y = if 1 < x / y ∨ x % y = 0 then true else !W y (x % y) := by
  have e := mod_lt' x hy
  unfold W
  conv => lhs; unfold winE
  rw [if_neg (by omega), winE_stable y.toNat ((x % y).toNat + 1) y (x % y) (by omega) (by omega)]

theorem wins_ev : ∀ (n : Nat) (x y : Int), y.toNat ≤ n → 0 ≤ y → 0 ≤ x → x ≤ 1099511627776 → y ≤ 1099511627776 → Ev (fun k => wager_heaps_wins.f k x y) (W x y)
  | n, x, y, hn, hy, hx, hx2, hy2 => by
    by_cases h0 : y = 0
    · subst h0
      rw [W_zero (Int.le_refl 0)]
      exact Ev.step (f := fun _ => some false) (fun k => by simp only [wager_heaps_wins.f, if_true]) (Ev.now _)
    · have hy0 : 0 < y := by omega
      have e := mod_lt' x hy0
      by_cases h1 : 1 < x / y ∨ x % y = 0
      · rw [W_pos hy0, if_pos h1]
        refine Ev.step (f := fun _ => some true) (fun k => ?_) (Ev.now _)
        simp only [wager_heaps_wins.f]
        rw [if_neg h0, wdiv hx hx2 hy0, tmod' hx]
        by_cases h2 : x / y > 1
        · rw [if_pos h2]
        · rw [if_neg h2, if_pos (by omega)]
      · rw [W_pos hy0, if_neg h1]
        cases n with
        | zero => omega
        | succ n =>
          have ih := wins_ev n y (x % y) (by omega) (by omega) (by omega) (by omega) (by omega)
          refine Ev.step (f := fun k => (wager_heaps_wins.f k y (x % y)).bind fun t => some (!t)) (fun k => ?_) (Ev.bind ih (Ev.now _))
          simp only [wager_heaps_wins.f]
          rw [if_neg h0, wdiv hx hx2 hy0, tmod' hx, if_neg (by omega), if_neg (by omega)]

theorem good_ev : ∀ (n : Nat) (x y : Int), y.toNat ≤ n → 0 < y → y ≤ x → x ≤ 1099511627776 → Ev (fun k => drovewayref07_good.f k x y) (W x y)
  | n, x, y, hn, hy, hx, hx2 => by
    have e := mod_lt' x hy
    have hdm := Int.mul_ediv_add_emod x y
    by_cases h0 : x = y
    · subst h0
      rw [W_pos hy, if_pos (.inr (Int.emod_self))]
      exact Ev.step (f := fun _ => some true) (fun k => by simp only [drovewayref07_good.f, if_true]) (Ev.now _)
    · by_cases h1 : 1 < x / y
      · rw [W_pos hy, if_pos (.inl h1)]
        refine Ev.step (f := fun _ => some true) (fun k => ?_) (Ev.now _)
        simp only [drovewayref07_good.f]
        rw [if_neg h0, if_neg (by omega), wdiv (by omega) hx2 hy, if_pos (by omega)]
      · have hq : x / y = 1 := by
          have : 1 ≤ x / y := (Int.le_ediv_iff_mul_le hy).2 (by omega)
          omega
        have hr : x % y = x - y := by rw [hq] at hdm; omega
        rw [W_pos hy, if_neg (by omega), hr]
        cases n with
        | zero => omega
        | succ n =>
          have ih := good_ev n y (x - y) (by omega) (by omega) (by omega) (by omega)
          refine Ev.step (f := fun k => (drovewayref07_good.f k y (x - y)).bind fun t => some (!t)) (fun k => ?_) (Ev.bind ih (Ev.now _))
          simp only [drovewayref07_good.f]
          rw [if_neg h0, if_neg (by omega), wdiv (by omega) hx2 hy, if_neg (by omega), w64 (by omega)]

/-- what the greater heap becomes; none: nobody wins -/
def pick (x y : Int) : Option Int :=
  if 1 < x / y ∧ 0 < x % y ∧ W (y + x % y) y = false then some (y + x % y)
  else if x % y = 0 ∨ W y (x % y) = false then some (x % y) else none
def euclS (a b : Int) : Int × Int × Int :=
  if ¬ (0 ≤ a ∧ a ≤ 1099511627776 ∧ 0 ≤ b ∧ b ≤ 1099511627776) then (0, 0, 2)
  else if a = 0 ∨ b = 0 then (0, 0, 10)
  else if a = b then (a, 0, 0)
  else match pick (mx a b) (mn a b) with
    | none => (0, 0, 10)
    | some r => if b < a then (r, b, 0) else (a, r, 0)

theorem heapF (a : Int) : wager_heap.f a = some (decide (0 ≤ a ∧ a ≤ 1099511627776)) := by
  unfold wager_heap.f
  by_cases h : a ≥ 0
  · rw [if_pos h]; congr 1; rw [decide_eq_decide]; omega
  · rw [if_neg h]; congr 1; symm; rw [decide_eq_false_iff_not]; omega

/-- Euclid of the program -/
theorem eucl_ev (a b : Int) : Ev (fun k => wager_Euclid.f k a b) (euclS a b) := by
  unfold wager_Euclid.f
  rw [heapF, heapF]
  simp only [Option.bind_some]
  by_cases ha : 0 ≤ a ∧ a ≤ 1099511627776
  · refine Ev.pos (decide_eq_true ha) ?_
    by_cases hb : 0 ≤ b ∧ b ≤ 1099511627776
    · rw [decide_eq_true hb]
      obtain ⟨x, hx⟩ : ∃ x, x = mx a b := ⟨_, rfl⟩
      obtain ⟨y, hy⟩ : ∃ y, y = mn a b := ⟨_, rfl⟩
      have hab := mx_mn a b
      rw [← hx, ← hy] at hab
      have hW := wins_ev y.toNat x y (Nat.le_refl _) (by omega) (by omega) (by omega) (by omega)
      have e0 : ¬ ¬ (0 ≤ a ∧ a ≤ 1099511627776 ∧ 0 ≤ b ∧ b ≤ 1099511627776) := by omega
      unfold euclS
      rw [if_neg e0, ← hx, ← hy]
      refine Ev.step (f := fun k => (wager_heaps_ordered.f a b).bind fun bt107 => ((wager_heaps_wins.f k bt107.1 bt107.2).bind fun t110 => (if t110 = true then (if bt107.2 = 0 then (none) else (if (Int.tmod bt107.1 bt107.2) > 0 then (if bt107.1 > (wrap64 (bt107.2 + (Int.tmod bt107.1 bt107.2))) then ((wager_heaps_wins.f k (wrap64 (bt107.2 + (Int.tmod bt107.1 bt107.2))) bt107.2).bind fun t112 => (wager_Euclid.j1 k a b (Int.tmod bt107.1 bt107.2) (!t112) bt107.1 bt107.2)) else (wager_Euclid.j1 k a b (Int.tmod bt107.1 bt107.2) false bt107.1 bt107.2)) else (wager_Euclid.j1 k a b (Int.tmod bt107.1 bt107.2) false bt107.1 bt107.2))) else (some (0, 0, 10))))) (fun k => ?_) ?_
      · simp only [wager_Euclid.j0, Bool.not_true, Bool.false_eq_true, if_false]
      unfold wager_heaps_ordered.f
      simp only [Option.bind_some, ← hx, ← hy]
      refine Ev.bind hW ?_
      by_cases hy0 : y = 0
      · rw [W_zero (by omega)]
        rw [if_pos (by omega)]
        exact Ev.neg (by decide) (Ev.now _)
      · have hyp : 0 < y := by omega
        have e := mod_lt' x hyp
        have hdm := Int.mul_ediv_add_emod x y
        have hq1 : 1 ≤ x / y := (Int.le_ediv_iff_mul_le hyp).2 (by omega)
        rw [if_neg (show ¬ (a = 0 ∨ b = 0) by omega)]
        -- what is left over
        have fin0 : ∀ (res : Int) (kx : Bool), Ev (fun k => wager_Euclid.j1 k a b res kx x y) (if kx = true then (if a = b then (a, wrap64 (res + y), 0) else if b < a then (wrap64 (res + y), b, 0) else (a, wrap64 (res + y), 0)) else (if a = b then (a, res, 0) else if b < a then (res, b, 0) else (a, res, 0))) := by
          intro res kx
          refine Ev.step (f := fun _ => some (if kx = true then (if a = b then (a, wrap64 (res + y), 0) else if b < a then (wrap64 (res + y), b, 0) else (a, wrap64 (res + y), 0)) else (if a = b then (a, res, 0) else if b < a then (res, b, 0) else (a, res, 0)))) (fun k => ?_) (Ev.now _)
          simp only [wager_Euclid.j1]
          have hs : (x == a && (y == b)) = true ↔ b ≤ a := by
            rw [Bool.and_eq_true, beq_iff_eq, beq_iff_eq]
            omega
          by_cases h1 : kx = true
          · rw [if_pos h1, if_pos h1]
            by_cases h2 : a = b
            · rw [if_pos h2, if_pos h2]
            · rw [if_neg h2, if_neg h2]
              by_cases h3 : b < a
              · rw [if_pos h3, if_pos (hs.2 (by omega))]
              · rw [if_neg h3, if_neg (fun h => h3 (by have := hs.1 h; omega))]
          · rw [if_neg h1, if_neg h1]
            by_cases h2 : a = b
            · rw [if_pos h2, if_pos h2]
            · rw [if_neg h2, if_neg h2]
              by_cases h3 : b < a
              · rw [if_pos h3, if_pos (hs.2 (by omega))]
              · rw [if_neg h3, if_neg (fun h => h3 (by have := hs.1 h; omega))]
        rw [tmod' (show 0 ≤ x by omega), w64 (n := y + x % y) (by omega)]
        cases hw : W x y with
        | false =>
          refine Ev.neg (by decide) ?_
          have hww := hw
          rw [W_pos hyp] at hww
          have hn : ¬ (1 < x / y ∨ x % y = 0) := by
            intro h
            rw [if_pos h] at hww
            cases hww
          rw [if_neg hn] at hww
          have hne : a ≠ b := by
            rintro rfl
            apply hn
            right
            obtain rfl : x = y := by omega
            exact Int.emod_self
          have hp : pick x y = none := by
            unfold pick
            rw [if_neg (fun h => hn (.inl h.1)), if_neg]
            rintro (h | h)
            · exact hn (.inr h)
            · rw [h] at hww; cases hww
          rw [if_neg hne, hp]
          exact Ev.now _
        | true =>
          refine Ev.pos rfl (Ev.neg hy0 ?_)
          by_cases hr0 : x % y = 0
          · refine Ev.neg (by omega) ?_
            have h2 := fin0 (x % y) false
            rw [if_neg (by decide)] at h2
            have hp : pick x y = some (x % y) := by unfold pick; rw [if_neg (by omega), if_pos (.inl hr0)]
            rw [hp]
            by_cases hab2 : a = b
            · rw [if_pos hab2] at h2 ⊢
              rw [hr0] at h2
              rw [hr0]
              exact h2
            · rw [if_neg hab2] at h2 ⊢
              exact h2
          · have hrp : x % y > 0 := by omega
            have hne : a ≠ b := by
              rintro rfl
              apply hr0
              obtain rfl : x = y := by omega
              exact Int.emod_self
            refine Ev.pos hrp ?_
            rw [if_neg hne]
            by_cases hxr : x > y + x % y
            · refine Ev.pos hxr ?_
              have hq2 : 1 < x / y := by
                rcases Int.lt_or_le 1 (x / y) with h | h
                · exact h
                · have : x / y = 1 := by omega
                  rw [this] at hdm
                  omega
              have hW2 := wins_ev y.toNat (y + x % y) y (Nat.le_refl _) (by omega) (by omega) (by omega) (by omega)
              refine Ev.bind hW2 ?_
              have h2 := fin0 (x % y) (!W (y + x % y) y)
              rw [if_neg hne, if_neg hne] at h2
              refine Ev.congr (fun k => rfl) ?_
              cases hw2 : W (y + x % y) y with
              | false =>
                have hp : pick x y = some (y + x % y) := by unfold pick; rw [if_pos ⟨hq2, hrp, hw2⟩]
                rw [hw2] at h2
                rw [if_pos (by rfl), w64 (by omega), Int.add_comm (x % y) y] at h2
                rw [hp]
                exact h2
              | true =>
                have hww := hw2
                rw [W_pos hyp] at hww
                have e1 : (y + x % y) % y = x % y := by
                  rw [Int.add_emod, Int.emod_self, Int.zero_add, Int.emod_emod_of_dvd _ (Int.dvd_refl y), Int.emod_emod_of_dvd _ (Int.dvd_refl y)]
                have e2 : (y + x % y) / y = 1 := by
                  have := Int.mul_ediv_add_emod (y + x % y) y
                  rw [e1] at this
                  have h3 : y * ((y + x % y) / y) = y * 1 := by omega
                  exact Int.eq_of_mul_eq_mul_left (by omega) h3
                rw [e1, e2, if_neg (by omega)] at hww
                have hww2 : W y (x % y) = false := by simpa using hww
                have hp : pick x y = some (x % y) := by unfold pick; rw [if_neg (fun h => by rw [h.2.2] at hw2; cases hw2), if_pos (.inr hww2)]
                rw [hw2] at h2
                rw [if_neg (by decide)] at h2
                rw [hp]
                exact h2
            · refine Ev.neg hxr ?_
              have hq2 : ¬ 1 < x / y := by
                intro h
                have : y * 2 ≤ y * (x / y) := Int.mul_le_mul_of_nonneg_left (by omega) (by omega)
                omega
              have h2 := fin0 (x % y) false
              rw [if_neg (by decide), if_neg hne] at h2
              have hww := hw
              rw [W_pos hyp, if_neg (by omega)] at hww
              have hww2 : W y (x % y) = false := by simpa using hww
              have hp : pick x y = some (x % y) := by unfold pick; rw [if_neg (fun h => hq2 h.1), if_pos (.inr hww2)]
              rw [hp]
              exact h2
    · rw [decide_eq_false hb]
      unfold euclS
      rw [if_pos (by omega)]
      refine Ev.step (f := fun _ => some (0, 0, 2)) (fun k => ?_) (Ev.now _)
      simp only [wager_Euclid.j0, Bool.not_false, if_true]
  · refine Ev.neg (by simpa using ha) ?_
    unfold euclS
    rw [if_pos (by omega)]
    refine Ev.step (f := fun _ => some (0, 0, 2)) (fun k => ?_) (Ev.now _)
    simp only [wager_Euclid.j0, if_true]

/-- Euclid of the specification -/
theorem reucl_ev (a b : Int) : Ev (fun k => drovewayref07_Euclid.f k a b) (euclS a b) := by
  have bad : ¬ (0 ≤ a ∧ a ≤ 1099511627776 ∧ 0 ≤ b ∧ b ≤ 1099511627776) → Ev (fun k => drovewayref07_Euclid.j0 k a b true) (euclS a b) := by
    intro h
    unfold euclS
    rw [if_pos h]
    exact Ev.step (f := fun _ => some (0, 0, 2)) (fun k => by simp only [drovewayref07_Euclid.j0, if_true]) (Ev.now _)
  unfold drovewayref07_Euclid.f
  by_cases h1 : a < 0
  · exact Ev.pos h1 (bad (by omega))
  refine Ev.neg h1 ?_
  by_cases h2 : a > 1099511627776
  · exact Ev.pos h2 (bad (by omega))
  refine Ev.neg h2 ?_
  by_cases h3 : b < 0
  · exact Ev.pos h3 (bad (by omega))
  refine Ev.neg h3 ?_
  by_cases h4 : b > 1099511627776
  · rw [decide_eq_true h4]
    exact bad (by omega)
  rw [decide_eq_false h4]
  have e0 : ¬ ¬ (0 ≤ a ∧ a ≤ 1099511627776 ∧ 0 ≤ b ∧ b ≤ 1099511627776) := by omega
  unfold euclS
  rw [if_neg e0]
  refine Ev.step (f := fun k => if a = 0 then (drovewayref07_Euclid.j1 k a b true) else (drovewayref07_Euclid.j1 k a b (b == 0))) (fun k => by simp only [drovewayref07_Euclid.j0, Bool.false_eq_true, if_false]) ?_
  have zero : (a = 0 ∨ b = 0) → Ev (fun k => drovewayref07_Euclid.j1 k a b true) (if a = 0 ∨ b = 0 then (0, 0, 10) else if a = b then (a, 0, 0) else match pick (mx a b) (mn a b) with | none => (0, 0, 10) | some r => if b < a then (r, b, 0) else (a, r, 0)) := by
    intro h
    rw [if_pos h]
    exact Ev.step (f := fun _ => some (0, 0, 10)) (fun k => by simp only [drovewayref07_Euclid.j1, if_true]) (Ev.now _)
  by_cases ha0 : a = 0
  · exact Ev.pos ha0 (zero (.inl ha0))
  refine Ev.neg ha0 ?_
  by_cases hb0 : b = 0
  · rw [show (b == 0) = true from by rw [beq_iff_eq]; exact hb0]
    exact zero (.inr hb0)
  rw [show (b == 0) = false from by rw [beq_eq_false_iff_ne]; exact hb0]
  rw [if_neg (by omega)]
  obtain ⟨x, hx⟩ : ∃ x, x = mx a b := ⟨_, rfl⟩
  obtain ⟨y, hy⟩ : ∃ y, y = mn a b := ⟨_, rfl⟩
  have hab := mx_mn a b
  rw [← hx, ← hy] at hab
  refine Ev.step (f := fun k => if a = b then some (a, 0, 0) else if y = 0 then none else drovewayref07_Euclid.l0 k a b x y (mx 1 (wrap64 ((wrap64 (Int.tdiv x y)) - 1)))) (fun k => by simp only [drovewayref07_Euclid.j1, Bool.false_eq_true, if_false, ← hx, ← hy]) ?_
  by_cases heq : a = b
  · rw [if_pos heq]
    exact Ev.pos heq (Ev.now _)
  rw [if_neg heq, ← hx, ← hy]
  refine Ev.neg heq (Ev.neg (by omega) ?_)
  have hyp : 0 < y := by omega
  have e := mod_lt' x hyp
  have hdm := Int.mul_ediv_add_emod x y
  have hq1 : 1 ≤ x / y := (Int.le_ediv_iff_mul_le hyp).2 (by omega)
  have hqx := div_le_self' (show 0 ≤ x by omega) hyp
  rw [wdiv (by omega) (by omega) hyp, w64 (n := x / y - 1) (by omega)]
  -- the end of a round
  have j3t : ∀ (kk rest : Int), Ev (fun k => drovewayref07_Euclid.j3 k a b x y kk rest true) (if b < a then (rest, b, 0) else (a, rest, 0)) := by
    intro kk rest
    refine Ev.step (f := fun _ => some (if b < a then (rest, b, 0) else (a, rest, 0))) (fun k => ?_) (Ev.now _)
    simp only [drovewayref07_Euclid.j3, if_true]
    by_cases h : a > b
    · rw [if_pos h, if_pos h]
    · rw [if_neg h, if_neg h]
  -- behind the last round
  have last : Ev (fun k => drovewayref07_Euclid.l0 k a b x y (x / y + 1)) (0, 0, 10) := by
    refine Ev.step (f := fun _ => some (0, 0, 10)) (fun k => ?_) (Ev.now _)
    simp only [drovewayref07_Euclid.l0]
    rw [if_neg (by omega), wdiv (by omega) (by omega) hyp, if_neg (by omega)]
  -- the round with the quotient
  have hmul : ∀ q : Int, 0 ≤ q → q ≤ x / y → 0 ≤ q * y ∧ q * y ≤ x := by
    intro q h0 h1
    have h2 : y * q ≤ y * (x / y) := Int.mul_le_mul_of_nonneg_left h1 (by omega)
    have h3 : 0 ≤ q * y := Int.mul_nonneg h0 (by omega)
    rw [Int.mul_comm] at h2
    exact ⟨h3, by omega⟩
  have r0 : x - x / y * y = x % y := by rw [Int.mul_comm]; omega
  have round0 : Ev (fun k => drovewayref07_Euclid.l0 k a b x y (x / y)) (match (if x % y = 0 ∨ W y (x % y) = false then some (x % y) else none) with | none => (0, 0, 10) | some r => if b < a then (r, b, 0) else (a, r, 0)) := by
    have hm := hmul (x / y) (by omega) (Int.le_refl _)
    refine Ev.step (f := fun k => if x % y = 0 then drovewayref07_Euclid.j3 k a b x y (x / y) (x % y) true else if x % y = y then drovewayref07_Euclid.j3 k a b x y (x / y) (x % y) false else (drovewayref07_good.f k (mx (x % y) y) (mn (x % y) y)).bind fun t => drovewayref07_Euclid.j3 k a b x y (x / y) (x % y) (!t)) (fun k => ?_) ?_
    · simp only [drovewayref07_Euclid.l0]
      rw [if_neg (by omega), wdiv (by omega) (by omega) hyp, if_pos (Int.le_refl _), w64 (n := x / y * y) (by omega), r0, w64 (n := x % y) (by omega)]
    by_cases hr0 : x % y = 0
    · rw [if_pos (.inl hr0)]
      exact Ev.pos hr0 (j3t _ _)
    · refine Ev.neg hr0 (Ev.neg (by omega) ?_)
      have hmm : mx (x % y) y = y ∧ mn (x % y) y = x % y := by have := mx_mn (x % y) y; omega
      rw [hmm.1, hmm.2]
      refine Ev.bind (good_ev (x % y).toNat y (x % y) (Nat.le_refl _) (by omega) (by omega) (by omega)) ?_
      cases hw : W y (x % y) with
      | false =>
        rw [if_pos (.inr rfl)]
        exact j3t _ _
      | true =>
        rw [if_neg (by simp [hr0])]
        refine Ev.step (f := fun k => drovewayref07_Euclid.l0 k a b x y (x / y + 1)) (fun k => ?_) last
        simp only [drovewayref07_Euclid.j3, Bool.not_true, Bool.false_eq_true, if_false]
        rw [w64 (by omega)]
  by_cases hq2 : 1 < x / y
  · have hmx : mx 1 (x / y - 1) = x / y - 1 := by have := mx_mn 1 (x / y - 1); omega
    rw [hmx]
    have hm := hmul (x / y - 1) (by omega) (by omega)
    have r1 : x - (x / y - 1) * y = y + x % y := by rw [Int.sub_mul, Int.one_mul]; omega
    refine Ev.step (f := fun k => if y + x % y = y then drovewayref07_Euclid.j3 k a b x y (x / y - 1) (y + x % y) false else (drovewayref07_good.f k (mx (y + x % y) y) (mn (y + x % y) y)).bind fun t => drovewayref07_Euclid.j3 k a b x y (x / y - 1) (y + x % y) (!t)) (fun k => ?_) ?_
    · simp only [drovewayref07_Euclid.l0]
      rw [if_neg (by omega), wdiv (by omega) (by omega) hyp, if_pos (by omega), w64 (n := (x / y - 1) * y) (by omega), r1, w64 (n := y + x % y) (by omega), if_neg (by omega)]
    have nextr : Ev (fun k => drovewayref07_Euclid.j3 k a b x y (x / y - 1) (y + x % y) false) (match (if x % y = 0 ∨ W y (x % y) = false then some (x % y) else none) with | none => (0, 0, 10) | some r => if b < a then (r, b, 0) else (a, r, 0)) := by
      refine Ev.step (f := fun k => drovewayref07_Euclid.l0 k a b x y (x / y)) (fun k => ?_) round0
      simp only [drovewayref07_Euclid.j3, Bool.false_eq_true, if_false]
      rw [w64 (by omega), show x / y - 1 + 1 = x / y by omega]
    by_cases hr0 : x % y = 0
    · have hp : pick x y = (if x % y = 0 ∨ W y (x % y) = false then some (x % y) else none) := by unfold pick; rw [if_neg (by omega)]
      rw [hp]
      exact Ev.pos (by omega) nextr
    · refine Ev.neg (by omega) ?_
      have hmm : mx (y + x % y) y = y + x % y ∧ mn (y + x % y) y = y := by have := mx_mn (y + x % y) y; omega
      rw [hmm.1, hmm.2]
      refine Ev.bind (good_ev y.toNat (y + x % y) y (Nat.le_refl _) (by omega) (by omega) (by omega)) ?_
      cases hw : W (y + x % y) y with
      | false =>
        have hp : pick x y = some (y + x % y) := by unfold pick; rw [if_pos ⟨hq2, by omega, hw⟩]
        rw [hp]
        exact j3t _ _
      | true =>
        have hp : pick x y = (if x % y = 0 ∨ W y (x % y) = false then some (x % y) else none) := by unfold pick; rw [if_neg (by rw [hw]; simp)]
        rw [hp]
        exact nextr
  · have hmx : mx 1 (x / y - 1) = x / y := by have := mx_mn 1 (x / y - 1); omega
    rw [hmx]
    have hp : pick x y = (if x % y = 0 ∨ W y (x % y) = false then some (x % y) else none) := by unfold pick; rw [if_neg (by omega)]
    rw [hp]
    exact round0

/-- Steps of the specification -/
theorem rsteps_l : ∀ (n : Nat) (x y : Int) (l : List Int), y.toNat ≤ n → 0 ≤ y → 0 ≤ x → x ≤ 1099511627776 → y ≤ 1099511627776 → l.length + n ≤ 1099511627790 → Ev (fun k => drovewayref07_Steps.l0 k x y l) (l ++ Ext.quots x y, 0)
  | n, x, y, l, hn, hy, hx, hx2, hy2, hl => by
    by_cases h0 : y > 0
    · have e := mod_lt' x h0
      rw [Ext.quots_pos h0]
      cases n with
      | zero => omega
      | succ n =>
        have ih := rsteps_l n y (x % y) (l ++ [x / y]) (by omega) (by omega) (by omega) (by omega) (by omega) (by rw [List.length_append, List.length_singleton]; omega)
        rw [List.append_assoc, List.singleton_append] at ih
        refine Ev.step (f := fun k => drovewayref07_Steps.l0 k y (x % y) (l ++ [x / y])) (fun k => ?_) ih
        simp only [drovewayref07_Steps.l0]
        rw [if_pos h0, if_neg (by omega), if_pos (by omega), tmod' hx, wdiv hx hx2 h0]
    · rw [Ext.quots_zero h0, List.append_nil]
      refine Ev.step (f := fun _ => some (l, 0)) (fun k => ?_) (Ev.now _)
      simp only [drovewayref07_Steps.l0]
      rw [if_neg h0]
theorem stepsL_in {a b : Int} (h : 0 ≤ a ∧ a ≤ 1099511627776 ∧ 0 ≤ b ∧ b ≤ 1099511627776) : Ext.stepsL a b = (Ext.quots (mx a b) (mn a b), 0) := by
  unfold Ext.stepsL Ext.heapB
  rw [if_pos]
  exact ⟨decide_eq_true (by omega), decide_eq_true (by omega)⟩
theorem stepsL_out {a b : Int} (h : ¬ (0 ≤ a ∧ a ≤ 1099511627776 ∧ 0 ≤ b ∧ b ≤ 1099511627776)) : Ext.stepsL a b = ([], 2) := by
  unfold Ext.stepsL Ext.heapB
  rw [if_neg]
  intro h2
  have h3 := of_decide_eq_true h2.1
  have h4 := of_decide_eq_true h2.2
  omega
theorem rsteps_ev (a b : Int) : Ev (fun k => drovewayref07_Steps.f k a b) (Ext.stepsL a b) := by
  have bad : ¬ (0 ≤ a ∧ a ≤ 1099511627776 ∧ 0 ≤ b ∧ b ≤ 1099511627776) → Ev (fun k => drovewayref07_Steps.j0 k a b true) (Ext.stepsL a b) := by
    intro h
    rw [stepsL_out h]
    exact Ev.step (f := fun _ => some ([], 2)) (fun k => by simp only [drovewayref07_Steps.j0, if_true]) (Ev.now _)
  unfold drovewayref07_Steps.f
  by_cases h1 : a < 0
  · exact Ev.pos h1 (bad (by omega))
  refine Ev.neg h1 ?_
  by_cases h2 : a > 1099511627776
  · exact Ev.pos h2 (bad (by omega))
  refine Ev.neg h2 ?_
  by_cases h3 : b < 0
  · exact Ev.pos h3 (bad (by omega))
  refine Ev.neg h3 ?_
  by_cases h4 : b > 1099511627776
  · rw [decide_eq_true h4]
    exact bad (by omega)
  rw [decide_eq_false h4, stepsL_in (by omega)]
  have hab := mx_mn a b
  refine Ev.step (f := fun k => drovewayref07_Steps.l0 k (mx a b) (mn a b) ([] : List Int)) (fun k => by simp only [drovewayref07_Steps.j0, Bool.false_eq_true, if_false]) ?_
  exact rsteps_l (mn a b).toNat (mx a b) (mn a b) [] (Nat.le_refl _) (by omega) (by omega) (by omega) (by omega) (by simp only [List.length_nil]; omega)

/-- same tells whether two lists are the same -/
theorem same_l : ∀ (n i : Nat) (a b : List Int), a.length = b.length → a.length ≤ 4611686018427387904 → i + n = a.length → Ev (fun k => drovewaylaw07_same.l0 k a b (i : Int)) (decide (a.drop i = b.drop i))
  | 0, i, a, b, hl, hb, hi => by
    rw [List.drop_eq_nil_of_le (by omega), List.drop_eq_nil_of_le (by omega)]
    refine Ev.step (f := fun _ => some true) (fun k => ?_) (Ev.now _)
    simp only [drovewaylaw07_same.l0]
    rw [if_neg (by omega)]
  | n + 1, i, a, b, hl, hb, hi => by
    have ha : i < a.length := by omega
    have hb2 : i < b.length := by omega
    have e1 : rd a (i : Int) = a[i] := by simp [rd, List.getD_eq_getElem?_getD, List.getElem?_eq_getElem ha]
    have e2 : rd b (i : Int) = b[i] := by simp [rd, List.getD_eq_getElem?_getD, List.getElem?_eq_getElem hb2]
    rw [List.drop_eq_getElem_cons ha, List.drop_eq_getElem_cons hb2]
    refine Ev.step (f := fun k => if a[i] = b[i] then drovewaylaw07_same.l0 k a b ((i + 1 : Nat) : Int) else some false) (fun k => ?_) ?_
    · simp only [drovewaylaw07_same.l0]
      rw [if_pos (by omega), if_pos (by omega), if_pos (by omega), e1, e2, w64 (by omega)]
      rfl
    by_cases h : a[i] = b[i]
    · refine Ev.pos h ?_
      have ih := same_l n (i + 1) a b hl hb (by omega)
      have hd : decide (a[i] :: a.drop (i + 1) = b[i] :: b.drop (i + 1)) = decide (a.drop (i + 1) = b.drop (i + 1)) := decide_eq_decide.2 ⟨fun h2 => by injection h2, fun h2 => by rw [h, h2]⟩
      rw [hd]
      exact ih
    · rw [decide_eq_false (by intro h2; injection h2 with h2; exact h h2)]
      exact Ev.neg h (Ev.now _)
theorem same_ev (a b : List Int) (hb : a.length ≤ 4611686018427387904) : Ev (fun k => drovewaylaw07_same.f k a b) (decide (a = b)) := by
  unfold drovewaylaw07_same.f
  by_cases h : (a.length : Int) = (b.length : Int)
  · refine Ev.pos h ?_
    exact same_l a.length 0 a b (by omega) hb (by omega)
  · rw [decide_eq_false (by rintro rfl; exact h rfl)]
    exact Ev.neg h (Ev.now _)
theorem quots_short {x y : Int} (hy : y ≤ 1099511627776) : (Ext.quots x y).length ≤ 1099511627777 := by
  have := Ext.quots_len (y.toNat + 1) x y
  unfold Ext.quots
  omega
end Go.Proofs.Ytcngcilinlcmeaa.Pure
