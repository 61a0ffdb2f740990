/- Euclid's game in plain Lean: who wins, by the golden ratio and by the quotients. -/
import Derived.Test.YtcngcilinlcmeaaEuc
namespace Go.Proofs.Ytcngcilinlcmeaa.Pure
open Go.RowKit Go.Proofs.Ytcngcilinlcmeaa.P Go.Proofs.YtcngcilinlcmeaaW.PrintWords Go.Proofs.YtcngcilinlcmeaaW.PrintLast
set_option linter.unusedVariables false

theorem W_add {y r : Int} (hy : 0 < y) (h0 : 0 < r) (h : r < y) : W (y + r) y = !W y r := by
  have e1 : (y + r) % y = r := by
    rw [Int.add_emod, Int.emod_self, Int.zero_add, Int.emod_emod_of_dvd _ (Int.dvd_refl y), Int.emod_eq_of_lt (by omega) h]
  have e2 : (y + r) / y = 1 := by
    have h2 := Int.mul_ediv_add_emod (y + r) y
    rw [e1] at h2
    have h3 : y * ((y + r) / y) = y * 1 := by omega
    exact Int.eq_of_mul_eq_mul_left (by omega) h3
  rw [W_pos hy, e1, e2, if_neg (by omega)]
theorem pick_none {x y : Int} (hy : 0 < y) (hx : y ≤ x) : pick x y = none ↔ W x y = false := by
  have e := mod_lt' x hy
  rw [W_pos hy]
  unfold pick
  by_cases h1 : 1 < x / y ∨ x % y = 0
  · rw [if_pos h1]
    constructor
    · intro h
      exfalso
      by_cases hr : x % y = 0
      · rw [if_neg (by omega), if_pos (.inl hr)] at h
        cases h
      · have hq : 1 < x / y := by omega
        have hW := W_add hy (show 0 < x % y by omega) e.2
        cases hw : W y (x % y) with
        | true =>
          rw [hw] at hW
          rw [if_pos ⟨hq, by omega, hW⟩] at h
          cases h
        | false =>
          rw [if_neg (by rw [hW, hw]; simp), if_pos (.inr hw)] at h
          cases h
    · intro h; cases h
  · rw [if_neg h1, if_neg (by omega)]
    cases hw : W y (x % y) with
    | true => simp; omega
    | false => simp
/-- no such square -/
theorem no_gold : ∀ (n : Nat) (y r : Int), y.toNat ≤ n → 0 < r → r < y → y * (y - r) ≠ r * r
  | 0, y, r, hn, h0, h => by omega
  | n + 1, y, r, hn, h0, h => by
    intro he
    obtain ⟨s, rfl⟩ : ∃ s, y = r + s := ⟨y - r, by omega⟩
    rw [show r + s - r = s by omega] at he
    have hs0 : 0 < s := by omega
    have e1 : (r + s) * s = r * s + s * s := Int.add_mul r s s
    have hlt : s < r := by
      rcases Int.lt_or_le s r with h1 | h1
      · exact h1
      · exfalso
        have h2 : r * r ≤ r * s := Int.mul_le_mul_of_nonneg_left h1 (by omega)
        have h3 : 0 < s * s := Int.mul_pos hs0 hs0
        omega
    refine no_gold n r s (by omega) hs0 hlt ?_
    rw [Int.mul_sub]
    omega
theorem gold : ∀ (n : Nat) (x y : Int), y.toNat ≤ n → 0 < y → y ≤ x → (W x y = true ↔ x = y ∨ y * y < x * (x - y))
  | 0, x, y, hn, hy, hx => by omega
  | n + 1, x, y, hn, hy, hx => by
    have e := mod_lt' x hy
    have hdm := Int.mul_ediv_add_emod x y
    have hq1 : 1 ≤ x / y := (Int.le_ediv_iff_mul_le hy).2 (by omega)
    have hyy : 0 < y * y := Int.mul_pos hy hy
    by_cases h1 : 1 < x / y
    · rw [W_pos hy, if_pos (.inl h1)]
      have h2 : y * 2 ≤ y * (x / y) := Int.mul_le_mul_of_nonneg_left (by omega) (by omega)
      have h3 : x * y ≤ x * (x - y) := Int.mul_le_mul_of_nonneg_left (by omega) (by omega)
      have h4 : (2 * y) * y ≤ x * y := Int.mul_le_mul_of_nonneg_right (by omega) (by omega)
      rw [Int.mul_assoc] at h4
      exact ⟨fun _ => .inr (by omega), fun _ => rfl⟩
    · have hq : x / y = 1 := by omega
      rw [hq, Int.mul_one] at hdm
      by_cases hr : x % y = 0
      · rw [W_pos hy, if_pos (.inr hr)]
        exact ⟨fun _ => .inl (by omega), fun _ => rfl⟩
      · rw [W_pos hy, if_neg (by omega)]
        have ih := gold n y (x % y) (by omega) (by omega) (by omega)
        have hne := no_gold y.toNat y (x % y) (Nat.le_refl _) (by omega) e.2
        obtain ⟨r, hr2⟩ : ∃ r, x % y = r := ⟨_, rfl⟩
        rw [hr2] at ih hne hdm e hr ⊢
        obtain rfl : x = y + r := by omega
        rw [show y + r - y = r by omega]
        have e1 : (y + r) * r = y * r + r * r := Int.add_mul y r r
        have e2 : y * (y - r) = y * y - y * r := Int.mul_sub y y r
        constructor
        · intro h
          right
          have h2 : ¬ W y r = true := by intro h3; rw [h3] at h; cases h
          have h3 := mt ih.2 h2
          omega
        · rintro (h | h)
          · omega
          · have h2 : ¬ W y r = true := by
              intro h3
              rcases ih.1 h3 with h4 | h4
              · omega
              · omega
            simpa using h2

/-- the quotients ahead of the first one that is not 1, the last one not counted -/
def onesN : List Int → Nat
  | [] => 0
  | [_] => 0
  | x :: y :: t => if x = 1 then onesN (y :: t) + 1 else 0
theorem quots_ne {x y : Int} (hy : 0 < y) : Ext.quots x y ≠ [] := by rw [Ext.quots_pos hy]; simp
theorem W_ones : ∀ (n : Nat) (x y : Int), y.toNat ≤ n → 0 < y → y ≤ x → W x y = (onesN (Ext.quots x y) % 2 == 0)
  | 0, x, y, hn, hy, hx => by omega
  | n + 1, x, y, hn, hy, hx => by
    have e := mod_lt' x hy
    have hq1 : 1 ≤ x / y := (Int.le_ediv_iff_mul_le hy).2 (by omega)
    rw [W_pos hy, Ext.quots_pos hy]
    by_cases hr : x % y = 0
    · rw [if_pos (.inr hr), Ext.quots_zero (by omega)]
      rfl
    · have ih := W_ones n y (x % y) (by omega) (by omega) (by omega)
      obtain ⟨z, t, hz⟩ := List.exists_cons_of_ne_nil (quots_ne (x := y) (show 0 < x % y by omega))
      rw [hz] at ih ⊢
      by_cases h1 : 1 < x / y
      · rw [if_pos (.inl h1), onesN, if_neg (by omega)]
        rfl
      · rw [if_neg (by omega), onesN, if_pos (by omega), ih]
        rcases Nat.mod_two_eq_zero_or_one (onesN (z :: t)) with h2 | h2
        · rw [h2, show (onesN (z :: t) + 1) % 2 = 1 by omega]
          rfl
        · rw [h2, show (onesN (z :: t) + 1) % 2 = 0 by omega]
          rfl
end Go.Proofs.Ytcngcilinlcmeaa.Pure
