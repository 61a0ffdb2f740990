/- Small laws on rounds and on words. -/
import Derived.Test.YtcnicogoccadnaaDoorPx4
namespace Go.Proofs.YtcnicogoccadnaaDoor.Pure
open Go.RowKit Go.Proofs.YtcnicogoccadnaaDoor.P Go.Proofs.YtcnicogoccadnaaDoorW.PrintWords Go.Proofs.YtcnicogoccadnaaDoorW.PrintLast
set_option linter.unusedVariables false
theorem Ev.pos {α : Type} {c : Prop} [Decidable c] {g f : Nat → Option α} {r : α} (h : c) (hg : Ev g r) : Ev (fun k => if c then g k else f k) r := Ev.congr (fun k => if_pos h) hg
theorem Ev.neg {α : Type} {c : Prop} [Decidable c] {g f : Nat → Option α} {r : α} (h : ¬ c) (hg : Ev f r) : Ev (fun k => if c then g k else f k) r := Ev.congr (fun k => if_neg h) hg
theorem w64 {n : Int} (h : -9223372036854775808 ≤ n ∧ n ≤ 9223372036854775807) : wrap64 n = n := IntWalk.wrap64_in n ⟨by omega, by omega⟩
theorem div_le_self' {x y : Int} (hx : 0 ≤ x) (hy : 0 < y) : 0 ≤ x / y ∧ x / y ≤ x := ⟨Int.ediv_nonneg hx (by omega), Int.ediv_le_self _ hx⟩
theorem wdiv {x y : Int} (hx : 0 ≤ x) (hx2 : x ≤ 1099511627776) (hy : 0 < y) : wrap64 (Int.tdiv x y) = x / y := by
  have h := div_le_self' hx hy
  rw [Int.tdiv_eq_ediv_of_nonneg hx]
  exact w64 (by omega)
theorem tmod' {x y : Int} (hx : 0 ≤ x) : Int.tmod x y = x % y := Int.tmod_eq_emod_of_nonneg hx
theorem mod_lt' (x : Int) {y : Int} (hy : 0 < y) : 0 ≤ x % y ∧ x % y < y := ⟨Int.emod_nonneg x (by omega), Int.emod_lt_of_pos x hy⟩
theorem mx_mn (a b : Int) : (mx a b = a ∧ mn a b = b ∧ b ≤ a) ∨ (mx a b = b ∧ mn a b = a ∧ a ≤ b) := by
  unfold mx mn
  split <;> split <;> omega

theorem heapF (a : Int) : wager_heap.f a = some (decide (0 ≤ a ∧ a ≤ 1099511627776)) := by
  unfold wager_heap.f
  by_cases h : a ≥ 0
  · rw [if_pos h]; congr 1; rw [decide_eq_decide]; omega
  · rw [if_neg h]; congr 1; symm; rw [decide_eq_false_iff_not]; omega

end Go.Proofs.YtcnicogoccadnaaDoor.Pure
