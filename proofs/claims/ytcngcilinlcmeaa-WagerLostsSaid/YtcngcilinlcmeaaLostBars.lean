/- The bars that Lost goes through, in plain Lean: which they are, and that they are few. -/
import Derived.Test.YtcngcilinlcmeaaSpec
namespace Go.Proofs.Ytcngcilinlcmeaa.Ext
open Go.Proofs.YtcngcilinlcmeaaW.PrintWords Go.Proofs.YtcngcilinlcmeaaW.PrintLast Go.Proofs.YtcngcilinlcmeaaW.PrintMore
set_option linter.unusedVariables false

/-- each at most the one before it, the first at most b -/
def Desc : Int → List Int → Prop
  | _, [] => True
  | b, x :: xs => 0 ≤ x ∧ x ≤ b ∧ Desc x xs
theorem mem_bars : ∀ (n : Nat) (b : Int) (pre l : List Int), l ∈ barsFrom n b pre ↔ ∃ s, l = pre ++ s ∧ s.length = n ∧ Desc b s
  | 0, b, pre, l => by
    rw [barsFrom, List.mem_singleton]
    constructor
    · rintro rfl; exact ⟨[], by simp, rfl, trivial⟩
    · rintro ⟨s, rfl, hs, _⟩
      rw [List.length_eq_zero_iff.1 hs, List.append_nil]
  | n + 1, b, pre, l => by
    rw [barsFrom, List.mem_flatMap]
    constructor
    · rintro ⟨x, hx, h⟩
      rw [List.mem_range] at hx
      obtain ⟨s, hl, hs, hd⟩ := (mem_bars n (x : Int) (pre ++ [(x : Int)]) l).1 h
      exact ⟨(x : Int) :: s, by rw [hl]; simp, by simp [hs], by omega, by omega, hd⟩
    · rintro ⟨s, hl, hs, hd⟩
      match s, hs, hd with
      | x :: s, hs, hd =>
        refine ⟨x.toNat, List.mem_range.2 (by have := hd.1; have := hd.2.1; omega), ?_⟩
        have hx : ((x.toNat : Nat) : Int) = x := by have := hd.1; omega
        rw [hx]
        exact (mem_bars n x (pre ++ [x]) l).2 ⟨s, by rw [hl]; simp, by simpa using hs, hd.2.2⟩
theorem flat_len {α β : Type} (f : α → List β) (m : Nat) : ∀ (l : List α), (∀ x ∈ l, (f x).length ≤ m) → (l.flatMap f).length ≤ l.length * m
  | [], _ => by simp
  | x :: l, h => by
    have h1 := h x (by simp)
    have h2 := flat_len f m l (fun y hy => h y (by simp [hy]))
    rw [List.flatMap_cons, List.length_append, List.length_cons, Nat.add_mul, Nat.one_mul]
    omega
theorem bars_few : ∀ (n : Nat) (b : Int) (pre : List Int), b ≤ 7 → (barsFrom n b pre).length ≤ 8 ^ n
  | 0, b, pre, h => by simp [barsFrom]
  | n + 1, b, pre, h => by
    rw [barsFrom]
    have h1 := flat_len (fun (x : Nat) => barsFrom n (x : Int) (pre ++ [(x : Int)])) (8 ^ n) (List.range (b + 1).toNat) (fun x hx => by
      rw [List.mem_range] at hx
      exact bars_few n (x : Int) _ (by omega))
    rw [List.length_range] at h1
    have h2 : (b + 1).toNat * 8 ^ n ≤ 8 * 8 ^ n := Nat.mul_le_mul_right _ (by omega)
    rw [Nat.pow_succ, Nat.mul_comm (8 ^ n) 8]
    omega
theorem okTo_tail {x : Int} {xs : List Int} (h : okTo (x :: xs) (xs.length + 1)) : okTo xs xs.length := by
  intro i hi
  have h1 := h (i + 1) (by omega)
  have e1 : rd (x :: xs) ((i + 1 : Nat) : Int) = rd xs (i : Int) := by
    unfold rd
    rw [show ((i + 1 : Nat) : Int).toNat = i + 1 by omega, show (i : Int).toNat = i by omega]
    rfl
  rw [e1] at h1
  refine ⟨h1.1, h1.2.1, ?_⟩
  intro h0
  have h2 := h1.2.2 (by omega)
  obtain ⟨j, rfl⟩ : ∃ j, i = j + 1 := ⟨i - 1, by omega⟩
  have e2 : rd (x :: xs) (((j + 1 + 1 : Nat) : Int) - 1) = rd xs (((j + 1 : Nat) : Int) - 1) := by
    unfold rd
    rw [show (((j + 1 + 1 : Nat) : Int) - 1).toNat = j + 1 by omega, show (((j + 1 : Nat) : Int) - 1).toNat = j by omega]
    rfl
  rw [e2] at h2
  exact h2
theorem desc_of : ∀ (l : List Int) (b : Int), okTo l l.length → rd l 0 ≤ b → Desc b l
  | [], b, _, _ => trivial
  | x :: xs, b, h, hb => by
    have h0 := h 0 (by simp)
    refine ⟨h0.1, hb, desc_of xs x (okTo_tail h) ?_⟩
    cases xs with
    | nil => exact h0.1
    | cons y ys => exact (h 1 (by simp)).2.2 (by omega)
end Go.Proofs.Ytcngcilinlcmeaa.Ext
