/- What the game of chomp is, in plain Lean: bars of six rows, bites, moves, who wins. -/
import Derived.Test.YtcnicogoccadnaaDoorExtA
namespace Go.Proofs.YtcnicogoccadnaaDoor.Ext
open Go.Proofs.YtcnicogoccadnaaDoorW.PrintWords Go.Proofs.YtcnicogoccadnaaDoorW.PrintLast Go.Proofs.YtcnicogoccadnaaDoorW.PrintMore
set_option linter.unusedVariables false

def biteGo (r c : Int) : Int → List Int → List Int
  | _, [] => []
  | i, x :: xs => bitC r c x i :: biteGo r c (i + 1) xs
/-- a bar after the piece at row r, column c is taken -/
def bite (xs : List Int) (r c : Int) : List Int := biteGo r c 0 xs

def rowMoves (r x : Int) : List (Int × Int) := (List.range x.toNat).map fun (c : Nat) => (r, (c : Int))
def movesGo : Int → List Int → List (Int × Int)
  | _, [] => []
  | i, x :: xs => rowMoves i x ++ movesGo (i + 1) xs
/-- all pieces of a bar -/
def moves (xs : List Int) : List (Int × Int) := movesGo 0 xs

/-- six rows from 0 to 7 -/
def Bar (xs : List Int) : Prop := xs.length = 6 ∧ ∀ x ∈ xs, 0 ≤ x ∧ x ≤ 7
def sumN (xs : List Int) : Nat := (xs.map Int.toNat).sum

def winF : Nat → List Int → Bool
  | 0, _ => true
  | n + 1, xs => if xs.headD 0 = 0 then true else (moves xs).any fun m => !winF n (bite xs m.1 m.2)
/-- does the player win who is next? -/
def winsS (xs : List Int) : Bool := winF (sumN xs + 1) xs

theorem six {xs : List Int} (h : xs.length = 6) : ∃ a b c d e f, xs = [a, b, c, d, e, f] := by
  match xs, h with
  | [a, b, c, d, e, f], _ => exact ⟨a, b, c, d, e, f, rfl⟩

theorem bite_six (a b c d e f row col : Int) : bite [a, b, c, d, e, f] row col = [bitC row col a 0, bitC row col b 1, bitC row col c 2, bitC row col d 3, bitC row col e 4, bitC row col f 5] := by
  simp [bite, biteGo]

theorem mn_le (a b : Int) : mn a b ≤ a ∧ mn a b ≤ b ∧ (mn a b = a ∨ mn a b = b) := by
  unfold mn; split <;> omega
theorem bitC_bounds {row col x i : Int} (hx : 0 ≤ x) (hc : 0 ≤ col) : 0 ≤ bitC row col x i ∧ bitC row col x i ≤ x := by
  unfold bitC; have := mn_le x col; split <;> omega

theorem biteGo_length (r c : Int) : ∀ (xs : List Int) (i : Int), (biteGo r c i xs).length = xs.length
  | [], _ => rfl
  | x :: xs, i => by simp [biteGo, biteGo_length r c xs]
theorem biteGo_mem (r c : Int) (hc : 0 ≤ c) : ∀ (xs : List Int) (i : Int), (∀ x ∈ xs, 0 ≤ x ∧ x ≤ 7) → ∀ y ∈ biteGo r c i xs, 0 ≤ y ∧ y ≤ 7
  | [], _, _, y, hy => by simp [biteGo] at hy
  | x :: xs, i, h, y, hy => by
    simp only [biteGo, List.mem_cons] at hy
    rcases hy with rfl | hy
    · have := h x (by simp)
      have := bitC_bounds (row := r) (i := i) this.1 hc
      omega
    · exact biteGo_mem r c hc xs (i + 1) (fun z hz => h z (by simp [hz])) y hy
theorem Bar.bite {xs : List Int} (h : Bar xs) (r : Int) {c : Int} (hc : 0 ≤ c) : Bar (bite xs r c) :=
  ⟨(biteGo_length r c xs 0).trans h.1, biteGo_mem r c hc xs 0 h.2⟩

theorem mem_rowMoves {r x : Int} {m : Int × Int} : m ∈ rowMoves r x ↔ m.1 = r ∧ 0 ≤ m.2 ∧ m.2 < x := by
  obtain ⟨a, b⟩ := m
  unfold rowMoves
  rw [List.mem_map]
  constructor
  · rintro ⟨c, hc, h⟩
    rw [List.mem_range] at hc
    injection h with h1 h2
    simp only
    omega
  · rintro ⟨h1, h2, h3⟩
    simp only at h1 h2 h3
    exact ⟨b.toNat, List.mem_range.2 (by omega), by rw [h1]; congr 1; omega⟩

/-- a bite makes the sum less -/
theorem biteGo_sum (r c : Int) (hc : 0 ≤ c) : ∀ (xs : List Int) (i : Int), (∀ x ∈ xs, 0 ≤ x ∧ x ≤ 7) → sumN (biteGo r c i xs) ≤ sumN xs
  | [], _, _ => Nat.le_refl _
  | x :: xs, i, h => by
    have h1 := biteGo_sum r c hc xs (i + 1) (fun z hz => h z (by simp [hz]))
    have h2 := h x (by simp)
    have h3 := bitC_bounds (row := r) (i := i) h2.1 hc
    simp only [sumN, biteGo, List.map_cons, List.sum_cons] at *
    omega
theorem biteGo_less (r c : Int) (hc : 0 ≤ c) : ∀ (xs : List Int) (i : Int), (∀ x ∈ xs, 0 ≤ x ∧ x ≤ 7) → (r, c) ∈ movesGo i xs → sumN (biteGo r c i xs) < sumN xs
  | [], _, _, hm => by simp [movesGo] at hm
  | x :: xs, i, h, hm => by
    have h2 := h x (by simp)
    have h3 := bitC_bounds (row := r) (i := i) h2.1 hc
    rw [movesGo, List.mem_append] at hm
    rcases hm with hm | hm
    · have h4 := mem_rowMoves.1 hm
      simp only at h4
      have h1 := biteGo_sum r c hc xs (i + 1) (fun z hz => h z (by simp [hz]))
      have h5 : bitC r c x i = mn x c := by rw [h4.1]; unfold bitC; rw [if_pos (by omega)]
      have h6 := mn_le x c
      simp only [sumN, biteGo, List.map_cons, List.sum_cons] at *
      omega
    · have h1 := biteGo_less r c hc xs (i + 1) (fun z hz => h z (by simp [hz])) hm
      simp only [sumN, biteGo, List.map_cons, List.sum_cons] at *
      omega
theorem movesGo_pos : ∀ (xs : List Int) (i : Int) {m : Int × Int}, m ∈ movesGo i xs → 0 ≤ m.2
  | [], _, m, h => by simp [movesGo] at h
  | x :: xs, i, m, h => by
    rw [movesGo, List.mem_append] at h
    rcases h with h | h
    · exact (mem_rowMoves.1 h).2.1
    · exact movesGo_pos xs (i + 1) h
theorem bite_less {xs : List Int} (h : Bar xs) {m : Int × Int} (hm : m ∈ moves xs) : sumN (bite xs m.1 m.2) < sumN xs :=
  biteGo_less m.1 m.2 (movesGo_pos xs 0 hm) xs 0 h.2 hm

theorem any_congr {α : Type} {l : List α} {p q : α → Bool} (h : ∀ x ∈ l, p x = q x) : l.any p = l.any q := by
  induction l with
  | nil => rfl
  | cons x l ih =>
    rw [List.any_cons, List.any_cons, h x (by simp), ih (fun y hy => h y (by simp [hy]))]

theorem winF_stable : ∀ (n m : Nat) (xs : List Int), Bar xs → sumN xs < n → sumN xs < m → winF n xs = winF m xs := by
  intro n
  induction n with
  | zero => intro m xs _ h; omega
  | succ n ih =>
    intro m xs hb h1 h2
    cases m with
    | zero => omega
    | succ m =>
      unfold winF
      split
      · rfl
      · refine any_congr fun mv hmv => ?_
        have hl := bite_less hb hmv
        rw [ih m _ (hb.bite _ (movesGo_pos xs 0 hmv)) (by omega) (by omega)]

/-- the rule of chomp -/
theorem winsS_eq {xs : List Int} (h : Bar xs) : winsS xs = if xs.headD 0 = 0 then true else (moves xs).any fun m => !winsS (bite xs m.1 m.2) := by
  show winF (sumN xs + 1) xs = _
  conv => lhs; unfold winF
  split
  · rfl
  · refine any_congr fun mv hmv => ?_
    have hl := bite_less h hmv
    rw [winF_stable (sumN xs) (sumN (bite xs mv.1 mv.2) + 1) _ (h.bite _ (movesGo_pos xs 0 hmv)) hl (by omega)]
    rfl

/-- the winning pieces of a bar, the first ones -/
def winM (xs : List Int) (most : Nat) : List (Int × Int) := ((moves xs).filter fun m => !winsS (bite xs m.1 m.2)).take most
theorem winM_one {xs : List Int} (h : Bar xs) (h0 : ¬ xs.headD 0 = 0) : winsS xs = decide ((winM xs 1).length > 0) := by
  rw [winsS_eq h, if_neg h0]
  unfold winM
  generalize moves xs = l
  induction l with
  | nil => rfl
  | cons x l ih =>
    rw [List.any_cons, List.filter_cons]
    split
    · rename_i hx; simp [hx]
    · rename_i hx
      simp only [Bool.not_eq_true] at hx
      rw [hx, Bool.false_or, ih]
end Go.Proofs.YtcnicogoccadnaaDoor.Ext
