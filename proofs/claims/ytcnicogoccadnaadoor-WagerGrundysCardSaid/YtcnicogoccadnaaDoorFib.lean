/- Fibonacci nim in plain Lean: the parts of a number, its tail, and what a move does to the tail. -/
import Derived.Test.YtcnicogoccadnaaDoorWMore
namespace Go.Proofs.YtcnicogoccadnaaDoor.Pure
open Go.RowKit Go.Proofs.YtcnicogoccadnaaDoorW.PrintWords Go.Proofs.YtcnicogoccadnaaDoorW.PrintLast
set_option linter.unusedVariables false

def fibP : Nat → Int × Int
  | 0 => (1, 2)
  | n + 1 => ((fibP n).2, (fibP n).1 + (fibP n).2)
def fib (n : Nat) : Int := (fibP n).1
theorem fibP_snd (n : Nat) : (fibP n).2 = fib (n + 1) := rfl
theorem fib_step (n : Nat) : fib (n + 2) = fib (n + 1) + fib n := by
  show (fibP n).1 + (fibP n).2 = (fibP n).2 + (fibP n).1
  omega
theorem fib_zero : fib 0 = 1 := rfl
theorem fib_one : fib 1 = 2 := rfl
theorem fib_both : ∀ n, 1 ≤ fib n ∧ fib n < fib (n + 1) ∧ fib (n + 1) ≤ 2 * fib n
  | 0 => by rw [fib_zero, fib_one]; omega
  | n + 1 => by
    have h := fib_both n
    rw [fib_step]
    omega
theorem fib_pos (n : Nat) : 1 ≤ fib n := (fib_both n).1
theorem fib_lt (n : Nat) : fib n < fib (n + 1) := (fib_both n).2.1
theorem fib_mono {m : Nat} : ∀ {n : Nat}, m ≤ n → fib m ≤ fib n
  | 0, h => by obtain rfl : m = 0 := by omega
               exact Int.le_refl _
  | n + 1, h => by
    rcases Nat.lt_or_ge n m with h1 | h1
    · obtain rfl : m = n + 1 := by omega
      exact Int.le_refl _
    · have := fib_mono h1
      have := fib_lt n
      omega
theorem fib_inj {m n : Nat} (h : fib m < fib n) : m < n := by
  rcases Nat.lt_or_ge m n with h1 | h1
  · exact h1
  · have := fib_mono h1; omega
theorem fib_sixty : fib 60 = 4052739537881 := by decide +kernel

/-- the parts of n, out of the first i Fibonacci numbers, the greatest first -/
def gr : Nat → Int → List Int
  | 0, _ => []
  | i + 1, n => if fib i ≤ n then fib i :: gr i (n - fib i) else gr i n
theorem gr_up {m : Nat} : ∀ {i : Nat} {n : Int}, m ≤ i → n < fib m → gr i n = gr m n
  | 0, n, h, _ => by obtain rfl : m = 0 := by omega
                     rfl
  | i + 1, n, h, hn => by
    rcases Nat.lt_or_ge i m with h1 | h1
    · obtain rfl : m = i + 1 := by omega
      rfl
    · have h2 := fib_mono h1
      rw [gr, if_neg (by omega), gr_up h1 hn]

/-- the last part of n -/
def tl : Nat → Int → Int
  | 0, _ => 0
  | i + 1, n => if fib i ≤ n then (if n = fib i then fib i else tl i (n - fib i)) else tl i n
theorem tl_lt {i : Nat} {n : Int} (h : n < fib i) : tl (i + 1) n = tl i n := by rw [tl, if_neg (by omega)]
theorem tl_eq {i : Nat} {n : Int} (h : n = fib i) : tl (i + 1) n = fib i := by rw [tl, if_pos (by omega), if_pos h]
theorem tl_gt {i : Nat} {n : Int} (h : fib i < n) : tl (i + 1) n = tl i (n - fib i) := by rw [tl, if_pos (by omega), if_neg (by omega)]
theorem rest_lt {i : Nat} {n : Int} (h : n < fib (i + 1)) : n - fib i < fib i := by have := (fib_both i).2.2; omega
theorem tl_up {m : Nat} : ∀ {i : Nat} {n : Int}, m ≤ i → n < fib m → tl i n = tl m n
  | 0, n, h, _ => by obtain rfl : m = 0 := by omega
                     rfl
  | i + 1, n, h, hn => by
    rcases Nat.lt_or_ge i m with h1 | h1
    · obtain rfl : m = i + 1 := by omega
      rfl
    · have h2 := fib_mono h1
      rw [tl_lt (by omega), tl_up h1 hn]

theorem tl_fib : ∀ (i : Nat) (n : Int), 0 < n → n < fib i → ∃ j, j < i ∧ tl i n = fib j ∧ fib j ≤ n
  | 0, n, h0, h => by rw [fib_zero] at h; omega
  | i + 1, n, h0, h => by
    rcases Int.lt_trichotomy n (fib i) with h1 | h1 | h1
    · obtain ⟨j, a, b, c⟩ := tl_fib i n h0 h1
      exact ⟨j, by omega, by rw [tl_lt h1, b], c⟩
    · exact ⟨i, by omega, tl_eq h1, by omega⟩
    · obtain ⟨j, a, b, c⟩ := tl_fib i (n - fib i) (by omega) (rest_lt h)
      have := fib_pos i
      exact ⟨j, by omega, by rw [tl_gt h1, b], by omega⟩
theorem tl_bounds {i : Nat} {n : Int} (h0 : 0 < n) (h : n < fib i) : 1 ≤ tl i n ∧ tl i n ≤ n := by
  obtain ⟨j, _, b, c⟩ := tl_fib i n h0 h
  have := fib_pos j
  omega

/-- from below a Fibonacci number -/
theorem tl_below : ∀ (i : Nat) (s : Int), 0 < s → s < fib i → tl i s ≤ 2 * (fib i - s)
  | 0, s, h0, h => by rw [fib_zero] at h; omega
  | 1, s, h0, h => by
    rw [fib_one] at h ⊢
    obtain rfl : s = 1 := by omega
    rw [tl_eq fib_zero.symm, fib_zero]
    omega
  | i + 2, s, h0, h => by
    have hs := fib_step i
    have hb := fib_both i
    rcases Int.lt_trichotomy s (fib (i + 1)) with h1 | h1 | h1
    · have ih := tl_below (i + 1) s h0 h1
      rw [tl_lt h1]
      omega
    · rw [tl_eq h1]
      omega
    · have h2 : s - fib (i + 1) < fib i := by omega
      have ih := tl_below i (s - fib (i + 1)) (by omega) h2
      rw [tl_gt h1, tl_lt h2]
      omega

/-- who takes less than the tail leaves a tail of at most twice as much -/
theorem tl_less : ∀ (i : Nat) (n t : Int), 0 < n → n < fib i → 0 < t → t < tl i n → tl i (n - t) ≤ 2 * t
  | 0, n, t, h0, h, _, _ => by rw [fib_zero] at h; omega
  | i + 1, n, t, h0, h, ht, htl => by
    rcases Int.lt_trichotomy n (fib i) with h1 | h1 | h1
    · rw [tl_lt h1] at htl
      rw [tl_lt (by omega)]
      exact tl_less i n t h0 h1 ht htl
    · rw [tl_eq h1] at htl
      have := tl_below i (n - t) (by omega) (by omega)
      rw [tl_lt (by omega)]
      omega
    · rw [tl_gt h1] at htl
      have hr := rest_lt h
      have hb := tl_bounds (i := i) (n := n - fib i) (by omega) hr
      have ih := tl_less i (n - fib i) t (by omega) hr ht htl
      rw [tl_gt (by omega), show n - t - fib i = n - fib i - t by omega]
      exact ih

/-- who takes the tail leaves a tail of more than twice as much, or nothing -/
theorem tl_more : ∀ (i : Nat) (n : Int), 0 < n → n < fib i → n ≠ tl i n → 2 * tl i n < tl i (n - tl i n)
  | 0, n, h0, h, _ => by rw [fib_zero] at h; omega
  | i + 1, n, h0, h, hne => by
    rcases Int.lt_trichotomy n (fib i) with h1 | h1 | h1
    · rw [tl_lt h1] at hne ⊢
      have hb := tl_bounds h0 h1
      rw [tl_lt (by omega)]
      exact tl_more i n h0 h1 hne
    · rw [tl_eq h1] at hne
      exact absurd h1 hne
    · rw [tl_gt h1] at hne ⊢
      have hr := rest_lt h
      have hb := tl_bounds (i := i) (n := n - fib i) (by omega) hr
      by_cases he : n - fib i = tl i (n - fib i)
      · rw [← he, show n - (n - fib i) = fib i by omega, tl_eq rfl]
        obtain ⟨j, a, b, c⟩ := tl_fib i (n - fib i) (by omega) hr
        cases i with
        | zero => omega
        | succ i =>
          have hs : fib (i + 1 + 1) = fib (i + 1) + fib i := fib_step i
          have hji : j < i := fib_inj (by omega)
          cases i with
          | zero => omega
          | succ i =>
            have h3 := fib_mono (show j ≤ i by omega)
            have h4 := fib_lt i
            have h5 : fib (i + 1 + 1) = fib (i + 1) + fib i := fib_step i
            omega
      · have ih := tl_more i (n - fib i) (by omega) hr he
        rw [tl_gt (by omega), show n - tl i (n - fib i) - fib i = n - fib i - tl i (n - fib i) by omega]
        exact ih

/-- the parts: Fibonacci numbers that sum to n, the last one is the tail -/
theorem gr_last : ∀ (i : Nat) (n : Int), 0 < n → n < fib i → (gr i n) ≠ [] ∧ (gr i n).getLastD 0 = tl i n
  | 0, n, h0, h => by rw [fib_zero] at h; omega
  | i + 1, n, h0, h => by
    rcases Int.lt_trichotomy n (fib i) with h1 | h1 | h1
    · rw [gr, if_neg (by omega), tl_lt h1]
      exact gr_last i n h0 h1
    · have hz : ∀ j, gr j 0 = [] := by
        intro j
        induction j with
        | zero => rfl
        | succ j ih => have := fib_pos j; rw [gr, if_neg (by omega), ih]
      rw [gr, if_pos (by omega), tl_eq h1, show n - fib i = 0 by omega, hz]
      exact ⟨by simp, rfl⟩
    · have ih := gr_last i (n - fib i) (by omega) (rest_lt h)
      rw [gr, if_pos (by omega), tl_gt h1]
      refine ⟨by simp, ?_⟩
      rw [← ih.2]
      obtain ⟨x, l, hl⟩ := List.exists_cons_of_ne_nil ih.1
      rw [hl]
      simp
theorem gr_sum : ∀ (i : Nat) (n : Int), 0 ≤ n → n < fib i → (gr i n).sum = n
  | 0, n, h0, h => by rw [fib_zero] at h; have : n = 0 := by omega
                      rw [this]; rfl
  | i + 1, n, h0, h => by
    rw [gr]
    split
    · rw [List.sum_cons, gr_sum i (n - fib i) (by omega) (rest_lt h)]
      omega
    · rw [gr_sum i n h0 (by omega)]
theorem gr_len : ∀ (i : Nat) (n : Int), (gr i n).length ≤ i
  | 0, n => Nat.le_refl _
  | i + 1, n => by
    rw [gr]
    split
    · rw [List.length_cons]; have := gr_len i (n - fib i); omega
    · have := gr_len i n; omega

/-- the tail and the parts of a heap -/
def tail (n : Int) : Int := tl 60 n
def parts (n : Int) : List Int := gr 60 n
theorem heap_lt {n : Int} (h : n ≤ 1099511627776) : n < fib 60 := by rw [fib_sixty]; omega
end Go.Proofs.YtcnicogoccadnaaDoor.Pure
