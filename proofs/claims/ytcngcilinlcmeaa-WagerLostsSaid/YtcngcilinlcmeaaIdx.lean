/- The parts of a heap by their places among the Fibonacci numbers; what heap and index of the statements come to. -/
import Derived.Test.YtcngcilinlcmeaaNim
import Derived.Test.YtcngcilinlcmeaaPx8
namespace Go.Proofs.Ytcngcilinlcmeaa.Pure
open Go.RowKit Go.Proofs.Ytcngcilinlcmeaa.P Go.Proofs.YtcngcilinlcmeaaW.PrintWords Go.Proofs.YtcngcilinlcmeaaW.PrintLast
set_option linter.unusedVariables false

theorem u64_bounds {a : Int} (h : (Lit.int .u64 a).wf = true) : 0 ≤ a ∧ a ≤ 18446744073709551615 := by
  have h1 : IntKind.u64.min = 0 := by decide
  have h2 : IntKind.u64.max = 18446744073709551615 := by decide
  simp only [Lit.wf, h1, h2, Bool.and_eq_true, decide_eq_true_eq] at h
  omega
theorem heap_some {a : Int} (h : (Lit.int .u64 a).wf = true) : ∃ m, drovewaylaw07_heap.f a = some m ∧ 0 ≤ m ∧ m ≤ 1099511627776 := by
  have hb := u64_bounds h
  have e := mod_lt' a (show (0 : Int) < 1099511627777 by omega)
  refine ⟨a % 1099511627777, ?_, by omega, by omega⟩
  unfold drovewaylaw07_heap.f
  rw [tmod' hb.1, w64 (by omega)]

def zi : Nat → Int → List Nat
  | 0, _ => []
  | i + 1, n => if fib i ≤ n then i :: zi i (n - fib i) else zi i n
theorem gr_zi : ∀ (i : Nat) (n : Int), gr i n = (zi i n).map fib
  | 0, n => rfl
  | i + 1, n => by
    rw [gr, zi]
    split
    · rw [List.map_cons, gr_zi i]
    · exact gr_zi i n
theorem zi_mem : ∀ (i : Nat) (n : Int), 0 ≤ n → ∀ e ∈ zi i n, fib e ≤ n ∧ e < i
  | 0, n, h0, e, he => by simp [zi] at he
  | i + 1, n, h0, e, he => by
    rw [zi] at he
    split at he
    · rcases List.mem_cons.1 he with rfl | he
      · exact ⟨by assumption, by omega⟩
      · have := zi_mem i (n - fib i) (by omega) e he
        have := fib_pos i
        omega
    · have := zi_mem i n h0 e he
      omega
theorem zi_gap : ∀ (i : Nat) (n : Int), 0 ≤ n → n < fib i → (zi i n).Pairwise (fun a b => b + 2 ≤ a)
  | 0, n, h0, h => by simp [zi]
  | i + 1, n, h0, h => by
    rw [zi]
    split
    · rw [List.pairwise_cons]
      refine ⟨fun e he => ?_, zi_gap i (n - fib i) (by omega) (rest_lt h)⟩
      have h1 := zi_mem i (n - fib i) (by omega) e he
      cases i with
      | zero => omega
      | succ i =>
        have hs : fib (i + 1 + 1) = fib (i + 1) + fib i := fib_step i
        have := fib_inj (m := e) (n := i) (by omega)
        omega
    · exact zi_gap i n h0 (by omega)

theorem index_l {n : Int} (hn : n ≤ 1099511627776) : ∀ (d i : Nat), i + d = 60 → (∀ j, j < i → fib j < n) → Ev (fun k => drovewaylaw07_index.l0 k n (fib i) (fib (i + 1)) (i : Int)) (if ∃ j, j < 60 ∧ fib j = n then (((List.range 60).find? fun j => decide (fib j = n)).getD 0 : Int) else -1)
  | 0, i, hi, hj => by
    obtain rfl : i = 60 := by omega
    have h1 := heap_lt hn
    have : ¬ ∃ j, j < 60 ∧ fib j = n := by
      rintro ⟨j, a, b⟩
      have := hj j a
      omega
    rw [if_neg this]
    refine Ev.step (f := fun _ => some (-1)) (fun k => ?_) (Ev.now _)
    simp only [drovewaylaw07_index.l0]
    rw [if_neg (by omega)]
  | d + 1, i, hi, hj => by
    by_cases h1 : fib i ≤ n
    · by_cases h2 : fib i = n
      · rw [if_pos ⟨i, by omega, h2⟩]
        have hf : (List.range 60).find? (fun j => decide (fib j = n)) = some i := by
          rw [List.find?_eq_some_iff_getElem]
          refine ⟨decide_eq_true h2, i, by simp; omega, by simp, fun j hji => ?_⟩
          have := hj j hji
          simp
          omega
        rw [hf]
        refine Ev.step (f := fun _ => some (i : Int)) (fun k => ?_) (Ev.now _)
        simp only [drovewaylaw07_index.l0]
        rw [if_pos h1, if_pos h2]
      · have ih := index_l hn d (i + 1) (by omega) (fun j hji => by
          rcases Nat.lt_or_ge j i with h3 | h3
          · exact hj j h3
          · obtain rfl : j = i := by omega
            omega)
        have hs := fib_step i
        have hb := fib_small (show i + 2 ≤ 62 by omega)
        have hp := fib_pos i
        have hp2 := fib_pos (i + 1)
        refine Ev.step (f := fun k => drovewaylaw07_index.l0 k n (fib (i + 1)) (fib (i + 1 + 1)) ((i + 1 : Nat) : Int)) (fun k => ?_) ih
        simp only [drovewaylaw07_index.l0]
        rw [if_pos h1, if_neg h2, w64 (by omega), w64 (by omega), show fib i + fib (i + 1) = fib (i + 1 + 1) from by show _ = fib (i + 2); omega]
        rfl
    · have : ¬ ∃ j, j < 60 ∧ fib j = n := by
        rintro ⟨j, a, b⟩
        rcases Nat.lt_or_ge j i with h3 | h3
        · have := hj j h3; omega
        · have := fib_mono h3; omega
      rw [if_neg this]
      refine Ev.step (f := fun _ => some (-1)) (fun k => ?_) (Ev.now _)
      simp only [drovewaylaw07_index.l0]
      rw [if_neg h1]
theorem index_ev {n : Int} (hn : n ≤ 1099511627776) : Ev (fun k => drovewaylaw07_index.f k n) (if ∃ j, j < 60 ∧ fib j = n then (((List.range 60).find? fun j => decide (fib j = n)).getD 0 : Int) else -1) :=
  index_l hn 60 0 (by omega) (fun j hj => by omega)
theorem index_fib {i : Nat} (hi : i < 60) (hn : fib i ≤ 1099511627776) : Ev (fun k => drovewaylaw07_index.f k (fib i)) (i : Int) := by
  have h := index_ev hn
  rw [if_pos ⟨i, hi, rfl⟩] at h
  have hf : (List.range 60).find? (fun j => decide (fib j = fib i)) = some i := by
    rw [List.find?_eq_some_iff_getElem]
    refine ⟨decide_eq_true rfl, i, by simp; omega, by simp, fun j hji => ?_⟩
    have h1 := fib_mono (show j + 1 ≤ i by omega)
    have h2 := fib_lt j
    simp
    omega
  rw [hf] at h
  exact h
theorem alive_ev : Ev (fun _ => (drovewaylaw07_alive.f).bind fun t160 => (some t160)) true := Ev.now _
theorem nimIn_lost {n l : Int} (h0 : 0 ≤ n) (h : n = 0 ∨ l < tail n) : nimIn n l = (0, 10) := by
  unfold nimIn
  by_cases hz : n = 0
  · rw [if_pos hz]
  · rw [if_neg hz, if_neg (by omega)]
theorem nimIn_won {n l : Int} (h0 : 0 < n) (h : tail n ≤ l) : nimIn n l = (tail n, 0) := by
  unfold nimIn
  rw [if_neg (by omega), if_pos h]
theorem tail_bounds {n : Int} (h0 : 0 < n) (h : n ≤ 1099511627776) : 1 ≤ tail n ∧ tail n ≤ n := tl_bounds h0 (heap_lt h)
theorem Nim_in {n l : Int} (hn : 0 ≤ n ∧ n ≤ 1099511627776) (hl : 0 ≤ l ∧ l ≤ 1099511627776) : Ev (fun k => wager_Nim.f k n l) (nimIn n l) := by
  have h := Nim_ev n l
  unfold nimS at h
  rw [if_pos (by omega)] at h
  exact h

end Go.Proofs.Ytcngcilinlcmeaa.Pure
