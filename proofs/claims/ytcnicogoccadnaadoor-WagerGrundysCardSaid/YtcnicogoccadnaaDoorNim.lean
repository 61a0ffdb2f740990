/- Parts, Nim and Whole of the program come to the parts and the tail of the heap. -/
import Derived.Test.YtcnicogoccadnaaDoorEucS
import Derived.Test.YtcnicogoccadnaaDoorFib
import Derived.Test.YtcnicogoccadnaaDoorPx4
namespace Go.Proofs.YtcnicogoccadnaaDoor.Pure
open Go.RowKit Go.Proofs.YtcnicogoccadnaaDoor.P Go.Proofs.YtcnicogoccadnaaDoorW.PrintWords Go.Proofs.YtcnicogoccadnaaDoorW.PrintLast
set_option linter.unusedVariables false

theorem rd_get (l : List Int) (i : Nat) (h : i < l.length) : rd l (i : Int) = l[i] := by simp [rd, List.getD_eq_getElem?_getD, List.getElem?_eq_getElem h]
theorem count_ex {n : Int} (hn : n ≤ 1099511627776) : ∃ m, m ≤ 60 ∧ n < fib m ∧ ∀ i, i < m → fib i ≤ n := by
  have key : ∀ j, n < fib j → ∃ m, m ≤ j ∧ n < fib m ∧ ∀ i, i < m → fib i ≤ n := by
    intro j
    induction j with
    | zero => intro h; exact ⟨0, Nat.le_refl _, h, fun i hi => by omega⟩
    | succ j ih =>
      intro h
      by_cases hj : n < fib j
      · obtain ⟨m, a, b, c⟩ := ih hj
        exact ⟨m, by omega, b, c⟩
      · refine ⟨j + 1, Nat.le_refl _, h, fun i hi => ?_⟩
        have := fib_mono (show i ≤ j by omega)
        omega
  exact key 60 (heap_lt hn)
theorem fib_small {i : Nat} (h : i ≤ 62) : fib i ≤ 10610209857723 := by
  have h2 := fib_mono h
  have h3 : fib 62 = 10610209857723 := by decide +kernel
  omega

/-- the reversal -/
theorem rev_l (l : List Int) (hl : l.length ≤ 1000000) : ∀ (d i : Nat) (x : List Int), i + i + d + 1 = l.length + 1 ∨ l.length ≤ i + i → x.length = l.length → (l.length ≤ i + i → d = 0) → i ≤ l.length →
    (∀ t, t < l.length → x.getD t 0 = if t < i ∨ l.length ≤ t + i then l.getD (l.length - 1 - t) 0 else l.getD t 0) →
    Ev (fun k => slices_Reverse_int_int.l0 k x (i : Int) ((l.length : Int) - 1 - i)) l.reverse := by
  intro d
  induction d using Nat.strongRecOn with
  | _ d ih =>
    intro i x hd hx hd0 hil hinv
    by_cases hlt : (i : Int) < (l.length : Int) - 1 - i
    · have hj : (l.length : Int) - 1 - i = ((l.length - 1 - i : Nat) : Int) := by omega
      obtain ⟨d2, rfl⟩ : ∃ d2, d = d2 + 2 := ⟨d - 2, by omega⟩
      refine Ev.step (f := fun k => slices_Reverse_int_int.l0 k ((x.set i (rd x ((l.length : Int) - 1 - i))).set (l.length - 1 - i) (rd x (i : Int))) ((i + 1 : Nat) : Int) ((l.length : Int) - 1 - ((i + 1 : Nat) : Int))) (fun k => ?_) ?_
      · simp only [slices_Reverse_int_int.l0]
        rw [if_pos hlt, if_pos (by omega), if_pos (by omega), if_pos (by omega), if_pos (by omega), w64 (by omega), w64 (by omega)]
        rw [show ((i : Int)).toNat = i from by omega, show ((l.length : Int) - 1 - (i : Int)).toNat = l.length - 1 - i from by omega, show (l.length : Int) - 1 - (i : Int) - 1 = (l.length : Int) - 1 - ((i + 1 : Nat) : Int) from by omega]
        rfl
      · refine ih d2 (by omega) (i + 1) _ (by omega) (by simp [hx]) (by omega) (by omega) ?_
        intro t ht
        have e1 : rd x ((l.length : Int) - 1 - i) = l.getD (l.length - 1 - i) 0 := by
          rw [hj]; unfold rd
          rw [Int.toNat_natCast, hinv _ (by omega), if_neg (by omega)]
        have e2 : rd x (i : Int) = l.getD i 0 := by
          unfold rd
          rw [Int.toNat_natCast, hinv _ (by omega), if_neg (by omega)]
        rw [e1, e2]
        rw [List.getD_eq_getElem?_getD, List.getElem?_set, List.getElem?_set]
        have hti := hinv t ht
        by_cases h1 : l.length - 1 - i = t
        · rw [if_pos h1, if_pos (by rw [List.length_set]; omega), if_pos (by omega)]
          rw [show l.length - 1 - t = i by omega]
          rfl
        · rw [if_neg h1]
          by_cases h2 : i = t
          · rw [if_pos h2, if_pos (by omega), if_pos (by omega)]
            subst h2
            rfl
          · rw [if_neg h2, ← List.getD_eq_getElem?_getD, hti]
            by_cases h3 : t < i ∨ l.length ≤ t + i
            · rw [if_pos h3, if_pos (by omega)]
            · rw [if_neg h3, if_neg (by omega)]
    · have he : x = l.reverse := by
        apply List.ext_getElem?
        intro t
        by_cases ht : t < l.length
        · have h1 := hinv t ht
          rw [List.getElem?_reverse ht]
          rw [List.getElem?_eq_getElem (by omega), List.getElem?_eq_getElem (by omega)]
          rw [List.getD_eq_getElem?_getD, List.getElem?_eq_getElem (by omega)] at h1
          simp only [Option.getD_some] at h1
          rw [h1]
          by_cases h2 : t < i ∨ l.length ≤ t + i
          · rw [if_pos h2, List.getD_eq_getElem?_getD, List.getElem?_eq_getElem (by omega)]
            rfl
          · rw [if_neg h2, List.getD_eq_getElem?_getD, List.getElem?_eq_getElem (by omega)]
            have : l.length - 1 - t = t := by omega
            simp [this]
        · rw [List.getElem?_eq_none (by omega), List.getElem?_eq_none (by rw [List.length_reverse]; omega)]
      rw [← he]
      refine Ev.step (f := fun _ => some x) (fun k => ?_) (Ev.now _)
      simp only [slices_Reverse_int_int.l0]
      rw [if_neg hlt]
theorem rev_ev (l : List Int) (hl : l.length ≤ 1000000) : Ev (fun k => slices_Reverse_int_int.f k l) l.reverse := by
  unfold slices_Reverse_int_int.f
  rw [w64 (by omega)]
  have h := rev_l l hl l.length 0 l (by omega) rfl (by omega) (by omega) (fun t ht => by rw [if_neg (by omega)])
  simpa using h

def fibsTo (m : Nat) : List Int := (List.range m).map fib
theorem fibsTo_len (m : Nat) : (fibsTo m).length = m := by simp [fibsTo]
theorem fibsTo_succ (m : Nat) : fibsTo (m + 1) = fibsTo m ++ [fib m] := by simp [fibsTo, List.range_succ]
theorem fibsTo_get {m i : Nat} (h : i < m) : rd (fibsTo m) (i : Int) = fib i := by
  rw [rd_get _ _ (by rw [fibsTo_len]; exact h)]
  simp [fibsTo]

theorem fibo_l {n : Int} {m : Nat} (hm : m ≤ 60) (h1 : n < fib m) (h2 : ∀ i, i < m → fib i ≤ n) : ∀ (d i : Nat), i + d = m → Ev (fun k => wager_fibonacci.l0 k n (fibsTo i) (fib i) (fib (i + 1))) (fibsTo m).reverse
  | 0, i, hi => by
    obtain rfl : i = m := by omega
    refine Ev.step (f := fun k => (slices_Reverse_int_int.f k (fibsTo i)).bind fun t => some t) (fun k => ?_) (Ev.bind (rev_ev _ (by rw [fibsTo_len]; omega)) (Ev.now _))
    simp only [wager_fibonacci.l0]
    rw [if_neg (by omega)]
  | d + 1, i, hi => by
    have ih := fibo_l hm h1 h2 d (i + 1) (by omega)
    have hs := fib_step i
    have hb := fib_small (show i + 2 ≤ 62 by omega)
    have hp := fib_pos i
    have hp2 := fib_pos (i + 1)
    refine Ev.step (f := fun k => wager_fibonacci.l0 k n (fibsTo (i + 1)) (fib (i + 1)) (fib (i + 1 + 1))) (fun k => ?_) ih
    simp only [wager_fibonacci.l0]
    rw [if_pos (h2 i (by omega)), if_pos (by rw [fibsTo_len]; omega), w64 (by omega), fibsTo_succ, show fib i + fib (i + 1) = fib (i + 1 + 1) from by show _ = fib (i + 2); omega]

theorem revget {m i : Nat} (h : i < m) : rd (fibsTo m).reverse (i : Int) = fib (m - 1 - i) := by
  rw [rd_get _ _ (by rw [List.length_reverse, fibsTo_len]; exact h)]
  simp [fibsTo]
theorem parts_l {m : Nat} (hm : m ≤ 60) : ∀ (d i : Nat) (n : Int) (acc : List Int), i + d = m → 0 ≤ n → n ≤ 1099511627776 → acc.length ≤ i → Ev (fun k => wager_parts.l0 k n acc (fibsTo m).reverse (m : Int) (i : Int)) (acc ++ gr d n)
  | 0, i, n, acc, hi, _, _, _ => by
    rw [gr, List.append_nil]
    refine Ev.step (f := fun _ => some acc) (fun k => ?_) (Ev.now _)
    simp only [wager_parts.l0]
    rw [if_neg (by omega)]
  | d + 1, i, n, acc, hi, h0, hn, ha => by
    have hl : ((fibsTo m).reverse.length : Int) = m := by rw [List.length_reverse, fibsTo_len]
    have hg := revget (m := m) (i := i) (by omega)
    rw [show m - 1 - i = d by omega] at hg
    have hp := fib_pos d
    have hs := fib_small (show d ≤ 62 by omega)
    rw [gr]
    by_cases hf : fib d ≤ n
    · rw [if_pos hf]
      have ih := parts_l hm d (i + 1) (n - fib d) (acc ++ [fib d]) (by omega) (by omega) (by omega) (by rw [List.length_append, List.length_singleton]; omega)
      rw [List.append_assoc, List.singleton_append] at ih
      refine Ev.step (f := fun k => wager_parts.l0 k (n - fib d) (acc ++ [fib d]) (fibsTo m).reverse (m : Int) ((i + 1 : Nat) : Int)) (fun k => ?_) ih
      simp only [wager_parts.l0]
      rw [if_pos (by omega), if_pos (by omega), if_pos (by omega), hg, if_pos hf, if_pos (by omega), w64 (by omega), w64 (by omega)]
      rfl
    · rw [if_neg hf]
      have ih := parts_l hm d (i + 1) n acc (by omega) h0 hn (by omega)
      refine Ev.step (f := fun k => wager_parts.l0 k n acc (fibsTo m).reverse (m : Int) ((i + 1 : Nat) : Int)) (fun k => ?_) ih
      simp only [wager_parts.l0]
      rw [if_pos (by omega), if_pos (by omega), if_pos (by omega), hg, if_neg hf, w64 (by omega)]
      rfl
theorem parts_ev {n : Int} (h0 : 0 ≤ n) (hn : n ≤ 1099511627776) : Ev (fun k => wager_parts.f k n) (parts n) := by
  obtain ⟨m, hm, h1, h2⟩ := count_ex hn
  unfold wager_parts.f wager_fibonacci.f
  refine Ev.bind (fibo_l hm h1 h2 m 0 (by omega)) ?_
  rw [List.length_reverse, fibsTo_len]
  have h := parts_l hm m 0 n [] (by omega) h0 hn (by simp)
  rw [List.nil_append, ← gr_up hm h1] at h
  exact h

def partsS (n : Int) : List Int × Int := if 0 ≤ n ∧ n ≤ 1099511627776 then (parts n, 0) else ([], 2)
theorem Parts_ev (n : Int) : Ev (fun k => wager_Parts.f k n) (partsS n) := by
  unfold wager_Parts.f
  rw [heapF]
  simp only [Option.bind_some]
  unfold partsS
  by_cases h : 0 ≤ n ∧ n ≤ 1099511627776
  · rw [if_pos h]
    exact Ev.pos (decide_eq_true h) (Ev.bind (parts_ev h.1 h.2) (Ev.now _))
  · rw [if_neg h]
    exact Ev.neg (by simpa using h) (Ev.now _)

theorem parts_last {n : Int} (h0 : 0 < n) (hn : n ≤ 1099511627776) : 0 < (parts n).length ∧ rd (parts n) ((parts n).length - 1) = tail n ∧ (parts n).length ≤ 60 := by
  have h := gr_last 60 n h0 (heap_lt hn)
  have hl := gr_len 60 n
  unfold parts tail
  have hp : 0 < (gr 60 n).length := List.length_pos_iff.2 h.1
  refine ⟨hp, ?_, hl⟩
  rw [show ((gr 60 n).length : Int) - 1 = (((gr 60 n).length - 1 : Nat) : Int) by omega, rd_get _ _ (by omega), ← h.2]
  rw [List.getLastD_eq_getLast?, List.getLast?_eq_getElem?, List.getElem?_eq_getElem (by omega)]
  rfl
def nimIn (n l : Int) : Int × Int := if n = 0 then (0, 10) else if tail n ≤ l then (tail n, 0) else (0, 10)
def nimS (n l : Int) : Int × Int := if 0 ≤ n ∧ n ≤ 1099511627776 ∧ 0 ≤ l ∧ l ≤ 1099511627776 then nimIn n l else (0, 2)
theorem nim_j0 {n l : Int} (h0 : 0 ≤ n) (hn : n ≤ 1099511627776) : Ev (fun k => wager_Nim.j0 k n l false) (nimIn n l) := by
  refine Ev.step (f := fun k => if n = 0 then (some (0, 10)) else ((wager_parts.f k n).bind fun t141 => (if 0 ≤ (wrap64 ((t141.length : Int) - 1)) then (if (wrap64 ((t141.length : Int) - 1)) < (t141.length : Int) then (if (rd t141 (wrap64 ((t141.length : Int) - 1))) ≤ l then (some (rd t141 (wrap64 ((t141.length : Int) - 1)), 0)) else (some (0, 10))) else (none)) else (none)))) (fun k => by simp only [wager_Nim.j0, Bool.false_eq_true, if_false]) ?_
  unfold nimIn
  by_cases hz : n = 0
  · rw [if_pos hz]; exact Ev.pos hz (Ev.now _)
  · rw [if_neg hz]
    have hp := parts_last (n := n) (by omega) hn
    refine Ev.neg hz (Ev.bind (parts_ev h0 hn) ?_)
    rw [w64 (by omega), hp.2.1]
    refine Ev.pos (by omega) (Ev.pos (by omega) ?_)
    by_cases ht : tail n ≤ l
    · simp only [if_pos ht]; exact Ev.now _
    · simp only [if_neg ht]; exact Ev.now _
theorem Nim_ev (n l : Int) : Ev (fun k => wager_Nim.f k n l) (nimS n l) := by
  unfold wager_Nim.f
  rw [heapF, heapF]
  simp only [Option.bind_some]
  unfold nimS
  by_cases h : 0 ≤ n ∧ n ≤ 1099511627776
  · refine Ev.pos (decide_eq_true h) ?_
    by_cases h2 : 0 ≤ l ∧ l ≤ 1099511627776
    · rw [if_pos (by omega), decide_eq_true h2]
      exact nim_j0 h.1 h.2
    · rw [if_neg (by omega), decide_eq_false h2]
      exact Ev.step (f := fun _ => some (0, 2)) (fun k => by simp only [wager_Nim.j0, Bool.not_false, if_true]) (Ev.now _)
  · rw [if_neg (by omega)]
    refine Ev.neg (by simpa using h) ?_
    exact Ev.step (f := fun _ => some (0, 2)) (fun k => by simp only [wager_Nim.j0, if_true]) (Ev.now _)
end Go.Proofs.YtcnicogoccadnaaDoor.Pure
