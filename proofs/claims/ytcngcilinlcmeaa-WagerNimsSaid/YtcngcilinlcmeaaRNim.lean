/- Parts, Nim and Whole of the specification, its table among them. -/
import Derived.Test.YtcngcilinlcmeaaIdx
import Derived.Test.YtcngcilinlcmeaaTab
import Derived.Test.YtcngcilinlcmeaaPx15
namespace Go.Proofs.Ytcngcilinlcmeaa.Pure
open Go.RowKit Go.Proofs.Ytcngcilinlcmeaa.P Go.Proofs.YtcngcilinlcmeaaW.PrintWords Go.Proofs.YtcngcilinlcmeaaW.PrintLast
set_option linter.unusedVariables false

theorem rdL1_tab (out : List (List Int)) (h l : Nat) : rd (rd_L1 out (h : Int)) (l : Int) = ent out h l := by
  unfold rd rd_L1 ent
  rw [Int.toNat_natCast, Int.toNat_natCast]
theorem rdL1_len {n h : Nat} (hh : h < n) : (rd_L1 (tabT n) (h : Int)).length = h + 1 := by
  unfold rd_L1
  rw [Int.toNat_natCast, tabT_get hh]
  simp [rowT]
/-- the marks -/
def Marks (met : List Bool) (S : List Int) (N : Nat) : Prop := met.length = N ∧ ∀ v : Nat, v < N → met.getD v false = S.contains (v : Int)
theorem opts_succ (out : List (List Int)) (h l : Nat) : opts out h (l + 1) = opts out h l ++ [ent out (h - (l + 1)) (min (2 * (l + 1)) (h - (l + 1)))] := by
  unfold opts
  rw [List.range_succ, List.map_append]
  rfl
theorem opts_len (out : List (List Int)) (h l : Nat) : (opts out h l).length = l := by simp [opts]
def rowTo (h t : Nat) : List Int := (List.range t).map fun l => (mexL (opts (tabT h) h l) : Int)
theorem rowTo_succ (h t : Nat) : rowTo h (t + 1) = rowTo h t ++ [(mexL (opts (tabT h) h t) : Int)] := by simp [rowTo, List.range_succ]
theorem rowTo_len (h t : Nat) : (rowTo h t).length = t := by simp [rowTo]

theorem tab_l2 {H h t : Nat} (hH : H ≤ 1000) (hh : h ≤ H) (ht : t ≤ h) {r : List (List Int)} {met : List Bool} {S : List Int} (hS : S.length ≤ H) (hm : Marks met S (H + 2)) {row : List Int} (hrow : row.length ≤ 2000)
    (next : Ev (fun k => drovewayref07_table.l1 k (H : Int) (tabT h) (h : Int) met (row ++ [(mexL S : Int)]) (mexL S : Int) ((t + 1 : Nat) : Int)) r) :
    ∀ (d x : Nat), x + d = mexL S → Ev (fun k => drovewayref07_table.l2 k (H : Int) (tabT h) (h : Int) met row (x : Int) (t : Int)) r
  | 0, x, hx => by
    obtain ⟨a, b, c⟩ := mex_spec S
    obtain rfl : x = mexL S := by omega
    have hq := hm.2 (mexL S) (by omega)
    have hf : rdOf false met ((mexL S : Nat) : Int) = false := by
      unfold rdOf
      rw [Int.toNat_natCast, hq]
      simpa using a
    refine Ev.step (f := fun k => drovewayref07_table.l1 k (H : Int) (tabT h) (h : Int) met (row ++ [(mexL S : Int)]) (mexL S : Int) ((t + 1 : Nat) : Int)) (fun k => ?_) next
    simp only [drovewayref07_table.l2]
    rw [if_pos (by omega), if_pos (by have := hm.1; omega), hf, if_neg (by decide), if_pos (by omega), w64 (by omega)]
    rfl
  | d + 1, x, hx => by
    obtain ⟨a, b, c⟩ := mex_spec S
    have hq := hm.2 x (by omega)
    have hin := c x (by omega)
    have ht2 : rdOf false met (x : Int) = true := by
      unfold rdOf
      rw [Int.toNat_natCast, hq]
      simpa using hin
    have ih := tab_l2 hH hh ht hS hm hrow next d (x + 1) (by omega)
    refine Ev.step (f := fun k => drovewayref07_table.l2 k (H : Int) (tabT h) (h : Int) met row ((x + 1 : Nat) : Int) (t : Int)) (fun k => ?_) ih
    simp only [drovewayref07_table.l2]
    rw [if_pos (by omega), if_pos (by have := hm.1; omega), ht2, if_pos rfl, w64 (by omega)]
    rfl

theorem mex_grow {out : List (List Int)} {h l : Nat} : mexL (opts out h l) ≤ mexL (opts out h (l + 1)) := by
  obtain ⟨a, _, c⟩ := mex_spec (opts out h l)
  obtain ⟨a2, _, c2⟩ := mex_spec (opts out h (l + 1))
  rcases Nat.lt_or_ge (mexL (opts out h (l + 1))) (mexL (opts out h l)) with h1 | h1
  · have hm := List.mem_append_left [ent out (h - (l + 1)) (min (2 * (l + 1)) (h - (l + 1)))] (c _ h1)
    rw [← opts_succ] at hm
    exact absurd hm a2
  · exact h1

theorem tab_l1 {H h : Nat} (hH : H ≤ 1000) (hh : h ≤ H) {r : List (List Int)}
    (next : Ev (fun k => drovewayref07_table.l0 k (H : Int) (tabT (h + 1)) ((h + 1 : Nat) : Int)) r) :
    ∀ (d t : Nat) (met : List Bool), t + d = h + 1 → 1 ≤ t → Marks met (opts (tabT h) h (t - 1)) (H + 2) →
      Ev (fun k => drovewayref07_table.l1 k (H : Int) (tabT h) (h : Int) met (rowTo h t) (mexL (opts (tabT h) h (t - 1)) : Int) (t : Int)) r
  | 0, t, met, ht, h1, hm => by
    refine Ev.step (f := fun k => drovewayref07_table.l0 k (H : Int) (tabT (h + 1)) ((h + 1 : Nat) : Int)) (fun k => ?_) next
    simp only [drovewayref07_table.l1]
    rw [if_neg (by omega), if_pos (by rw [tabT_len]; omega), w64 (by omega), show t = h + 1 by omega]
    rfl
  | d + 1, t, met, ht, h1, hm => by
    obtain ⟨s, rfl⟩ : ∃ s, t = s + 1 := ⟨t - 1, by omega⟩
    rw [Nat.add_sub_cancel] at *
    have ih := fun met hm => tab_l1 hH hh next d (s + 1 + 1) met (by omega) (by omega) hm
    rw [Nat.add_sub_cancel] at ih
    obtain ⟨e, he⟩ : ∃ e, ent (tabT h) (h - (s + 1)) (min (2 * (s + 1)) (h - (s + 1))) = e := ⟨_, rfl⟩
    have hev : e = (val (h - (s + 1)) (min (2 * (s + 1)) (h - (s + 1))) : Int) := by rw [← he]; exact ent_tab (by omega) (by omega)
    have hvl := val_le (h - (s + 1)) (min (2 * (s + 1)) (h - (s + 1)))
    have hmn : mn (2 * ((s + 1 : Nat) : Int)) ((h : Int) - ((s + 1 : Nat) : Int)) = ((min (2 * (s + 1)) (h - (s + 1)) : Nat) : Int) := by
      have := mx_mn (2 * ((s + 1 : Nat) : Int)) ((h : Int) - ((s + 1 : Nat) : Int))
      omega
    have hsub : (h : Int) - ((s + 1 : Nat) : Int) = ((h - (s + 1) : Nat) : Int) := by omega
    have hopt : opts (tabT h) h (s + 1) = opts (tabT h) h s ++ [e] := by rw [opts_succ, he]
    have hm2 : Marks (met.set e.toNat true) (opts (tabT h) h (s + 1)) (H + 2) := by
      refine ⟨by rw [List.length_set]; exact hm.1, fun v hv => ?_⟩
      rw [hopt, List.getD_eq_getElem?_getD, List.getElem?_set]
      by_cases hve : e.toNat = v
      · rw [if_pos hve, if_pos (by have := hm.1; omega)]
        simp
        right
        omega
      · rw [if_neg hve, ← List.getD_eq_getElem?_getD, hm.2 v hv]
        simp
        intro h2
        omega
    have h2 := tab_l2 (t := s + 1) hH hh (by omega) (by rw [opts_len]; omega) hm2 (row := rowTo h (s + 1)) (by rw [rowTo_len]; omega) (by
      rw [← rowTo_succ]
      exact ih _ hm2) (mexL (opts (tabT h) h (s + 1)) - mexL (opts (tabT h) h s)) (mexL (opts (tabT h) h s)) (by have := mex_grow (out := tabT h) (h := h) (l := s); omega)
    refine Ev.step (f := fun k => drovewayref07_table.l2 k (H : Int) (tabT h) (h : Int) (met.set e.toNat true) (rowTo h (s + 1)) (mexL (opts (tabT h) h s) : Int) ((s + 1 : Nat) : Int)) (fun k => ?_) h2
    simp only [drovewayref07_table.l1]
    rw [if_pos (by omega), w64 (n := (h : Int) - ((s + 1 : Nat) : Int)) (by omega), w64 (n := 2 * ((s + 1 : Nat) : Int)) (by omega), hmn, hsub, rdL1_tab, rdL1_len (by omega), tabT_len, he]
    rw [if_pos (by omega), if_pos (by omega), if_pos (by omega), if_pos (by omega), if_pos (by omega), if_pos (by have := hm.1; omega)]

theorem tab_l0 {H : Nat} (hH : H ≤ 1000) : ∀ (d h : Nat), h + d = H + 1 → Ev (fun k => drovewayref07_table.l0 k (H : Int) (tabT h) (h : Int)) (tabT (H + 1))
  | 0, h, hh => by
    obtain rfl : h = H + 1 := by omega
    refine Ev.step (f := fun _ => some (tabT (H + 1))) (fun k => ?_) (Ev.now _)
    simp only [drovewayref07_table.l0]
    rw [if_neg (by omega)]
  | d + 1, h, hh => by
    have ih := tab_l0 hH d (h + 1) (by omega)
    have h2 := tab_l1 hH (h := h) (by omega) ih h 1 (List.replicate (H + 2) false) (by omega) (Nat.le_refl _) ⟨by simp, fun v hv => by
      rw [List.getD_eq_getElem?_getD, List.getElem?_replicate]
      simp [opts, hv]⟩
    refine Ev.step (f := fun k => drovewayref07_table.l1 k (H : Int) (tabT h) (h : Int) (List.replicate (H + 2) false) (rowTo h 1) (mexL (opts (tabT h) h (1 - 1)) : Int) ((1 : Nat) : Int)) (fun k => ?_) h2
    simp only [drovewayref07_table.l0]
    rw [if_pos (by omega), w64 (by omega), if_pos (by omega), if_pos (by omega), show ((H : Int) + 2).toNat = H + 2 by omega]
    rfl
theorem table_ev {H : Nat} (hH : H ≤ 1000) : Ev (fun k => drovewayref07_table.f k (H : Int)) (tabT (H + 1)) := tab_l0 hH (H + 1) 0 (by omega)

/-- the parts of the specification -/
theorem rparts_l1 {L : Nat} (hL : L ≤ 62) : ∀ (i : Nat) (n : Int) (acc : List Int), i ≤ L → 0 ≤ n → n ≤ 1099511627776 → acc.length + i ≤ 62 → Ev (fun k => drovewayref07_parts.l1 k n (fibsTo L) acc ((i : Int) - 1)) (acc ++ gr i n)
  | 0, n, acc, hi, h0, hn, ha => by
    rw [gr, List.append_nil]
    refine Ev.step (f := fun _ => some acc) (fun k => ?_) (Ev.now _)
    simp only [drovewayref07_parts.l1]
    rw [if_neg (by omega)]
  | i + 1, n, acc, hi, h0, hn, ha => by
    have hg := fibsTo_get (m := L) (i := i) (by omega)
    have hl := fibsTo_len L
    have hp := fib_pos i
    rw [gr, show ((i + 1 : Nat) : Int) - 1 = (i : Int) by omega]
    by_cases hf : fib i ≤ n
    · rw [if_pos hf]
      have ih := rparts_l1 hL i (n - fib i) (acc ++ [fib i]) (by omega) (by omega) (by omega) (by rw [List.length_append, List.length_singleton]; omega)
      rw [List.append_assoc, List.singleton_append] at ih
      refine Ev.step (f := fun k => drovewayref07_parts.l1 k (n - fib i) (fibsTo L) (acc ++ [fib i]) ((i : Int) - 1)) (fun k => ?_) ih
      simp only [drovewayref07_parts.l1]
      rw [if_pos (by omega), if_pos (by omega), if_pos (by omega), hg, if_pos hf, if_pos (by omega), w64 (n := n - fib i) (by omega), w64 (n := (i : Int) - 1) (by omega)]
    · rw [if_neg hf]
      have ih := rparts_l1 hL i n acc (by omega) h0 hn (by omega)
      refine Ev.step (f := fun k => drovewayref07_parts.l1 k n (fibsTo L) acc ((i : Int) - 1)) (fun k => ?_) ih
      simp only [drovewayref07_parts.l1]
      rw [if_pos (by omega), if_pos (by omega), if_pos (by omega), hg, if_neg hf, w64 (n := (i : Int) - 1) (by omega)]
theorem rparts_l0 {n : Int} (h0 : 0 ≤ n) (hn : n ≤ 1099511627776) : ∀ (d L : Nat), L + d = 62 → 2 ≤ L → (∀ j, j + 1 < L → fib j ≤ n ∨ L = 2) → Ev (fun k => drovewayref07_parts.l0 k n (fibsTo L)) (parts n)
  | 0, L, hL, h2, hj => by
    obtain rfl : L = 62 := by omega
    have := hj 60 (by omega)
    have := heap_lt hn
    omega
  | d + 1, L, hL, h2, hj => by
    have hl := fibsTo_len L
    have hg := fibsTo_get (m := L) (i := L - 1) (by omega)
    have hg2 := fibsTo_get (m := L) (i := L - 2) (by omega)
    by_cases hf : fib (L - 1) ≤ n
    · have ih := rparts_l0 h0 hn d (L + 1) (by omega) (by omega) (fun j hjl => by
        left
        have := fib_mono (show j ≤ L - 1 by omega)
        omega)
      refine Ev.step (f := fun k => drovewayref07_parts.l0 k n (fibsTo (L + 1))) (fun k => ?_) ih
      have hs := fib_step (L - 2)
      rw [show L - 2 + 2 = L by omega, show L - 2 + 1 = L - 1 by omega] at hs
      have hb := fib_small (show L ≤ 62 by omega)
      have hp := fib_pos L
      simp only [drovewayref07_parts.l0]
      rw [w64 (n := ((fibsTo L).length : Int) - 1) (by omega), w64 (n := ((fibsTo L).length : Int) - 2) (by omega), hl, show (L : Int) - 1 = ((L - 1 : Nat) : Int) by omega, show (L : Int) - 2 = ((L - 2 : Nat) : Int) by omega, hg, hg2]
      rw [if_pos (by omega), if_pos (by omega), if_pos hf, if_pos (by omega), if_pos (by omega), if_pos (by omega), w64 (n := fib (L - 1) + fib (L - 2)) (by omega), ← hs, fibsTo_succ]
    · have h := rparts_l1 (L := L) (by omega) L n [] (Nat.le_refl _) h0 hn (by simp; omega)
      have he : gr L n = parts n := by
        have hlt : n < fib (L - 1) := by omega
        have e1 : gr L n = gr (L - 1) n := gr_up (by omega) hlt
        have e2 : gr 62 n = gr (L - 1) n := gr_up (by omega) hlt
        have e3 : gr 62 n = gr 60 n := gr_up (by omega) (heap_lt hn)
        unfold parts
        rw [e1, ← e2, e3]
      rw [List.nil_append, he] at h
      refine Ev.step (f := fun k => drovewayref07_parts.l1 k n (fibsTo L) ([] : List Int) ((L : Int) - 1)) (fun k => ?_) h
      simp only [drovewayref07_parts.l0]
      rw [w64 (n := ((fibsTo L).length : Int) - 1) (by omega), hl, show (L : Int) - 1 = ((L - 1 : Nat) : Int) by omega, hg]
      rw [if_pos (by omega), if_pos (by omega), if_neg hf]
theorem rparts_ev {n : Int} (h0 : 0 ≤ n) (hn : n ≤ 1099511627776) : Ev (fun k => drovewayref07_parts.f k n) (parts n) :=
  rparts_l0 h0 hn 60 2 (by omega) (by omega) (fun j hj => .inr rfl)
theorem rParts_ev (n : Int) : Ev (fun k => drovewayref07_Parts.f k n) (partsS n) := by
  unfold drovewayref07_Parts.f partsS
  by_cases h1 : n < 0
  · rw [if_neg (show ¬ (0 ≤ n ∧ n ≤ 1099511627776) by omega)]
    exact Ev.pos h1 (Ev.now _)
  · refine Ev.neg h1 ?_
    by_cases h2 : n > 1099511627776
    · rw [if_neg (show ¬ (0 ≤ n ∧ n ≤ 1099511627776) by omega)]
      exact Ev.pos h2 (Ev.now _)
    · rw [if_pos (show 0 ≤ n ∧ n ≤ 1099511627776 by omega)]
      exact Ev.neg h2 (Ev.bind (rparts_ev (by omega) (by omega)) (Ev.now _))

/-- small heaps are played through -/
theorem rnim_small {H : Nat} (hH : H ≤ 60) {l : Int} (hl : 0 ≤ l ∧ l ≤ 1099511627776) : ∀ (d t : Nat), t + d = H + 1 → 1 ≤ t → (0 < H → (t : Int) ≤ tail H) → Ev (fun k => drovewayref07_Nim.l0 k (H : Int) l (tabT (H + 1)) (t : Int)) (nimIn H l)
  | d, t, ht, h1, htt => by
    have out : nimIn H l = (0, 10) → Ev (fun k => drovewayref07_Nim.j2 k (H : Int) l (tabT (H + 1)) (t : Int) false) (nimIn H l) := by
      intro h
      rw [h]
      exact Ev.step (f := fun _ => some (0, 10)) (fun k => by simp only [drovewayref07_Nim.j2, Bool.false_eq_true, if_false]) (Ev.now _)
    by_cases hz : H = 0
    · have hN : nimIn H l = (0, 10) := nimIn_lost (by omega) (.inl (by omega))
      refine Ev.step (f := fun k => drovewayref07_Nim.j2 k (H : Int) l (tabT (H + 1)) (t : Int) false) (fun k => ?_) (out hN)
      simp only [drovewayref07_Nim.l0]
      rw [decide_eq_false (show ¬ (t : Int) ≤ H by omega)]
      split <;> rfl
    have hp : 0 < H := by omega
    have hb : (H : Int) ≤ 1099511627776 := by omega
    have htb := tail_bounds (n := (H : Int)) (by omega) hb
    have htl := htt hp
    by_cases hlt : (t : Int) ≤ l
    · refine Ev.step (f := fun k => drovewayref07_Nim.j2 k (H : Int) l (tabT (H + 1)) (t : Int) true) (fun k => ?_) ?_
      · simp only [drovewayref07_Nim.l0]
        rw [if_pos hlt, decide_eq_true (show (t : Int) ≤ H by omega)]
      have hsub : (H : Int) - (t : Int) = ((H - t : Nat) : Int) := by omega
      have hmn : mn (2 * (t : Int)) ((H - t : Nat) : Int) = ((min (2 * t) (H - t) : Nat) : Int) := by
        have := mx_mn (2 * (t : Int)) ((H - t : Nat) : Int)
        omega
      have hent : ent (tabT (H + 1)) (H - t) (min (2 * t) (H - t)) = (val (H - t) (min (2 * t) (H - t)) : Int) := ent_tab (by omega) (by omega)
      have hval := val_tail (H + 1) (H - t) (min (2 * t) (H - t)) (by omega) (by omega) (by omega)
      refine Ev.step (f := fun k => if (val (H - t) (min (2 * t) (H - t)) : Int) = 0 then some ((t : Int), 0) else drovewayref07_Nim.l0 k (H : Int) l (tabT (H + 1)) ((t + 1 : Nat) : Int)) (fun k => ?_) ?_
      · simp only [drovewayref07_Nim.j2, if_true]
        rw [w64 (n := (H : Int) - (t : Int)) (by omega), w64 (n := 2 * (t : Int)) (by omega), hsub, hmn, rdL1_tab, rdL1_len (by omega), tabT_len, hent]
        rw [if_pos (by omega), if_pos (by omega), if_pos (by omega), if_pos (by omega), w64 (n := (t : Int) + 1) (by omega)]
        rfl
      by_cases hv : (t : Int) = tail H
      · have hzero : val (H - t) (min (2 * t) (H - t)) = 0 := by
          rw [hval]
          by_cases he : (H : Int) = tail H
          · left; omega
          · right
            have h3 : 2 * tail H < tail ((H : Int) - tail H) := tl_more 60 H (by omega) (heap_lt hb) he
            rw [← hv] at h3
            rw [show ((H - t : Nat) : Int) = (H : Int) - t by omega]
            omega
        have hN := nimIn_won (n := (H : Int)) (l := l) (by omega) (by omega)
        rw [hN, ← hv]
        exact Ev.pos (by omega) (Ev.now _)
      · have hnz : val (H - t) (min (2 * t) (H - t)) ≠ 0 := by
          rw [Ne, hval]
          have h3 : tail ((H : Int) - t) ≤ 2 * t := tl_less 60 H t (by omega) (heap_lt hb) (by omega) (show (t : Int) < tl 60 H from by unfold tail at hv htl; omega)
          have h5 := tail_bounds (n := (H : Int) - t) (by omega) (by omega)
          rw [show ((H - t : Nat) : Int) = (H : Int) - t by omega]
          omega
        refine Ev.neg (by omega) ?_
        cases d with
        | zero => omega
        | succ d => exact rnim_small hH hl d (t + 1) (by omega) (by omega) (fun _ => by omega)
    · have hN : nimIn H l = (0, 10) := nimIn_lost (by omega) (.inr (by omega))
      refine Ev.step (f := fun k => drovewayref07_Nim.j2 k (H : Int) l (tabT (H + 1)) (t : Int) false) (fun k => ?_) (out hN)
      simp only [drovewayref07_Nim.l0]
      rw [if_neg hlt]
theorem rNim_ev (n l : Int) : Ev (fun k => drovewayref07_Nim.f k n l) (nimS n l) := by
  have bad : ¬ (0 ≤ n ∧ n ≤ 1099511627776 ∧ 0 ≤ l ∧ l ≤ 1099511627776) → Ev (fun k => drovewayref07_Nim.j0 k n l true) (nimS n l) := by
    intro h
    unfold nimS
    rw [if_neg h]
    exact Ev.step (f := fun _ => some (0, 2)) (fun k => by simp only [drovewayref07_Nim.j0, if_true]) (Ev.now _)
  unfold drovewayref07_Nim.f
  by_cases h1 : n < 0
  · exact Ev.pos h1 (bad (by omega))
  refine Ev.neg h1 ?_
  by_cases h2 : n > 1099511627776
  · exact Ev.pos h2 (bad (by omega))
  refine Ev.neg h2 ?_
  by_cases h3 : l < 0
  · exact Ev.pos h3 (bad (by omega))
  refine Ev.neg h3 ?_
  by_cases h4 : l > 1099511627776
  · rw [decide_eq_true h4]
    exact bad (by omega)
  rw [decide_eq_false h4]
  unfold nimS
  rw [if_pos (show 0 ≤ n ∧ n ≤ 1099511627776 ∧ 0 ≤ l ∧ l ≤ 1099511627776 by omega)]
  refine Ev.step (f := fun k => if n ≤ 60 then ((drovewayref07_table.f k n).bind fun t318 => (drovewayref07_Nim.l0 k n l t318 1)) else ((drovewayref07_parts.f k n).bind fun t323 => (if 0 ≤ (wrap64 ((t323.length : Int) - 1)) then (if (wrap64 ((t323.length : Int) - 1)) < (t323.length : Int) then (if (rd t323 (wrap64 ((t323.length : Int) - 1))) > l then (some (0, 10)) else (some (rd t323 (wrap64 ((t323.length : Int) - 1)), 0))) else (none)) else (none)))) (fun k => by simp only [drovewayref07_Nim.j0, Bool.false_eq_true, if_false]) ?_
  by_cases h5 : n ≤ 60
  · obtain ⟨H, rfl⟩ : ∃ H : Nat, n = H := ⟨n.toNat, by omega⟩
    refine Ev.pos h5 (Ev.bind (table_ev (by omega)) ?_)
    exact rnim_small (by omega) (by omega) H 1 (by omega) (Nat.le_refl _) (fun hp => by have := tail_bounds (n := (H : Int)) (by omega) (by omega); omega)
  · refine Ev.neg h5 (Ev.bind (rparts_ev (by omega) (by omega)) ?_)
    have hp := parts_last (n := n) (by omega) (by omega)
    rw [w64 (n := ((parts n).length : Int) - 1) (by omega), hp.2.1]
    refine Ev.pos (by omega) (Ev.pos (by omega) ?_)
    unfold nimIn
    rw [if_neg (show ¬ n = 0 by omega)]
    by_cases ht : tail n > l
    · rw [if_neg (show ¬ tail n ≤ l by omega)]
      exact Ev.pos ht (Ev.now _)
    · rw [if_pos (show tail n ≤ l by omega)]
      exact Ev.neg ht (Ev.now _)
end Go.Proofs.Ytcngcilinlcmeaa.Pure
