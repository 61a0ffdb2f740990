/- Parts, Nim and Whole of the specification, its table among them. -/
import Derived.Test.YtcnicogoccadnaaDoorNim
import Derived.Test.YtcnicogoccadnaaDoorTab
import Derived.Test.YtcnicogoccadnaaDoorPx4
namespace Go.Proofs.YtcnicogoccadnaaDoor.Pure
open Go.RowKit Go.Proofs.YtcnicogoccadnaaDoor.P Go.Proofs.YtcnicogoccadnaaDoorW.PrintWords Go.Proofs.YtcnicogoccadnaaDoorW.PrintLast
set_option linter.unusedVariables false

theorem rdL1_tab (out : List (List Int)) (h l : Nat) : rd (rd_L1 out (h : Int)) (l : Int) = ent out h l := by
  unfold rd rd_L1 ent
  rw [Int.toNat_natCast, Int.toNat_natCast]
theorem rdL1_len {n h : Nat} (hh : h < n) : (rd_L1 (tabT n) (h : Int)).length = h + 1 := by
  unfold rd_L1
  rw [Int.toNat_natCast, tabT_get hh]
  simp [rowT]
/-- the marks -/
def Marks (met : List Bool) (S : List Int) (N : Nat) : Prop := met.length = N ∧ ∀ v : Nat, v < N → met.getD v false = S.contains (v : Int)
theorem opts_succ (out : List (List Int)) (h l : Nat) : opts out h (l + 1) = opts out h l ++ [ent out (h - (l + 1)) (min (2 * (l + 1)) (h - (l + 1)))] := by
  unfold opts
  rw [List.range_succ, List.map_append]
  rfl
theorem opts_len (out : List (List Int)) (h l : Nat) : (opts out h l).length = l := by simp [opts]
def rowTo (h t : Nat) : List Int := (List.range t).map fun l => (mexL (opts (tabT h) h l) : Int)
theorem rowTo_succ (h t : Nat) : rowTo h (t + 1) = rowTo h t ++ [(mexL (opts (tabT h) h t) : Int)] := by simp [rowTo, List.range_succ]
theorem rowTo_len (h t : Nat) : (rowTo h t).length = t := by simp [rowTo]

theorem tab_l2 {H h t : Nat} (hH : H ≤ 1000) (hh : h ≤ H) (ht : t ≤ h) {r : List (List Int)} {met : List Bool} {S : List Int} (hS : S.length ≤ H) (hm : Marks met S (H + 2)) {row : List Int} (hrow : row.length ≤ 2000)
    (next : Ev (fun k => drovewayref07_table.l1 k (H : Int) (tabT h) (h : Int) met (row ++ [(mexL S : Int)]) (mexL S : Int) ((t + 1 : Nat) : Int)) r) :
    ∀ (d x : Nat), x + d = mexL S → Ev (fun k => drovewayref07_table.l2 k (H : Int) (tabT h) (h : Int) met row (x : Int) (t : Int)) r
  | 0, x, hx => by
    obtain ⟨a, b, c⟩ := mex_spec S
    obtain rfl : x = mexL S := by omega
    have hq := hm.2 (mexL S) (by omega)
    have hf : rdOf false met ((mexL S : Nat) : Int) = false := by
      unfold rdOf
      rw [Int.toNat_natCast, hq]
      simpa using a
    refine Ev.step (f := fun k => drovewayref07_table.l1 k (H : Int) (tabT h) (h : Int) met (row ++ [(mexL S : Int)]) (mexL S : Int) ((t + 1 : Nat) : Int)) (fun k => ?_) next
    simp only [drovewayref07_table.l2]
    rw [if_pos (by omega), if_pos (by have := hm.1; omega), hf, if_neg (by decide), if_pos (by omega), w64 (by omega)]
    rfl
  | d + 1, x, hx => by
    obtain ⟨a, b, c⟩ := mex_spec S
    have hq := hm.2 x (by omega)
    have hin := c x (by omega)
    have ht2 : rdOf false met (x : Int) = true := by
      unfold rdOf
      rw [Int.toNat_natCast, hq]
      simpa using hin
    have ih := tab_l2 hH hh ht hS hm hrow next d (x + 1) (by omega)
    refine Ev.step (f := fun k => drovewayref07_table.l2 k (H : Int) (tabT h) (h : Int) met row ((x + 1 : Nat) : Int) (t : Int)) (fun k => ?_) ih
    simp only [drovewayref07_table.l2]
    rw [if_pos (by omega), if_pos (by have := hm.1; omega), ht2, if_pos rfl, w64 (by omega)]
    rfl

theorem mex_grow {out : List (List Int)} {h l : Nat} : mexL (opts out h l) ≤ mexL (opts out h (l + 1)) := by
  obtain ⟨a, _, c⟩ := mex_spec (opts out h l)
  obtain ⟨a2, _, c2⟩ := mex_spec (opts out h (l + 1))
  rcases Nat.lt_or_ge (mexL (opts out h (l + 1))) (mexL (opts out h l)) with h1 | h1
  · have hm := List.mem_append_left [ent out (h - (l + 1)) (min (2 * (l + 1)) (h - (l + 1)))] (c _ h1)
    rw [← opts_succ] at hm
    exact absurd hm a2
  · exact h1

theorem tab_l1 {H h : Nat} (hH : H ≤ 1000) (hh : h ≤ H) {r : List (List Int)}
    (next : Ev (fun k => drovewayref07_table.l0 k (H : Int) (tabT (h + 1)) ((h + 1 : Nat) : Int)) r) :
    ∀ (d t : Nat) (met : List Bool), t + d = h + 1 → 1 ≤ t → Marks met (opts (tabT h) h (t - 1)) (H + 2) →
      Ev (fun k => drovewayref07_table.l1 k (H : Int) (tabT h) (h : Int) met (rowTo h t) (mexL (opts (tabT h) h (t - 1)) : Int) (t : Int)) r
  | 0, t, met, ht, h1, hm => by
    refine Ev.step (f := fun k => drovewayref07_table.l0 k (H : Int) (tabT (h + 1)) ((h + 1 : Nat) : Int)) (fun k => ?_) next
    simp only [drovewayref07_table.l1]
    rw [if_neg (by omega), if_pos (by rw [tabT_len]; omega), w64 (by omega), show t = h + 1 by omega]
    rfl
  | d + 1, t, met, ht, h1, hm => by
    obtain ⟨s, rfl⟩ : ∃ s, t = s + 1 := ⟨t - 1, by omega⟩
    rw [Nat.add_sub_cancel] at *
    have ih := fun met hm => tab_l1 hH hh next d (s + 1 + 1) met (by omega) (by omega) hm
    rw [Nat.add_sub_cancel] at ih
    obtain ⟨e, he⟩ : ∃ e, ent (tabT h) (h - (s + 1)) (min (2 * (s + 1)) (h - (s + 1))) = e := ⟨_, rfl⟩
    have hev : e = (val (h - (s + 1)) (min (2 * (s + 1)) (h - (s + 1))) : Int) := by rw [← he]; exact ent_tab (by omega) (by omega)
    have hvl := val_le (h - (s + 1)) (min (2 * (s + 1)) (h - (s + 1)))
    have hmn : mn (2 * ((s + 1 : Nat) : Int)) ((h : Int) - ((s + 1 : Nat) : Int)) = ((min (2 * (s + 1)) (h - (s + 1)) : Nat) : Int) := by
      have := mx_mn (2 * ((s + 1 : Nat) : Int)) ((h : Int) - ((s + 1 : Nat) : Int))
      omega
    have hsub : (h : Int) - ((s + 1 : Nat) : Int) = ((h - (s + 1) : Nat) : Int) := by omega
    have hopt : opts (tabT h) h (s + 1) = opts (tabT h) h s ++ [e] := by rw [opts_succ, he]
    have hm2 : Marks (met.set e.toNat true) (opts (tabT h) h (s + 1)) (H + 2) := by
      refine ⟨by rw [List.length_set]; exact hm.1, fun v hv => ?_⟩
      rw [hopt, List.getD_eq_getElem?_getD, List.getElem?_set]
      by_cases hve : e.toNat = v
      · rw [if_pos hve, if_pos (by have := hm.1; omega)]
        simp
        right
        omega
      · rw [if_neg hve, ← List.getD_eq_getElem?_getD, hm.2 v hv]
        simp
        intro h2
        omega
    have h2 := tab_l2 (t := s + 1) hH hh (by omega) (by rw [opts_len]; omega) hm2 (row := rowTo h (s + 1)) (by rw [rowTo_len]; omega) (by
      rw [← rowTo_succ]
      exact ih _ hm2) (mexL (opts (tabT h) h (s + 1)) - mexL (opts (tabT h) h s)) (mexL (opts (tabT h) h s)) (by have := mex_grow (out := tabT h) (h := h) (l := s); omega)
    refine Ev.step (f := fun k => drovewayref07_table.l2 k (H : Int) (tabT h) (h : Int) (met.set e.toNat true) (rowTo h (s + 1)) (mexL (opts (tabT h) h s) : Int) ((s + 1 : Nat) : Int)) (fun k => ?_) h2
    simp only [drovewayref07_table.l1]
    rw [if_pos (by omega), w64 (n := (h : Int) - ((s + 1 : Nat) : Int)) (by omega), w64 (n := 2 * ((s + 1 : Nat) : Int)) (by omega), hmn, hsub, rdL1_tab, rdL1_len (by omega), tabT_len, he]
    rw [if_pos (by omega), if_pos (by omega), if_pos (by omega), if_pos (by omega), if_pos (by omega), if_pos (by have := hm.1; omega)]

theorem tab_l0 {H : Nat} (hH : H ≤ 1000) : ∀ (d h : Nat), h + d = H + 1 → Ev (fun k => drovewayref07_table.l0 k (H : Int) (tabT h) (h : Int)) (tabT (H + 1))
  | 0, h, hh => by
    obtain rfl : h = H + 1 := by omega
    refine Ev.step (f := fun _ => some (tabT (H + 1))) (fun k => ?_) (Ev.now _)
    simp only [drovewayref07_table.l0]
    rw [if_neg (by omega)]
  | d + 1, h, hh => by
    have ih := tab_l0 hH d (h + 1) (by omega)
    have h2 := tab_l1 hH (h := h) (by omega) ih h 1 (List.replicate (H + 2) false) (by omega) (Nat.le_refl _) ⟨by simp, fun v hv => by
      rw [List.getD_eq_getElem?_getD, List.getElem?_replicate]
      simp [opts, hv]⟩
    refine Ev.step (f := fun k => drovewayref07_table.l1 k (H : Int) (tabT h) (h : Int) (List.replicate (H + 2) false) (rowTo h 1) (mexL (opts (tabT h) h (1 - 1)) : Int) ((1 : Nat) : Int)) (fun k => ?_) h2
    simp only [drovewayref07_table.l0]
    rw [if_pos (by omega), w64 (by omega), if_pos (by omega), if_pos (by omega), show ((H : Int) + 2).toNat = H + 2 by omega]
    rfl
theorem table_ev {H : Nat} (hH : H ≤ 1000) : Ev (fun k => drovewayref07_table.f k (H : Int)) (tabT (H + 1)) := tab_l0 hH (H + 1) 0 (by omega)
end Go.Proofs.YtcnicogoccadnaaDoor.Pure
