/- Grundy's numbers of Fibonacci nim in plain Lean: the table, and that a number is 0 exactly where the tail is greater than the limit. -/
import Derived.Test.YtcnicogoccadnaaDoorFib
namespace Go.Proofs.YtcnicogoccadnaaDoor.Pure
open Go.RowKit Go.Proofs.YtcnicogoccadnaaDoorW.PrintWords Go.Proofs.YtcnicogoccadnaaDoorW.PrintLast
set_option linter.unusedVariables false

/-- the least number that is not in a list -/
def mexL (S : List Int) : Nat := ((List.range (S.length + 1)).find? fun (x : Nat) => !(S.contains (x : Int))).getD 0
theorem mex_ex (S : List Int) : ∃ x : Nat, x ≤ S.length ∧ (x : Int) ∉ S := by
  -- more numbers than places
  have key : ∀ (n : Nat) (S : List Int), (∀ x : Nat, x < n → (x : Int) ∈ S) → n ≤ S.length := by
    intro n
    induction n with
    | zero => intro S _; omega
    | succ n ih =>
      intro S h
      have h1 : ((n : Nat) : Int) ∈ S := h n (by omega)
      have h2 := ih (S.erase (n : Int)) (fun x hx => by
        have h3 := h x (by omega)
        exact (List.mem_erase_of_ne (by omega)).2 h3)
      have h3 := List.length_erase_of_mem h1
      have h4 : 0 < S.length := List.length_pos_of_mem h1
      omega
  have h := Classical.byContradiction (p := ∃ x : Nat, x ≤ S.length ∧ (x : Int) ∉ S) (fun hn => by
    have h1 := key (S.length + 1) S (fun x hx => Classical.byContradiction (fun h2 => hn ⟨x, by omega, h2⟩))
    omega)
  exact h
theorem mex_spec (S : List Int) : ((mexL S : Nat) : Int) ∉ S ∧ mexL S ≤ S.length ∧ ∀ y : Nat, y < mexL S → (y : Int) ∈ S := by
  unfold mexL
  cases hf : (List.range (S.length + 1)).find? fun (x : Nat) => !(S.contains (x : Int)) with
  | none =>
    obtain ⟨x, hx, hn⟩ := mex_ex S
    have := List.find?_eq_none.1 hf x (by simp; omega)
    simp at this
    exact absurd this hn
  | some x =>
    rw [List.find?_eq_some_iff_getElem] at hf
    obtain ⟨h1, i, hi, he, h2⟩ := hf
    simp at he hi
    subst he
    simp at h1
    refine ⟨h1, by simp; omega, fun y hy => ?_⟩
    have := h2 y hy
    simpa using this
theorem mex_unique {S : List Int} {x : Nat} (h1 : (x : Int) ∉ S) (h2 : ∀ y : Nat, y < x → (y : Int) ∈ S) : mexL S = x := by
  obtain ⟨a, _, c⟩ := mex_spec S
  rcases Nat.lt_trichotomy (mexL S) x with h | h | h
  · exact absurd (h2 _ h) a
  · exact h
  · exact absurd (c _ h) h1

/-- entry l of row h -/
def ent (out : List (List Int)) (h : Nat) (l : Nat) : Int := (out.getD h []).getD l 0
/-- what a player leaves who takes 1, 2, .., l matches -/
def opts (out : List (List Int)) (h l : Nat) : List Int := (List.range l).map fun t => ent out (h - (t + 1)) (min (2 * (t + 1)) (h - (t + 1)))
def rowT (out : List (List Int)) (h : Nat) : List Int := (List.range (h + 1)).map fun l => (mexL (opts out h l) : Int)
def tabT : Nat → List (List Int)
  | 0 => []
  | h + 1 => tabT h ++ [rowT (tabT h) h]
theorem tabT_len : ∀ h, (tabT h).length = h
  | 0 => rfl
  | h + 1 => by rw [tabT, List.length_append, tabT_len h]; rfl
theorem tabT_get : ∀ {n h : Nat}, h < n → (tabT n).getD h [] = rowT (tabT h) h
  | 0, h, hh => by omega
  | n + 1, h, hh => by
    rw [tabT]
    rcases Nat.lt_or_ge h n with h1 | h1
    · rw [List.getD_eq_getElem?_getD, List.getElem?_append_left (by rw [tabT_len]; exact h1), ← List.getD_eq_getElem?_getD]
      exact tabT_get h1
    · obtain rfl : h = n := by omega
      rw [List.getD_eq_getElem?_getD, List.getElem?_append_right (by rw [tabT_len]; exact Nat.le_refl _), tabT_len, Nat.sub_self]
      rfl
/-- Grundy's number -/
def val (h l : Nat) : Nat := mexL (opts (tabT h) h l)
theorem ent_tab {n h l : Nat} (hh : h < n) (hl : l ≤ h) : ent (tabT n) h l = (val h l : Int) := by
  unfold ent
  rw [tabT_get hh]
  unfold rowT val
  rw [List.getD_eq_getElem?_getD, List.getElem?_map, List.getElem?_range (by omega)]
  rfl
theorem opts_mem {h l : Nat} (hl : l ≤ h) (x : Int) : x ∈ opts (tabT h) h l ↔ ∃ t, 1 ≤ t ∧ t ≤ l ∧ x = (val (h - t) (min (2 * t) (h - t)) : Int) := by
  unfold opts
  rw [List.mem_map]
  constructor
  · rintro ⟨t, ht, rfl⟩
    rw [List.mem_range] at ht
    exact ⟨t + 1, by omega, by omega, ent_tab (by omega) (by omega)⟩
  · rintro ⟨t, h1, h2, rfl⟩
    refine ⟨t - 1, by rw [List.mem_range]; omega, ?_⟩
    rw [show t - 1 + 1 = t by omega]
    exact ent_tab (by omega) (by omega)
theorem val_le (h l : Nat) : val h l ≤ l := by
  have := (mex_spec (opts (tabT h) h l)).2.1
  unfold val
  unfold opts at *
  simpa using this
theorem val_zero (h l : Nat) (hl : l ≤ h) : val h l = 0 ↔ ∀ t, 1 ≤ t → t ≤ l → val (h - t) (min (2 * t) (h - t)) ≠ 0 := by
  obtain ⟨a, _, c⟩ := mex_spec (opts (tabT h) h l)
  constructor
  · intro hz t h1 h2 he
    unfold val at hz
    rw [hz] at a
    exact a ((opts_mem hl _).2 ⟨t, h1, h2, by rw [he]⟩)
  · intro hn
    apply mex_unique
    · intro hm
      obtain ⟨t, h1, h2, h3⟩ := (opts_mem hl _).1 hm
      exact hn t h1 h2 (by omega)
    · intro y hy; omega
theorem val_mono (h l : Nat) (hl : l + 1 ≤ h) : val h l ≤ val h (l + 1) := by
  obtain ⟨a, _, c⟩ := mex_spec (opts (tabT h) h l)
  obtain ⟨a2, _, c2⟩ := mex_spec (opts (tabT h) h (l + 1))
  rcases Nat.lt_or_ge (val h (l + 1)) (val h l) with h1 | h1
  · exfalso
    have h2 := c _ h1
    obtain ⟨t, h3, h4, h5⟩ := (opts_mem (by omega) _).1 h2
    exact a2 ((opts_mem hl _).2 ⟨t, h3, by omega, h5⟩)
  · exact h1

/-- nobody wins exactly where the heap is empty or the tail is greater than the limit -/
theorem val_tail : ∀ (n h l : Nat), h < n → l ≤ h → (h : Int) ≤ 1099511627776 → (val h l = 0 ↔ h = 0 ∨ (l : Int) < tail h)
  | 0, h, l, hn, _, _ => by omega
  | n + 1, h, l, hn, hl, hb => by
    rw [val_zero h l hl]
    rcases Nat.eq_zero_or_pos h with rfl | hp
    · exact ⟨fun _ => .inl rfl, fun _ t h1 h2 => by omega⟩
    have hlt := heap_lt hb
    have htb := tl_bounds (i := 60) (n := (h : Int)) (by omega) hlt
    have ht2 : 1 ≤ tail h ∧ tail h ≤ h := htb
    constructor
    · intro hall
      right
      rcases Int.lt_or_le (l : Int) (tail h) with h1 | h1
      · exact h1
      · exfalso
        obtain ⟨t, ht⟩ : ∃ t : Nat, (t : Int) = tail h := ⟨(tail h).toNat, by omega⟩
        have h2 := hall t (by omega) (by omega)
        apply h2
        rw [val_tail n (h - t) (min (2 * t) (h - t)) (by omega) (by omega) (by omega)]
        by_cases he : (h : Int) = tail h
        · left; omega
        · right
          have h3 := tl_more 60 h (by omega) hlt he
          have h4 : 2 * tail h < tail (h - tail h) := h3
          rw [← ht] at h4
          rw [show ((h - t : Nat) : Int) = (h : Int) - t by omega]
          omega
    · rintro (h0 | hlt2) t h1 h2
      · omega
      · intro hz
        rw [val_tail n (h - t) (min (2 * t) (h - t)) (by omega) (by omega) (by omega)] at hz
        have h3 := tl_less 60 h t (by omega) hlt (by omega) (show (t : Int) < tl 60 h from by unfold tail at hlt2; omega)
        have h4 : tail (h - t) ≤ 2 * t := h3
        have h5 : 1 ≤ tail ((h : Int) - t) ∧ tail ((h : Int) - t) ≤ (h : Int) - t := tl_bounds (i := 60) (n := (h : Int) - t) (by omega) (by omega)
        rw [show ((h - t : Nat) : Int) = (h : Int) - t by omega] at hz
        omega
end Go.Proofs.YtcnicogoccadnaaDoor.Pure
