/- IsRule. -/
import Derived.Test.YtldakfaolagoiaaProg
import Derived.Below
import Derived.Deep.Draws
import Derived.Deep.AppendLies
import Derived.Maps.AppendAt
import Derived.OwnWalk
import Derived.Laws.BytesArg
import Derived.Laws.MakeOwn
import Derived.Laws.OwnMore
import Derived.Deep.OwnRows
import Derived.Tactics
import Derived.Lib.ConvBytes
import Derived.Laws.Slices
import Derived.WalkKit
import Derived.KernelRfl
import Derived.RowKit3
import Derived.Deep.LoopGhost
import Derived.Deep.QuietTactic
import Derived.BigQuiet
import Derived.WideLaws
import Derived.Deep.DeepCutAuto
import Derived.Deep.CutBlock
import Derived.Deep.RegionHeld3
import Derived.Laws.Rows
import Derived.Lib.AppendStr
import Derived.ArgAppend
import Derived.Laws.IdiomCopy
import Derived.OrdersHeld
import Derived.Laws.BitsLemmas
import Derived.RowKit
import Derived.Test.YtldakfaolagoiaaWWords
import Derived.Test.YtldakfaolagoiaaWLast
import Derived.Test.YtldakfaolagoiaaWTab
import Derived.Test.YtldakfaolagoiaaWFour
import Derived.Test.YtldakfaolagoiaaWQPut
import Derived.Test.YtldakfaolagoiaaWApart
import Derived.Test.YtldakfaolagoiaaWArr
import Derived.Test.YtldakfaolagoiaaWZeros
import Derived.Test.YtldakfaolagoiaaWFoot
import Derived.Test.YtldakfaolagoiaaWKept
import Derived.Test.YtldakfaolagoiaaWShare
import Derived.Test.YtldakfaolagoiaaWN
import Derived.Test.YtldakfaolagoiaaWFootNe
import Derived.Test.YtldakfaolagoiaaWAt
import Derived.Test.YtldakfaolagoiaaWEqStruct
import Derived.Test.YtldakfaolagoiaaWRepsOne
import Derived.Test.YtldakfaolagoiaaWInv
import Derived.Test.YtldakfaolagoiaaWInvWords
import Derived.Test.YtldakfaolagoiaaWGuard
import Derived.Test.YtldakfaolagoiaaWNEv
import Derived.Test.YtldakfaolagoiaaWMore
import Derived.Maps.OwnOps
import Derived.DeepKeys4
import Derived.WalkSpells
import Derived.Laws.EntriesVeiled
import Derived.Deep.RegionLawGrows
import Derived.ArgAppend
import Derived.Test.YtldakfaolagoiaaTbJ
namespace Go.Proofs.Ytldakfaolagoiaa.Tb
open Go.RowKit Go.Proofs.YtldakfaolagoiaaW.PrintWords Go.Proofs.YtldakfaolagoiaaW.PrintLast Go.Proofs.YtldakfaolagoiaaW.PrintMore
attribute [local go_sem] max2_int min2_int max_two min_two max_three min_three max_four min_four
set_option linter.unusedVariables false
set_option linter.unusedSimpArgs false

open P
theorem Ev.pos {α : Type} {c : Prop} [Decidable c] {g f : Nat → Option α} {r : α} (h : c) (hg : Ev g r) : Ev (fun k => if c then g k else f k) r := Ev.congr (fun k => if_pos h) hg
theorem Ev.neg {α : Type} {c : Prop} [Decidable c] {g f : Nat → Option α} {r : α} (h : ¬ c) (hg : Ev f r) : Ev (fun k => if c then g k else f k) r := Ev.congr (fun k => if_neg h) hg
theorem w64 {n : Int} (h : -9223372036854775808 ≤ n ∧ n ≤ 9223372036854775807) : wrap64 n = n := IntWalk.wrap64_in n ⟨by omega, by omega⟩
def Far (l : List Int) (i h : Nat) : Prop := Go.bits .andNot .i64 (rd l h) (rd l i) ≠ 0 ∧ Go.bits .andNot .i64 (rd l i) (rd l h) ≠ 0
def Good (n : Int) (l : List Int) (i : Nat) : Prop := (1 ≤ rd l i ∧ rd l i < shl .i64 1 n) ∧ (0 < i → rd l ((i : Int) - 1) < rd l i) ∧ ∀ h, h < i → Far l i h
/-- the lines from i on -/
def Rest (n : Int) (l : List Int) (i : Nat) (r : Bool) : Prop := Ev (fun k => drovewayref03_IsRule.l0 k n l i) r ∧ (r = true → ∀ j, i ≤ j → j < l.length → Good n l j)
theorem inner_ev {n : Int} {l : List Int} (hl : l.length ≤ 12) {i : Nat} (hi : i < l.length) (hnext : ∃ r, Rest n l (i + 1) r) :
    ∀ (d h : Nat), h + d = i → ∃ r, Ev (fun k => drovewayref03_IsRule.l1 k n l i h) r ∧ (r = true → (∀ g, h ≤ g → g < i → Far l i g) ∧ ∀ j, i < j → j < l.length → Good n l j)
  | 0, h, e => by
    obtain ⟨r, hr, hG⟩ := hnext
    obtain rfl : h = i := by omega
    refine ⟨r, ?_, fun hrt => ⟨fun g h1 h2 => by omega, fun j h1 h2 => hG hrt j h1 h2⟩⟩
    refine Ev.step (f := fun k => drovewayref03_IsRule.l0 k n l ((h + 1 : Nat) : Int)) (fun k => ?_) hr
    rw [drovewayref03_IsRule.l1, if_neg (by omega), w64 (by omega)]
    rfl
  | d + 1, h, e => by
    by_cases c1 : Go.bits .andNot .i64 (rd l h) (rd l i) = 0
    · refine ⟨false, ?_, fun h => by cases h⟩
      refine Ev.step (f := fun k => some false) (fun k => ?_) (Ev.now _)
      rw [drovewayref03_IsRule.l1, if_pos (by omega), if_pos (by omega), if_pos (by omega), if_pos (by omega), if_pos (by omega), if_pos c1]
    · by_cases c2 : Go.bits .andNot .i64 (rd l i) (rd l h) = 0
      · refine ⟨false, ?_, fun h => by cases h⟩
        refine Ev.step (f := fun k => some false) (fun k => ?_) (Ev.now _)
        rw [drovewayref03_IsRule.l1, if_pos (by omega), if_pos (by omega), if_pos (by omega), if_pos (by omega), if_pos (by omega), if_neg c1, if_pos c2]
      · obtain ⟨r, hr, hG⟩ := inner_ev hl hi hnext d (h + 1) (by omega)
        refine ⟨r, ?_, fun hrt => ⟨fun g h1 h2 => ?_, (hG hrt).2⟩⟩
        · refine Ev.step (f := fun k => drovewayref03_IsRule.l1 k n l i ((h + 1 : Nat) : Int)) (fun k => ?_) hr
          rw [drovewayref03_IsRule.l1, if_pos (by omega), if_pos (by omega), if_pos (by omega), if_pos (by omega), if_pos (by omega), if_neg c1, if_neg c2, w64 (by omega)]
          rfl
        · by_cases hg : g = h
          · subst hg
            exact ⟨c1, c2⟩
          · exact (hG hrt).1 g (by omega) h2
theorem rest_ev {n : Int} (hn : 1 ≤ n ∧ n ≤ 5) {l : List Int} (hl : l.length ≤ 12) : ∀ (d i : Nat), i + d = l.length → ∃ r, Rest n l i r
  | 0, i, e => ⟨true, Ev.step (f := fun k => some true) (fun k => by rw [drovewayref03_IsRule.l0, if_neg (by omega)]) (Ev.now _), fun _ j h1 h2 => by omega⟩
  | d + 1, i, e => by
    have hi : i < l.length := by omega
    have stop : ∀ b : Bool, b = true → Ev (fun k => drovewayref03_IsRule.j2 k n l i b) false := fun b hb => Ev.step (f := fun k => some false) (fun k => by rw [drovewayref03_IsRule.j2, if_pos hb]) (Ev.now _)
    by_cases c1 : rd l i < 1
    · refine ⟨false, Ev.step (f := fun k => drovewayref03_IsRule.j2 k n l i true) (fun k => ?_) (stop _ rfl), fun h => by cases h⟩
      rw [drovewayref03_IsRule.l0, if_pos (by omega), if_pos (by omega), if_pos c1]
    · by_cases c2 : rd l i ≥ shl .i64 1 n
      · refine ⟨false, Ev.step (f := fun k => drovewayref03_IsRule.j2 k n l i true) (fun k => ?_) (stop _ rfl), fun h => by cases h⟩
        rw [drovewayref03_IsRule.l0, if_pos (by omega), if_pos (by omega), if_neg c1, if_pos (by omega), if_pos c2]
      · obtain ⟨r, hr, hG⟩ := inner_ev hl hi (rest_ev hn hl d (i + 1) (by omega)) i 0 (by omega)
        have go : Ev (fun k => drovewayref03_IsRule.j2 k n l i false) r := by
          refine Ev.step (f := fun k => drovewayref03_IsRule.l1 k n l i 0) (fun k => ?_) hr
          rw [drovewayref03_IsRule.j2, if_neg (by simp)]
        by_cases c3 : 0 < i
        · by_cases c4 : rd l i ≤ rd l ((i : Int) - 1)
          · refine ⟨false, Ev.step (f := fun k => drovewayref03_IsRule.j2 k n l i true) (fun k => ?_) (stop _ rfl), fun h => by cases h⟩
            rw [drovewayref03_IsRule.l0, if_pos (by omega), if_pos (by omega), if_neg c1, if_pos (by omega), if_neg c2, if_pos (by omega), w64 (by omega), if_pos (by omega), if_pos (by omega), decide_eq_true c4]
          · refine ⟨r, Ev.step (f := fun k => drovewayref03_IsRule.j2 k n l i false) (fun k => ?_) go, fun hrt j h1 h2 => ?_⟩
            · rw [drovewayref03_IsRule.l0, if_pos (by omega), if_pos (by omega), if_neg c1, if_pos (by omega), if_neg c2, if_pos (by omega), w64 (by omega), if_pos (by omega), if_pos (by omega), decide_eq_false c4]
            · by_cases hj : j = i
              · subst hj
                exact ⟨⟨by omega, by omega⟩, fun _ => by omega, fun h hh => (hG hrt).1 h (Nat.zero_le _) hh⟩
              · exact (hG hrt).2 j (by omega) h2
        · refine ⟨r, Ev.step (f := fun k => drovewayref03_IsRule.j2 k n l i false) (fun k => ?_) go, fun hrt j h1 h2 => ?_⟩
          · rw [drovewayref03_IsRule.l0, if_pos (by omega), if_pos (by omega), if_neg c1, if_pos (by omega), if_neg c2, if_neg (by omega)]
          · by_cases hj : j = i
            · subst hj
              exact ⟨⟨by omega, by omega⟩, fun h => absurd h c3, fun h hh => (hG hrt).1 h (Nat.zero_le _) hh⟩
            · exact (hG hrt).2 j (by omega) h2
theorem and_fin : ∀ (x y : Fin 32), (Go.bits .andNot .i64 (x.val : Int) y.val ≠ 0 → land (x.val : Int) y.val ≠ x.val) ∧ (Go.bits .andNot .i64 (y.val : Int) x.val ≠ 0 → land (x.val : Int) y.val ≠ y.val) := by decide +kernel
theorem shl_pw {n : Int} (h1 : 1 ≤ n) (h5 : n ≤ 5) : shl .i64 1 n = pw n := by
  rcases (show n = 1 ∨ n = 2 ∨ n = 3 ∨ n = 4 ∨ n = 5 by omega) with rfl | rfl | rfl | rfl | rfl <;> decide +kernel
/-- IsRule returns; where true, the rule is one -/
theorem isrule_ev (n : Int) {l : List Int} (hl : l.length ≤ 12) : ∃ r, (∃ k, drovewayref03_IsRule.f k n l = some r) ∧ (r = true → RuleOK n l) := by
  have stop : ∀ b : Bool, b = true → Ev (fun k => drovewayref03_IsRule.j0 k n l b) false := fun b hb => Ev.step (f := fun k => some false) (fun k => by rw [drovewayref03_IsRule.j0, if_pos hb]) (Ev.now _)
  by_cases c1 : n < 1
  · refine ⟨false, Ev.rounds (Ev.congr (fun k => ?_) (stop true rfl)), fun h => by cases h⟩
    unfold drovewayref03_IsRule.f
    rw [if_pos c1]
  · by_cases c2 : n > 5
    · refine ⟨false, Ev.rounds (Ev.congr (fun k => ?_) (stop true rfl)), fun h => by cases h⟩
      unfold drovewayref03_IsRule.f
      rw [if_neg c1, if_pos c2]
    · by_cases c3 : l = []
      · refine ⟨false, Ev.rounds (Ev.congr (fun k => ?_) (stop ((l.length : Int) == 0) (by rw [c3]; rfl))), fun h => by cases h⟩
        unfold drovewayref03_IsRule.f
        rw [if_neg c1, if_neg c2]
      · obtain ⟨r, hr, hG⟩ := rest_ev (n := n) ⟨by omega, by omega⟩ hl l.length 0 (by omega)
        have hpos : 0 < l.length := List.length_pos_iff.2 c3
        have hb : ((l.length : Int) == 0) = false := by rw [beq_eq_false_iff_ne]; omega
        refine ⟨r, Ev.rounds (Ev.congr (f := fun k => drovewayref03_IsRule.j0 k n l false) (fun k => ?_) (Ev.step (f := fun k => drovewayref03_IsRule.l0 k n l 0) (fun k => ?_) hr)), fun hrt => ?_⟩
        · unfold drovewayref03_IsRule.f
          rw [if_neg c1, if_neg c2, hb]
        · rw [drovewayref03_IsRule.j0, if_neg (by simp)]
        · have G := fun j hj => hG hrt j (Nat.zero_le _) hj
          have hs := shl_pw (n := n) (by omega) (by omega)
          have h32 := pw_eq (n := n) (by omega) (by omega)
          refine ⟨by omega, by omega, c3, fun i hi => (G i hi).1.1, fun i hi => hs ▸ (G i hi).1.2, fun i hi h0 => (G i hi).2.1 h0, fun i hi => ?_⟩
          rw [List.any_eq_false]
          intro x hx
          obtain ⟨h, hh, e⟩ := List.mem_iff_getElem.1 hx
          rw [List.length_take] at hh
          rw [List.getElem_take] at e
          have hhl : h < l.length := by omega
          have ex : x = rd l h := by
            rw [← e]
            unfold rd
            rw [List.getD_eq_getElem?_getD, show ((h : Int)).toNat = h from by omega, List.getElem?_eq_getElem hhl]
            rfl
          have f := (G i hi).2.2 h (by omega)
          have gx := (G h hhl).1
          have gy := (G i hi).1
          rw [hs] at gx gy
          obtain ⟨X, hX⟩ : ∃ X : Fin 32, rd l h = (X.val : Int) := ⟨⟨(rd l h).toNat, by omega⟩, by simp; omega⟩
          obtain ⟨Y, hY⟩ : ∃ Y : Fin 32, rd l i = (Y.val : Int) := ⟨⟨(rd l i).toNat, by omega⟩, by simp; omega⟩
          unfold Far at f
          rw [hX, hY] at f
          rw [ex, hX, hY]
          have := and_fin X Y
          simp only [Bool.or_eq_true, beq_iff_eq, not_or]
          exact ⟨this.1 f.1, this.2 f.2⟩
end Go.Proofs.Ytldakfaolagoiaa.Tb
