/- voted. -/
import Derived.Test.YtldakfaolagoiaaProg
import Derived.Below
import Derived.Deep.Draws
import Derived.Deep.AppendLies
import Derived.Maps.AppendAt
import Derived.OwnWalk
import Derived.Laws.BytesArg
import Derived.Laws.MakeOwn
import Derived.Laws.OwnMore
import Derived.Deep.OwnRows
import Derived.Tactics
import Derived.Lib.ConvBytes
import Derived.Laws.Slices
import Derived.WalkKit
import Derived.KernelRfl
import Derived.RowKit3
import Derived.Deep.LoopGhost
import Derived.Deep.QuietTactic
import Derived.BigQuiet
import Derived.WideLaws
import Derived.Deep.DeepCutAuto
import Derived.Deep.CutBlock
import Derived.Deep.RegionHeld3
import Derived.Laws.Rows
import Derived.Lib.AppendStr
import Derived.ArgAppend
import Derived.Laws.IdiomCopy
import Derived.OrdersHeld
import Derived.Laws.BitsLemmas
import Derived.RowKit
import Derived.Test.YtldakfaolagoiaaWWords
import Derived.Test.YtldakfaolagoiaaWLast
import Derived.Test.YtldakfaolagoiaaWTab
import Derived.Test.YtldakfaolagoiaaWFour
import Derived.Test.YtldakfaolagoiaaWQPut
import Derived.Test.YtldakfaolagoiaaWApart
import Derived.Test.YtldakfaolagoiaaWArr
import Derived.Test.YtldakfaolagoiaaWZeros
import Derived.Test.YtldakfaolagoiaaWFoot
import Derived.Test.YtldakfaolagoiaaWKept
import Derived.Test.YtldakfaolagoiaaWShare
import Derived.Test.YtldakfaolagoiaaWN
import Derived.Test.YtldakfaolagoiaaWFootNe
import Derived.Test.YtldakfaolagoiaaWAt
import Derived.Test.YtldakfaolagoiaaWEqStruct
import Derived.Test.YtldakfaolagoiaaWRepsOne
import Derived.Test.YtldakfaolagoiaaWInv
import Derived.Test.YtldakfaolagoiaaWInvWords
import Derived.Test.YtldakfaolagoiaaWGuard
import Derived.Test.YtldakfaolagoiaaWNEv
import Derived.Test.YtldakfaolagoiaaWMore
import Derived.Maps.OwnOps
import Derived.DeepKeys4
import Derived.WalkSpells
import Derived.Laws.EntriesVeiled
import Derived.Deep.RegionLawGrows
import Derived.ArgAppend
import Derived.Test.YtldakfaolagoiaaTbJ
namespace Go.Proofs.Ytldakfaolagoiaa.Tb
open Go.RowKit Go.Proofs.YtldakfaolagoiaaW.PrintWords Go.Proofs.YtldakfaolagoiaaW.PrintLast Go.Proofs.YtldakfaolagoiaaW.PrintMore
attribute [local go_sem] max2_int min2_int max_two min_two max_three min_three max_four min_four
set_option linter.unusedVariables false
set_option linter.unusedSimpArgs false

theorem C35 (w : World) : Kd.C (Kd.int .i64) (w.alloc (.cells #[.int .i64 3, .int .i64 5] 3)) (some ⟨w.heap.size, 0, none⟩) 2 [3, 5] := by
  refine ⟨rfl, by decide, fun _ => ⟨_, rfl, fun j p hj => ⟨[.int .i64 p], rfl, rfl, fun i u hu => ?_⟩⟩⟩
  have hi : i = 0 := by
    rcases i with _ | i
    · rfl
    · simp at hu
  subst hi
  obtain rfl : Value.int .i64 p = u := by simpa using hu
  have hb := heap_alloc_new w (.cells #[.int .i64 3, .int .i64 5] 3)
  have hj2 : j < 2 := by
    have := (List.getElem?_eq_some_iff.1 hj).1
    simpa using this
  rcases (show j = 0 ∨ j = 1 by omega) with rfl | rfl
  · obtain rfl : 3 = p := by simpa using hj
    exact (blk_cell hb 0).trans rfl
  · obtain rfl : 5 = p := by simpa using hj
    exact (blk_cell hb 1).trans rfl
theorem field35 : FieldOK 3 [3, 5] := ⟨by decide, by decide, by decide, by decide +kernel⟩
theorem spots35 : SpotsOK 3 ⟨#[119, 119, 100]⟩ := ⟨by decide, by decide, by decide⟩
theorem rule35 : RuleOK 3 [3, 5] := by
  refine ⟨by decide, by decide, by decide, ?_, ?_, ?_, ?_⟩ <;>
  · intro i hi
    have hi : i < 2 := hi
    rcases (show i = 0 ∨ i = 1 by omega) with rfl | rfl <;> decide +kernel
theorem place35 : placeOf ⟨#[119, 119, 100]⟩ (ByteArray.size ⟨#[119, 119, 100]⟩) = (3, 4) := by decide +kernel
theorem letter35 : letterOf (val 3 [3, 5] 3 4 1) = ⟨#[119]⟩ := by decide +kernel
set_option maxHeartbeats 1600000 in
set_option maxRecDepth 100000 in
theorem voted_calls (w : World) : Calls Try.prog 5 #[] w fun e w' => e = .returned (.bool true) ∧ Below w.heap.size w w' := by
  have HB0 := Aside0.mk (below_alloc (Below.refl w.heap.size w) (.cells #[.int .i64 3, .int .i64 5] 3))
  go_enter Try.func5, Try.ntmps5
  go_wp2_with fail
  refine (winner_w 3 (some ⟨w.heap.size, 0, none⟩) 2 [3, 5] ⟨#[119, 119, 100]⟩ _ (C35 w) (by decide) field35 spots35 place35 ⟨by decide, by decide⟩ ⟨by decide, by decide⟩).mono ?_
  rintro e w1 ⟨rfl, hb1⟩
  rw [letter35]
  have HB1 := Aside0.mk (below_step HB0.out hb1)
  clear hb1 HB0
  have HB2 := Aside0.mk (below_alloc HB1.out (.cells #[.int .i64 3, .int .i64 5] 3))
  go_wp2_with fail
  refine (rules2_calls 3 3 (some ⟨w1.heap.size, 0, none⟩) 2 [3, 5] _ (C35 w1) (by decide) rule35 (by decide) (by decide +kernel)).mono ?_
  rintro e w3 ⟨rfl, hb3⟩
  rw [show win [3, 5] 3 = true from by decide +kernel]
  have HB3 := Aside0.mk (below_step HB2.out hb3)
  clear hb3 HB1 HB2
  go_wp2
  go_ret
  exact ⟨rfl, HB3.out⟩
end Go.Proofs.Ytldakfaolagoiaa.Tb
