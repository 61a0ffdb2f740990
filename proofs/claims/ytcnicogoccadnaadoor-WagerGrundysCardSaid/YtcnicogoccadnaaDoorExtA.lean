/- The contract of the method bitten of a bar: for all bars, rows from 0 to 6 and columns. -/
import Derived.Test.YtcnicogoccadnaaDoorProg
import Derived.Below
import Derived.Deep.Draws
import Derived.Deep.AppendLies
import Derived.Maps.AppendAt
import Derived.OwnWalk
import Derived.Laws.BytesArg
import Derived.Laws.MakeOwn
import Derived.Laws.OwnMore
import Derived.Deep.OwnRows
import Derived.Tactics
import Derived.Lib.ConvBytes
import Derived.Laws.Slices
import Derived.WalkKit
import Derived.KernelRfl
import Derived.RowKit3
import Derived.Deep.LoopGhost
import Derived.Deep.QuietTactic
import Derived.BigQuiet
import Derived.WideLaws
import Derived.Deep.DeepCutAuto
import Derived.Deep.CutBlock
import Derived.Deep.RegionHeld3
import Derived.Laws.Rows
import Derived.Lib.AppendStr
import Derived.ArgAppend
import Derived.Laws.IdiomCopy
import Derived.OrdersHeld
import Derived.Laws.BitsLemmas
import Derived.RowKit
import Derived.Test.YtcnicogoccadnaaDoorWWords
import Derived.Test.YtcnicogoccadnaaDoorWLast
import Derived.Test.YtcnicogoccadnaaDoorWTab
import Derived.Test.YtcnicogoccadnaaDoorWFour
import Derived.Test.YtcnicogoccadnaaDoorWQPut
import Derived.Test.YtcnicogoccadnaaDoorWApart
import Derived.Test.YtcnicogoccadnaaDoorWArr
import Derived.Test.YtcnicogoccadnaaDoorWZeros
import Derived.Test.YtcnicogoccadnaaDoorWFoot
import Derived.Test.YtcnicogoccadnaaDoorWKept
import Derived.Test.YtcnicogoccadnaaDoorWShare
import Derived.Test.YtcnicogoccadnaaDoorWN
import Derived.Test.YtcnicogoccadnaaDoorWFootNe
import Derived.Test.YtcnicogoccadnaaDoorWAt
import Derived.Test.YtcnicogoccadnaaDoorWEqStruct
import Derived.Test.YtcnicogoccadnaaDoorWRepsOne
import Derived.Test.YtcnicogoccadnaaDoorWInv
import Derived.Test.YtcnicogoccadnaaDoorWInvWords
import Derived.Test.YtcnicogoccadnaaDoorWGuard
import Derived.Test.YtcnicogoccadnaaDoorWNEv
import Derived.Test.YtcnicogoccadnaaDoorWMore
namespace Go.Proofs.YtcnicogoccadnaaDoor.Ext
open Go.RowKit Go.Proofs.YtcnicogoccadnaaDoorW.PrintWords Go.Proofs.YtcnicogoccadnaaDoorW.PrintLast Go.Proofs.YtcnicogoccadnaaDoorW.PrintMore
attribute [local go_sem] max2_int min2_int max_two min_two max_three min_three max_four min_four
set_option linter.unusedVariables false
set_option linter.unusedSimpArgs false

/-- one row of a bar after a bite -/
def bitC (row col x : Int) (i : Int) : Int := if row ≤ i then mn x col else x
/-- the same, rows from 0 to r - 1 being done -/
def bitR (row col x : Int) (i r : Int) : Int := if i < r then bitC row col x i else x

theorem heap_new1 (w : World) (o o1 : Obj) : ((w.alloc o).alloc o1).heap[w.heap.size + 1]? = some o1 := by
  have h := heap_alloc_new (w.alloc o) o1
  have e : (w.alloc o).heap.size = w.heap.size + 1 := by show (w.heap.push o).size = _; simp
  rw [e] at h; exact h
theorem bitR_lt {row col x i r : Int} (h : i < r) : bitR row col x i r = bitC row col x i := by unfold bitR; rw [if_pos h]
theorem bitR_ge {row col x i r : Int} (h : r ≤ i) : bitR row col x i r = x := by unfold bitR; rw [if_neg (by omega)]
theorem bitC_ge {row col x i : Int} (h : row ≤ i) : bitC row col x i = mn x col := by unfold bitC; rw [if_pos h]

set_option maxHeartbeats 8000000 in
set_option maxRecDepth 100000 in
theorem bitten_calls (x0 x1 x2 x3 x4 x5 row col : Int) (w : World) (h0 : 0 ≤ row) (h6 : row ≤ 6) :
    Calls Tryd.prog 30 #[.agg #[.int .i64 x0, .int .i64 x1, .int .i64 x2, .int .i64 x3, .int .i64 x4, .int .i64 x5], .int .i64 row, .int .i64 col] w fun e w' =>
      e = .returned (.agg #[.int .i64 (bitC row col x0 0), .int .i64 (bitC row col x1 1), .int .i64 (bitC row col x2 2), .int .i64 (bitC row col x3 3), .int .i64 (bitC row col x4 4), .int .i64 (bitC row col x5 5)]) ∧ Below w.heap.size w w' := by
  have hu66 := Tryd.underlying61
  go_enter Tryd.func30, Tryd.ntmps30
  go_wp2
  go_loopw [7] (fun v7 W => ∃ r : Int, v7 = .int .i64 r ∧ Aside0 (row ≤ r) ∧ Aside0 (r ≤ 6) ∧ Aside0 (W.heap[w.heap.size]? = some (.cells #[.int .i64 (bitR row col x0 0 r), .int .i64 (bitR row col x1 1 r), .int .i64 (bitR row col x2 2 r), .int .i64 (bitR row col x3 3 r), .int .i64 (bitR row col x4 4 r), .int .i64 (bitR row col x5 5 r)] 61 (0, 0))) ∧ Aside0 (W.heap[w.heap.size + 1]? = some (.cells #[.int .i64 0, .int .i64 0, .int .i64 0, .int .i64 0, .int .i64 0, .int .i64 0] 61 (0, 0))) ∧ Aside0 (Below w.heap.size w W)) (fun v7 _ => (6 - intOf v7).toNat)
  case atStart =>
    refine ⟨row, rfl, ⟨Int.le_refl _⟩, ⟨h6⟩, ⟨?_⟩, ⟨?_⟩, ⟨by repeat (first | exact Below.refl _ _ | apply below_alloc)⟩⟩
    · have e : ∀ (x : Int) (i : Int), bitR row col x i row = x := by
        intro x i; unfold bitR bitC; split
        · rw [if_neg (by omega)]
        · rfl
      simp only [e]
      exact blk_alloc (heap_alloc_new _ _) _
    · exact heap_new1 _ _ _
  case round =>
    obtain ⟨r, rfl, hr0, hr6, hb, hb2, hB⟩ := hrel
    have hr0' := hr0.out
    have hr6' := hr6.out
    rcases (show r = 6 ∨ r = 0 ∨ r = 1 ∨ r = 2 ∨ r = 3 ∨ r = 4 ∨ r = 5 by omega) with rfl | rfl | rfl | rfl | rfl | rfl | rfl
    ·
      have ac0 := blk_cell hb.out 0
      have af0 := blk_frozen hb.out 0
      have ac1 := blk_cell hb.out 1
      have af1 := blk_frozen hb.out 1
      have ac2 := blk_cell hb.out 2
      have af2 := blk_frozen hb.out 2
      have ac3 := blk_cell hb.out 3
      have af3 := blk_frozen hb.out 3
      have ac4 := blk_cell hb.out 4
      have af4 := blk_frozen hb.out 4
      have ac5 := blk_cell hb.out 5
      have af5 := blk_frozen hb.out 5
      have bc0 := blk_cell hb2.out 0
      have bf0 := blk_frozen hb2.out 0
      have bc1 := blk_cell hb2.out 1
      have bf1 := blk_frozen hb2.out 1
      have bc2 := blk_cell hb2.out 2
      have bf2 := blk_frozen hb2.out 2
      have bc3 := blk_cell hb2.out 3
      have bf3 := blk_frozen hb2.out 3
      have bc4 := blk_cell hb2.out 4
      have bf4 := blk_frozen hb2.out 4
      have bc5 := blk_cell hb2.out 5
      have bf5 := blk_frozen hb2.out 5
      simp only [List.getElem?_toArray, List.getElem?_cons_zero, List.getElem?_cons_succ] at ac0 ac1 ac2 ac3 ac4 ac5 bc0 bc1 bc2 bc3 bc4 bc5
      go_wp2
      have hx : ∀ (x i : Int), i < 6 → bitR row col x i 6 = bitC row col x i := fun x i h => bitR_lt h
      refine bodyPost_ret (results_cell_row rfl _ _ (w.heap.size + 1) 61 #[.int .i64 (bitR row col x0 0 6), .int .i64 (bitR row col x1 1 6), .int .i64 (bitR row col x2 2 6), .int .i64 (bitR row col x3 3 6), .int .i64 (bitR row col x4 4 6), .int .i64 (bitR row col x5 5 6)] (0, 0) _ rfl ?hblk Tryd.underlying61 rfl (by kernel_rfl)) rfl ?_
      case hblk =>
        refine blk_put (cs := #[.int .i64 (bitR row col x0 0 6), .int .i64 (bitR row col x1 1 6), .int .i64 (bitR row col x2 2 6), .int .i64 (bitR row col x3 3 6), .int .i64 (bitR row col x4 4 6), .int .i64 0]) ?_ 5 _ rfl
        refine blk_put (cs := #[.int .i64 (bitR row col x0 0 6), .int .i64 (bitR row col x1 1 6), .int .i64 (bitR row col x2 2 6), .int .i64 (bitR row col x3 3 6), .int .i64 0, .int .i64 0]) ?_ 4 _ rfl
        refine blk_put (cs := #[.int .i64 (bitR row col x0 0 6), .int .i64 (bitR row col x1 1 6), .int .i64 (bitR row col x2 2 6), .int .i64 0, .int .i64 0, .int .i64 0]) ?_ 3 _ rfl
        refine blk_put (cs := #[.int .i64 (bitR row col x0 0 6), .int .i64 (bitR row col x1 1 6), .int .i64 0, .int .i64 0, .int .i64 0, .int .i64 0]) ?_ 2 _ rfl
        refine blk_put (cs := #[.int .i64 (bitR row col x0 0 6), .int .i64 0, .int .i64 0, .int .i64 0, .int .i64 0, .int .i64 0]) ?_ 1 _ rfl
        refine blk_put (cs := #[.int .i64 0, .int .i64 0, .int .i64 0, .int .i64 0, .int .i64 0, .int .i64 0]) ?_ 0 _ rfl
        exact hb2.out
      refine ⟨?_, ?_⟩
      · simp only [hx _ 0 (by decide), hx _ 1 (by decide), hx _ 2 (by decide), hx _ 3 (by decide), hx _ 4 (by decide), hx _ 5 (by decide)]
      · repeat (first | (with_reducible exact hB.out) | (with_reducible refine below_set ?_ (by omega)))
    · have hc := blk_cell hb.out 0
      have hf := blk_frozen hb.out 0
      simp only [List.getElem?_toArray, List.getElem?_cons_zero, List.getElem?_cons_succ] at hc
      go_wp2
      go_roundw
      case rel =>
        refine ⟨1, rfl, ⟨by omega⟩, ⟨by omega⟩, ⟨blk_put hb.out 0 _ ?_⟩, ⟨blk_far hb2.out (by simp) _⟩, ⟨hB.out.setCell (Nat.le_refl _) _⟩⟩
        simp [bitR, bitC, mn, hr0']
      case measure => simp [intOf]
    · have hc := blk_cell hb.out 1
      have hf := blk_frozen hb.out 1
      simp only [List.getElem?_toArray, List.getElem?_cons_zero, List.getElem?_cons_succ] at hc
      go_wp2
      go_roundw
      case rel =>
        refine ⟨2, rfl, ⟨by omega⟩, ⟨by omega⟩, ⟨blk_put hb.out 1 _ ?_⟩, ⟨blk_far hb2.out (by simp) _⟩, ⟨hB.out.setCell (Nat.le_refl _) _⟩⟩
        simp [bitR, bitC, mn, hr0']
      case measure => simp [intOf]
    · have hc := blk_cell hb.out 2
      have hf := blk_frozen hb.out 2
      simp only [List.getElem?_toArray, List.getElem?_cons_zero, List.getElem?_cons_succ] at hc
      go_wp2
      go_roundw
      case rel =>
        refine ⟨3, rfl, ⟨by omega⟩, ⟨by omega⟩, ⟨blk_put hb.out 2 _ ?_⟩, ⟨blk_far hb2.out (by simp) _⟩, ⟨hB.out.setCell (Nat.le_refl _) _⟩⟩
        simp [bitR, bitC, mn, hr0']
      case measure => simp [intOf]
    · have hc := blk_cell hb.out 3
      have hf := blk_frozen hb.out 3
      simp only [List.getElem?_toArray, List.getElem?_cons_zero, List.getElem?_cons_succ] at hc
      go_wp2
      go_roundw
      case rel =>
        refine ⟨4, rfl, ⟨by omega⟩, ⟨by omega⟩, ⟨blk_put hb.out 3 _ ?_⟩, ⟨blk_far hb2.out (by simp) _⟩, ⟨hB.out.setCell (Nat.le_refl _) _⟩⟩
        simp [bitR, bitC, mn, hr0']
      case measure => simp [intOf]
    · have hc := blk_cell hb.out 4
      have hf := blk_frozen hb.out 4
      simp only [List.getElem?_toArray, List.getElem?_cons_zero, List.getElem?_cons_succ] at hc
      go_wp2
      go_roundw
      case rel =>
        refine ⟨5, rfl, ⟨by omega⟩, ⟨by omega⟩, ⟨blk_put hb.out 4 _ ?_⟩, ⟨blk_far hb2.out (by simp) _⟩, ⟨hB.out.setCell (Nat.le_refl _) _⟩⟩
        simp [bitR, bitC, mn, hr0']
      case measure => simp [intOf]
    · have hc := blk_cell hb.out 5
      have hf := blk_frozen hb.out 5
      simp only [List.getElem?_toArray, List.getElem?_cons_zero, List.getElem?_cons_succ] at hc
      go_wp2
      go_roundw
      case rel =>
        refine ⟨6, rfl, ⟨by omega⟩, ⟨by omega⟩, ⟨blk_put hb.out 5 _ ?_⟩, ⟨blk_far hb2.out (by simp) _⟩, ⟨hB.out.setCell (Nat.le_refl _) _⟩⟩
        simp [bitR, bitC, mn, hr0']
      case measure => simp [intOf]
end Go.Proofs.YtcnicogoccadnaaDoor.Ext
