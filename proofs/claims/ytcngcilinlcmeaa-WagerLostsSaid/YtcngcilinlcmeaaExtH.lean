/- The contract of Bitten, for all arguments. -/
import Derived.Test.YtcngcilinlcmeaaProg
import Derived.Below
import Derived.Deep.Draws
import Derived.Deep.AppendLies
import Derived.Maps.AppendAt
import Derived.OwnWalk
import Derived.Laws.BytesArg
import Derived.Laws.MakeOwn
import Derived.Laws.OwnMore
import Derived.Deep.OwnRows
import Derived.Tactics
import Derived.Lib.ConvBytes
import Derived.Laws.Slices
import Derived.WalkKit
import Derived.KernelRfl
import Derived.RowKit3
import Derived.Deep.LoopGhost
import Derived.Deep.QuietTactic
import Derived.BigQuiet
import Derived.WideLaws
import Derived.Deep.DeepCutAuto
import Derived.Deep.CutBlock
import Derived.Deep.RegionHeld3
import Derived.Laws.Rows
import Derived.Lib.AppendStr
import Derived.ArgAppend
import Derived.Laws.IdiomCopy
import Derived.OrdersHeld
import Derived.Laws.BitsLemmas
import Derived.RowKit
import Derived.Test.YtcngcilinlcmeaaWWords
import Derived.Test.YtcngcilinlcmeaaWLast
import Derived.Test.YtcngcilinlcmeaaWTab
import Derived.Test.YtcngcilinlcmeaaWFour
import Derived.Test.YtcngcilinlcmeaaWQPut
import Derived.Test.YtcngcilinlcmeaaWApart
import Derived.Test.YtcngcilinlcmeaaWArr
import Derived.Test.YtcngcilinlcmeaaWZeros
import Derived.Test.YtcngcilinlcmeaaWFoot
import Derived.Test.YtcngcilinlcmeaaWKept
import Derived.Test.YtcngcilinlcmeaaWShare
import Derived.Test.YtcngcilinlcmeaaWN
import Derived.Test.YtcngcilinlcmeaaWFootNe
import Derived.Test.YtcngcilinlcmeaaWAt
import Derived.Test.YtcngcilinlcmeaaWEqStruct
import Derived.Test.YtcngcilinlcmeaaWRepsOne
import Derived.Test.YtcngcilinlcmeaaWInv
import Derived.Test.YtcngcilinlcmeaaWInvWords
import Derived.Test.YtcngcilinlcmeaaWGuard
import Derived.Test.YtcngcilinlcmeaaWNEv
import Derived.Test.YtcngcilinlcmeaaWMore
import Derived.Maps.OwnOps
import Derived.DeepKeys4
import Derived.WalkSpells
import Derived.Test.YtcngcilinlcmeaaExtG
namespace Go.Proofs.Ytcngcilinlcmeaa.Ext
open Go.RowKit Go.Proofs.YtcngcilinlcmeaaW.PrintWords Go.Proofs.YtcngcilinlcmeaaW.PrintLast Go.Proofs.YtcngcilinlcmeaaW.PrintMore
attribute [local go_sem] max2_int min2_int max_two min_two max_three min_three max_four min_four
set_option linter.unusedVariables false
set_option linter.unusedSimpArgs false

theorem bittenL_bad {l : List Int} {r c : Int} (h : isBarL l = false) : bittenL l r c = ([], 2) := by unfold bittenL; rw [if_neg (by rw [h]; decide)]
theorem bittenL_out {l : List Int} {r c : Int} (h : isBarL l = true) (h2 : r < 0 ∨ (l.length : Int) ≤ r ∨ c < 0 ∨ rd l r ≤ c) : bittenL l r c = ([], 6) := by unfold bittenL; rw [if_pos h, if_pos h2]
theorem bittenL_in {l : List Int} {r c : Int} (h : isBarL l = true) (h2 : ¬ (r < 0 ∨ (l.length : Int) ≤ r ∨ c < 0 ∨ rd l r ≤ c)) : bittenL l r c = ((bite (padL l) r c).take l.length, 0) := by unfold bittenL; rw [if_pos h, if_neg h2]

set_option maxHeartbeats 8000000 in
set_option maxRecDepth 100000 in
theorem bitten_bad (A : Option Addr) (c : Nat) (l : List Int) (r col : Int) (w : World) (hr : Kd.C (Kd.int .i64) w A l.length l) (hc : l.length ≤ c) (hB : isBarL l = false) :
    Calls Try.prog 36 #[.slice A l.length c, .int .i64 r, .int .i64 col] w fun e w' => ∃ v, e = .returned (.tuple #[v, .int .i64 (bittenL l r col).2]) ∧ Kd.R (Kd.int .i64) 3 w' w.heap.size (fun _ => True) v (bittenL l r col).1 ∧ Below w.heap.size w w' := by
  have hu66 := Try.underlying66
  have HR := Aside0.mk hr
  have HC := Aside0.mk (bittenL_bad (r := r) (c := col) hB)
  have HB := Aside0.mk hB
  clear hB hr
  go_enter Try.func36, Try.ntmps36
  go_wp2_with (first | (go_at_call 50; refine (read_calls A c l _ HR.out hc).mono ?_; rintro e w1 ⟨⟨x0, x1, x2, x3, x4, x5, hxs, rfl⟩, hb1⟩; rw [HB.out]; have HB1 := Aside0.mk hb1; clear hb1 hxs) | fail)
  go_ret2
  exact ⟨_, by rw [HC.out]; rfl, by rw [HC.out]; exact Kd.R_nil _ _ _ _ _, by repeat (first | (with_reducible exact HB1.out) | (with_reducible refine below_set ?_ HB1.out.size) | (with_reducible apply below_alloc))⟩

set_option maxHeartbeats 8000000 in
set_option maxRecDepth 100000 in
theorem bitten_out (A : Option Addr) (c : Nat) (l : List Int) (r col : Int) (w : World) (hr : Kd.C (Kd.int .i64) w A l.length l) (hc : l.length ≤ c) (hB : isBarL l = true)
    (h2 : r < 0 ∨ (l.length : Int) ≤ r ∨ col < 0 ∨ rd l r ≤ col) :
    Calls Try.prog 36 #[.slice A l.length c, .int .i64 r, .int .i64 col] w fun e w' => ∃ v, e = .returned (.tuple #[v, .int .i64 (bittenL l r col).2]) ∧ Kd.R (Kd.int .i64) 3 w' w.heap.size (fun _ => True) v (bittenL l r col).1 ∧ Below w.heap.size w w' := by
  have hu66 := Try.underlying66
  have HR := Aside0.mk hr
  have HC := Aside0.mk (bittenL_out (r := r) (c := col) hB h2)
  have HB := Aside0.mk hB
  clear hB
  by_cases h3 : r < 0
  · clear h2 hr
    go_enter Try.func36, Try.ntmps36
    go_wp2_with (first | (go_at_call 50; refine (read_calls A c l _ HR.out hc).mono ?_; rintro e w1 ⟨⟨x0, x1, x2, x3, x4, x5, hxs, rfl⟩, hb1⟩; rw [HB.out]; have HB1 := Aside0.mk hb1; clear hb1 hxs) | fail)
    go_ret2
    exact ⟨_, by rw [HC.out]; rfl, by rw [HC.out]; exact Kd.R_nil _ _ _ _ _, by repeat (first | (with_reducible exact HB1.out) | (with_reducible refine below_set ?_ HB1.out.size) | (with_reducible apply below_alloc))⟩
  · by_cases h4 : (l.length : Int) ≤ r
    · clear h2 hr
      go_enter Try.func36, Try.ntmps36
      go_wp2_with (first | (go_at_call 50; refine (read_calls A c l _ HR.out hc).mono ?_; rintro e w1 ⟨⟨x0, x1, x2, x3, x4, x5, hxs, rfl⟩, hb1⟩; rw [HB.out]; have HB1 := Aside0.mk hb1; clear hb1 hxs) | fail)
      go_ret2
      exact ⟨_, by rw [HC.out]; rfl, by rw [HC.out]; exact Kd.R_nil _ _ _ _ _, by repeat (first | (with_reducible exact HB1.out) | (with_reducible refine below_set ?_ HB1.out.size) | (with_reducible apply below_alloc))⟩
    · by_cases h5 : col < 0
      · clear h2 hr
        go_enter Try.func36, Try.ntmps36
        go_wp2_with (first | (go_at_call 50; refine (read_calls A c l _ HR.out hc).mono ?_; rintro e w1 ⟨⟨x0, x1, x2, x3, x4, x5, hxs, rfl⟩, hb1⟩; rw [HB.out]; have HB1 := Aside0.mk hb1; clear hb1 hxs) | fail)
        go_ret2
        exact ⟨_, by rw [HC.out]; rfl, by rw [HC.out]; exact Kd.R_nil _ _ _ _ _, by repeat (first | (with_reducible exact HB1.out) | (with_reducible refine below_set ?_ HB1.out.size) | (with_reducible apply below_alloc))⟩
      · have h6 : rd l r ≤ col := by omega
        have h0r : 0 ≤ r := by omega
        have hrl : r < (l.length : Int) := by omega
        obtain ⟨x, hx⟩ : ∃ x, rd l r = x := ⟨_, rfl⟩
        rw [hx] at h6
        have HX := Aside0.mk hx
        clear h2 hx hr
        go_enter Try.func36, Try.ntmps36
        go_wp2_with (first | (go_at_call 50; refine (read_calls A c l _ HR.out hc).mono ?_; rintro e w1 ⟨⟨x0, x1, x2, x3, x4, x5, hxs, rfl⟩, hb1⟩; rw [HB.out]; obtain ⟨ad, hA, hcell⟩ := Kd.at_int (Kd.C_below (Kd.C_below HR.out hb1) (below_alloc (Below.refl _ _) (.cells #[.int .i64 x0, .int .i64 x1, .int .i64 x2, .int .i64 x3, .int .i64 x4, .int .i64 x5] 66))) r h0r hrl; cases hA; rw [HX.out] at hcell; have HB1 := Aside0.mk hb1; clear hb1 hxs) | fail)
        go_ret2
        exact ⟨_, by rw [HC.out]; rfl, by rw [HC.out]; exact Kd.R_nil _ _ _ _ _, by repeat (first | (with_reducible exact HB1.out) | (with_reducible refine below_set ?_ HB1.out.size) | (with_reducible apply below_alloc))⟩

/-- a block of six numbers, read as a slice of its first n -/
theorem six_reads {W : World} {g : Nat} {xs : List Int} (hx : xs.length = 6) (h : W.heap[g]? = some (.cells (xs.map (Value.int .i64)).toArray 66 (0, 0))) (n : Nat) (hn : n ≤ 6) :
    Kd.C (Kd.int .i64) W (some ⟨g, 0, none⟩) n (xs.take n) := by
  refine Kd.C_of_reads (d := (0 : Int)) (h1 := fun _ => rfl) ⟨by rw [List.length_take]; omega, by omega, fun _ => ⟨_, rfl, fun j hj => ?_⟩⟩
  have hc := blk_cell h j
  rw [show (⟨g, 0, none⟩ : Addr).add j = ⟨g, j, none⟩ from by unfold Addr.add; simp; omega, hc]
  have hjx : j < xs.length := by omega
  rw [List.getElem?_toArray, List.getElem?_map, List.getElem?_eq_getElem hjx, List.getD_eq_getElem?_getD, List.getElem?_take, if_pos hj, List.getElem?_eq_getElem hjx]
  rfl

theorem clone_at (A : Option Addr) (c n : Nat) (l : List Int) (w : World) (hn : l.length = n) (hr : Kd.C (Kd.int .i64) w A n l) (hL : n < 17592186044416) :
    Calls Try.prog 52 #[.slice A n c] w fun e w' => ∃ v, e = .returned v ∧ Kd.R (Kd.int .i64) 3 w' w.heap.size (fun _ => True) v l ∧ Below w.heap.size w w' := by
  subst hn
  exact clone_calls A c l w hr hL

set_option maxHeartbeats 8000000 in
set_option maxRecDepth 100000 in
theorem bitten_in (A : Option Addr) (c : Nat) (l : List Int) (r col : Int) (w : World) (hr : Kd.C (Kd.int .i64) w A l.length l) (hc : l.length ≤ c) (hB : isBarL l = true)
    (h0 : 0 ≤ r) (h1 : r < (l.length : Int)) (h2 : 0 ≤ col) (h3 : col < rd l r) :
    Calls Try.prog 36 #[.slice A l.length c, .int .i64 r, .int .i64 col] w fun e w' => ∃ v, e = .returned (.tuple #[v, .int .i64 (bittenL l r col).2]) ∧ Kd.R (Kd.int .i64) 3 w' w.heap.size (fun _ => True) v (bittenL l r col).1 ∧ Below w.heap.size w w' := by
  have hu66 := Try.underlying66
  have hL6 := (isBarL_iff.1 hB).2.1
  have hL1 := (isBarL_iff.1 hB).1
  have HR := Aside0.mk hr
  have HC := Aside0.mk (bittenL_in (r := r) (c := col) hB (by omega))
  have HB := Aside0.mk hB
  have hr6 : r ≤ 6 := by omega
  have hLi : (l.length : Int) ≤ 6 := by omega
  obtain ⟨x, hx⟩ : ∃ x, rd l r = x := ⟨_, rfl⟩
  rw [hx] at h3
  have HX := Aside0.mk hx
  clear hB hr hx
  go_enter Try.func36, Try.ntmps36
  go_wp2_with (first | (go_at_call 50; refine (read_calls A c l _ HR.out hc).mono ?_; rintro e w1 ⟨⟨x0, x1, x2, x3, x4, x5, hxs, rfl⟩, hb1⟩; rw [HB.out]; obtain ⟨ad, hA, hcell⟩ := Kd.at_int (Kd.C_below (Kd.C_below HR.out hb1) (below_alloc (Below.refl _ _) (.cells #[.int .i64 x0, .int .i64 x1, .int .i64 x2, .int .i64 x3, .int .i64 x4, .int .i64 x5] 66))) r h0 h1; cases hA; rw [HX.out] at hcell; have HXS := Aside0.mk (hxs HB.out); have HB1 := Aside0.mk hb1; have HBL := Aside0.mk (heap_alloc_new w1 (.cells #[.int .i64 x0, .int .i64 x1, .int .i64 x2, .int .i64 x3, .int .i64 x4, .int .i64 x5] 66)); clear hb1 hxs) | (go_at_call 59; refine (bitten_calls x0 x1 x2 x3 x4 x5 r col _ h0 hr6).mono ?_; rintro e w2 ⟨rfl, hb2⟩; have HB2 := Aside0.mk hb2; have HBL2 := Aside0.mk (blk_below HBL.out hb2); have hz := blk_lt HBL2.out; obtain ⟨⟨ac0, ac1, ac2, ac3, ac4, ac5⟩, af0, af1, af2, af3, af4, af5⟩ := six_at _ _ _ _ _ _ _ _ HBL2.out; clear hb2 HBL) | fail)
  have hput := put_six (.int .i64 (bitC r col x0 0)) (.int .i64 (bitC r col x1 1)) (.int .i64 (bitC r col x2 2)) (.int .i64 (bitC r col x3 3)) (.int .i64 (bitC r col x4 4)) (.int .i64 (bitC r col x5 5)) HBL2.out
  have hread := six_reads (xs := [bitC r col x0 0, bitC r col x1 1, bitC r col x2 2, bitC r col x3 3, bitC r col x4 4, bitC r col x5 5]) rfl hput l.length hL6
  have hbite : [bitC r col x0 0, bitC r col x1 1, bitC r col x2 2, bitC r col x3 3, bitC r col x4 4, bitC r col x5 5] = bite (padL l) r col := by rw [HXS.out, bite_six]
  rw [hbite] at hread
  have hBW : Below w.heap.size w w2 := below_step (by (with_reducible apply below_alloc); exact HB1.out) HB2.out
  have hs : w.heap.size ≤ w1.heap.size := HB1.out.size
  have hBZ := Aside0.mk (show Below w.heap.size w ((((((w2.setCell ⟨w1.heap.size, 0, none⟩ (.int .i64 (bitC r col x0 0))).setCell ⟨w1.heap.size, 1, none⟩ (.int .i64 (bitC r col x1 1))).setCell ⟨w1.heap.size, 2, none⟩ (.int .i64 (bitC r col x2 2))).setCell ⟨w1.heap.size, 3, none⟩ (.int .i64 (bitC r col x3 3))).setCell ⟨w1.heap.size, 4, none⟩ (.int .i64 (bitC r col x4 4))).setCell ⟨w1.heap.size, 5, none⟩ (.int .i64 (bitC r col x5 5))) from by repeat (first | (with_reducible exact hBW) | (with_reducible refine below_set ?_ hs)))
  refine (clone_at _ 6 l.length ((bite (padL l) r col).take l.length) _ (by have := hread.1; exact this) hread (by omega)).mono ?_
  rintro e w3 ⟨v, rfl, hRv, hb3⟩
  have HRv := Aside0.mk (Kd.R_lower hRv (below_size hBZ.out))
  have HB3 := Aside0.mk (below_step hBZ.out hb3)
  clear hput hread hbite hBW hs hBZ hRv hb3 ac0 ac1 ac2 ac3 ac4 ac5 af0 af1 af2 af3 af4 af5 hz
  go_wp2
  go_ret2
  exact ⟨_, by rw [HC.out]; rfl, by rw [HC.out]; exact HRv.out, HB3.out⟩

/-- Bitten, for all lists -/
theorem bitten_all (A : Option Addr) (c : Nat) (l : List Int) (r col : Int) (w : World) (hr : Kd.C (Kd.int .i64) w A l.length l) (hc : l.length ≤ c) :
    Calls Try.prog 36 #[.slice A l.length c, .int .i64 r, .int .i64 col] w fun e w' => ∃ v, e = .returned (.tuple #[v, .int .i64 (bittenL l r col).2]) ∧ Kd.R (Kd.int .i64) 3 w' w.heap.size (fun _ => True) v (bittenL l r col).1 ∧ Below w.heap.size w w' := by
  cases hB : isBarL l with
  | false => exact bitten_bad A c l r col w hr hc hB
  | true =>
    by_cases h : r < 0 ∨ (l.length : Int) ≤ r ∨ col < 0 ∨ rd l r ≤ col
    · exact bitten_out A c l r col w hr hc hB h
    · exact bitten_in A c l r col w hr hc hB (by omega) (by omega) (by omega) (by omega)
end Go.Proofs.Ytcngcilinlcmeaa.Ext
