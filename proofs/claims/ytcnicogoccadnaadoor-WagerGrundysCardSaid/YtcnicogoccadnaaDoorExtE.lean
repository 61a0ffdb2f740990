/- The contract of read, for all lists. -/
import Derived.Test.YtcnicogoccadnaaDoorProg
import Derived.Below
import Derived.Deep.Draws
import Derived.Deep.AppendLies
import Derived.Maps.AppendAt
import Derived.OwnWalk
import Derived.Laws.BytesArg
import Derived.Laws.MakeOwn
import Derived.Laws.OwnMore
import Derived.Deep.OwnRows
import Derived.Tactics
import Derived.Lib.ConvBytes
import Derived.Laws.Slices
import Derived.WalkKit
import Derived.KernelRfl
import Derived.RowKit3
import Derived.Deep.LoopGhost
import Derived.Deep.QuietTactic
import Derived.BigQuiet
import Derived.WideLaws
import Derived.Deep.DeepCutAuto
import Derived.Deep.CutBlock
import Derived.Deep.RegionHeld3
import Derived.Laws.Rows
import Derived.Lib.AppendStr
import Derived.ArgAppend
import Derived.Laws.IdiomCopy
import Derived.OrdersHeld
import Derived.Laws.BitsLemmas
import Derived.RowKit
import Derived.Test.YtcnicogoccadnaaDoorWWords
import Derived.Test.YtcnicogoccadnaaDoorWLast
import Derived.Test.YtcnicogoccadnaaDoorWTab
import Derived.Test.YtcnicogoccadnaaDoorWFour
import Derived.Test.YtcnicogoccadnaaDoorWQPut
import Derived.Test.YtcnicogoccadnaaDoorWApart
import Derived.Test.YtcnicogoccadnaaDoorWArr
import Derived.Test.YtcnicogoccadnaaDoorWZeros
import Derived.Test.YtcnicogoccadnaaDoorWFoot
import Derived.Test.YtcnicogoccadnaaDoorWKept
import Derived.Test.YtcnicogoccadnaaDoorWShare
import Derived.Test.YtcnicogoccadnaaDoorWN
import Derived.Test.YtcnicogoccadnaaDoorWFootNe
import Derived.Test.YtcnicogoccadnaaDoorWAt
import Derived.Test.YtcnicogoccadnaaDoorWEqStruct
import Derived.Test.YtcnicogoccadnaaDoorWRepsOne
import Derived.Test.YtcnicogoccadnaaDoorWInv
import Derived.Test.YtcnicogoccadnaaDoorWInvWords
import Derived.Test.YtcnicogoccadnaaDoorWGuard
import Derived.Test.YtcnicogoccadnaaDoorWNEv
import Derived.Test.YtcnicogoccadnaaDoorWMore
import Derived.Maps.OwnOps
import Derived.DeepKeys4
import Derived.Test.YtcnicogoccadnaaDoorExtA
import Derived.Test.YtcnicogoccadnaaDoorChomp
import Derived.Test.YtcnicogoccadnaaDoorExtB
namespace Go.Proofs.YtcnicogoccadnaaDoor.Ext
open Go.RowKit Go.Proofs.YtcnicogoccadnaaDoorW.PrintWords Go.Proofs.YtcnicogoccadnaaDoorW.PrintLast Go.Proofs.YtcnicogoccadnaaDoorW.PrintMore
attribute [local go_sem] max2_int min2_int max_two min_two max_three min_three max_four min_four
set_option linter.unusedVariables false
set_option linter.unusedSimpArgs false

/-- is this list a bar, as far as the first k numbers go? -/
def okTo (l : List Int) (k : Nat) : Prop := ∀ i : Nat, i < k → 0 ≤ rd l i ∧ rd l i ≤ 7 ∧ (0 < i → rd l i ≤ rd l ((i : Int) - 1))
/-- number i of a list, if i is below k -/
def padAt (l : List Int) (k i : Int) : Int := if i < k then rd l i else 0
theorem padAt_lt {l : List Int} {k i : Int} (h : i < k) : padAt l k i = rd l i := by unfold padAt; rw [if_pos h]
theorem padAt_ge {l : List Int} {k i : Int} (h : k ≤ i) : padAt l k i = 0 := by unfold padAt; rw [if_neg (by omega)]
def pad6 (l : List Int) (k : Int) : List Int := [padAt l k 0, padAt l k 1, padAt l k 2, padAt l k 3, padAt l k 4, padAt l k 5]

theorem put_six {W : World} {g : Nat} {t : TypeId} {z0 z1 z2 z3 z4 z5 : Value} (u0 u1 u2 u3 u4 u5 : Value) (h : W.heap[g]? = some (.cells #[z0, z1, z2, z3, z4, z5] t (0, 0))) :
    ((((((W.setCell ⟨g, 0, none⟩ u0).setCell ⟨g, 1, none⟩ u1).setCell ⟨g, 2, none⟩ u2).setCell ⟨g, 3, none⟩ u3).setCell ⟨g, 4, none⟩ u4).setCell ⟨g, 5, none⟩ u5).heap[g]? = some (.cells #[u0, u1, u2, u3, u4, u5] t (0, 0)) := by
  have e0 := blk_set h 0 u0
  have e1 := blk_set e0 1 u1
  have e2 := blk_set e1 2 u2
  have e3 := blk_set e2 3 u3
  have e4 := blk_set e3 4 u4
  have e5 := blk_set e4 5 u5
  simpa using e5

/-- what read hands back: the bar's cells, and whether the list is a bar -/
def ReadPost (l : List Int) (w : World) (e : Ending) (w' : World) : Prop :=
  (1 ≤ l.length ∧ l.length ≤ 6 ∧ okTo l l.length ∧ e = .returned (.tuple #[bv (pad6 l l.length), .bool true]) ∨
   ¬ (1 ≤ l.length ∧ l.length ≤ 6 ∧ okTo l l.length) ∧ ∃ xs, xs.length = 6 ∧ e = .returned (.tuple #[bv xs, .bool false])) ∧ Below w.heap.size w w'

theorem six_at (W : World) (g : Nat) (x0 x1 x2 x3 x4 x5 : Int) (h : W.heap[g]? = some (.cells #[.int .i64 x0, .int .i64 x1, .int .i64 x2, .int .i64 x3, .int .i64 x4, .int .i64 x5] 61 (0, 0))) :
    (W.cell? ⟨g, 0, none⟩ = some (.int .i64 x0) ∧ W.cell? ⟨g, 1, none⟩ = some (.int .i64 x1) ∧ W.cell? ⟨g, 2, none⟩ = some (.int .i64 x2) ∧ W.cell? ⟨g, 3, none⟩ = some (.int .i64 x3) ∧ W.cell? ⟨g, 4, none⟩ = some (.int .i64 x4) ∧ W.cell? ⟨g, 5, none⟩ = some (.int .i64 x5)) ∧
    (W.frozen? ⟨g, 0, none⟩ = false ∧ W.frozen? ⟨g, 1, none⟩ = false ∧ W.frozen? ⟨g, 2, none⟩ = false ∧ W.frozen? ⟨g, 3, none⟩ = false ∧ W.frozen? ⟨g, 4, none⟩ = false ∧ W.frozen? ⟨g, 5, none⟩ = false) := by
  have c0 := blk_cell h 0
  have c1 := blk_cell h 1
  have c2 := blk_cell h 2
  have c3 := blk_cell h 3
  have c4 := blk_cell h 4
  have c5 := blk_cell h 5
  simp only [List.getElem?_toArray, List.getElem?_cons_zero, List.getElem?_cons_succ] at c0 c1 c2 c3 c4 c5
  exact ⟨⟨c0, c1, c2, c3, c4, c5⟩, blk_frozen h 0, blk_frozen h 1, blk_frozen h 2, blk_frozen h 3, blk_frozen h 4, blk_frozen h 5⟩

set_option maxHeartbeats 8000000 in
set_option maxRecDepth 100000 in
theorem read_long (A : Option Addr) (c : Nat) (l : List Int) (w : World) (hr : Kd.C (Kd.int .i64) w A l.length l) (hc : l.length ≤ c) (hl : l.length < 1 ∨ 6 < l.length) :
    Calls Tryd.prog 25 #[.slice A l.length c] w (ReadPost l w) := by
  have hu66 := Tryd.underlying61
  have H0 := blk_alloc (heap_alloc_new w (.cells #[.int .i64 0, .int .i64 0, .int .i64 0, .int .i64 0, .int .i64 0, .int .i64 0] 61)) (.cells #[.int .i64 0, .int .i64 0, .int .i64 0, .int .i64 0, .int .i64 0, .int .i64 0] 61)
  have H1 := heap_new1 w (.cells #[.int .i64 0, .int .i64 0, .int .i64 0, .int .i64 0, .int .i64 0, .int .i64 0] 61) (.cells #[.int .i64 0, .int .i64 0, .int .i64 0, .int .i64 0, .int .i64 0, .int .i64 0] 61)
  obtain ⟨⟨ac0, ac1, ac2, ac3, ac4, ac5⟩, af0, af1, af2, af3, af4, af5⟩ := six_at _ _ _ _ _ _ _ _ H0
  obtain ⟨⟨bc0, bc1, bc2, bc3, bc4, bc5⟩, bf0, bf1, bf2, bf3, bf4, bf5⟩ := six_at _ _ _ _ _ _ _ _ H1
  have HH0 := Aside0.mk H0
  have HL := Aside0.mk hl
  clear H0 H1 hr hc
  rcases hl with hl | hl
  · go_enter Tryd.func25, Tryd.ntmps25
    go_wp2
    refine bodyPost_ret (results_ct rfl _ _ w.heap.size 61 #[.int .i64 0, .int .i64 0, .int .i64 0, .int .i64 0, .int .i64 0, .int .i64 0] (0, 0) _ rfl ?hblk Tryd.underlying61 rfl (by kernel_rfl)) rfl ?_
    case hblk => exact HH0.out
    refine ⟨.inr ⟨fun h => by have := HL.out; omega, [0, 0, 0, 0, 0, 0], rfl, rfl⟩, ?_⟩
    repeat (first | exact Below.refl _ _ | refine below_set ?_ (by omega) | apply below_alloc)
  · go_enter Tryd.func25, Tryd.ntmps25
    go_wp2
    refine bodyPost_ret (results_ct rfl _ _ w.heap.size 61 #[.int .i64 0, .int .i64 0, .int .i64 0, .int .i64 0, .int .i64 0, .int .i64 0] (0, 0) _ rfl ?hblk Tryd.underlying61 rfl (by kernel_rfl)) rfl ?_
    case hblk => exact HH0.out
    refine ⟨.inr ⟨fun h => by have := HL.out; omega, [0, 0, 0, 0, 0, 0], rfl, rfl⟩, ?_⟩
    repeat (first | exact Below.refl _ _ | refine below_set ?_ (by omega) | apply below_alloc)

theorem okTo_succ {l : List Int} {k : Nat} (h : okTo l k) (h0 : 0 ≤ rd l k) (h7 : rd l k ≤ 7) (hs : 0 < k → rd l k ≤ rd l ((k : Int) - 1)) : okTo l (k + 1) := by
  intro i hi
  rcases Nat.lt_or_ge i k with h1 | h1
  · exact h i h1
  · obtain rfl : i = k := by omega
    exact ⟨h0, h7, hs⟩
theorem not_ok {l : List Int} {k : Nat} (hk : k < l.length) (h : rd l k < 0 ∨ 7 < rd l k ∨ 0 < k ∧ rd l ((k : Int) - 1) < rd l k) : ¬ (1 ≤ l.length ∧ l.length ≤ 6 ∧ okTo l l.length) := by
  rintro ⟨_, _, h3⟩
  have := h3 k hk
  omega

set_option maxHeartbeats 8000000 in
set_option maxRecDepth 100000 in
theorem read_short (A : Option Addr) (c : Nat) (l : List Int) (w : World) (hr : Kd.C (Kd.int .i64) w A l.length l) (hc : l.length ≤ c) (h1 : 1 ≤ l.length) (h6 : l.length ≤ 6) :
    Calls Tryd.prog 25 #[.slice A l.length c] w (ReadPost l w) := by
  have hu66 := Tryd.underlying61
  have H0 := blk_alloc (heap_alloc_new w (.cells #[.int .i64 0, .int .i64 0, .int .i64 0, .int .i64 0, .int .i64 0, .int .i64 0] 61)) (.cells #[.int .i64 0, .int .i64 0, .int .i64 0, .int .i64 0, .int .i64 0, .int .i64 0] 61)
  have H1 := heap_new1 w (.cells #[.int .i64 0, .int .i64 0, .int .i64 0, .int .i64 0, .int .i64 0, .int .i64 0] 61) (.cells #[.int .i64 0, .int .i64 0, .int .i64 0, .int .i64 0, .int .i64 0, .int .i64 0] 61)
  have HH0 := Aside0.mk H0
  have HH1 := Aside0.mk H1
  have HR := Aside0.mk hr
  have h1i : (1 : Int) ≤ (l.length : Int) := by omega
  have h6i : (l.length : Int) ≤ 6 := by omega
  clear H0 H1 hr
  go_enter Tryd.func25, Tryd.ntmps25
  go_wp2
  go_loopw [18] (fun v18 W => ∃ k : Nat, v18 = .int .i64 k ∧ Aside0 (k ≤ l.length) ∧ Aside0 (okTo l k) ∧ Aside0 (W.heap[w.heap.size]? = some (.cells #[.int .i64 0, .int .i64 0, .int .i64 0, .int .i64 0, .int .i64 0, .int .i64 0] 61 (0, 0))) ∧ Aside0 (W.heap[w.heap.size + 1]? = some (.cells #[.int .i64 (padAt l (k : Int) 0), .int .i64 (padAt l (k : Int) 1), .int .i64 (padAt l (k : Int) 2), .int .i64 (padAt l (k : Int) 3), .int .i64 (padAt l (k : Int) 4), .int .i64 (padAt l (k : Int) 5)] 61 (0, 0))) ∧ Aside0 (Below w.heap.size w W)) (fun v18 _ => (6 - intOf v18).toNat)
  case atStart =>
    refine ⟨0, rfl, ⟨by omega⟩, ⟨fun i hi => by omega⟩, ⟨HH0.out⟩, ⟨?_⟩, ⟨by repeat (first | exact Below.refl _ _ | apply below_alloc)⟩⟩
    simp only [padAt_ge (l := l) (k := ((0 : Nat) : Int)) (i := 0) (by omega), padAt_ge (l := l) (k := ((0 : Nat) : Int)) (i := 1) (by omega), padAt_ge (l := l) (k := ((0 : Nat) : Int)) (i := 2) (by omega), padAt_ge (l := l) (k := ((0 : Nat) : Int)) (i := 3) (by omega), padAt_ge (l := l) (k := ((0 : Nat) : Int)) (i := 4) (by omega), padAt_ge (l := l) (k := ((0 : Nat) : Int)) (i := 5) (by omega)]
    exact HH1.out
  case round =>
    obtain ⟨k, rfl, hk, hok, hb0, hb1, hB⟩ := hrel
    obtain ⟨⟨ac0, ac1, ac2, ac3, ac4, ac5⟩, af0, af1, af2, af3, af4, af5⟩ := six_at _ _ _ _ _ _ _ _ hb0.out
    obtain ⟨⟨bc0, bc1, bc2, bc3, bc4, bc5⟩, bf0, bf1, bf2, bf3, bf4, bf5⟩ := six_at _ _ _ _ _ _ _ _ hb1.out
    have hk' := hk.out
    by_cases hlt : k < l.length
    · have hki : (k : Int) < (l.length : Int) := by omega
      obtain ⟨ad, hA, hx⟩ := Kd.at_int (Kd.C_below HR.out hB.out) (k : Int) (by omega) hki
      cases hA
      rw [show ((k : Int)).toNat = k from by omega] at hx
      obtain ⟨x, hxe⟩ : ∃ x, rd l k = x := ⟨_, rfl⟩
      rw [hxe] at hx
      have HXE := Aside0.mk hxe
      clear hxe
      by_cases hx0 : x < 0
      · go_wp2
        refine bodyPost_ret (results_ct rfl _ _ w.heap.size 61 #[.int .i64 (padAt l (k : Int) 0), .int .i64 (padAt l (k : Int) 1), .int .i64 (padAt l (k : Int) 2), .int .i64 (padAt l (k : Int) 3), .int .i64 (padAt l (k : Int) 4), .int .i64 (padAt l (k : Int) 5)] (0, 0) _ rfl ?hblk Tryd.underlying61 rfl (by kernel_rfl)) rfl ?_
        case hblk => exact put_six _ _ _ _ _ _ hb0.out
        refine ⟨.inr ⟨not_ok hlt (.inl (by rw [HXE.out]; exact hx0)), pad6 l k, rfl, rfl⟩, ?_⟩
        repeat (first | (with_reducible exact hB.out) | (with_reducible refine below_set ?_ (by omega)))
      · by_cases hx7 : 7 < x
        · go_wp2
          refine bodyPost_ret (results_ct rfl _ _ w.heap.size 61 #[.int .i64 (padAt l (k : Int) 0), .int .i64 (padAt l (k : Int) 1), .int .i64 (padAt l (k : Int) 2), .int .i64 (padAt l (k : Int) 3), .int .i64 (padAt l (k : Int) 4), .int .i64 (padAt l (k : Int) 5)] (0, 0) _ rfl ?hblk Tryd.underlying61 rfl (by kernel_rfl)) rfl ?_
          case hblk => exact put_six _ _ _ _ _ _ hb0.out
          refine ⟨.inr ⟨not_ok hlt (.inr (.inl (by rw [HXE.out]; exact hx7))), pad6 l k, rfl, rfl⟩, ?_⟩
          repeat (first | (with_reducible exact hB.out) | (with_reducible refine below_set ?_ (by omega)))
        · have kc := blk_cell hb1.out k
          have kf := blk_frozen hb1.out k
          obtain ⟨z, hz⟩ : ∃ z, (#[.int .i64 (padAt l (k : Int) 0), .int .i64 (padAt l (k : Int) 1), .int .i64 (padAt l (k : Int) 2), .int .i64 (padAt l (k : Int) 3), .int .i64 (padAt l (k : Int) 4), .int .i64 (padAt l (k : Int) 5)] : Array Value)[k]? = some (.int .i64 z) := by
            rcases (show k = 0 ∨ k = 1 ∨ k = 2 ∨ k = 3 ∨ k = 4 ∨ k = 5 by omega) with rfl | rfl | rfl | rfl | rfl | rfl <;> exact ⟨_, rfl⟩
          rw [hz] at kc
          clear hz
          have hk6 : (k : Int) < 6 := by omega
          by_cases hk0 : k = 0
          · have hk0i : ¬ (0 : Int) < (k : Int) := by omega
            clear hk0
            go_wp2
            go_roundw
            case rel =>
              refine ⟨k + 1, by go_num, ⟨by omega⟩, ⟨okTo_succ hok.out (by rw [HXE.out]; omega) (by rw [HXE.out]; omega) (fun h => by omega)⟩, ⟨blk_far hb0.out (by simp) _⟩, ⟨blk_put hb1.out k _ ?_⟩, ⟨hB.out.setCell (Nat.le_succ _) _⟩⟩
              have e := HXE.out
              rcases (show k = 0 ∨ k = 1 ∨ k = 2 ∨ k = 3 ∨ k = 4 ∨ k = 5 by omega) with rfl | rfl | rfl | rfl | rfl | rfl <;> (rw [← e]; simp [padAt, rd])
            case measure => simp [intOf]; omega
          · have hk0i : (0 : Int) < (k : Int) := by omega
            obtain ⟨ad2, hA2, hy⟩ := Kd.at_int (Kd.C_below HR.out hB.out) ((k : Int) - 1) (by omega) (by omega)
            cases hA2
            obtain ⟨y, hye⟩ : ∃ y, rd l ((k : Int) - 1) = y := ⟨_, rfl⟩
            rw [hye] at hy
            rw [show ((k : Int) - 1).toNat = k - 1 from by omega] at hy
            have HYE := Aside0.mk hye
            clear hye
            by_cases hxy : y < x
            · go_wp2
              refine bodyPost_ret (results_ct rfl _ _ w.heap.size 61 #[.int .i64 (padAt l (k : Int) 0), .int .i64 (padAt l (k : Int) 1), .int .i64 (padAt l (k : Int) 2), .int .i64 (padAt l (k : Int) 3), .int .i64 (padAt l (k : Int) 4), .int .i64 (padAt l (k : Int) 5)] (0, 0) _ rfl ?hblk Tryd.underlying61 rfl (by kernel_rfl)) rfl ?_
              case hblk => exact put_six _ _ _ _ _ _ hb0.out
              refine ⟨.inr ⟨not_ok hlt (.inr (.inr ⟨by omega, by rw [HXE.out, HYE.out]; exact hxy⟩)), pad6 l k, rfl, rfl⟩, ?_⟩
              repeat (first | (with_reducible exact hB.out) | (with_reducible refine below_set ?_ (by omega)))
            · go_wp2
              go_roundw
              case rel =>
                refine ⟨k + 1, by go_num, ⟨by omega⟩, ⟨okTo_succ hok.out (by rw [HXE.out]; omega) (by rw [HXE.out]; omega) (fun _ => by rw [HXE.out, HYE.out]; omega)⟩, ⟨blk_far hb0.out (by simp) _⟩, ⟨blk_put hb1.out k _ ?_⟩, ⟨hB.out.setCell (Nat.le_succ _) _⟩⟩
                have e := HXE.out
                rcases (show k = 0 ∨ k = 1 ∨ k = 2 ∨ k = 3 ∨ k = 4 ∨ k = 5 by omega) with rfl | rfl | rfl | rfl | rfl | rfl <;> (rw [← e]; simp [padAt, rd])
              case measure => simp [intOf]; omega
    · go_wp2
      refine bodyPost_ret (results_ct rfl _ _ w.heap.size 61 #[.int .i64 (padAt l (k : Int) 0), .int .i64 (padAt l (k : Int) 1), .int .i64 (padAt l (k : Int) 2), .int .i64 (padAt l (k : Int) 3), .int .i64 (padAt l (k : Int) 4), .int .i64 (padAt l (k : Int) 5)] (0, 0) _ rfl ?hblk Tryd.underlying61 rfl (by kernel_rfl)) rfl ?_
      case hblk => exact put_six _ _ _ _ _ _ hb0.out
      refine ⟨.inl ⟨h1, h6, by have := hok.out; rwa [show k = l.length by omega] at this, by rw [show (l.length : Nat) = k by omega]; rfl⟩, ?_⟩
      repeat (first | (with_reducible exact hB.out) | (with_reducible refine below_set ?_ (by omega)))
end Go.Proofs.YtcnicogoccadnaaDoor.Ext
