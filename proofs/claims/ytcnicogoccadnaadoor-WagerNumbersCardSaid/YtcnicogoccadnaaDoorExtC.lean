/- The contract of the method winning, out of that of wins for lesser bars. -/
import Derived.Test.YtcnicogoccadnaaDoorProg
import Derived.Below
import Derived.Deep.Draws
import Derived.Deep.AppendLies
import Derived.Maps.AppendAt
import Derived.OwnWalk
import Derived.Laws.BytesArg
import Derived.Laws.MakeOwn
import Derived.Laws.OwnMore
import Derived.Deep.OwnRows
import Derived.Tactics
import Derived.Lib.ConvBytes
import Derived.Laws.Slices
import Derived.WalkKit
import Derived.KernelRfl
import Derived.RowKit3
import Derived.Deep.LoopGhost
import Derived.Deep.QuietTactic
import Derived.BigQuiet
import Derived.WideLaws
import Derived.Deep.DeepCutAuto
import Derived.Deep.CutBlock
import Derived.Deep.RegionHeld3
import Derived.Laws.Rows
import Derived.Lib.AppendStr
import Derived.ArgAppend
import Derived.Laws.IdiomCopy
import Derived.OrdersHeld
import Derived.Laws.BitsLemmas
import Derived.RowKit
import Derived.Test.YtcnicogoccadnaaDoorWWords
import Derived.Test.YtcnicogoccadnaaDoorWLast
import Derived.Test.YtcnicogoccadnaaDoorWTab
import Derived.Test.YtcnicogoccadnaaDoorWFour
import Derived.Test.YtcnicogoccadnaaDoorWQPut
import Derived.Test.YtcnicogoccadnaaDoorWApart
import Derived.Test.YtcnicogoccadnaaDoorWArr
import Derived.Test.YtcnicogoccadnaaDoorWZeros
import Derived.Test.YtcnicogoccadnaaDoorWFoot
import Derived.Test.YtcnicogoccadnaaDoorWKept
import Derived.Test.YtcnicogoccadnaaDoorWShare
import Derived.Test.YtcnicogoccadnaaDoorWN
import Derived.Test.YtcnicogoccadnaaDoorWFootNe
import Derived.Test.YtcnicogoccadnaaDoorWAt
import Derived.Test.YtcnicogoccadnaaDoorWEqStruct
import Derived.Test.YtcnicogoccadnaaDoorWRepsOne
import Derived.Test.YtcnicogoccadnaaDoorWInv
import Derived.Test.YtcnicogoccadnaaDoorWInvWords
import Derived.Test.YtcnicogoccadnaaDoorWGuard
import Derived.Test.YtcnicogoccadnaaDoorWNEv
import Derived.Test.YtcnicogoccadnaaDoorWMore
import Derived.Maps.OwnOps
import Derived.DeepKeys4
import Derived.Test.YtcnicogoccadnaaDoorExtA
import Derived.Test.YtcnicogoccadnaaDoorChomp
import Derived.Test.YtcnicogoccadnaaDoorExtB
namespace Go.Proofs.YtcnicogoccadnaaDoor.Ext
open Go.RowKit Go.Proofs.YtcnicogoccadnaaDoorW.PrintWords Go.Proofs.YtcnicogoccadnaaDoorW.PrintLast Go.Proofs.YtcnicogoccadnaaDoorW.PrintMore
attribute [local go_sem] max2_int min2_int max_two min_two max_three min_three max_four min_four
set_option linter.unusedVariables false
set_option linter.unusedSimpArgs false

abbrev kp : Kd (Int × Int) := Kd.pair (Kd.int .i64) (Kd.int .i64)

theorem kp_M (W : World) (base : Nat) (ok : Nat → Prop) (a b : Int) : kp.M W base ok (a, b) [.int .i64 a, .int .i64 b] := by
  show ∃ c0 c1, [Value.int .i64 a, Value.int .i64 b] = c0 ++ c1 ∧ c0 = [Value.int .i64 a] ∧ c1 = [Value.int .i64 b]
  exact ⟨_, _, rfl, rfl, rfl⟩
theorem kp_sz : kp.sz = 2 := rfl

/-- what the method wins does -/
def WinsC (xs : List Int) : Prop := ∀ (g : Nat) (w : World), Memo winsS w g →
  Calls Tryd.prog 26 #[.map (some g), bv xs] w fun e w' => e = .returned (.bool (winsS xs)) ∧ Memo winsS w' g ∧ w.grownBy w' (some g)

/-- what the method winning does -/
def WinningPost (xs : List Int) (most : Nat) (g : Nat) (w : World) (e : Ending) (w' : World) : Prop :=
  ∃ v, e = .returned v ∧ Kd.R kp 68 w' w.heap.size (fun k => w.heap.size ≤ k) v (winM xs most) ∧ Memo winsS w' g ∧ w.grownBy w' (some g)

theorem index_bar (x0 x1 x2 x3 x4 x5 : Int) (r : Nat) (hr : r < 6) (w : World) :
    (Instr.index 61 (.agg #[.int .i64 x0, .int .i64 x1, .int .i64 x2, .int .i64 x3, .int .i64 x4, .int .i64 x5]) (.int .i64 r)).run Tryd.prog w = .ok (.int .i64 ([x0, x1, x2, x3, x4, x5].getD r 0)) w := by
  rcases (show r = 0 ∨ r = 1 ∨ r = 2 ∨ r = 3 ∨ r = 4 ∨ r = 5 by omega) with rfl | rfl | rfl | rfl | rfl | rfl <;> kernel_rfl

theorem grown_refl (w : World) (row : Option Nat) : w.grownBy w row := ⟨rfl, rfl, rfl, Nat.le_refl _, fun _ _ _ => rfl⟩
theorem grown_trans {w W W1 : World} {g : Nat} {row : Option Nat} (h : w.grownBy W (some g)) (k : W.grownBy W1 row) (hr : ∀ b, row = some b → b = g ∨ w.heap.size ≤ b) : w.grownBy W1 (some g) :=
  ⟨k.os.trans h.os, k.tape.trans h.tape, k.output.trans h.output, Nat.le_trans h.size k.size, fun i hi hne =>
    (k.block i (Nat.lt_of_lt_of_le hi h.size) (fun e => by
      rcases hr i e.symm with e1 | e1
      · exact hne (by rw [e1])
      · omega)).trans (h.block i hi hne)⟩
theorem info49 : (Tryd.prog.info? 68).map (fun i => (i.zero, i.size, i.bytes)) = some (some (.agg #[.int .i64 0, .int .i64 0]), 2, 16) := by kernel_rfl

/-- the pieces from row r, column c on -/
def sufIn (xs : List Int) (r c : Nat) : List (Int × Int) := ((List.range (xs.getD r 0).toNat).drop c).map (fun (c : Nat) => ((r : Int), (c : Int))) ++ movesGo (r + 1) (xs.drop (r + 1))
def sufOut (xs : List Int) (r : Nat) : List (Int × Int) := movesGo r (xs.drop r)
theorem sufOut_step (xs : List Int) (r : Nat) (h : r < xs.length) : sufOut xs r = sufIn xs r 0 := by
  unfold sufOut sufIn
  rw [List.drop_eq_getElem_cons h, movesGo, List.drop_zero]
  unfold rowMoves
  simp [List.getD_eq_getElem?_getD, List.getElem?_eq_getElem h]
theorem sufOut_end (xs : List Int) (r : Nat) (h : xs.length ≤ r) : sufOut xs r = [] := by
  unfold sufOut; rw [List.drop_eq_nil_of_le h]; rfl
theorem sufIn_end (xs : List Int) (r c : Nat) (h : xs.getD r 0 ≤ c) : sufIn xs r c = sufOut xs (r + 1) := by
  unfold sufIn sufOut
  rw [List.drop_eq_nil_of_le (by rw [List.length_range]; omega)]
  simp
theorem sufIn_step (xs : List Int) (r c : Nat) (h : (c : Int) < xs.getD r 0) : sufIn xs r c = ((r : Int), (c : Int)) :: sufIn xs r (c + 1) := by
  unfold sufIn
  have hc : c < (List.range (xs.getD r 0).toNat).length := by simp only [List.length_range]; omega
  rw [List.drop_eq_getElem_cons hc]
  simp only [List.getElem_range, List.map_cons, List.cons_append]

theorem mem_movesGo (c : Nat) : ∀ (xs : List Int) (r : Nat) (i : Int), (c : Int) < xs.getD r 0 → (i + r, (c : Int)) ∈ movesGo i xs
  | [], r, i, h => by simp at h; omega
  | x :: xs, 0, i, h => by
    rw [movesGo, List.mem_append]
    left
    rw [mem_rowMoves]
    simp at h
    simp only
    omega
  | x :: xs, r + 1, i, h => by
    rw [movesGo, List.mem_append]
    right
    have h2 := mem_movesGo c xs r (i + 1) (by simpa using h)
    rw [show i + ((r + 1 : Nat) : Int) = i + 1 + (r : Int) from by omega]
    exact h2
theorem mem_moves (xs : List Int) (r c : Nat) (h : (c : Int) < xs.getD r 0) : ((r : Int), (c : Int)) ∈ moves xs := by
  have := mem_movesGo c xs r 0 h
  rwa [Int.zero_add] at this

/-- where the loops stand: l is found, s is what is still to be looked at -/
def At (xs : List Int) (most : Nat) (l s : List (Int × Int)) : Prop := l ++ (s.filter fun m => !winsS (bite xs m.1 m.2)).take (most - l.length) = winM xs most
theorem At.start (xs : List Int) (most : Nat) : At xs most [] (sufOut xs 0) := by
  unfold At sufOut winM moves; simp
theorem At.hit {xs : List Int} {most : Nat} {l s : List (Int × Int)} {r c : Int} (h : At xs most l ((r, c) :: s)) (hl : l.length < most) (hw : winsS (bite xs r c) = false) : At xs most (l ++ [(r, c)]) s := by
  unfold At at *
  rw [List.filter_cons, if_pos (by simp [hw])] at h
  rw [← h, show most - l.length = (most - (l ++ [(r, c)]).length) + 1 from by rw [List.length_append, List.length_singleton]; omega, List.take_succ_cons, List.append_assoc, List.singleton_append]
theorem At.miss {xs : List Int} {most : Nat} {l s : List (Int × Int)} {r c : Int} (h : At xs most l ((r, c) :: s)) (hw : winsS (bite xs r c) = true) : At xs most l s := by
  unfold At at *
  rw [List.filter_cons, if_neg (by simp [hw])] at h
  exact h
theorem At.full {xs : List Int} {most : Nat} {l s : List (Int × Int)} {r c : Int} (h : At xs most l ((r, c) :: s)) (hl : most ≤ l.length) : At xs most l s := by
  unfold At at *
  rw [show most - l.length = 0 from by omega, List.take_zero] at *
  exact h
theorem At.done {xs : List Int} {most : Nat} {l : List (Int × Int)} (h : At xs most l []) : l = winM xs most := by
  unfold At at h; simpa using h

set_option maxHeartbeats 8000000 in
set_option maxRecDepth 100000 in
theorem winning_of (x0 x1 x2 x3 x4 x5 : Int) (most : Nat) (hb : Bar [x0, x1, x2, x3, x4, x5])
    (IH : ∀ ys, Bar ys → sumN ys < sumN [x0, x1, x2, x3, x4, x5] → WinsC ys) (g : Nat) (w : World) (hM : Memo winsS w g) (hm : most ≤ 100) :
    Calls Tryd.prog 28 #[.map (some g), .agg #[.int .i64 x0, .int .i64 x1, .int .i64 x2, .int .i64 x3, .int .i64 x4, .int .i64 x5], .int .i64 most] w (WinningPost [x0, x1, x2, x3, x4, x5] most g w) := by
  have hu66 := Tryd.underlying61
  have hu49 := Tryd.underlying68
  have HM := Aside0.mk hM
  have HI := Aside0.mk IH
  have HBar := Aside0.mk hb
  clear hM IH hb
  go_enter Tryd.func28, Tryd.ntmps28
  go_wp2
  go_loopw [7, 12] (fun v7 v12 W => ∃ (r : Nat) (l : List (Int × Int)), v12 = .int .i64 r ∧ Aside0 (r ≤ 6) ∧ Aside0 (l.length ≤ most) ∧ Aside0 (At [x0, x1, x2, x3, x4, x5] most l (sufOut [x0, x1, x2, x3, x4, x5] r)) ∧ Aside0 (Kd.R kp 68 W w.heap.size (fun k => w.heap.size ≤ k) v7 l) ∧ Aside0 (W.heap[w.heap.size]? = some (.cells #[.int .i64 x0, .int .i64 x1, .int .i64 x2, .int .i64 x3, .int .i64 x4, .int .i64 x5] 61 (0, 0))) ∧ Aside0 (Memo winsS W g) ∧ Aside0 (w.grownBy W (some g)))
    (fun _ v12 _ => (6 - intOf v12).toNat)
  case atStart =>
    exact ⟨0, [], rfl, ⟨by omega⟩, ⟨Nat.zero_le _⟩, ⟨At.start _ _⟩, ⟨Kd.R_nil _ _ _ _ _⟩, ⟨heap_alloc_new _ _⟩, ⟨HM.out.below (below_alloc (Below.refl _ _) _)⟩, ⟨grown_trans (grown_refl _ _) (World.grownBy_alloc w _ none) (by simp)⟩⟩
  case round =>
    obtain ⟨r, l, rfl, hr, hl, hA, hR, hB, hMr, hG⟩ := hrel
    by_cases hr6 : r < 6
    · have hidx := index_bar x0 x1 x2 x3 x4 x5 r hr6
      have hr6i : (r : Int) < 6 := by omega
      obtain ⟨x, hx⟩ : ∃ x, x = [x0, x1, x2, x3, x4, x5].getD r 0 := ⟨_, rfl⟩
      rw [← hx] at hidx
      have HX := Aside0.mk hx
      have HX0 : 0 ≤ x ∧ x ≤ 7 := by
        have h6 : r < [x0, x1, x2, x3, x4, x5].length := hr6
        rw [hx, List.getD_eq_getElem?_getD, List.getElem?_eq_getElem h6]
        exact HBar.out.2 _ (List.getElem_mem h6)
      have HA0 := Aside0.mk (sufOut_step [x0, x1, x2, x3, x4, x5] r hr6 ▸ hA.out)
      clear hx hA
      go_wp2
      obtain ⟨wo, rfl⟩ : ∃ wo : World, wo = wr := ⟨_, rfl⟩
      go_loopw [7, 17] (fun v7 v17 W => ∃ (c : Nat) (l : List (Int × Int)), v17 = .int .i64 c ∧ Aside0 ((c : Int) ≤ x) ∧ Aside0 (l.length ≤ most) ∧ Aside0 (At [x0, x1, x2, x3, x4, x5] most l (sufIn [x0, x1, x2, x3, x4, x5] r c)) ∧ Aside0 (Kd.R kp 68 W w.heap.size (fun k => w.heap.size ≤ k) v7 l) ∧ Aside0 (W.heap[w.heap.size]? = some (.cells #[.int .i64 x0, .int .i64 x1, .int .i64 x2, .int .i64 x3, .int .i64 x4, .int .i64 x5] 61 (0, 0))) ∧ Aside0 (Memo winsS W g) ∧ Aside0 (w.grownBy W (some g)))
        (fun _ v17 _ => (x - intOf v17).toNat)
      case atStart => exact ⟨0, l, rfl, ⟨HX0.1⟩, hl, HA0, hR, hB, hMr, hG⟩
      case round =>
        clear hl HA0 hR hB hMr hG
        obtain ⟨c, l, rfl, hcx, hl, hA, hR, hB, hMr, hG⟩ := hrel
        have hcx0 := hcx.out
        by_cases hc : (c : Int) < x
        · have HA1 := Aside0.mk (sufIn_step [x0, x1, x2, x3, x4, x5] r c (HX.out ▸ hc) ▸ hA.out)
          clear hA
          obtain ⟨A7, c7, rfl, hl7⟩ : ∃ A c, u7 = .slice A l.length c ∧ l.length ≤ c := (by obtain ⟨A, c, h1, h2, _⟩ := Kd.R_reads hR.out; exact ⟨A, c, h1, h2⟩)
          by_cases hlm : l.length < most
          · have hlmi : (l.length : Int) < (most : Int) := by omega
            obtain ⟨hw⟩ : Aside0 (∀ (g : Nat) (w : World), Memo winsS w g → Calls Tryd.prog 26 #[.map (some g), .agg #[.int .i64 (bitC r c x0 0), .int .i64 (bitC r c x1 1), .int .i64 (bitC r c x2 2), .int .i64 (bitC r c x3 3), .int .i64 (bitC r c x4 4), .int .i64 (bitC r c x5 5)]] w fun e w' => e = .returned (.bool (winsS (bite [x0, x1, x2, x3, x4, x5] r c))) ∧ Memo winsS w' g ∧ w.grownBy w' (some g)) := by
              have hmem : ((r : Int), (c : Int)) ∈ moves [x0, x1, x2, x3, x4, x5] := mem_moves _ r c (HX.out ▸ hc)
              have hbb := HBar.out.bite (r : Int) (c := (c : Int)) (by omega)
              have h := HI.out _ hbb (bite_less HBar.out hmem)
              refine ⟨fun g w hM => ?_⟩
              have h2 := h g w hM
              rw [bite_six] at h2 ⊢
              exact h2
            have ac0 := blk_cell hB.out 0
            have ac1 := blk_cell hB.out 1
            have ac2 := blk_cell hB.out 2
            have ac3 := blk_cell hB.out 3
            have ac4 := blk_cell hB.out 4
            have ac5 := blk_cell hB.out 5
            simp only [List.getElem?_toArray, List.getElem?_cons_zero, List.getElem?_cons_succ] at ac0 ac1 ac2 ac3 ac4 ac5
            have hgw := HM.out.lt
            have hl100 := hl.out
            cases hp : winsS (bite [x0, x1, x2, x3, x4, x5] r c)
            · have HP := Aside0.mk hp
              clear hp
              go_wp2_with (first | (go_at_call 30; refine (bitten_calls x0 x1 x2 x3 x4 x5 _ _ _ (by omega) (by omega)).mono ?_; rintro e w1 ⟨rfl, hb1⟩) | (go_at_call 26; refine (hw g _ (hMr.out.below hb1)).mono ?_; rintro e w2 ⟨rfl, hM2, hg2⟩; rw [HP.out]; have hR2 := Aside0.mk (Kd.R_grown (Kd.R_below hR.out hb1) hg2 (fun k hk e => by injection e with e; omega)); have hG2 := Aside0.mk (grown_trans (grown_trans hG.out (grown_of_below hb1 none) (by simp)) hg2 (fun b hb => by injection hb with hb; exact .inl hb.symm)); have hB2 := Aside0.mk (blk_grown (blk_below hB.out hb1) hg2 (fun e => by injection e with e; omega)); clear hb1 hg2 hR hG hB ac0 ac1 ac2 ac3 ac4 ac5) | (at_builtin; refine Kd.R_append kp (w0 := w2) w.heap.size rfl (.tmp 33) (.tmp 37) 66 68 _ 16 rfl Tryd.underlying66 info49 rfl (by decide) (by omega) (.slice A7 l.length c7) l ((r : Int), (c : Int)) [.int .i64 r, .int .i64 c] (fun k => w.heap.size ≤ k) (fun _ => False) rfl rfl ?aP (fun _ hk => hk.elim) ?aF ?aO ?aB ?aS ?aL ?_; (case aP => exact kp_M _ _ _ _ _); (case aF => exact fun k hk => Nat.le_trans hG2.out.size hk); (case aO => exact hR2.out); (case aB => exact Below.refl _ _); (case aS => exact hG2.out.size); (case aL => omega); intro v1 w3 ho hb hg hat) | fail)
              go_roundw
              case rel => exact ⟨c + 1, l ++ [((r : Int), (c : Int))], by go_num, ⟨by omega⟩, ⟨by rw [List.length_append, List.length_singleton]; omega⟩, ⟨HA1.out.hit hlm HP.out⟩, ⟨ho⟩, ⟨blk_grown hB2.out hg (Kd.R_ne hR2.out hB2.out (by decide))⟩, ⟨hM2.move (hg.block g hM2.lt (fun e => by have := Kd.R_base hR2.out g e.symm; omega))⟩, ⟨grown_trans hG2.out hg (fun b hb => .inr (Kd.R_base hR2.out b hb))⟩⟩
              case measure => simp [intOf]; omega
            · have HP := Aside0.mk hp
              clear hp
              go_wp2_with (first | (go_at_call 30; refine (bitten_calls x0 x1 x2 x3 x4 x5 _ _ _ (by omega) (by omega)).mono ?_; rintro e w1 ⟨rfl, hb1⟩) | (go_at_call 26; refine (hw g _ (hMr.out.below hb1)).mono ?_; rintro e w2 ⟨rfl, hM2, hg2⟩; rw [HP.out]; have hR2 := Aside0.mk (Kd.R_grown (Kd.R_below hR.out hb1) hg2 (fun k hk e => by injection e with e; omega)); have hG2 := Aside0.mk (grown_trans (grown_trans hG.out (grown_of_below hb1 none) (by simp)) hg2 (fun b hb => by injection hb with hb; exact .inl hb.symm)); have hB2 := Aside0.mk (blk_grown (blk_below hB.out hb1) hg2 (fun e => by injection e with e; omega)); clear hb1 hg2 hR hG hB ac0 ac1 ac2 ac3 ac4 ac5) | fail)
              go_roundw
              case rel => exact ⟨c + 1, l, by go_num, ⟨by omega⟩, hl, ⟨HA1.out.miss HP.out⟩, hR2, hB2, ⟨hM2⟩, hG2⟩
              case measure => simp [intOf]; omega
          · have hlmi : ¬ (l.length : Int) < (most : Int) := by omega
            go_wp2
            go_roundw
            case rel => exact ⟨c + 1, l, by go_num, ⟨by omega⟩, hl, ⟨HA1.out.full (by omega)⟩, hR, hB, hMr, hG⟩
            case measure => simp [intOf]; omega
        · have hcx' : (c : Int) = x := by omega
          go_wp2
          go_roundw
          case rel => exact ⟨r + 1, l, by go_num, ⟨by omega⟩, hl, ⟨sufIn_end [x0, x1, x2, x3, x4, x5] r c (by rw [← HX.out]; omega) ▸ hA.out⟩, hR, hB, hMr, hG⟩
          case measure => simp [intOf]; omega
    · obtain rfl : r = 6 := by have := hr.out; omega
      go_wp2
      go_ret
      have hd := (At.done (sufOut_end [x0, x1, x2, x3, x4, x5] 6 (Nat.le_refl 6) ▸ hA.out))
      exact ⟨_, rfl, hd ▸ hR.out, hMr.out, hG.out⟩
end Go.Proofs.YtcnicogoccadnaaDoor.Ext
