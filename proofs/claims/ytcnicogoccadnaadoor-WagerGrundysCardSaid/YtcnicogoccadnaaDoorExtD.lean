/- The contracts of the methods wins and winning, for all bars of six rows from 0 to 7. -/
import Derived.Test.YtcnicogoccadnaaDoorProg
import Derived.Below
import Derived.Deep.Draws
import Derived.Deep.AppendLies
import Derived.Maps.AppendAt
import Derived.OwnWalk
import Derived.Laws.BytesArg
import Derived.Laws.MakeOwn
import Derived.Laws.OwnMore
import Derived.Deep.OwnRows
import Derived.Tactics
import Derived.Lib.ConvBytes
import Derived.Laws.Slices
import Derived.WalkKit
import Derived.KernelRfl
import Derived.RowKit3
import Derived.Deep.LoopGhost
import Derived.Deep.QuietTactic
import Derived.BigQuiet
import Derived.WideLaws
import Derived.Deep.DeepCutAuto
import Derived.Deep.CutBlock
import Derived.Deep.RegionHeld3
import Derived.Laws.Rows
import Derived.Lib.AppendStr
import Derived.ArgAppend
import Derived.Laws.IdiomCopy
import Derived.OrdersHeld
import Derived.Laws.BitsLemmas
import Derived.RowKit
import Derived.Test.YtcnicogoccadnaaDoorWWords
import Derived.Test.YtcnicogoccadnaaDoorWLast
import Derived.Test.YtcnicogoccadnaaDoorWTab
import Derived.Test.YtcnicogoccadnaaDoorWFour
import Derived.Test.YtcnicogoccadnaaDoorWQPut
import Derived.Test.YtcnicogoccadnaaDoorWApart
import Derived.Test.YtcnicogoccadnaaDoorWArr
import Derived.Test.YtcnicogoccadnaaDoorWZeros
import Derived.Test.YtcnicogoccadnaaDoorWFoot
import Derived.Test.YtcnicogoccadnaaDoorWKept
import Derived.Test.YtcnicogoccadnaaDoorWShare
import Derived.Test.YtcnicogoccadnaaDoorWN
import Derived.Test.YtcnicogoccadnaaDoorWFootNe
import Derived.Test.YtcnicogoccadnaaDoorWAt
import Derived.Test.YtcnicogoccadnaaDoorWEqStruct
import Derived.Test.YtcnicogoccadnaaDoorWRepsOne
import Derived.Test.YtcnicogoccadnaaDoorWInv
import Derived.Test.YtcnicogoccadnaaDoorWInvWords
import Derived.Test.YtcnicogoccadnaaDoorWGuard
import Derived.Test.YtcnicogoccadnaaDoorWNEv
import Derived.Test.YtcnicogoccadnaaDoorWMore
import Derived.Maps.OwnOps
import Derived.DeepKeys4
import Derived.Test.YtcnicogoccadnaaDoorExtA
import Derived.Test.YtcnicogoccadnaaDoorChomp
import Derived.Test.YtcnicogoccadnaaDoorExtB
import Derived.Test.YtcnicogoccadnaaDoorExtC
namespace Go.Proofs.YtcnicogoccadnaaDoor.Ext
open Go.RowKit Go.Proofs.YtcnicogoccadnaaDoorW.PrintWords Go.Proofs.YtcnicogoccadnaaDoorW.PrintLast Go.Proofs.YtcnicogoccadnaaDoorW.PrintMore
attribute [local go_sem] max2_int min2_int max_two min_two max_three min_three max_four min_four
set_option linter.unusedVariables false
set_option linter.unusedSimpArgs false

set_option maxHeartbeats 8000000 in
set_option maxRecDepth 100000 in
theorem wins_of (x0 x1 x2 x3 x4 x5 : Int) (hb : Bar [x0, x1, x2, x3, x4, x5])
    (IH : ∀ ys, Bar ys → sumN ys < sumN [x0, x1, x2, x3, x4, x5] → WinsC ys) (g : Nat) (w : World) (hM : Memo winsS w g) :
    Calls Tryd.prog 26 #[.map (some g), .agg #[.int .i64 x0, .int .i64 x1, .int .i64 x2, .int .i64 x3, .int .i64 x4, .int .i64 x5]] w fun e w' => e = .returned (.bool (winsS [x0, x1, x2, x3, x4, x5])) ∧ Memo winsS w' g ∧ w.grownBy w' (some g) := by
  have hu66 := Tryd.underlying61
  have hu63 := Tryd.underlying58
  have hM1 := hM.below (below_alloc (Below.refl _ _) (.cells #[.int .i64 x0, .int .i64 x1, .int .i64 x2, .int .i64 x3, .int .i64 x4, .int .i64 x5] 61))
  have hG1 : w.grownBy (w.alloc (.cells #[.int .i64 x0, .int .i64 x1, .int .i64 x2, .int .i64 x3, .int .i64 x4, .int .i64 x5] 61)) (some g) := grown_trans (grown_refl _ _) (World.grownBy_alloc w _ none) (by simp)
  have HM1 := Aside0.mk hM1
  have HG1 := Aside0.mk hG1
  have HI := Aside0.mk IH
  have HBar := Aside0.mk hb
  have hgw := hM.lt
  clear hM IH hb hM1 hG1
  by_cases h0 : x0 = 0
  · have hW : winsS [x0, x1, x2, x3, x4, x5] = true := by rw [winsS_eq HBar.out]; simp [h0]
    rw [hW]
    have h0b : (x0 == 0) = true := by simp [h0]
    clear h0 hW
    go_enter Tryd.func26, Tryd.ntmps26
    go_wp2
    go_ret
    exact ⟨rfl, HM1.out, HG1.out⟩
  · have h0b : (x0 == 0) = false := by simp [h0]
    have HW1 := Aside0.mk (winM_one HBar.out (by simpa using h0))
    clear h0
    rcases HM1.out.lookup HBar.out with hl | hl
    · have hl' : (Instr.lookup 58 (.map (some g)) (.agg #[.int .i64 x0, .int .i64 x1, .int .i64 x2, .int .i64 x3, .int .i64 x4, .int .i64 x5]) true).run Tryd.prog (w.alloc (.cells #[.int .i64 x0, .int .i64 x1, .int .i64 x2, .int .i64 x3, .int .i64 x4, .int .i64 x5] 61)) = .ok (.tuple #[.bool false, .bool false]) (w.alloc (.cells #[.int .i64 x0, .int .i64 x1, .int .i64 x2, .int .i64 x3, .int .i64 x4, .int .i64 x5] 61)) := hl
      clear hl
      obtain ⟨W1, hW1⟩ : ∃ b, winsS [x0, x1, x2, x3, x4, x5] = b := ⟨_, rfl⟩
      rw [hW1]
      have HE := Aside0.mk hW1
      clear hW1
      go_enter Tryd.func26, Tryd.ntmps26
      go_wp2_with fail
      refine (winning_of x0 x1 x2 x3 x4 x5 1 HBar.out HI.out g _ HM1.out (by decide)).mono ?_
      rintro e w2 ⟨v, rfl, hR, hM2, hg2⟩
      obtain ⟨A, c, hv, hc, _⟩ := Kd.R_reads hR
      subst hv
      have hB2 := blk_grown (heap_alloc_new w (.cells #[.int .i64 x0, .int .i64 x1, .int .i64 x2, .int .i64 x3, .int .i64 x4, .int .i64 x5] 61)) hg2 (fun e => by injection e with e; omega)
      have ac0 := blk_cell hB2 0
      have ac1 := blk_cell hB2 1
      have ac2 := blk_cell hB2 2
      have ac3 := blk_cell hB2 3
      have ac4 := blk_cell hB2 4
      have ac5 := blk_cell hB2 5
      simp only [List.getElem?_toArray, List.getElem?_cons_zero, List.getElem?_cons_succ] at ac0 ac1 ac2 ac3 ac4 ac5
      obtain ⟨w3, hu, hM3, hg3⟩ := hM2.update HBar.out
      have HG3 := Aside0.mk (grown_trans (grown_trans HG1.out hg2 (fun b hb => by injection hb with hb; exact .inl hb.symm)) hg3 (fun b hb => by injection hb with hb; exact .inl hb.symm))
      have HM3 := Aside0.mk hM3
      have hW1 := HE.out
      rw [hW1] at hu
      have hu' : (Instr.mapUpdate 58 (.map (some g)) (.agg #[.int .i64 x0, .int .i64 x1, .int .i64 x2, .int .i64 x3, .int .i64 x4, .int .i64 x5]) (.bool W1)).run Tryd.prog w2 = .ok () w3 := hu
      have hlen := HW1.out
      rw [hW1] at hlen
      obtain ⟨L, hL⟩ : ∃ L, (winM [x0, x1, x2, x3, x4, x5] 1).length = L := ⟨_, rfl⟩
      rw [hL] at hlen ⊢
      clear hL hW1 hu hM3 hM2 hg3 hg2 hR hc hB2 hl'
      cases W1
      · have hL0 : decide (0 < L) = false := hlen.symm
        clear hlen
        go_wp2
        go_ret
        exact ⟨rfl, HM3.out, HG3.out⟩
      · have hL0 : decide (0 < L) = true := hlen.symm
        clear hlen
        go_wp2
        go_ret
        exact ⟨rfl, HM3.out, HG3.out⟩
    · have hl' : (Instr.lookup 58 (.map (some g)) (.agg #[.int .i64 x0, .int .i64 x1, .int .i64 x2, .int .i64 x3, .int .i64 x4, .int .i64 x5]) true).run Tryd.prog (w.alloc (.cells #[.int .i64 x0, .int .i64 x1, .int .i64 x2, .int .i64 x3, .int .i64 x4, .int .i64 x5] 61)) = .ok (.tuple #[.bool (winsS [x0, x1, x2, x3, x4, x5]), .bool true]) (w.alloc (.cells #[.int .i64 x0, .int .i64 x1, .int .i64 x2, .int .i64 x3, .int .i64 x4, .int .i64 x5] 61)) := hl
      clear hl
      obtain ⟨W1, hW1⟩ : ∃ b, winsS [x0, x1, x2, x3, x4, x5] = b := ⟨_, rfl⟩
      rw [hW1] at hl' ⊢
      clear hW1
      go_enter Tryd.func26, Tryd.ntmps26
      go_wp2
      go_ret
      exact ⟨rfl, HM1.out, HG1.out⟩

theorem wins_all : ∀ (n : Nat) (xs : List Int), Bar xs → sumN xs < n → WinsC xs := by
  intro n
  induction n with
  | zero => intro xs _ h; omega
  | succ n ih =>
    intro xs hb hn g w hM
    obtain ⟨a, b, c, d, e, f, rfl⟩ := six hb.1
    exact wins_of a b c d e f hb (fun ys hy hl => ih ys hy (by omega)) g w hM
/-- the method wins, for every bar -/
theorem wins_calls {xs : List Int} (hb : Bar xs) : WinsC xs := wins_all (sumN xs + 1) xs hb (Nat.lt_succ_self _)
/-- the method winning, for every bar -/
theorem winning_calls (x0 x1 x2 x3 x4 x5 : Int) (most : Nat) (hb : Bar [x0, x1, x2, x3, x4, x5]) (g : Nat) (w : World) (hM : Memo winsS w g) (hm : most ≤ 100) :
    Calls Tryd.prog 28 #[.map (some g), .agg #[.int .i64 x0, .int .i64 x1, .int .i64 x2, .int .i64 x3, .int .i64 x4, .int .i64 x5], .int .i64 most] w (WinningPost [x0, x1, x2, x3, x4, x5] most g w) :=
  winning_of x0 x1 x2 x3 x4 x5 most hb (fun ys hy _ => wins_calls hy) g w hM hm
end Go.Proofs.YtcnicogoccadnaaDoor.Ext
