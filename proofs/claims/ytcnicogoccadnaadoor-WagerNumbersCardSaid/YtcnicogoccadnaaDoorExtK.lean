/- The contract of Lost, for all arguments. -/
import Derived.Test.YtcnicogoccadnaaDoorProg
import Derived.Below
import Derived.Deep.Draws
import Derived.Deep.AppendLies
import Derived.Maps.AppendAt
import Derived.OwnWalk
import Derived.Laws.BytesArg
import Derived.Laws.MakeOwn
import Derived.Laws.OwnMore
import Derived.Deep.OwnRows
import Derived.Tactics
import Derived.Lib.ConvBytes
import Derived.Laws.Slices
import Derived.WalkKit
import Derived.KernelRfl
import Derived.RowKit3
import Derived.Deep.LoopGhost
import Derived.Deep.QuietTactic
import Derived.BigQuiet
import Derived.WideLaws
import Derived.Deep.DeepCutAuto
import Derived.Deep.CutBlock
import Derived.Deep.RegionHeld3
import Derived.Laws.Rows
import Derived.Lib.AppendStr
import Derived.ArgAppend
import Derived.Laws.IdiomCopy
import Derived.OrdersHeld
import Derived.Laws.BitsLemmas
import Derived.RowKit
import Derived.Test.YtcnicogoccadnaaDoorWWords
import Derived.Test.YtcnicogoccadnaaDoorWLast
import Derived.Test.YtcnicogoccadnaaDoorWTab
import Derived.Test.YtcnicogoccadnaaDoorWFour
import Derived.Test.YtcnicogoccadnaaDoorWQPut
import Derived.Test.YtcnicogoccadnaaDoorWApart
import Derived.Test.YtcnicogoccadnaaDoorWArr
import Derived.Test.YtcnicogoccadnaaDoorWZeros
import Derived.Test.YtcnicogoccadnaaDoorWFoot
import Derived.Test.YtcnicogoccadnaaDoorWKept
import Derived.Test.YtcnicogoccadnaaDoorWShare
import Derived.Test.YtcnicogoccadnaaDoorWN
import Derived.Test.YtcnicogoccadnaaDoorWFootNe
import Derived.Test.YtcnicogoccadnaaDoorWAt
import Derived.Test.YtcnicogoccadnaaDoorWEqStruct
import Derived.Test.YtcnicogoccadnaaDoorWRepsOne
import Derived.Test.YtcnicogoccadnaaDoorWInv
import Derived.Test.YtcnicogoccadnaaDoorWInvWords
import Derived.Test.YtcnicogoccadnaaDoorWGuard
import Derived.Test.YtcnicogoccadnaaDoorWNEv
import Derived.Test.YtcnicogoccadnaaDoorWMore
import Derived.Maps.OwnOps
import Derived.DeepKeys4
import Derived.WalkSpells
import Derived.Laws.EntriesVeiled
import Derived.Deep.RegionLawGrows
import Derived.Test.YtcnicogoccadnaaDoorExtJ
namespace Go.Proofs.YtcnicogoccadnaaDoor.Ext
open Go.RowKit Go.Proofs.YtcnicogoccadnaaDoorW.PrintWords Go.Proofs.YtcnicogoccadnaaDoorW.PrintLast Go.Proofs.YtcnicogoccadnaaDoorW.PrintMore
attribute [local go_sem] max2_int min2_int max_two min_two max_three min_three max_four min_four
set_option linter.unusedVariables false
set_option linter.unusedSimpArgs false

theorem on_all : ∀ n, OnC n
  | 0 => on_zero
  | n + 1 => on_succ n (on_all n)

theorem asize (w : World) (o : Obj) : (w.alloc o).heap.size = w.heap.size + 1 := by show (w.heap.push o).size = _; simp
theorem heap_at {w : World} (o : Obj) {n : Nat} (h : w.heap.size = n) : (w.alloc o).heap[n]? = some o := h ▸ heap_alloc_new w o

theorem LSt_made (w : World) (rows cols : Int) : LSt w rows cols w.heap.size (w.heap.size + 1 + 1 + 1) (w.heap.size + 1 + 1 + 1 + 1) (w.heap.size + 1) (w.heap.size + 1 + 1 + 1 + 1 + 1) (w.heap.size + 1 + 1) ((((((w.alloc (.cells #[.int .i64 rows] 3)).alloc (.cells #[.int .i64 cols] 3)).alloc (.map #[] 0)).alloc (.cells #[.map (some (w.heap.size + 1 + 1))] 58)).alloc (.cells #[.slice none 0 0] 43)).alloc (.cells #[.func (.func 24) #[] #[.pointer (some ⟨w.heap.size, 0, none⟩), .pointer (some ⟨w.heap.size + 1 + 1 + 1, 0, none⟩), .pointer (some ⟨w.heap.size + 1 + 1 + 1 + 1, 0, none⟩), .pointer (some ⟨w.heap.size + 1, 0, none⟩), .pointer (some ⟨w.heap.size + 1 + 1 + 1 + 1 + 1, 0, none⟩)]] 59)) (.slice none 0 0) [] := by
  refine ⟨?_, ?_, ?_, ?_, ?_, ?_, Kd.S_nil _ _ _ _ _, by repeat (first | (with_reducible exact Below.refl _ _) | (with_reducible apply below_alloc)), by omega, by omega⟩
  · exact blk_alloc (blk_alloc (blk_alloc (blk_alloc (blk_alloc (heap_at _ rfl) _) _) _) _) _
  · exact blk_alloc (blk_alloc (heap_at _ (by simp only [asize])) _) _
  · exact blk_alloc (heap_at _ (by simp only [asize])) _
  · exact blk_alloc (blk_alloc (blk_alloc (blk_alloc (heap_at _ (by simp only [asize])) _) _) _) _
  · exact heap_at _ (by simp only [asize])
  · have h := Memo.made winsS ((w.alloc (.cells #[.int .i64 rows] 3)).alloc (.cells #[.int .i64 cols] 3))
    simp only [asize] at h
    exact ((h.below (below_alloc (Below.refl _ _) _)).below (below_alloc (Below.refl _ _) _)).below (below_alloc (Below.refl _ _) _)

set_option maxHeartbeats 8000000 in
set_option maxRecDepth 100000 in
theorem lost_calls (rows cols : Int) (w : World) :
    Calls Tryd.prog 17 #[.int .i64 rows, .int .i64 cols] w fun e w' => ∃ v, e = .returned (.tuple #[v, .int .i64 (lostL rows cols).2]) ∧ Kd.S kr 42 w' w.heap.size (fun _ => True) v (lostL rows cols).1 ∧ Below w.heap.size w w' := by
  by_cases hS : sizedL rows cols = 0
  · have hbd : 1 ≤ rows ∧ rows ≤ 6 ∧ 1 ≤ cols ∧ cols ≤ 7 := by
      unfold sizedL at hS
      split at hS
      · cases hS
      · omega
    obtain ⟨hr1, hr6, hc1, hc7⟩ := hbd
    have HC := Aside0.mk (show lostL rows cols = ((barsFrom rows.toNat cols []).filter lostP, 0) from by unfold lostL; rw [if_pos hS])
    have HS := Aside0.mk hS
    clear hS
    have hmm := @run_makeMap Tryd.prog
    have hmf : ∀ (fn : Fn) (first cap : Array Value) (w : World), (Instr.makeFunc fn first cap).run Tryd.prog w = .ok (.func fn first cap) w := fun _ _ _ _ => rfl
    go_enter Tryd.func17, Tryd.ntmps17
    go_wp2_with (first | (go_at_call 23; refine (sized_calls rows cols _).mono ?_; rintro e w1 ⟨rfl, rfl⟩; rw [HS.out]) | fail)
    have h8 : 8 ^ rows.toNat ≤ 300000 := Nat.le_trans (Nat.pow_le_pow_right (by decide) (show rows.toNat ≤ 6 by omega)) (by decide)
    refine (on_all rows.toNat w rows cols _ _ _ _ _ _ none 0 [] _ _ [] (LSt_made w rows cols) (Kd.R_nil _ _ _ _ _) (by simp; omega) hr1 hr6 (by omega) hc7 (fun i hi => by simp at hi) (by simpa using h8)).mono ?_
    rintro e w2 ⟨rfl, ⟨v2, hS2⟩, hT2⟩
    have ho := blk_cell hS2.ho 0
    simp only [List.getElem?_toArray, List.getElem?_cons_zero] at ho
    rw [show mostOf [] cols = cols from rfl, List.nil_append] at hS2
    have HS2 := Aside0.mk hS2
    obtain ⟨A2, c2, e2⟩ := Kd.S_slice hS2.hv
    subst e2
    clear hS2 hT2 h8 hmm hmf
    go_wp2
    go_ret2
    exact ⟨_, by rw [HC.out]; rfl, by rw [HC.out]; exact HS2.out.hv, HS2.out.hB⟩
  · obtain ⟨e, he⟩ : ∃ e, sizedL rows cols = e := ⟨_, rfl⟩
    have HC := Aside0.mk (show lostL rows cols = ([], e) from by unfold lostL; rw [if_neg hS, he])
    have h0 : (e != 0) = true := by rw [bne_iff_ne, ← he]; exact hS
    have HE := Aside0.mk he
    clear he hS
    go_enter Tryd.func17, Tryd.ntmps17
    go_wp2_with (first | (go_at_call 23; refine (sized_calls rows cols _).mono ?_; rintro e w1 ⟨rfl, rfl⟩; rw [HE.out]) | fail)
    go_ret2
    exact ⟨_, by rw [HC.out]; rfl, by rw [HC.out]; exact Kd.S_nil _ _ _ _ _, by repeat (first | (with_reducible exact Below.refl _ _) | (with_reducible apply below_alloc))⟩
end Go.Proofs.YtcnicogoccadnaaDoor.Ext
