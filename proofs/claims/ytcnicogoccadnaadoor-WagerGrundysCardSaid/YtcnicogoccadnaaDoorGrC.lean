/- The contract of Grundy, for all arguments. -/
import Derived.Test.YtcnicogoccadnaaDoorProg
import Derived.Below
import Derived.Deep.Draws
import Derived.Deep.AppendLies
import Derived.Maps.AppendAt
import Derived.OwnWalk
import Derived.Laws.BytesArg
import Derived.Laws.MakeOwn
import Derived.Laws.OwnMore
import Derived.Deep.OwnRows
import Derived.Tactics
import Derived.Lib.ConvBytes
import Derived.Laws.Slices
import Derived.WalkKit
import Derived.KernelRfl
import Derived.RowKit3
import Derived.Deep.LoopGhost
import Derived.Deep.QuietTactic
import Derived.BigQuiet
import Derived.WideLaws
import Derived.Deep.DeepCutAuto
import Derived.Deep.CutBlock
import Derived.Deep.RegionHeld3
import Derived.Laws.Rows
import Derived.Lib.AppendStr
import Derived.ArgAppend
import Derived.Laws.IdiomCopy
import Derived.OrdersHeld
import Derived.Laws.BitsLemmas
import Derived.RowKit
import Derived.Test.YtcnicogoccadnaaDoorWWords
import Derived.Test.YtcnicogoccadnaaDoorWLast
import Derived.Test.YtcnicogoccadnaaDoorWTab
import Derived.Test.YtcnicogoccadnaaDoorWFour
import Derived.Test.YtcnicogoccadnaaDoorWQPut
import Derived.Test.YtcnicogoccadnaaDoorWApart
import Derived.Test.YtcnicogoccadnaaDoorWArr
import Derived.Test.YtcnicogoccadnaaDoorWZeros
import Derived.Test.YtcnicogoccadnaaDoorWFoot
import Derived.Test.YtcnicogoccadnaaDoorWKept
import Derived.Test.YtcnicogoccadnaaDoorWShare
import Derived.Test.YtcnicogoccadnaaDoorWN
import Derived.Test.YtcnicogoccadnaaDoorWFootNe
import Derived.Test.YtcnicogoccadnaaDoorWAt
import Derived.Test.YtcnicogoccadnaaDoorWEqStruct
import Derived.Test.YtcnicogoccadnaaDoorWRepsOne
import Derived.Test.YtcnicogoccadnaaDoorWInv
import Derived.Test.YtcnicogoccadnaaDoorWInvWords
import Derived.Test.YtcnicogoccadnaaDoorWGuard
import Derived.Test.YtcnicogoccadnaaDoorWNEv
import Derived.Test.YtcnicogoccadnaaDoorWMore
import Derived.Maps.OwnOps
import Derived.DeepKeys4
import Derived.WalkSpells
import Derived.Laws.EntriesVeiled
import Derived.Deep.RegionLawGrows
import Derived.Test.YtcnicogoccadnaaDoorGrB
import Derived.Test.YtcnicogoccadnaaDoorPx4
import Derived.Test.YtcnicogoccadnaaDoorExtK
namespace Go.Proofs.YtcnicogoccadnaaDoor.Gr
open Go.RowKit Go.Proofs.YtcnicogoccadnaaDoorW.PrintWords Go.Proofs.YtcnicogoccadnaaDoorW.PrintLast Go.Proofs.YtcnicogoccadnaaDoorW.PrintMore
open Go.Proofs.YtcnicogoccadnaaDoor.Ext Go.Proofs.YtcnicogoccadnaaDoor.Pure
attribute [local go_sem] max2_int min2_int max_two min_two max_three min_three max_four min_four
set_option linter.unusedVariables false
set_option linter.unusedSimpArgs false

theorem val_none (a : Nat) : val a 0 = 0 := by
  unfold val opts
  rfl

set_option maxHeartbeats 8000000 in
set_option maxRecDepth 100000 in
theorem num_succ {n : Nat} (IH : NumC n) : NumC (n + 1) := by
  intro a b h ha W bk bn g hS
  have IHa : NumC a := fun a' b' h' hlt W bk bn g hS => IH a' b' h' (by omega) W bk bn g hS
  have hu34 := Tryd.underlying34
  have hu38 := Tryd.underlying38
  have hB1 := below_alloc (Below.refl W.heap.size W) (.cells #[.int .i64 (a : Int), .int .i64 (b : Int)] 34)
  have HB1 := Aside0.mk hB1
  have HS1 := Aside0.mk (hS.below hB1)
  have HBX1 := Aside0.mk (heap_alloc_new W (.cells #[.int .i64 (a : Int), .int .i64 (b : Int)] 34))
  have ac0 := blk_cell HBX1.out 0
  have ac1 := blk_cell HBX1.out 1
  simp only [List.getElem?_toArray, List.getElem?_cons_zero, List.getElem?_cons_succ] at ac0 ac1
  have hn1 := HS1.out.n1
  have HI := Aside0.mk IHa
  have HH := Aside0.mk h
  have hgW := hS.hm.lt
  clear hB1 hS IH IHa h
  by_cases hz : b = 0
  · have HV := Aside0.mk (show val a b = 0 from by rw [hz]; exact val_none a)
    have hd : decide (b = 0) = true := decide_eq_true hz
    clear hz
    go_enter Tryd.func11, Tryd.ntmps11
    go_wp2_with fail
    refine (over_calls HH.out _).mono ?_
    rintro e w2 ⟨rfl, hb2⟩
    rw [hd]
    have HB2 := Aside0.mk (below_step HB1.out hb2)
    have HM2 := Aside0.mk ((HS1.out.below hb2).hm)
    clear hb2
    go_wp2
    go_ret
    exact ⟨by rw [HV.out]; rfl, HM2.out, (Two.below (g := g) (m := W.heap.size) HB2.out).one (Nat.le_refl _)⟩
  · have hd : decide (b = 0) = false := decide_eq_false hz
    have HNZ := Aside0.mk hz
    clear hz
    have hmm := @run_makeMap Tryd.prog
    have hmf : ∀ (fn : Fn) (first cap : Array Value) (w : World), (Instr.makeFunc fn first cap).run Tryd.prog w = .ok (.func fn first cap) w := fun _ _ _ _ => rfl
    go_enter Tryd.func11, Tryd.ntmps11
    go_wp2_with fail
    refine (over_calls HH.out _).mono ?_
    rintro e w2 ⟨rfl, hb2⟩
    rw [hd]
    have HB2 := Aside0.mk (below_step HB1.out hb2)
    have HS2 := Aside0.mk (HS1.out.below hb2)
    have HBX2 := Aside0.mk (blk_below HBX1.out hb2)
    clear hb2 ac0 ac1 hn1 HS1 HB1 HBX1
    have bc0 := blk_cell HBX2.out 0
    have bc1 := blk_cell HBX2.out 1
    have bck := blk_cell HS2.out.hk 0
    simp only [List.getElem?_toArray, List.getElem?_cons_zero, List.getElem?_cons_succ] at bc0 bc1 bck
    rcases HS2.out.hm.lookup HH.out with hl | hl
    · have hl' : (Instr.lookup 31 (.map (some g)) (.agg #[.int .i64 (a : Int), .int .i64 (b : Int)]) true).run Tryd.prog w2 = .ok (.tuple #[.int .i64 0, .bool false]) w2 := hl
      clear hl
      have hB6 := below_alloc (below_alloc (Below.refl w2.heap.size w2) (.map #[] 0)) (.cells #[.map (some w2.heap.size)] 40)
      have HB6 := Aside0.mk hB6
      have HS6 := Aside0.mk (HS2.out.below hB6)
      have HBX6 := Aside0.mk (blk_below HBX2.out hB6)
      have HBM6 := Aside0.mk (show ((w2.alloc (.map #[] 0)).alloc (.cells #[.map (some w2.heap.size)] 40)).heap[w2.heap.size + 1]? = some (.cells #[.map (some w2.heap.size)] 40 (0, 0)) from heap_at _ (asize _ _))
      have HM6 := Aside0.mk ((Met.made w2).move (w1 := (w2.alloc (.map #[] 0)).alloc (.cells #[.map (some w2.heap.size)] 40)) ((below_alloc (Below.refl _ _) _).block _ (Met.made w2).lt))
      have hn6 := HS6.out.n0
      have cc0 := blk_cell HBX6.out 0
      have cc1 := blk_cell HBX6.out 1
      have hgm : g ≠ w2.heap.size := by have := HB2.out.size; omega
      simp only [List.getElem?_toArray, List.getElem?_cons_zero, List.getElem?_cons_succ] at cc0 cc1
      clear hB6
      go_wp2_with fail
      refine (moves_calls HI.out HH.out _ bk bn g (w2.heap.size + 1) w2.heap.size HS6.out HBM6.out HM6.out hgm).mono ?_
      rintro e w7 ⟨rfl, hm7, hM7, ht7⟩
      obtain ⟨es, cl, hgb, _⟩ := HS6.out.hm
      obtain ⟨es6, cl6, hmb, _⟩ := HM6.out
      have HS7 := Aside0.mk (HS6.out.two ht7 hm7 (map_ne hmb HS6.out.hk) (map_ne hmb HS6.out.hn) (map_ne0 hmb HS6.out.n0))
      have HBX7 := Aside0.mk (ht7.blk HBX6.out (map_ne hgb HBX6.out) (map_ne hmb HBX6.out))
      have HBM7 := Aside0.mk (ht7.blk HBM6.out (map_ne hgb HBM6.out) (map_ne hmb HBM6.out))
      have HM7 := Aside0.mk hM7
      have HT7 := Aside0.mk (((Two.below HB2.out).trans (Two.below HB6.out)).trans ht7)
      have hsize := HB2.out.size
      clear hm7 hM7 ht7 hgb hmb HS6 HBX6 HBM6 HM6 HB6 cc0 cc1 hn6 bc0 bc1 bck HS2 HBX2 hl'
      obtain ⟨w8, hu, hM8, hg8⟩ := HS7.out.hm.update HH.out
      have hu' : (Instr.mapUpdate 31 (.map (some g)) (.agg #[.int .i64 (a : Int), .int .i64 (b : Int)]) (.int .i64 (val a b : Int))).run Tryd.prog w7 = .ok () w8 := hu
      have HM8 := Aside0.mk hM8
      have HT8 := Aside0.mk (HT7.out.trans (Two.of1 hg8))
      have dc0 := blk_cell HBX7.out 0
      have dc1 := blk_cell HBX7.out 1
      have dck := blk_cell HS7.out.hk 0
      have dcm := blk_cell HBM7.out 0
      simp only [List.getElem?_toArray, List.getElem?_cons_zero, List.getElem?_cons_succ] at dc0 dc1 dck dcm
      have hvf := val_few HH.out
      clear hu hM8 hg8
      go_wp2_with fail
      go_loopw [8] (fun v8 W' => ∃ (x : Nat), v8 = .int .i64 (x : Int) ∧ Aside0 (x ≤ val a b) ∧ W' = w7) (fun v8 _ => (202 - intOf v8).toNat)
      case atStart => exact ⟨0, rfl, ⟨Nat.zero_le _⟩, rfl⟩
      case round =>
        obtain ⟨x, rfl, hx, rfl⟩ := hrel
        have hx' := hx.out
        have hsp := mex_spec (opts (tabT a) a b)
        by_cases hlt : x < val a b
        · have hlk := HM7.out.lookup (x := (x : Int)) (by omega)
          rw [decide_eq_true (hsp.2.2 x hlt)] at hlk
          clear hsp
          go_wp2_with fail
          go_roundw
          case rel => exact ⟨x + 1, by go_num, ⟨by omega⟩, by first | rfl | trivial⟩
          case measure => simp [intOf]; omega
        · have hxe : x = val a b := by omega
          have hlk := HM7.out.lookup (x := (x : Int)) (by omega)
          rw [decide_eq_false (by rw [hxe]; exact hsp.1)] at hlk
          rw [← hxe] at hu'
          have HXE := Aside0.mk hxe
          clear hsp hxe
          go_wp2_with fail
          go_ret
          exact ⟨by rw [← HXE.out]; rfl, HM8.out, HT8.out.one hsize⟩
    · have hl' : (Instr.lookup 31 (.map (some g)) (.agg #[.int .i64 (a : Int), .int .i64 (b : Int)]) true).run Tryd.prog w2 = .ok (.tuple #[.int .i64 (val a b : Int), .bool true]) w2 := hl
      clear hl
      go_wp2
      go_ret
      exact ⟨rfl, HS2.out.hm, (Two.below (g := g) (m := W.heap.size) HB2.out).one (Nat.le_refl _)⟩

theorem num_all : ∀ n, NumC n
  | 0 => fun a b h hlt => absurd hlt (Nat.not_lt_zero _)
  | n + 1 => num_succ (num_all n)

/-- what Grundy comes to -/
def grundyL (n l : Int) : Int × Int := if n < 0 ∨ 200 < n ∨ l < 0 ∨ 1099511627776 < l then (0, 2) else ((val n.toNat (min l.toNat n.toNat) : Int), 0)
theorem St_made {w : World} (h0 : w.cell? ⟨0, 0, none⟩ = some (.func (.func 48) #[] #[])) (h1 : w.cell? ⟨0, 1, none⟩ = some (.func (.func 49) #[] #[])) :
    St (((w.alloc (.map #[] 0)).alloc (.cells #[.map (some w.heap.size)] 31)).alloc (.cells #[.func (.func 11) #[] #[.pointer (some ⟨w.heap.size + 1, 0, none⟩), .pointer (some ⟨w.heap.size + 1 + 1, 0, none⟩)]] 32)) (w.heap.size + 1) (w.heap.size + 1 + 1) w.heap.size := by
  have hB : Below w.heap.size w (((w.alloc (.map #[] 0)).alloc (.cells #[.map (some w.heap.size)] 31)).alloc (.cells #[.func (.func 11) #[] #[.pointer (some ⟨w.heap.size + 1, 0, none⟩), .pointer (some ⟨w.heap.size + 1 + 1, 0, none⟩)]] 32)) := by
    repeat (first | (with_reducible exact Below.refl _ _) | (with_reducible apply below_alloc))
  have hb := hB.block 0 (lt0 h0)
  refine ⟨blk_alloc (heap_at _ (asize _ _)) _, heap_at _ (by simp only [asize]), ?_, (World.cell?_of_block (w := w) hb).trans h0, (World.cell?_of_block (w := w) hb).trans h1⟩
  refine (Memo.made w).move ?_
  exact (below_alloc (below_alloc (Below.refl (w.alloc (.map #[] 0)).heap.size (w.alloc (.map #[] 0))) (.cells #[.map (some w.heap.size)] 31)) _).block _ (Memo.made w).lt

theorem num_at {a b : Nat} {x y : Int} (hx : x = (a : Int)) (hy : y = (b : Int)) (h : Heap a b) (W : World) (bk bn g : Nat) (hS : St W bk bn g) :
    Calls Tryd.prog 11 #[.agg #[.int .i64 x, .int .i64 y], .pointer (some ⟨bk, 0, none⟩), .pointer (some ⟨bn, 0, none⟩)] W fun e W' => e = .returned (.int .i64 (val a b : Int)) ∧ Memo W' g ∧ W.grownBy W' (some g) := by
  subst hx hy
  exact num_all (a + 1) a b h (Nat.lt_succ_self _) W bk bn g hS

theorem heap_of {n l : Int} (h0 : 0 ≤ n) (h1 : n ≤ 200) : Heap n.toNat (min l.toNat n.toNat) := ⟨Nat.min_le_right _ _, by omega⟩
theorem heap_f (l : Int) : P.wager_heap.f l = some (decide (0 ≤ l ∧ l ≤ 1099511627776)) := by
  unfold P.wager_heap.f
  by_cases h : 0 ≤ l
  · rw [if_pos h]
    congr 1
    rw [Bool.eq_iff_iff, decide_eq_true_iff, decide_eq_true_iff]
    exact ⟨fun h2 => ⟨h, h2⟩, fun h2 => h2.2⟩
  · rw [if_neg h]
    congr 1
    rw [eq_comm, decide_eq_false_iff_not]
    exact fun h2 => h h2.1

set_option maxHeartbeats 800000 in
set_option maxRecDepth 100000 in
theorem grundy_calls (n l : Int) (w : World) (h0 : w.cell? ⟨0, 0, none⟩ = some (.func (.func 48) #[] #[])) (h1 : w.cell? ⟨0, 1, none⟩ = some (.func (.func 49) #[] #[])) :
    Calls Tryd.prog 5 #[.int .i64 n, .int .i64 l] w fun e w' => e = .returned (.tuple #[.int .i64 (grundyL n l).1, .int .i64 (grundyL n l).2]) ∧ Below w.heap.size w w' := by
  have hu34 := Tryd.underlying34
  by_cases hbad : n < 0 ∨ 200 < n ∨ l < 0 ∨ 1099511627776 < l
  · have HC := Aside0.mk (show grundyL n l = (0, 2) from if_pos hbad)
    rcases (show n < 0 ∨ (0 ≤ n ∧ 200 < n) ∨ (0 ≤ n ∧ n ≤ 200 ∧ ¬ (0 ≤ l ∧ l ≤ 1099511627776)) by omega) with c | ⟨c1, c2⟩ | ⟨c1, c2, c3⟩
    · clear hbad
      go_enter Tryd.func5, Tryd.ntmps5
      go_wp2
      go_ret2
      exact ⟨by rw [HC.out]; rfl, Below.refl _ _⟩
    · clear hbad
      go_enter Tryd.func5, Tryd.ntmps5
      go_wp2
      go_ret2
      exact ⟨by rw [HC.out]; rfl, Below.refl _ _⟩
    · clear hbad
      have hh := Aside0.mk (heap_f l)
      have hd : decide (0 ≤ l ∧ l ≤ 1099511627776) = false := decide_eq_false c3
      rw [hd] at hh
      clear hd c3
      go_enter Tryd.func5, Tryd.ntmps5
      go_wp2_with fail
      refine (P.wager_heap.calls l false _ hh.out).mono ?_
      rintro e w' ⟨rfl, ⟨nd, rfl⟩⟩
      go_wp2
      go_ret2
      exact ⟨by rw [HC.out]; rfl, pw_below_drewN (Below.refl _ _) nd⟩
  · have hok : 0 ≤ n ∧ n ≤ 200 ∧ 0 ≤ l ∧ l ≤ 1099511627776 := by omega
    have HC := Aside0.mk (show grundyL n l = ((val n.toNat (min l.toNat n.toNat) : Int), 0) from if_neg hbad)
    obtain ⟨c1, c2, c3, c4⟩ := hok
    have hh := Aside0.mk (heap_f l)
    have hd : decide (0 ≤ l ∧ l ≤ 1099511627776) = true := decide_eq_true ⟨c3, c4⟩
    rw [hd] at hh
    have hmm := @run_makeMap Tryd.prog
    have hmf : ∀ (fn : Fn) (first cap : Array Value) (w : World), (Instr.makeFunc fn first cap).run Tryd.prog w = .ok (.func fn first cap) w := fun _ _ _ _ => rfl
    clear hd hbad
    go_enter Tryd.func5, Tryd.ntmps5
    go_wp2_with fail
    refine (P.wager_heap.calls l true _ hh.out).mono ?_
    rintro e w' ⟨rfl, hdr⟩
    have hbw : Below w.heap.size w w' := by
      obtain ⟨nd, rfl⟩ := hdr
      exact pw_below_drewN (Below.refl _ _) nd
    have HBW := Aside0.mk hbw
    have hb0 := hbw.block 0 (lt0 h0)
    have HS := Aside0.mk (St_made ((World.cell?_of_block (w := w) hb0).trans h0) ((World.cell?_of_block (w := w) hb0).trans h1))
    clear hb0 hbw hdr h0 h1
    have hcase : n < l ∨ ¬ n < l := by omega
    rcases hcase with hlt | hlt
    all_goals
      go_wp2_with (first | (go_at_call 11; with_reducible refine (num_at (a := n.toNat) (b := min l.toNat n.toNat) (by omega) (by omega) (heap_of c1 c2) _ _ _ _ HS.out).mono ?_; rintro e w7 ⟨rfl, hm7, hg7⟩; have HB7 := Aside0.mk (show Below w.heap.size w w7 from (below_step HBW.out (by repeat (first | (with_reducible exact Below.refl _ _) | (with_reducible apply below_alloc)))).grown hg7 (by have := HBW.out.size; simp only [asize]; omega) (fun k hk => by injection hk with hk; have := HBW.out.size; omega)); clear hm7 hg7) | fail)
      go_ret2
      exact ⟨by rw [HC.out]; rfl, HB7.out⟩

end Go.Proofs.YtcnicogoccadnaaDoor.Gr
