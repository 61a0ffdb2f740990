/- Other, Rules and won. -/
import Derived.Test.YtldakfaolagoiaaProg
import Derived.Below
import Derived.Deep.Draws
import Derived.Deep.AppendLies
import Derived.Maps.AppendAt
import Derived.OwnWalk
import Derived.Laws.BytesArg
import Derived.Laws.MakeOwn
import Derived.Laws.OwnMore
import Derived.Deep.OwnRows
import Derived.Tactics
import Derived.Lib.ConvBytes
import Derived.Laws.Slices
import Derived.WalkKit
import Derived.KernelRfl
import Derived.RowKit3
import Derived.Deep.LoopGhost
import Derived.Deep.QuietTactic
import Derived.BigQuiet
import Derived.WideLaws
import Derived.Deep.DeepCutAuto
import Derived.Deep.CutBlock
import Derived.Deep.RegionHeld3
import Derived.Laws.Rows
import Derived.Lib.AppendStr
import Derived.ArgAppend
import Derived.Laws.IdiomCopy
import Derived.OrdersHeld
import Derived.Laws.BitsLemmas
import Derived.RowKit
import Derived.Test.YtldakfaolagoiaaWWords
import Derived.Test.YtldakfaolagoiaaWLast
import Derived.Test.YtldakfaolagoiaaWTab
import Derived.Test.YtldakfaolagoiaaWFour
import Derived.Test.YtldakfaolagoiaaWQPut
import Derived.Test.YtldakfaolagoiaaWApart
import Derived.Test.YtldakfaolagoiaaWArr
import Derived.Test.YtldakfaolagoiaaWZeros
import Derived.Test.YtldakfaolagoiaaWFoot
import Derived.Test.YtldakfaolagoiaaWKept
import Derived.Test.YtldakfaolagoiaaWShare
import Derived.Test.YtldakfaolagoiaaWN
import Derived.Test.YtldakfaolagoiaaWFootNe
import Derived.Test.YtldakfaolagoiaaWAt
import Derived.Test.YtldakfaolagoiaaWEqStruct
import Derived.Test.YtldakfaolagoiaaWRepsOne
import Derived.Test.YtldakfaolagoiaaWInv
import Derived.Test.YtldakfaolagoiaaWInvWords
import Derived.Test.YtldakfaolagoiaaWGuard
import Derived.Test.YtldakfaolagoiaaWNEv
import Derived.Test.YtldakfaolagoiaaWMore
import Derived.Maps.OwnOps
import Derived.DeepKeys4
import Derived.WalkSpells
import Derived.Laws.EntriesVeiled
import Derived.Deep.RegionLawGrows
import Derived.ArgAppend
import Derived.Test.YtldakfaolagoiaaTbD
namespace Go.Proofs.Ytldakfaolagoiaa.Tb
open Go.RowKit Go.Proofs.YtldakfaolagoiaaW.PrintWords Go.Proofs.YtldakfaolagoiaaW.PrintLast Go.Proofs.YtldakfaolagoiaaW.PrintMore
attribute [local go_sem] max2_int min2_int max_two min_two max_three min_three max_four min_four
set_option linter.unusedVariables false
set_option linter.unusedSimpArgs false

theorem heap_at {w : World} (o : Obj) {n : Nat} (h : w.heap.size = n) : (w.alloc o).heap[n]? = some o := h ▸ heap_alloc_new w o
theorem asize (w : World) (o : Obj) : (w.alloc o).heap.size = w.heap.size + 1 := by show (w.heap.push o).size = _; simp
/-- the rule in which those win whose absence loses -/
def otherL (n : Int) (l : List Int) : List Int := leastL n fun s => !(win l (restOf n s))

set_option maxHeartbeats 800000 in
set_option maxRecDepth 100000 in
theorem other_calls (n : Int) (A : Option Addr) (c : Nat) (l : List Int) (w : World) (hr : Kd.C (Kd.int .i64) w A l.length l) (hc : l.length ≤ c) (hR : RuleOK n l) :
    Calls Try.prog 6 #[.int .i64 n, .slice A l.length c] w fun e w' => ∃ v, e = .returned (.tuple #[v, .int .i64 0]) ∧ Kd.R (Kd.int .i64) 3 w' w.heap.size (fun _ => True) v (otherL n l) ∧ Below w.heap.size w w' := by
  have hmf : ∀ (fn : Fn) (first cap : Array Value) (w : World), (Instr.makeFunc fn first cap).run Try.prog w = .ok (.func fn first cap) w := fun _ _ _ _ => rfl
  have hB1 := below_alloc (Below.refl w.heap.size w) (.cells #[.int .i64 n] 3)
  have HR := Aside0.mk (ruled_calls n A c l (w.alloc (.cells #[.int .i64 n] 3)) (Kd.C_below hr hB1) hc hR)
  have HC := Aside0.mk hr
  have HB1 := Aside0.mk hB1
  have hn1 := hR.n1
  have hn5 := hR.n5
  have hbn := heap_alloc_new w (.cells #[.int .i64 n] 3)
  have hbc := blk_cell hbn 0
  simp only [List.getElem?_toArray, List.getElem?_cons_zero] at hbc
  clear hr hR hB1
  go_enter Try.func6, Try.ntmps6
  go_wp2_with fail
  refine HR.out.mono ?_
  rintro e w1 ⟨rfl, hb1⟩
  have hbn1 := blk_below hbn hb1
  have HB2 := Aside0.mk (below_step HB1.out hb1)
  have hbc1 := blk_cell hbn1 0
  simp only [List.getElem?_toArray, List.getElem?_cons_zero] at hbc1
  clear hb1 hbn hbc HR
  go_wp2_with fail
  refine (rules_calls A c l w1).mono ?_
  rintro e w2 ⟨rfl, rfl⟩
  have hB3 := below_alloc (below_alloc (Below.refl w1.heap.size w1) (.cells #[.slice A l.length c] 22)) (.cells #[.func (.func 18) #[] #[.pointer (some ⟨w1.heap.size, 0, none⟩)]] 32)
  have hbn3 := blk_below hbn1 hB3
  have hbr3 : ((w1.alloc (.cells #[.slice A l.length c] 22)).alloc (.cells #[.func (.func 18) #[] #[.pointer (some ⟨w1.heap.size, 0, none⟩)]] 32)).heap[w1.heap.size]? = some (.cells #[.slice A l.length c] 22 (0, 0)) := blk_alloc (heap_alloc_new w1 (.cells #[.slice A l.length c] 22)) _
  have hbw3 : ((w1.alloc (.cells #[.slice A l.length c] 22)).alloc (.cells #[.func (.func 18) #[] #[.pointer (some ⟨w1.heap.size, 0, none⟩)]] 32)).heap[w1.heap.size + 1]? = some (.cells #[.func (.func 18) #[] #[.pointer (some ⟨w1.heap.size, 0, none⟩)]] 32 (0, 0)) := heap_at _ (asize _ _)
  have HC3 := Aside0.mk (Kd.C_below HC.out (below_step HB2.out hB3))
  have HB3 := Aside0.mk (below_step HB2.out hB3)
  have hbc3 := blk_cell hbn3 0
  simp only [List.getElem?_toArray, List.getElem?_cons_zero] at hbc3
  have HL := Aside0.mk (least_calls n ⟨hn1, hn5⟩ (fun s => !(win l (restOf n s))) (w1.heap.size + 1) w.heap.size _ (fun s hs W hW => c12 s n (w1.heap.size + 1) w.heap.size w1.heap.size A c l W ⟨hn1, hn5⟩ (Kd.C_below HC3.out hW) hc (blk_below hbr3 hW) (blk_below hbw3 hW) (blk_below hbn3 hW)))
  clear hB3 hbn1 hbn3 hbr3 hbw3 hbc1
  go_wp2_with (first | (go_at_call 11; with_reducible refine HL.out.mono ?_; rintro e w5 ⟨v, rfl, hR5, hb5⟩; have HR5 := Aside0.mk (Kd.R_lower hR5 (below_size HB3.out)); have HB5 := Aside0.mk (below_step HB3.out hb5); clear hR5 hb5) | fail)
  go_ret2
  exact ⟨_, rfl, HR5.out, HB5.out⟩

set_option maxHeartbeats 800000 in
set_option maxRecDepth 100000 in
theorem rules2_calls (n s : Int) (A : Option Addr) (c : Nat) (l : List Int) (w : World) (hr : Kd.C (Kd.int .i64) w A l.length l) (hc : l.length ≤ c) (hR : RuleOK n l) (h0 : 0 ≤ s) (h1 : s < pw n) :
    Calls Try.prog 8 #[.int .i64 n, .slice A l.length c, .int .i64 s] w fun e w' => e = .returned (.tuple #[.bool (win l s), .int .i64 0]) ∧ Below w.heap.size w w' := by
  have HR := Aside0.mk (ruled_calls n A c l w hr hc hR)
  have HC := Aside0.mk hr
  have hn1 := hR.n1
  have hn5 := hR.n5
  have hd1 : decide (s < 0) = false := decide_eq_false (by omega)
  have hd2 : decide (wrap64 (2 ^ n.toNat) ≤ s) = false := decide_eq_false (Int.not_le.2 h1)
  clear hr hR h1
  go_enter Try.func8, Try.ntmps8
  go_wp2_with fail
  refine HR.out.mono ?_
  rintro e w1 ⟨rfl, hb1⟩
  have HB1 := Aside0.mk hb1
  clear hb1 HR
  go_wp2_with fail
  refine (rules_calls A c l w1).mono ?_
  rintro e w2 ⟨rfl, rfl⟩
  have HB2 := Aside0.mk (below_alloc HB1.out (.cells #[.slice A l.length c] 22))
  have HW := Aside0.mk (c18 s w1.heap.size A c l (w1.alloc (.cells #[.slice A l.length c] 22)) (Kd.C_below HC.out HB2.out) hc (heap_alloc_new w1 _))
  go_wp2_with (first | (go_at_call 18; with_reducible refine HW.out.mono ?_; rintro e w5 ⟨rfl, hb5⟩; have HB5 := Aside0.mk (below_step HB2.out hb5); clear hb5) | fail)
  go_ret2
  exact ⟨rfl, HB5.out⟩

/-- have the wolves a line? -/
def wonL (l : List Int) (s : Int) : Bool := l.any fun x => landNot x s == 0
set_option maxHeartbeats 800000 in
set_option maxRecDepth 100000 in
theorem won_calls (m s d : Int) (A : Option Addr) (c : Nat) (l : List Int) (w : World) (hr : Kd.C (Kd.int .i64) w A l.length l) (hc : l.length ≤ c) :
    Calls Try.prog 21 #[.agg #[.int .i64 m, .slice A l.length c], .agg #[.int .i64 s, .int .i64 d]] w fun e w' => e = .returned (.bool (wonL l s)) ∧ Below w.heap.size w w' := by
  have hmf : ∀ (fn : Fn) (first cap : Array Value) (w : World), (Instr.makeFunc fn first cap).run Try.prog w = .ok (.func fn first cap) w := fun _ _ _ _ => rfl
  have hu36 := Try.underlying36
  have hu38 := Try.underlying38
  have hB := below_alloc (below_alloc (Below.refl w.heap.size w) (.cells #[.int .i64 m, .slice A l.length c] 36)) (.cells #[.int .i64 s, .int .i64 d] 38)
  have HB := Aside0.mk hB
  have hp : ((w.alloc (.cells #[.int .i64 m, .slice A l.length c] 36)).alloc (.cells #[.int .i64 s, .int .i64 d] 38)).heap[w.heap.size + 1]? = some (.cells #[.int .i64 s, .int .i64 d] 38 (0, 0)) := heap_at _ (asize _ _)
  have hf : ((w.alloc (.cells #[.int .i64 m, .slice A l.length c] 36)).alloc (.cells #[.int .i64 s, .int .i64 d] 38)).heap[w.heap.size]? = some (.cells #[.int .i64 m, .slice A l.length c] 36 (0, 0)) := blk_alloc (heap_alloc_new w (.cells #[.int .i64 m, .slice A l.length c] 36)) _
  have hc1 := blk_cell hf 1
  simp only [List.getElem?_toArray, List.getElem?_cons_zero, List.getElem?_cons_succ] at hc1
  have HC := Aside0.mk (contains_27 (fun x => landNot x s == 0) (w.heap.size + 1) A c l _ (Kd.C_below hr hB) hc (fun x hx => c27 x s d (w.heap.size + 1) _ hp))
  clear hp hf hB hr
  go_enter Try.func21, Try.ntmps21
  go_wp2_with (first | (go_at_call 16; with_reducible refine HC.out.mono ?_; rintro e w5 ⟨rfl, rfl⟩) | fail)
  go_ret
  exact ⟨rfl, HB.out⟩
end Go.Proofs.Ytldakfaolagoiaa.Tb
