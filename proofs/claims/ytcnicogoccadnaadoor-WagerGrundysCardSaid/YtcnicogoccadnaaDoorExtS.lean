/- The contract of Steps, for all arguments. -/
import Derived.Test.YtcnicogoccadnaaDoorProg
import Derived.Below
import Derived.Deep.Draws
import Derived.Deep.AppendLies
import Derived.Maps.AppendAt
import Derived.OwnWalk
import Derived.Laws.BytesArg
import Derived.Laws.MakeOwn
import Derived.Laws.OwnMore
import Derived.Deep.OwnRows
import Derived.Tactics
import Derived.Lib.ConvBytes
import Derived.Laws.Slices
import Derived.WalkKit
import Derived.KernelRfl
import Derived.RowKit3
import Derived.Deep.LoopGhost
import Derived.Deep.QuietTactic
import Derived.BigQuiet
import Derived.WideLaws
import Derived.Deep.DeepCutAuto
import Derived.Deep.CutBlock
import Derived.Deep.RegionHeld3
import Derived.Laws.Rows
import Derived.Lib.AppendStr
import Derived.ArgAppend
import Derived.Laws.IdiomCopy
import Derived.OrdersHeld
import Derived.Laws.BitsLemmas
import Derived.RowKit
import Derived.Test.YtcnicogoccadnaaDoorWWords
import Derived.Test.YtcnicogoccadnaaDoorWLast
import Derived.Test.YtcnicogoccadnaaDoorWTab
import Derived.Test.YtcnicogoccadnaaDoorWFour
import Derived.Test.YtcnicogoccadnaaDoorWQPut
import Derived.Test.YtcnicogoccadnaaDoorWApart
import Derived.Test.YtcnicogoccadnaaDoorWArr
import Derived.Test.YtcnicogoccadnaaDoorWZeros
import Derived.Test.YtcnicogoccadnaaDoorWFoot
import Derived.Test.YtcnicogoccadnaaDoorWKept
import Derived.Test.YtcnicogoccadnaaDoorWShare
import Derived.Test.YtcnicogoccadnaaDoorWN
import Derived.Test.YtcnicogoccadnaaDoorWFootNe
import Derived.Test.YtcnicogoccadnaaDoorWAt
import Derived.Test.YtcnicogoccadnaaDoorWEqStruct
import Derived.Test.YtcnicogoccadnaaDoorWRepsOne
import Derived.Test.YtcnicogoccadnaaDoorWInv
import Derived.Test.YtcnicogoccadnaaDoorWInvWords
import Derived.Test.YtcnicogoccadnaaDoorWGuard
import Derived.Test.YtcnicogoccadnaaDoorWNEv
import Derived.Test.YtcnicogoccadnaaDoorWMore
import Derived.Maps.OwnOps
import Derived.DeepKeys4
import Derived.WalkSpells
import Derived.Test.YtcnicogoccadnaaDoorExtF
namespace Go.Proofs.YtcnicogoccadnaaDoor.Ext
open Go.RowKit Go.Proofs.YtcnicogoccadnaaDoorW.PrintWords Go.Proofs.YtcnicogoccadnaaDoorW.PrintLast Go.Proofs.YtcnicogoccadnaaDoorW.PrintMore
attribute [local go_sem] max2_int min2_int max_two min_two max_three min_three max_four min_four
set_option linter.unusedVariables false
set_option linter.unusedSimpArgs false

/-- is it a heap? -/
def heapB (n : Int) : Bool := decide (0 ≤ n ∧ n ≤ 1099511627776)
theorem heap_calls (n : Int) (w : World) : Calls Tryd.prog 10 #[.int .i64 n] w fun e w' => e = .returned (.bool (heapB n)) ∧ w = w' := by
  by_cases h0 : 0 ≤ n
  · by_cases h1 : n ≤ 1099511627776
    · have HB := Aside0.mk (show heapB n = true from by unfold heapB; rw [decide_eq_true_iff]; exact ⟨h0, h1⟩)
      go_enter Tryd.func10, Tryd.ntmps10
      go_wp2
      go_ret
      exact ⟨by rw [HB.out]; rfl, rfl⟩
    · have HB := Aside0.mk (show heapB n = false from by unfold heapB; rw [decide_eq_false_iff_not]; omega)
      go_enter Tryd.func10, Tryd.ntmps10
      go_wp2
      go_ret
      exact ⟨by rw [HB.out]; rfl, rfl⟩
  · have HB := Aside0.mk (show heapB n = false from by unfold heapB; rw [decide_eq_false_iff_not]; omega)
    go_enter Tryd.func10, Tryd.ntmps10
    go_wp2
    go_ret
    exact ⟨by rw [HB.out]; rfl, rfl⟩

set_option maxHeartbeats 8000000 in
set_option maxRecDepth 100000 in
theorem ordered_calls (a b : Int) (w : World) : Calls Tryd.prog 21 #[.agg #[.int .i64 a, .int .i64 b]] w fun e w' => e = .returned (.agg #[.int .i64 (mx a b), .int .i64 (mn a b)]) ∧ Below w.heap.size w w' := by
  rcases (show a < b ∨ b < a ∨ a = b by omega) with h | h | rfl
  · have HM := Aside0.mk (show mx a b = b ∧ mn a b = a from by unfold mx mn; constructor <;> split <;> omega)
    go_enter Tryd.func21, Tryd.ntmps21
    go_wp2
    refine bodyPost_ret (results_cell_row rfl _ _ (w.heap.size + 1) 34 #[.int .i64 b, .int .i64 a] (0, 0) _ rfl (heap_new1 _ _ _) Tryd.underlying34 rfl (by kernel_rfl)) rfl ⟨by rw [HM.out.1, HM.out.2], by repeat (first | (with_reducible exact Below.refl _ _) | (with_reducible apply below_alloc))⟩
  · have HM := Aside0.mk (show mx a b = a ∧ mn a b = b from by unfold mx mn; constructor <;> split <;> omega)
    go_enter Tryd.func21, Tryd.ntmps21
    go_wp2
    refine bodyPost_ret (results_cell_row rfl _ _ (w.heap.size + 1) 34 #[.int .i64 a, .int .i64 b] (0, 0) _ rfl (heap_new1 _ _ _) Tryd.underlying34 rfl (by kernel_rfl)) rfl ⟨by rw [HM.out.1, HM.out.2], by repeat (first | (with_reducible exact Below.refl _ _) | (with_reducible apply below_alloc))⟩
  · have HM := Aside0.mk (show mx a a = a ∧ mn a a = a from by unfold mx mn; constructor <;> split <;> omega)
    go_enter Tryd.func21, Tryd.ntmps21
    go_wp2
    refine bodyPost_ret (results_cell_row rfl _ _ (w.heap.size + 1) 34 #[.int .i64 a, .int .i64 a] (0, 0) _ rfl (heap_new1 _ _ _) Tryd.underlying34 rfl (by kernel_rfl)) rfl ⟨by rw [HM.out.1, HM.out.2], by repeat (first | (with_reducible exact Below.refl _ _) | (with_reducible apply below_alloc))⟩

/-- the quotients of Euclid's algorithm -/
def quotF : Nat → Int → Int → List Int
  | 0, _, _ => []
  | k + 1, x, y => if 0 < y then x / y :: quotF k y (x % y) else []
def quots (x y : Int) : List Int := quotF (y.toNat + 1) x y
theorem quotF_stable : ∀ (k m : Nat) (x y : Int), y.toNat < k → y.toNat < m → quotF k x y = quotF m x y
  | 0, _, _, _, h, _ => absurd h (Nat.not_lt_zero _)
  | _ + 1, 0, _, _, _, h => absurd h (Nat.not_lt_zero _)
  | k + 1, m + 1, x, y, h1, h2 => by
    unfold quotF
    by_cases hy : 0 < y
    · rw [if_pos hy, if_pos hy]
      have e1 := Int.emod_nonneg x (show y ≠ 0 by omega)
      have e2 := Int.emod_lt_of_pos x hy
      rw [quotF_stable k m y (x % y) (by omega) (by omega)]
    · rw [if_neg hy, if_neg hy]
theorem quots_pos {x y : Int} (hy : 0 < y) : quots x y = x / y :: quots y (x % y) := by
  have e1 := Int.emod_nonneg x (show y ≠ 0 by omega)
  have e2 := Int.emod_lt_of_pos x hy
  unfold quots
  rw [quotF, if_pos hy, quotF_stable y.toNat ((x % y).toNat + 1) y (x % y) (by omega) (by omega)]
theorem quots_zero {x y : Int} (hy : ¬ 0 < y) : quots x y = [] := by
  unfold quots
  rw [quotF, if_neg hy]
theorem quots_len : ∀ (k : Nat) (x y : Int), (quotF k x y).length ≤ k
  | 0, _, _ => Nat.le_refl _
  | k + 1, x, y => by
    unfold quotF
    split
    · rw [List.length_cons]; have := quots_len k y (x % y); omega
    · simp
def stepsL (a b : Int) : List Int × Int := if heapB a = true ∧ heapB b = true then (quots (mx a b) (mn a b), 0) else ([], 2)


set_option maxHeartbeats 8000000 in
set_option maxRecDepth 100000 in
theorem steps_calls (a b : Int) (w : World) :
    Calls Tryd.prog 16 #[.int .i64 a, .int .i64 b] w fun e w' => ∃ v, e = .returned (.tuple #[v, .int .i64 (stepsL a b).2]) ∧ Kd.R (Kd.int .i64) 3 w' w.heap.size (fun _ => True) v (stepsL a b).1 ∧ Below w.heap.size w w' := by
  have hu57 := Tryd.underlying34
  have HB := Aside0.mk (Below.refl w.heap.size w)
  cases ha : heapB a with
  | false =>
    have HC := Aside0.mk (show stepsL a b = ([], 2) from by unfold stepsL; rw [ha]; rfl)
    have HA := Aside0.mk ha
    clear ha
    go_enter Tryd.func16, Tryd.ntmps16
    go_wp2_with (first | (go_at_call 10; refine (heap_calls a _).mono ?_; rintro e w1 ⟨rfl, rfl⟩; rw [HA.out]) | fail)
    go_ret2
    exact ⟨_, by rw [HC.out]; rfl, by rw [HC.out]; exact Kd.R_nil _ _ _ _ _, HB.out⟩
  | true =>
    cases hb : heapB b with
    | false =>
      have HC := Aside0.mk (show stepsL a b = ([], 2) from by unfold stepsL; rw [ha, hb]; rfl)
      have HA := Aside0.mk ha
      have HB2 := Aside0.mk hb
      clear ha hb
      go_enter Tryd.func16, Tryd.ntmps16
      go_wp2_with fail
      refine (heap_calls a _).mono ?_
      rintro e w1 ⟨rfl, rfl⟩
      rw [HA.out]
      go_wp2_with fail
      refine (heap_calls b _).mono ?_
      rintro e w1 ⟨rfl, rfl⟩
      rw [HB2.out]
      go_wp2
      go_ret2
      exact ⟨_, by rw [HC.out]; rfl, by rw [HC.out]; exact Kd.R_nil _ _ _ _ _, HB.out⟩
    | true =>
      have HC := Aside0.mk (show stepsL a b = (quots (mx a b) (mn a b), 0) from by unfold stepsL; rw [ha, hb]; rfl)
      have hab : 0 ≤ mn a b ∧ mn a b ≤ mx a b ∧ mx a b ≤ 1099511627776 := by
        unfold heapB at ha hb
        rw [decide_eq_true_iff] at ha hb
        unfold mn mx
        constructor
        · split <;> omega
        · constructor <;> split <;> (try split) <;> omega
      have HAB := Aside0.mk hab
      have HA := Aside0.mk ha
      have HB2 := Aside0.mk hb
      clear ha hb hab
      go_enter Tryd.func16, Tryd.ntmps16
      go_wp2_with fail
      refine (heap_calls a _).mono ?_
      rintro e w1 ⟨rfl, rfl⟩
      rw [HA.out]
      go_wp2_with fail
      refine (heap_calls b _).mono ?_
      rintro e w1 ⟨rfl, rfl⟩
      rw [HB2.out]
      go_wp2_with fail
      refine (ordered_calls a b _).mono ?_
      rintro e w1 ⟨rfl, hb1⟩
      have HB1 := Aside0.mk (below_alloc hb1 (.cells #[.int .i64 (mx a b), .int .i64 (mn a b)] 34))
      have HG := Aside0.mk (heap_alloc_new w1 (.cells #[.int .i64 (mx a b), .int .i64 (mn a b)] 34))
      have hge := hb1.size
      clear hb1
      go_wp2_with fail
      go_loopg [6, 7] ((mn a b).toNat) (fun kq v6 v7 W => ∃ (x y : Int) (l : List Int) (gb : Nat), v7 = .pointer (some ⟨gb, 0, none⟩) ∧ Aside0 (0 ≤ y ∧ y ≤ x ∧ x ≤ 1099511627776) ∧ Aside0 (y.toNat ≤ kq) ∧ Aside0 (l ++ quots x y = quots (mx a b) (mn a b)) ∧ Aside0 (w.heap.size ≤ gb) ∧ Aside0 (W.heap[gb]? = some (.cells #[.int .i64 x, .int .i64 y] 34 (0, 0))) ∧ Aside0 (Kd.R (Kd.int .i64) 3 W w.heap.size (fun _ => True) v6 l) ∧ Aside0 (Below w.heap.size w W))
      case atStart => exact ⟨mx a b, mn a b, [], w1.heap.size, rfl, HAB, ⟨Nat.le_refl _⟩, ⟨rfl⟩, ⟨hge⟩, HG, ⟨Kd.R_nil _ _ _ _ _⟩, HB1⟩
      case round =>
        obtain ⟨x, y, l, gb, rfl, hxy, hk, hq, hgb, hblk, hR, hB⟩ := hrel
        have c0 := blk_cell hblk.out 0
        have c1 := blk_cell hblk.out 1
        simp only [List.getElem?_toArray, List.getElem?_cons_zero, List.getElem?_cons_succ] at c0 c1
        have f0 := blk_frozen hblk.out 0
        have f1 := blk_frozen hblk.out 1
        by_cases hy : 0 < y
        · obtain ⟨A6, c6, e6⟩ := Kd.R_slice hR.out
          subst e6
          have hx0 : 0 ≤ x := by have := hxy.out; omega
          have hxU : x ≤ 1099511627776 := by have := hxy.out; omega
          have hyx : y ≤ x := by have := hxy.out; omega
          have hy1 : 1 ≤ y := by omega
          have hln : l.length ≤ 1099511627777 := by
            have h1 := congrArg List.length hq.out
            have h2 := quots_len ((mn a b).toNat + 1) (mx a b) (mn a b)
            have h3 := HAB.out
            rw [List.length_append] at h1
            unfold quots at h1
            omega
          have HLN := Aside0.mk hln
          clear hln
          have HQ := Aside0.mk (show (l ++ [x / y]) ++ quots y (x % y) = quots (mx a b) (mn a b) from by rw [← hq.out, quots_pos hy, List.append_assoc, List.singleton_append])
          go_wp2_with (first | ((with_reducible refine gate_builtin (b := .append) (xs := #[.tmp 31, .tmp 37]) rfl ?_); at_builtin; refine Kd.R_append (Kd.int .i64) (w0 := w) w.heap.size rfl (.tmp 31) (.tmp 37) 42 3 (.int .i64 0) 8 rfl Tryd.underlying42 info3 rfl (by decide) (by omega) (.slice A6 l.length c6) l (x / y) [.int .i64 (x / y)] (fun _ => True) (fun _ => False) rfl rfl ?aP (fun _ hk => hk.elim) ?aF ?aO ?aB ?aS ?aL ?_; (case aP => exact rfl); (case aB => exact hB.out); (case aF => exact (fun _ _ => trivial)); (case aO => exact hR.out); (case aS => exact below_size hB.out); (case aL => have := HLN.out; omega); intro v2 w2 ho hb hg hat; have HO2 := Aside0.mk ho; have HB2 := Aside0.mk hb; have HK2 := Aside0.mk (blk_grown hblk.out hg (Kd.R_ne hR.out hblk.out (by decide))); have d0 := blk_cell HK2.out 0; have d1 := blk_cell HK2.out 1; simp only [List.getElem?_toArray, List.getElem?_cons_zero, List.getElem?_cons_succ] at d0 d1; have HKA := Aside0.mk (heap_alloc_new w2 (.cells #[.int .i64 x, .int .i64 y] 34)); clear ho hb hg hat c0 c1 f0 f1) | fail)
          have HKD := Aside0.mk (blk_drew HKA.out)
          have HOD := Aside0.mk (Kd.R_drew (Kd.R_alloc HO2.out (.cells #[.int .i64 x, .int .i64 y] 34)))
          have HBD := Aside0.mk (below_drew1 (below_alloc HB2.out (.cells #[.int .i64 x, .int .i64 y] 34)))
          have hsz := below_size HB2.out
          have htm : x.tmod y = x % y := Int.tmod_eq_emod_of_nonneg hx0
          refine start_ (n := 9) (S := fun w' => w'.cell? ⟨w2.heap.size, 0, none⟩ = some (.int .i64 x) ∧ w'.cell? ⟨w2.heap.size, 1, none⟩ = some (.int .i64 y)) (ds := [8]) #[false, false, false, false, false, false, false, false, false] (by kernel_rfl) rfl rfl ⟨(blk_cell HKD.out 0).trans rfl, (blk_cell HKD.out 1).trans rfl⟩ (fun hHeld => ?_)
          generalize (w2.alloc (.cells #[.int .i64 x, .int .i64 y] 34)).drew = w10 at HKD HOD HBD hHeld ⊢
          obtain ⟨hs0, hs1⟩ := hHeld
          have hHeld := And.intro hs0 hs1
          refine pure_ (i := 0) (N := some 23) (v := ?_) (a' := ?_) #[true, false, false, false, false, false, false, false, false] rfl rfl (by kernel_rfl) (fun _ _ _ h => h) (Or.inl ⟨by rfl, ?_⟩) ?_ ?_
          rotate_left
          · intro w'
            go_simp
            with_reducible rfl
          rotate_left
          · simp only [Act.put, List.setIfInBounds_toArray, List.set_cons_zero, List.set_cons_succ, i64_w, i32_w]
            rfl
          refine pure_ (i := 2) (N := some 25) (v := ?_) (a' := ?_) #[true, false, true, false, false, false, false, false, false] rfl rfl (by kernel_rfl) (fun _ _ _ h => h) (Or.inl ⟨by rfl, ?_⟩) ?_ ?_
          rotate_left
          · intro w'
            go_simp
            with_reducible rfl
          rotate_left
          · simp only [Act.put, List.setIfInBounds_toArray, List.set_cons_zero, List.set_cons_succ, i64_w, i32_w]
            rfl
          refine pure_ (i := 4) (N := some 27) (v := ?_) (a' := ?_) #[true, false, true, false, true, false, false, false, false] rfl rfl (by kernel_rfl) (fun _ _ _ h => h) (Or.inl ⟨by rfl, ?_⟩) ?_ ?_
          rotate_left
          · intro w'
            go_simp
            with_reducible rfl
          rotate_left
          · simp only [Act.put, List.setIfInBounds_toArray, List.set_cons_zero, List.set_cons_succ, i64_w, i32_w]
            rfl
          refine take_ (i := 1) (N := some 24) (v := ?_) (a' := ?_) #[true, true, true, false, true, false, false, false, false] rfl rfl (by kernel_rfl) (fun _ _ _ h => h) (Or.inl ⟨by rfl, ?_⟩) hHeld ?_ ?_
          rotate_left
          · rintro w' ⟨s0, s1⟩
            go_simp
            with_reducible rfl
          rotate_left
          · simp only [Act.put, List.setIfInBounds_toArray, List.set_cons_zero, List.set_cons_succ, i64_w, i32_w]
            rfl
          refine take_ (i := 3) (N := some 26) (v := ?_) (a' := ?_) #[true, true, true, true, true, false, false, false, false] rfl rfl (by kernel_rfl) (fun _ _ _ h => h) (Or.inl ⟨by rfl, ?_⟩) hHeld ?_ ?_
          rotate_left
          · rintro w' ⟨s0, s1⟩
            go_simp
            with_reducible rfl
          rotate_left
          · simp only [Act.put, List.setIfInBounds_toArray, List.set_cons_zero, List.set_cons_succ, i64_w, i32_w]
            rfl
          refine take_ (i := 5) (N := some 28) (v := ?_) (a' := ?_) #[true, true, true, true, true, true, false, false, false] rfl rfl (by kernel_rfl) (fun _ _ _ h => h) (Or.inl ⟨by rfl, ?_⟩) hHeld ?_ ?_
          rotate_left
          · rintro w' ⟨s0, s1⟩
            go_simp
            with_reducible rfl
          rotate_left
          · simp only [Act.put, List.setIfInBounds_toArray, List.set_cons_zero, List.set_cons_succ, i64_w, i32_w]
            rfl
          refine pure_ (i := 6) (N := some 29) (v := ?_) (a' := ?_) #[true, true, true, true, true, true, true, false, false] rfl rfl (by kernel_rfl) (fun _ _ _ h => h) (Or.inl ⟨by rfl, ?_⟩) ?_ ?_
          rotate_left
          · intro w'
            go_simp
            simp only [if_neg (show ¬ y = 0 by omega), htm]
            with_reducible rfl
          rotate_left
          · simp only [Act.put, List.setIfInBounds_toArray, List.set_cons_zero, List.set_cons_succ, i64_w, i32_w]
            rfl
          refine pure_ (i := 7) (N := some 30) (v := ?_) (a' := ?_) #[true, true, true, true, true, true, true, true, false] rfl rfl (by kernel_rfl) (fun _ _ _ h => h) (Or.inl ⟨by rfl, ?_⟩) ?_ ?_
          rotate_left
          · intro w'
            go_simp
            with_reducible rfl
          rotate_left
          · simp only [Act.put, List.setIfInBounds_toArray, List.set_cons_zero, List.set_cons_succ, i64_w, i32_w]
            rfl
          have hf0 := blk_frozen HKD.out 0
          have hf1 := blk_frozen HKD.out 1
          refine last_ (i := 8) (N := none) #[true, true, true, true, true, true, true, true, true] rfl rfl (by kernel_rfl) (by decide) (fun K hK => ?_)
          refine skip_ (w1 := ?_) (by rfl) rfl ?_ ?_
          rotate_left
          · go_simp
            rfl
          refine hK.out _ _ ?_
          clear hK K
          refine done_ (by kernel_rfl) ?_
          have HKZ := blk_put (blk_put HKD.out 0 (.int .i64 y) rfl) 1 (.int .i64 (x % y)) rfl
          have e1 := Int.emod_nonneg x (show y ≠ 0 by omega)
          have e2 := Int.emod_lt_of_pos x hy
          have HE := Aside0.mk (And.intro e1 e2)
          have HHZ := Aside0.mk HKZ
          clear HKZ e1 e2 htm hs0 hs1 hHeld hf0 hf1 d0 d1
          go_wp2
          go_roundg (x % y).toNat
          case measure => have := HE.out; have := hk.out; omega
          case rel => exact ⟨y, x % y, l ++ [x / y], w2.heap.size, rfl, ⟨by have := HE.out; omega⟩, ⟨Nat.le_refl _⟩, HQ, ⟨hsz⟩, HHZ, ⟨Kd.R_set (Kd.R_set HOD.out HKD.out (by decide) 0 _) (blk_put HKD.out 0 (.int .i64 y) rfl) (by decide) 1 _⟩, ⟨below_set (below_set HBD.out hsz) hsz⟩⟩
        · have HQ := Aside0.mk (show l = quots (mx a b) (mn a b) from by rw [← hq.out, quots_zero hy, List.append_nil])
          go_wp2
          go_ret2
          exact ⟨_, by rw [HC.out]; rfl, by rw [HC.out]; exact HQ.out ▸ hR.out, hB.out⟩
end Go.Proofs.YtcnicogoccadnaaDoor.Ext
