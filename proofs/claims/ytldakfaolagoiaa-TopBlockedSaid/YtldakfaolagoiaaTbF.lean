/- The field and the position. -/
import Derived.Test.YtldakfaolagoiaaProg
import Derived.Below
import Derived.Deep.Draws
import Derived.Deep.AppendLies
import Derived.Maps.AppendAt
import Derived.OwnWalk
import Derived.Laws.BytesArg
import Derived.Laws.MakeOwn
import Derived.Laws.OwnMore
import Derived.Deep.OwnRows
import Derived.Tactics
import Derived.Lib.ConvBytes
import Derived.Laws.Slices
import Derived.WalkKit
import Derived.KernelRfl
import Derived.RowKit3
import Derived.Deep.LoopGhost
import Derived.Deep.QuietTactic
import Derived.BigQuiet
import Derived.WideLaws
import Derived.Deep.DeepCutAuto
import Derived.Deep.CutBlock
import Derived.Deep.RegionHeld3
import Derived.Laws.Rows
import Derived.Lib.AppendStr
import Derived.ArgAppend
import Derived.Lib.OthersKept
import Derived.WalkSmall
import Derived.Laws.RangeAny
import Derived.Laws.IdiomCopy
import Derived.OrdersHeld
import Derived.Laws.BitsLemmas
import Derived.RowKit
import Derived.Test.YtldakfaolagoiaaWWords
import Derived.Test.YtldakfaolagoiaaWLast
import Derived.Test.YtldakfaolagoiaaWTab
import Derived.Test.YtldakfaolagoiaaWFour
import Derived.Test.YtldakfaolagoiaaWQPut
import Derived.Test.YtldakfaolagoiaaWApart
import Derived.Test.YtldakfaolagoiaaWArr
import Derived.Test.YtldakfaolagoiaaWZeros
import Derived.Test.YtldakfaolagoiaaWFoot
import Derived.Test.YtldakfaolagoiaaWKept
import Derived.Test.YtldakfaolagoiaaWShare
import Derived.Test.YtldakfaolagoiaaWN
import Derived.Test.YtldakfaolagoiaaWFootNe
import Derived.Test.YtldakfaolagoiaaWAt
import Derived.Test.YtldakfaolagoiaaWEqStruct
import Derived.Test.YtldakfaolagoiaaWRepsOne
import Derived.Test.YtldakfaolagoiaaWInv
import Derived.Test.YtldakfaolagoiaaWInvWords
import Derived.Test.YtldakfaolagoiaaWGuard
import Derived.Test.YtldakfaolagoiaaWNEv
import Derived.Test.YtldakfaolagoiaaWMore
import Derived.Maps.OwnOps
import Derived.DeepKeys4
import Derived.WalkSpells
import Derived.Laws.EntriesVeiled
import Derived.Deep.RegionLawGrows
import Derived.ArgAppend
import Derived.Test.YtldakfaolagoiaaTbE
namespace Go.Proofs.Ytldakfaolagoiaa.Tb
open Go.RowKit Go.Lib Go.Proofs.YtldakfaolagoiaaW.PrintWords Go.Proofs.YtldakfaolagoiaaW.PrintLast Go.Proofs.YtldakfaolagoiaaW.PrintMore
attribute [local go_sem] max2_int min2_int max_two min_two max_three min_three max_four min_four
set_option linter.unusedVariables false
set_option linter.unusedSimpArgs false

/-- what a field's lines must be -/
structure FieldOK (m : Int) (l : List Int) : Prop where
  m1 : 1 ≤ m
  m9 : m ≤ 5
  few : l.length ≤ 12
  lo : ∀ x ∈ l, 1 ≤ x ∧ x < pw m
theorem FieldOK.none {m : Int} {l : List Int} (h : FieldOK m l) : (l.any fun x => decide (x < 1) || decide (wrap64 (2 ^ m.toNat) ≤ x)) = false := by
  rw [List.any_eq_false]
  intro x hx
  obtain ⟨h1, h2⟩ := h.lo x hx
  rw [Bool.not_eq_true, Bool.or_eq_false_iff]
  exact ⟨decide_eq_false (by omega), decide_eq_false (Int.not_le.2 h2)⟩

set_option maxHeartbeats 800000 in
set_option maxRecDepth 100000 in
theorem read_calls (m : Int) (A : Option Addr) (c : Nat) (l : List Int) (w : World) (hr : Kd.C (Kd.int .i64) w A l.length l) (hc : l.length ≤ c) (hF : FieldOK m l) :
    Calls Try.prog 26 #[.int .i64 m, .slice A l.length c] w fun e w' => e = .returned (.tuple #[.agg #[.int .i64 m, .slice A l.length c], .int .i64 0]) ∧ Below w.heap.size w w' := by
  have hmf : ∀ (fn : Fn) (first cap : Array Value) (w : World), (Instr.makeFunc fn first cap).run Try.prog w = .ok (.func fn first cap) w := fun _ _ _ _ => rfl
  have hu36 := Try.underlying36
  have hm1 := hF.m1
  have hm9 := hF.m9
  have hfew := hF.few
  have hfew' : ¬ (12 : Int) < (l.length : Int) := by omega
  have hB := below_alloc (below_alloc (Below.refl w.heap.size w) (.cells #[.int .i64 m] 3)) (.cells #[.int .i64 0, .slice none 0 0] 36)
  have HB := Aside0.mk hB
  have hbm : ((w.alloc (.cells #[.int .i64 m] 3)).alloc (.cells #[.int .i64 0, .slice none 0 0] 36)).heap[w.heap.size]? = some (.cells #[.int .i64 m] 3 (0, 0)) := blk_alloc (heap_alloc_new w (.cells #[.int .i64 m] 3)) _
  have hc0 := blk_cell hbm 0
  simp only [List.getElem?_toArray, List.getElem?_cons_zero] at hc0
  have HC := contains_28 (fun x => decide (x < 1) || decide (wrap64 (2 ^ m.toNat) ≤ x)) w.heap.size A c l _ (Kd.C_below hr hB) hc (fun x hx => c28 x m ⟨by omega, by omega⟩ w.heap.size _ hbm)
  rw [hF.none] at HC
  have HC := Aside0.mk HC
  clear hbm hB hr hF
  go_enter Try.func26, Try.ntmps26
  go_wp2_with (first | (go_at_call 16; with_reducible refine HC.out.mono ?_; rintro e w5 ⟨rfl, rfl⟩) | fail)
  refine bodyPost_ret (results_list (rs := [.cell 4 36, .tmp 5]) rfl (by simp) (.cell (w.heap.size + 1) 36 #[.int .i64 m, .slice A l.length c] (0, 0) _ rfl (heap_at _ (asize _ _)) Try.underlying36 rfl (by kernel_rfl) (.tmp .nil))) rfl ?_
  exact ⟨rfl, by repeat (first | (with_reducible exact Below.refl _ _) | (with_reducible apply below_alloc))⟩

theorem iter_other (w : World) (k : Nat) (s : ByteArray) (pos : Nat) {j : Nat} (h : j ≠ k) : (w.iterAt k s pos).heap[j]? = w.heap[j]? := by
  simp [World.iterAt, Array.getElem?_setIfInBounds_ne (Ne.symm h)]
theorem below_iter {w W : World} {B k : Nat} (h : Below B w W) (hk : B ≤ k) (s : ByteArray) (pos : Nat) : Below B w (W.iterAt k s pos) :=
  ⟨h.os, h.tape, h.output, by simpa [World.iterAt] using h.size, fun j hj => (iter_other W k s pos (by omega)).trans (h.block j hj)⟩
/-- where the beasts of the first i spots are -/
def placeOf (s : ByteArray) : Nat → Int × Int
  | 0 => (0, 0)
  | i + 1 => if s.get! i = 119 then (Go.bits .or .i64 (placeOf s i).1 (wrap64 (2 ^ i)), (placeOf s i).2) else if s.get! i = 100 then ((placeOf s i).1, Go.bits .or .i64 (placeOf s i).2 (wrap64 (2 ^ i))) else placeOf s i
structure SpotsOK (m : Int) (s : ByteArray) : Prop where
  size : (s.size : Int) = m
  few : s.size ≤ 9
  let' : ∀ i (h : i < s.size), s[i] = 119 ∨ s[i] = 100 ∨ s[i] = 46

set_option maxHeartbeats 1600000 in
set_option maxRecDepth 100000 in
theorem placed_calls (m : Int) (A : Option Addr) (c : Nat) (l : List Int) (s : ByteArray) (w : World) (hr : Kd.C (Kd.int .i64) w A l.length l) (hc : l.length ≤ c) (hF : FieldOK m l) (hS : SpotsOK m s) :
    Calls Try.prog 20 #[.int .i64 m, .slice A l.length c, .string s] w fun e w' => e = .returned (.tuple #[.agg #[.int .i64 m, .slice A l.length c], .agg #[.int .i64 (placeOf s s.size).1, .int .i64 (placeOf s s.size).2], .int .i64 0]) ∧ Below w.heap.size w w' := by
  have hu36 := Try.underlying36
  have hu38 := Try.underlying38
  have hu9 := Try.underlying9
  have hm1 := hF.m1
  have hm5 := hF.m9
  have hsz := hS.size
  have hB2 := below_alloc (below_alloc (Below.refl w.heap.size w) (.cells #[.int .i64 0, .slice none 0 0] 36)) (.cells #[.int .i64 0, .int .i64 0] 38)
  have HB2 := Aside0.mk hB2
  have HR := Aside0.mk (read_calls m A c l _ (Kd.C_below hr hB2) hc hF)
  have hb1 : ((w.alloc (.cells #[.int .i64 0, .slice none 0 0] 36)).alloc (.cells #[.int .i64 0, .int .i64 0] 38)).heap[w.heap.size]? = some (.cells #[.int .i64 0, .slice none 0 0] 36 (0, 0)) := blk_alloc (heap_alloc_new w (.cells #[.int .i64 0, .slice none 0 0] 36)) _
  have hb2 : ((w.alloc (.cells #[.int .i64 0, .slice none 0 0] 36)).alloc (.cells #[.int .i64 0, .int .i64 0] 38)).heap[w.heap.size + 1]? = some (.cells #[.int .i64 0, .int .i64 0] 38 (0, 0)) := heap_at _ (asize _ _)
  have HS := Aside0.mk hS
  clear hr hF hS hB2
  go_enter Try.func20, Try.ntmps20
  go_wp2_with (first | (go_at_call 26; with_reducible refine HR.out.mono ?_; rintro e w1 ⟨rfl, hbr⟩; have HB3 := Aside0.mk (below_step HB2.out hbr); have HBb1 := Aside0.mk (blk_below hb1 hbr); have HBb2 := Aside0.mk (blk_below hb2 hbr); clear hbr hb1 hb2) | fail)
  have hs1 := HBb1.out
  have h1s := blk_lt hs1
  have h2s := blk_lt HBb2.out
  have hw1 : w.heap.size + 2 ≤ w1.heap.size := by omega
  clear hs1 h1s h2s
  go_loopw [33] (fun _ W => ∃ (i : Nat), Aside0 (i ≤ s.size) ∧ Aside0 (W.heap[w.heap.size]? = some (.cells #[.int .i64 0, .slice none 0 0] 36 (0, 0))) ∧ Aside0 (W.heap[w.heap.size + 1]? = some (.cells #[.int .i64 0, .int .i64 0] 38 (0, 0))) ∧ Aside0 (W.heap[w1.heap.size]? = some (.cells #[.int .i64 m, .slice A l.length c] 36 (0, 0))) ∧ Aside0 (W.heap[w1.heap.size + 1]? = some (.cells #[.int .i64 (placeOf s i).1, .int .i64 (placeOf s i).2] 38 (0, 0))) ∧ Aside0 (W.heap[w1.heap.size + 1 + 1]? = some (.stringIter s i)) ∧ Aside0 (Below w.heap.size w W)) (fun _ W => s.size - W.iterPos (w1.heap.size + 1 + 1))
  case atStart => exact ⟨0, ⟨Nat.zero_le _⟩, ⟨blk_alloc (blk_alloc (blk_alloc HBb1.out _) _) _⟩, ⟨blk_alloc (blk_alloc (blk_alloc HBb2.out _) _) _⟩, ⟨blk_alloc (blk_alloc (heap_at _ rfl) _) _⟩, ⟨blk_alloc (heap_at _ (asize _ _)) _⟩, ⟨heap_at _ (by simp only [asize])⟩, ⟨below_alloc (below_alloc (below_alloc HB3.out _) _) _⟩⟩
  case round =>
    clear HBb1 HBb2 HB3
    obtain ⟨i, hi, H1, H2, H3, H4, HI, HB⟩ := hrel
    have hi' := hi.out
    by_cases hlt : i < s.size
    · obtain ⟨⟨q1, q2⟩, hq⟩ : ∃ q, placeOf s i = q := ⟨_, rfl⟩
      rw [hq] at H4
      rcases HS.out.let' i hlt with hch | hch | hch
      · skip
        have hnx := fun ty => run_next_ascii_at (P := Try.prog) wr (w1.heap.size + 1 + 1) s i ty HI.out hlt (by rw [hch]; decide)
        rw [hch] at hnx
        have hnx' : ∀ ty, (Instr.next (.pointer (some ⟨w1.heap.size + 1 + 1, 0, none⟩)) true ty).run Try.prog wr = .ok (.tuple #[.bool true, .int .i64 (i : Int), .int .i32 119]) (wr.iterAt (w1.heap.size + 1 + 1) s (i + 1)) := hnx
        have HPL := Aside0.mk (show placeOf s (i + 1) = (Go.bits .or .i64 q1 (wrap64 (2 ^ i)), q2) from by
          have hg : s.get! i = 119 := by rw [← hch]; simp [ByteArray.get!, getElem!_pos, hlt]; rfl
          rw [placeOf, hg, hq]; rfl)
        clear hnx hch
        have J1 := Aside0.mk ((iter_other wr (w1.heap.size + 1 + 1) s (i + 1) (show w.heap.size ≠ w1.heap.size + 1 + 1 by omega)).trans H1.out)
        have J2 := Aside0.mk ((iter_other wr (w1.heap.size + 1 + 1) s (i + 1) (show w.heap.size + 1 ≠ w1.heap.size + 1 + 1 by omega)).trans H2.out)
        have J3 := Aside0.mk ((iter_other wr (w1.heap.size + 1 + 1) s (i + 1) (show w1.heap.size ≠ w1.heap.size + 1 + 1 by omega)).trans H3.out)
        have J4 := Aside0.mk ((iter_other wr (w1.heap.size + 1 + 1) s (i + 1) (show w1.heap.size + 1 ≠ w1.heap.size + 1 + 1 by omega)).trans H4.out)
        have JI := Aside0.mk (iterAt_heap wr (w1.heap.size + 1 + 1) s i (i + 1) HI.out)
        have JB := Aside0.mk (below_iter HB.out (show w.heap.size ≤ w1.heap.size + 1 + 1 by omega) s (i + 1))
        have hip := iterPos_of HI.out
        have hjp := iterPos_of JI.out
        clear H1 H2 H3 H4 HI HB
        generalize wr.iterAt (w1.heap.size + 1 + 1) s (i + 1) = w2 at J1 J2 J3 J4 JI JB hjp hnx'
        go_wp2_with fail
        have K1 := Aside0.mk (blk_below J1.out (below_drew1 (Below.refl _ _)))
        have K2 := Aside0.mk (blk_below J2.out (below_drew1 (Below.refl _ _)))
        have K3 := Aside0.mk (blk_below J3.out (below_drew1 (Below.refl _ _)))
        have K4 := Aside0.mk (blk_below J4.out (below_drew1 (Below.refl _ _)))
        have KI := Aside0.mk (show w2.drew.heap[w1.heap.size + 1 + 1]? = some (.stringIter s (i + 1)) from JI.out)
        have KB := Aside0.mk (below_drew1 JB.out)
        have hq1 : w2.drew.cell? ⟨w1.heap.size + 1, 0, none⟩ = some (.int .i64 q1) := (blk_cell K4.out 0).trans rfl
        have hq2 : w2.drew.cell? ⟨w1.heap.size + 1, 1, none⟩ = some (.int .i64 q2) := (blk_cell K4.out 1).trans rfl
        have hz0 := blk_frozen K4.out 0
        have hz1 := blk_frozen K4.out 1
        clear J1 J2 J3 J4 JI JB
        refine start_ (n := 7) (S := fun w' => w'.cell? ⟨w1.heap.size + 1, 0, none⟩ = some (.int .i64 q1) ∧ w'.cell? ⟨w1.heap.size + 1, 1, none⟩ = some (.int .i64 q2)) (ds := [6]) #[false, false, false, false, false, false, false] (by kernel_rfl) rfl rfl ⟨hq1, hq2⟩ (fun hHeld => ?_)
        refine pure_ (i := 0) (N := some 42) (v := ?_) (a' := ?_) #[true, false, false, false, false, false, false] rfl rfl (by kernel_rfl) (fun _ _ _ h => h) (Or.inl ⟨by rfl, ?_⟩) ?_ ?_
        rotate_left
        · intro w'
          go_simp
          with_reducible rfl
        rotate_left
        · simp only [Act.put, List.setIfInBounds_toArray, List.set_cons_zero, List.set_cons_succ, i64_w, i32_w]
          rfl
        refine take_ (i := 1) (N := some 43) (v := ?_) (a' := ?_) #[true, true, false, false, false, false, false] rfl rfl (by kernel_rfl) (fun _ _ _ h => h) (Or.inl ⟨by rfl, ?_⟩) hHeld ?_ ?_
        rotate_left
        · rintro w' ⟨s0, s1⟩
          go_simp
          with_reducible rfl
        rotate_left
        · simp only [Act.put, List.setIfInBounds_toArray, List.set_cons_zero, List.set_cons_succ, i64_w, i32_w]
          rfl
        refine pure_ (i := 2) (N := some 44) (v := ?_) (a' := ?_) #[true, true, true, false, false, false, false] rfl rfl (by kernel_rfl) (fun _ _ _ h => h) (Or.inl ⟨by rfl, ?_⟩) ?_ ?_
        rotate_left
        · intro w'
          go_simp
          with_reducible rfl
        rotate_left
        · simp only [Act.put, List.setIfInBounds_toArray, List.set_cons_zero, List.set_cons_succ, i64_w, i32_w]
          rfl
        refine pure_ (i := 3) (N := some 45) (v := ?_) (a' := ?_) #[true, true, true, true, false, false, false] rfl rfl (by kernel_rfl) (fun _ _ _ h => h) (Or.inl ⟨by rfl, ?_⟩) ?_ ?_
        rotate_left
        · intro w'
          go_simp
          with_reducible rfl
        rotate_left
        · simp only [Act.put, List.setIfInBounds_toArray, List.set_cons_zero, List.set_cons_succ, i64_w, i32_w]
          rfl
        refine pure_ (i := 4) (N := some 46) (v := ?_) (a' := ?_) #[true, true, true, true, true, false, false] rfl rfl (by kernel_rfl) (fun _ _ _ h => h) (Or.inl ⟨by rfl, ?_⟩) ?_ ?_
        rotate_left
        · intro w'
          go_simp
          with_reducible rfl
        rotate_left
        · simp only [Act.put, List.setIfInBounds_toArray, List.set_cons_zero, List.set_cons_succ, i64_w, i32_w]
          rfl
        refine pure_ (i := 5) (N := some 47) (v := ?_) (a' := ?_) #[true, true, true, true, true, true, false] rfl rfl (by kernel_rfl) (fun _ _ _ h => h) (Or.inl ⟨by rfl, ?_⟩) ?_ ?_
        rotate_left
        · intro w'
          go_simp
          with_reducible rfl
        rotate_left
        · simp only [Act.put, List.setIfInBounds_toArray, List.set_cons_zero, List.set_cons_succ, i64_w, i32_w]
          rfl
        refine last_ (i := 6) (N := none) #[true, true, true, true, true, true, true] rfl rfl (by kernel_rfl) (by decide) (fun K hK => ?_)
        refine skip_ (w1 := ?_) (by rfl) rfl ?_ ?_
        rotate_left
        · go_simp
          rfl
        refine hK.out _ _ ?_
        clear hK K
        refine done_ (by kernel_rfl) ?_
        go_wp2_with fail
        go_roundw
        case rel => exact ⟨i + 1, ⟨by omega⟩, ⟨blk_far K1.out (by show w.heap.size ≠ w1.heap.size + 1; omega) _⟩, ⟨blk_far K2.out (by show w.heap.size + 1 ≠ w1.heap.size + 1; omega) _⟩, ⟨blk_far K3.out (by show w1.heap.size ≠ w1.heap.size + 1; omega) _⟩, ⟨by rw [HPL.out]; exact blk_put K4.out 0 _ rfl⟩, ⟨(Below.heap_setCell _ _ _ _ (by show w1.heap.size + 1 + 1 ≠ w1.heap.size + 1; omega)).trans KI.out⟩, ⟨KB.out.setCell (by show w.heap.size ≤ w1.heap.size + 1; omega) _⟩⟩
        case measure =>
          rw [hip]
          have hkp : ((w2.setCell ⟨w1.heap.size + 1, 0, none⟩ (.int .i64 (Go.bits .or .i64 q1 (wrap64 (2 ^ i))))).drew).iterPos (w1.heap.size + 1 + 1) = i + 1 := iterPos_of ((Below.heap_setCell _ _ _ _ (by show w1.heap.size + 1 + 1 ≠ w1.heap.size + 1; omega)).trans KI.out)
          first | (rw [hkp]; omega) | (have e := hkp; simp only [World.iterPos] at e ⊢; omega)
      · skip
        have hnx := fun ty => run_next_ascii_at (P := Try.prog) wr (w1.heap.size + 1 + 1) s i ty HI.out hlt (by rw [hch]; decide)
        rw [hch] at hnx
        have hnx' : ∀ ty, (Instr.next (.pointer (some ⟨w1.heap.size + 1 + 1, 0, none⟩)) true ty).run Try.prog wr = .ok (.tuple #[.bool true, .int .i64 (i : Int), .int .i32 100]) (wr.iterAt (w1.heap.size + 1 + 1) s (i + 1)) := hnx
        have HPL := Aside0.mk (show placeOf s (i + 1) = (q1, Go.bits .or .i64 q2 (wrap64 (2 ^ i))) from by
          have hg : s.get! i = 100 := by rw [← hch]; simp [ByteArray.get!, getElem!_pos, hlt]; rfl
          rw [placeOf, hg, hq]; rfl)
        clear hnx hch
        have J1 := Aside0.mk ((iter_other wr (w1.heap.size + 1 + 1) s (i + 1) (show w.heap.size ≠ w1.heap.size + 1 + 1 by omega)).trans H1.out)
        have J2 := Aside0.mk ((iter_other wr (w1.heap.size + 1 + 1) s (i + 1) (show w.heap.size + 1 ≠ w1.heap.size + 1 + 1 by omega)).trans H2.out)
        have J3 := Aside0.mk ((iter_other wr (w1.heap.size + 1 + 1) s (i + 1) (show w1.heap.size ≠ w1.heap.size + 1 + 1 by omega)).trans H3.out)
        have J4 := Aside0.mk ((iter_other wr (w1.heap.size + 1 + 1) s (i + 1) (show w1.heap.size + 1 ≠ w1.heap.size + 1 + 1 by omega)).trans H4.out)
        have JI := Aside0.mk (iterAt_heap wr (w1.heap.size + 1 + 1) s i (i + 1) HI.out)
        have JB := Aside0.mk (below_iter HB.out (show w.heap.size ≤ w1.heap.size + 1 + 1 by omega) s (i + 1))
        have hip := iterPos_of HI.out
        have hjp := iterPos_of JI.out
        clear H1 H2 H3 H4 HI HB
        generalize wr.iterAt (w1.heap.size + 1 + 1) s (i + 1) = w2 at J1 J2 J3 J4 JI JB hjp hnx'
        go_wp2_with fail
        have K1 := Aside0.mk (blk_below J1.out (below_drew1 (Below.refl _ _)))
        have K2 := Aside0.mk (blk_below J2.out (below_drew1 (Below.refl _ _)))
        have K3 := Aside0.mk (blk_below J3.out (below_drew1 (Below.refl _ _)))
        have K4 := Aside0.mk (blk_below J4.out (below_drew1 (Below.refl _ _)))
        have KI := Aside0.mk (show w2.drew.heap[w1.heap.size + 1 + 1]? = some (.stringIter s (i + 1)) from JI.out)
        have KB := Aside0.mk (below_drew1 JB.out)
        have hq1 : w2.drew.cell? ⟨w1.heap.size + 1, 0, none⟩ = some (.int .i64 q1) := (blk_cell K4.out 0).trans rfl
        have hq2 : w2.drew.cell? ⟨w1.heap.size + 1, 1, none⟩ = some (.int .i64 q2) := (blk_cell K4.out 1).trans rfl
        have hz0 := blk_frozen K4.out 0
        have hz1 := blk_frozen K4.out 1
        clear J1 J2 J3 J4 JI JB
        refine start_ (n := 7) (S := fun w' => w'.cell? ⟨w1.heap.size + 1, 0, none⟩ = some (.int .i64 q1) ∧ w'.cell? ⟨w1.heap.size + 1, 1, none⟩ = some (.int .i64 q2)) (ds := [6]) #[false, false, false, false, false, false, false] (by kernel_rfl) rfl rfl ⟨hq1, hq2⟩ (fun hHeld => ?_)
        refine pure_ (i := 0) (N := some 50) (v := ?_) (a' := ?_) #[true, false, false, false, false, false, false] rfl rfl (by kernel_rfl) (fun _ _ _ h => h) (Or.inl ⟨by rfl, ?_⟩) ?_ ?_
        rotate_left
        · intro w'
          go_simp
          with_reducible rfl
        rotate_left
        · simp only [Act.put, List.setIfInBounds_toArray, List.set_cons_zero, List.set_cons_succ, i64_w, i32_w]
          rfl
        refine take_ (i := 1) (N := some 51) (v := ?_) (a' := ?_) #[true, true, false, false, false, false, false] rfl rfl (by kernel_rfl) (fun _ _ _ h => h) (Or.inl ⟨by rfl, ?_⟩) hHeld ?_ ?_
        rotate_left
        · rintro w' ⟨s0, s1⟩
          go_simp
          with_reducible rfl
        rotate_left
        · simp only [Act.put, List.setIfInBounds_toArray, List.set_cons_zero, List.set_cons_succ, i64_w, i32_w]
          rfl
        refine pure_ (i := 2) (N := some 52) (v := ?_) (a' := ?_) #[true, true, true, false, false, false, false] rfl rfl (by kernel_rfl) (fun _ _ _ h => h) (Or.inl ⟨by rfl, ?_⟩) ?_ ?_
        rotate_left
        · intro w'
          go_simp
          with_reducible rfl
        rotate_left
        · simp only [Act.put, List.setIfInBounds_toArray, List.set_cons_zero, List.set_cons_succ, i64_w, i32_w]
          rfl
        refine pure_ (i := 3) (N := some 53) (v := ?_) (a' := ?_) #[true, true, true, true, false, false, false] rfl rfl (by kernel_rfl) (fun _ _ _ h => h) (Or.inl ⟨by rfl, ?_⟩) ?_ ?_
        rotate_left
        · intro w'
          go_simp
          with_reducible rfl
        rotate_left
        · simp only [Act.put, List.setIfInBounds_toArray, List.set_cons_zero, List.set_cons_succ, i64_w, i32_w]
          rfl
        refine pure_ (i := 4) (N := some 54) (v := ?_) (a' := ?_) #[true, true, true, true, true, false, false] rfl rfl (by kernel_rfl) (fun _ _ _ h => h) (Or.inl ⟨by rfl, ?_⟩) ?_ ?_
        rotate_left
        · intro w'
          go_simp
          with_reducible rfl
        rotate_left
        · simp only [Act.put, List.setIfInBounds_toArray, List.set_cons_zero, List.set_cons_succ, i64_w, i32_w]
          rfl
        refine pure_ (i := 5) (N := some 55) (v := ?_) (a' := ?_) #[true, true, true, true, true, true, false] rfl rfl (by kernel_rfl) (fun _ _ _ h => h) (Or.inl ⟨by rfl, ?_⟩) ?_ ?_
        rotate_left
        · intro w'
          go_simp
          with_reducible rfl
        rotate_left
        · simp only [Act.put, List.setIfInBounds_toArray, List.set_cons_zero, List.set_cons_succ, i64_w, i32_w]
          rfl
        refine last_ (i := 6) (N := none) #[true, true, true, true, true, true, true] rfl rfl (by kernel_rfl) (by decide) (fun K hK => ?_)
        refine skip_ (w1 := ?_) (by rfl) rfl ?_ ?_
        rotate_left
        · go_simp
          rfl
        refine hK.out _ _ ?_
        clear hK K
        refine done_ (by kernel_rfl) ?_
        go_wp2_with fail
        go_roundw
        case rel => exact ⟨i + 1, ⟨by omega⟩, ⟨blk_far K1.out (by show w.heap.size ≠ w1.heap.size + 1; omega) _⟩, ⟨blk_far K2.out (by show w.heap.size + 1 ≠ w1.heap.size + 1; omega) _⟩, ⟨blk_far K3.out (by show w1.heap.size ≠ w1.heap.size + 1; omega) _⟩, ⟨by rw [HPL.out]; exact blk_put K4.out 1 _ rfl⟩, ⟨(Below.heap_setCell _ _ _ _ (by show w1.heap.size + 1 + 1 ≠ w1.heap.size + 1; omega)).trans KI.out⟩, ⟨KB.out.setCell (by show w.heap.size ≤ w1.heap.size + 1; omega) _⟩⟩
        case measure =>
          rw [hip]
          have hkp : ((w2.setCell ⟨w1.heap.size + 1, 1, none⟩ (.int .i64 (Go.bits .or .i64 q2 (wrap64 (2 ^ i))))).drew).iterPos (w1.heap.size + 1 + 1) = i + 1 := iterPos_of ((Below.heap_setCell _ _ _ _ (by show w1.heap.size + 1 + 1 ≠ w1.heap.size + 1; omega)).trans KI.out)
          first | (rw [hkp]; omega) | (have e := hkp; simp only [World.iterPos] at e ⊢; omega)
      · skip
        have hnx := fun ty => run_next_ascii_at (P := Try.prog) wr (w1.heap.size + 1 + 1) s i ty HI.out hlt (by rw [hch]; decide)
        rw [hch] at hnx
        have hnx' : ∀ ty, (Instr.next (.pointer (some ⟨w1.heap.size + 1 + 1, 0, none⟩)) true ty).run Try.prog wr = .ok (.tuple #[.bool true, .int .i64 (i : Int), .int .i32 46]) (wr.iterAt (w1.heap.size + 1 + 1) s (i + 1)) := hnx
        have HPL := Aside0.mk (show placeOf s (i + 1) = (q1, q2) from by
          have hg : s.get! i = 46 := by rw [← hch]; simp [ByteArray.get!, getElem!_pos, hlt]; rfl
          rw [placeOf, hg, hq]; rfl)
        clear hnx hch
        have J1 := Aside0.mk ((iter_other wr (w1.heap.size + 1 + 1) s (i + 1) (show w.heap.size ≠ w1.heap.size + 1 + 1 by omega)).trans H1.out)
        have J2 := Aside0.mk ((iter_other wr (w1.heap.size + 1 + 1) s (i + 1) (show w.heap.size + 1 ≠ w1.heap.size + 1 + 1 by omega)).trans H2.out)
        have J3 := Aside0.mk ((iter_other wr (w1.heap.size + 1 + 1) s (i + 1) (show w1.heap.size ≠ w1.heap.size + 1 + 1 by omega)).trans H3.out)
        have J4 := Aside0.mk ((iter_other wr (w1.heap.size + 1 + 1) s (i + 1) (show w1.heap.size + 1 ≠ w1.heap.size + 1 + 1 by omega)).trans H4.out)
        have JI := Aside0.mk (iterAt_heap wr (w1.heap.size + 1 + 1) s i (i + 1) HI.out)
        have JB := Aside0.mk (below_iter HB.out (show w.heap.size ≤ w1.heap.size + 1 + 1 by omega) s (i + 1))
        have hip := iterPos_of HI.out
        have hjp := iterPos_of JI.out
        clear H1 H2 H3 H4 HI HB
        generalize wr.iterAt (w1.heap.size + 1 + 1) s (i + 1) = w2 at J1 J2 J3 J4 JI JB hjp hnx'
        go_wp2_with fail
        go_roundw
        case rel => exact ⟨i + 1, ⟨by omega⟩, J1, J2, J3, ⟨by rw [HPL.out]; exact J4.out⟩, JI, JB⟩
        case measure => rw [hip, hjp]; omega
    · have hie : i = s.size := by omega
      have hnx := fun ty => run_next_end_at (P := Try.prog) wr (w1.heap.size + 1 + 1) s i ty HI.out hlt
      rw [hie] at H4
      go_wp2_with fail
      obtain ⟨⟨q1, q2⟩, hq⟩ : ∃ q, placeOf s s.size = q := ⟨_, rfl⟩
      rw [hq] at H4
      have HQ := Aside0.mk hq
      clear hq hnx
      have K1 := Aside0.mk (blk_below H1.out (below_drew1 (Below.refl _ _)))
      have K2 := Aside0.mk (blk_below H2.out (below_drew1 (Below.refl _ _)))
      have K3 := Aside0.mk (blk_below H3.out (below_drew1 (Below.refl _ _)))
      have K4 := Aside0.mk (blk_below H4.out (below_drew1 (Below.refl _ _)))
      have KB := Aside0.mk (below_drew1 HB.out)
      clear H1 H2 H3 H4 HI HB
      refine start_ (n := 5) (S := fun w' => (w'.cell? ⟨w1.heap.size, 0, none⟩ = some (.int .i64 m) ∧ w'.cell? ⟨w1.heap.size, 1, none⟩ = some (.slice A l.length c)) ∧ w'.cell? ⟨w1.heap.size + 1, 0, none⟩ = some (.int .i64 q1) ∧ w'.cell? ⟨w1.heap.size + 1, 1, none⟩ = some (.int .i64 q2)) (ds := [3, 4]) #[false, false, false, false, false] (by kernel_rfl) rfl rfl ⟨⟨(blk_cell K3.out 0).trans rfl, (blk_cell K3.out 1).trans rfl⟩, (blk_cell K4.out 0).trans rfl, (blk_cell K4.out 1).trans rfl⟩ (fun hHeld => ?_)
      generalize wr.drew = w3 at K1 K2 K3 K4 KB hHeld ⊢
      refine take_ (i := 0) (N := some 58) (v := ?_) (a' := ?_) #[true, false, false, false, false] rfl rfl (by kernel_rfl) (fun _ _ _ h => h) (Or.inl ⟨by rfl, ?_⟩) hHeld ?_ ?_
      rotate_left
      · rintro w' ⟨⟨s0, s1⟩, s2, s3⟩
        go_simp
        with_reducible rfl
      rotate_left
      · simp only [Act.put, List.setIfInBounds_toArray, List.set_cons_zero, List.set_cons_succ, i64_w, i32_w]
        rfl
      refine take_ (i := 1) (N := some 59) (v := ?_) (a' := ?_) #[true, true, false, false, false] rfl rfl (by kernel_rfl) (fun _ _ _ h => h) (Or.inl ⟨by rfl, ?_⟩) hHeld ?_ ?_
      rotate_left
      · rintro w' ⟨⟨s0, s1⟩, s2, s3⟩
        go_simp
        with_reducible rfl
      rotate_left
      · simp only [Act.put, List.setIfInBounds_toArray, List.set_cons_zero, List.set_cons_succ, i64_w, i32_w]
        rfl
      have hz0 := blk_frozen K1.out 0
      have hz1 := blk_frozen K1.out 1
      have hx0 := blk_cell K1.out 0
      have hx1 := blk_cell K1.out 1
      simp only [List.getElem?_toArray, List.getElem?_cons_zero, List.getElem?_cons_succ] at hx0 hx1
      refine one_ (i := 2) (N := none) #[true, true, true, false, false] rfl rfl (by kernel_rfl) (by decide) (fun K hK => ?_)
      refine skip_ (w1 := ?_) (by rfl) rfl ?_ ?_
      rotate_left
      · go_simp
        rfl
      have L1 := Aside0.mk (blk_put (blk_put K1.out 0 (.int .i64 m) rfl) 1 (.slice A l.length c) rfl)
      have L2 := Aside0.mk (blk_far (blk_far K2.out (by show w.heap.size + 1 ≠ w.heap.size; omega) (p := ⟨w.heap.size, 0, none⟩) (.int .i64 m)) (by show w.heap.size + 1 ≠ w.heap.size; omega) (p := ⟨w.heap.size, 1, none⟩) (.slice A l.length c))
      have L3 := Aside0.mk (blk_far (blk_far K3.out (by show w1.heap.size ≠ w.heap.size; omega) (p := ⟨w.heap.size, 0, none⟩) (.int .i64 m)) (by show w1.heap.size ≠ w.heap.size; omega) (p := ⟨w.heap.size, 1, none⟩) (.slice A l.length c))
      have L4 := Aside0.mk (blk_far (blk_far K4.out (by show w1.heap.size + 1 ≠ w.heap.size; omega) (p := ⟨w.heap.size, 0, none⟩) (.int .i64 m)) (by show w1.heap.size + 1 ≠ w.heap.size; omega) (p := ⟨w.heap.size, 1, none⟩) (.slice A l.length c))
      have LB := Aside0.mk (show Below w.heap.size w ((w3.setCell ⟨w.heap.size, 0, none⟩ (.int .i64 m)).setCell ⟨w.heap.size, 1, none⟩ (.slice A l.length c)) from (KB.out.setCell (Nat.le_refl _) _).setCell (Nat.le_refl _) _)
      clear hz0 hz1 hx0 hx1 K1 K2 K3 K4 KB hHeld
      generalize (w3.setCell ⟨w.heap.size, 0, none⟩ (.int .i64 m)).setCell ⟨w.heap.size, 1, none⟩ (.slice A l.length c) = w4 at L1 L2 L3 L4 LB ⊢
      refine hK.out _ _ ⟨⟨(blk_cell L3.out 0).trans rfl, (blk_cell L3.out 1).trans rfl⟩, (blk_cell L4.out 0).trans rfl, (blk_cell L4.out 1).trans rfl⟩ (fun hHeld => ?_)
      clear hK K
      have hz0 := blk_frozen L2.out 0
      have hz1 := blk_frozen L2.out 1
      have hx0 := blk_cell L2.out 0
      have hx1 := blk_cell L2.out 1
      simp only [List.getElem?_toArray, List.getElem?_cons_zero, List.getElem?_cons_succ] at hx0 hx1
      refine last_ (i := 3) (N := none) #[true, true, true, true, false] rfl rfl (by kernel_rfl) (by decide) (fun K hK => ?_)
      refine skip_ (w1 := ?_) (by rfl) rfl ?_ ?_
      rotate_left
      · go_simp
        rfl
      refine hK.out _ _ ?_
      clear hK K
      refine last_ (i := 4) (N := some 8) #[true, true, true, true, true] rfl rfl (by kernel_rfl) (by decide) (fun K hK => ?_)
      refine value_ (w1 := ?_) (v := ?_) (by rfl) rfl ?_ ?_
      rotate_left 2
      · go_simp
        constructor
        · rfl
        · rfl
      refine hK.out _ _ ?_
      clear hK K
      refine norm_ (a' := ?_) ?_ ?_
      rotate_left
      · show Act.put _ (some 8) _ = _
        simp only [Act.put, List.setIfInBounds_toArray, List.set_cons_zero, List.set_cons_succ, i64_w, i32_w]
        rfl
      refine done_ (by kernel_rfl) ?_
      try go_wp2
      refine bodyPost_ret (results_list (rs := [.cell 6 36, .cell 7 38, .tmp 8]) rfl (by simp) (.cell w.heap.size 36 #[.int .i64 m, .slice A l.length c] (0, 0) _ rfl (blk_far (blk_far L1.out (by show w.heap.size ≠ w.heap.size + 1; omega) _) (by show w.heap.size ≠ w.heap.size + 1; omega) _) Try.underlying36 rfl (by kernel_rfl) (.cell (w.heap.size + 1) 38 #[.int .i64 q1, .int .i64 q2] (0, 0) _ rfl (blk_put (blk_put L2.out 0 _ rfl) 1 _ rfl) Try.underlying38 rfl (by kernel_rfl) (.tmp .nil)))) rfl ?_
      exact ⟨by rw [HQ.out]; rfl, (LB.out.setCell (by show w.heap.size ≤ w.heap.size + 1; omega) _).setCell (by show w.heap.size ≤ w.heap.size + 1; omega) _⟩
end Go.Proofs.Ytldakfaolagoiaa.Tb
