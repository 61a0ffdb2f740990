/- asked. -/
import Derived.Test.YtldakfaolagoiaaProg
import Derived.Below
import Derived.Deep.Draws
import Derived.Deep.AppendLies
import Derived.Maps.AppendAt
import Derived.OwnWalk
import Derived.Laws.BytesArg
import Derived.Laws.MakeOwn
import Derived.Laws.OwnMore
import Derived.Deep.OwnRows
import Derived.Tactics
import Derived.Lib.ConvBytes
import Derived.Laws.Slices
import Derived.WalkKit
import Derived.KernelRfl
import Derived.RowKit3
import Derived.Deep.LoopGhost
import Derived.Deep.QuietTactic
import Derived.BigQuiet
import Derived.WideLaws
import Derived.Deep.DeepCutAuto
import Derived.Deep.CutBlock
import Derived.Deep.RegionHeld3
import Derived.Laws.Rows
import Derived.Lib.AppendStr
import Derived.ArgAppend
import Derived.Laws.IdiomCopy
import Derived.OrdersHeld
import Derived.Laws.BitsLemmas
import Derived.RowKit
import Derived.Test.YtldakfaolagoiaaWWords
import Derived.Test.YtldakfaolagoiaaWLast
import Derived.Test.YtldakfaolagoiaaWTab
import Derived.Test.YtldakfaolagoiaaWFour
import Derived.Test.YtldakfaolagoiaaWQPut
import Derived.Test.YtldakfaolagoiaaWApart
import Derived.Test.YtldakfaolagoiaaWArr
import Derived.Test.YtldakfaolagoiaaWZeros
import Derived.Test.YtldakfaolagoiaaWFoot
import Derived.Test.YtldakfaolagoiaaWKept
import Derived.Test.YtldakfaolagoiaaWShare
import Derived.Test.YtldakfaolagoiaaWN
import Derived.Test.YtldakfaolagoiaaWFootNe
import Derived.Test.YtldakfaolagoiaaWAt
import Derived.Test.YtldakfaolagoiaaWEqStruct
import Derived.Test.YtldakfaolagoiaaWRepsOne
import Derived.Test.YtldakfaolagoiaaWInv
import Derived.Test.YtldakfaolagoiaaWInvWords
import Derived.Test.YtldakfaolagoiaaWGuard
import Derived.Test.YtldakfaolagoiaaWNEv
import Derived.Test.YtldakfaolagoiaaWMore
import Derived.Maps.OwnOps
import Derived.DeepKeys4
import Derived.WalkSpells
import Derived.Laws.EntriesVeiled
import Derived.Deep.RegionLawGrows
import Derived.ArgAppend
import Derived.Test.YtldakfaolagoiaaTbF
import Derived.Test.YtldakfaolagoiaaPx2
namespace Go.Proofs.Ytldakfaolagoiaa.Tb
open Go.RowKit Go.Proofs.YtldakfaolagoiaaW.PrintWords Go.Proofs.YtldakfaolagoiaaW.PrintLast Go.Proofs.YtldakfaolagoiaaW.PrintMore
attribute [local go_sem] max2_int min2_int max_two min_two max_three min_three max_four min_four
set_option linter.unusedVariables false
set_option linter.unusedSimpArgs false

theorem below_of_drawn0 {w w' : World} (h : Drawn0 w w') : Below w.heap.size w w' := by
  obtain ⟨nd, rfl⟩ := h
  exact pw_below_drewN (Below.refl _ _) nd
set_option maxHeartbeats 1600000 in
set_option maxRecDepth 100000 in
theorem asked_w (m : Int) (A : Option Addr) (c : Nat) (l : List Int) (s : ByteArray) (w : World) (hr : Kd.C (Kd.int .i64) w A l.length l) (hc : l.length ≤ c) (hF : FieldOK m l) (hS : SpotsOK m s) :
    Calls Try.prog 13 #[.int .i64 m, .slice A l.length c, .string s, .string ⟨#[119]⟩] w fun e w' => e = .returned (.tuple #[.agg #[.int .i64 m, .slice A l.length c], .agg #[.int .i64 (placeOf s s.size).1, .int .i64 (placeOf s s.size).2, .int .i64 1], .int .i64 0]) ∧ Below w.heap.size w w' := by
  have hu36 := Try.underlying36
  have hu38 := Try.underlying38
  have hu40 := Try.underlying40
  have hu9 := Try.underlying9
  obtain ⟨⟨q1, q2⟩, hq⟩ : ∃ q, placeOf s s.size = q := ⟨_, rfl⟩
  have hB2 := below_alloc (below_alloc (Below.refl w.heap.size w) (.cells #[.int .i64 0, .slice none 0 0] 36)) (.cells #[.int .i64 0, .int .i64 0, .int .i64 0] 40)
  have HB2 := Aside0.mk hB2
  have HR := placed_calls m A c l s _ (Kd.C_below hr hB2) hc hF hS
  rw [hq] at HR ⊢
  have HR := Aside0.mk HR
  have hb1 : ((w.alloc (.cells #[.int .i64 0, .slice none 0 0] 36)).alloc (.cells #[.int .i64 0, .int .i64 0, .int .i64 0] 40)).heap[w.heap.size]? = some (.cells #[.int .i64 0, .slice none 0 0] 36 (0, 0)) := blk_alloc (heap_alloc_new w (.cells #[.int .i64 0, .slice none 0 0] 36)) _
  have hb2 : ((w.alloc (.cells #[.int .i64 0, .slice none 0 0] 36)).alloc (.cells #[.int .i64 0, .int .i64 0, .int .i64 0] 40)).heap[w.heap.size + 1]? = some (.cells #[.int .i64 0, .int .i64 0, .int .i64 0] 40 (0, 0)) := heap_at _ (asize _ _)
  have HL1 := Aside0.mk (show P.ambush_letter.f 1 = some ⟨#[119]⟩ from by decide +kernel)
  have HL2 := Aside0.mk (show P.ambush_letter.f 2 = some ⟨#[100]⟩ from by decide +kernel)
  clear hr hF hS hB2 hq
  go_enter Try.func13, Try.ntmps13
  go_wp2_with (first | (go_at_call 20; with_reducible refine HR.out.mono ?_; rintro e w1 ⟨rfl, hbr⟩; have HB3 := Aside0.mk (below_step HB2.out hbr); have HBb1 := Aside0.mk (blk_below hb1 hbr); have HBb2 := Aside0.mk (blk_below hb2 hbr); clear hbr hb1 hb2) | fail)
  have hs1 := HBb1.out
  have h2s := blk_lt HBb2.out
  have hw1 : w.heap.size + 2 ≤ w1.heap.size := by omega
  clear hs1 h2s
  have G1 := blk_alloc (blk_alloc HBb1.out (.cells #[.int .i64 m, .slice A l.length c] 36)) (.cells #[.int .i64 q1, .int .i64 q2] 38)
  have G2 := blk_alloc (blk_alloc HBb2.out (.cells #[.int .i64 m, .slice A l.length c] 36)) (.cells #[.int .i64 q1, .int .i64 q2] 38)
  have G3 := blk_alloc (heap_alloc_new w1 (.cells #[.int .i64 m, .slice A l.length c] 36)) (.cells #[.int .i64 q1, .int .i64 q2] 38)
  have G4 := heap_at (w := w1.alloc (.cells #[.int .i64 m, .slice A l.length c] 36)) (.cells #[.int .i64 q1, .int .i64 q2] 38) (asize _ _)
  have GB := below_alloc (below_alloc HB3.out (.cells #[.int .i64 m, .slice A l.length c] 36)) (.cells #[.int .i64 q1, .int .i64 q2] 38)
  clear HBb1 HBb2 HB3
  refine (P.ambush_letter.calls 1 _ _ HL1.out).mono ?_
  rintro e w2 ⟨rfl, hdr⟩
  have hbw := below_of_drawn0 hdr
  have K11 := Aside0.mk (blk_below G1 hbw)
  have K21 := Aside0.mk (blk_below G2 hbw)
  have K31 := Aside0.mk (blk_below G3 hbw)
  have K41 := Aside0.mk (blk_below G4 hbw)
  have KB1 := Aside0.mk (below_step GB hbw)
  clear hbw hdr
  go_wp2_with fail
  have K1 := Aside0.mk (blk_below K11.out (below_drew1 (Below.refl _ _)))
  have K2 := Aside0.mk (blk_below K21.out (below_drew1 (Below.refl _ _)))
  have K3 := Aside0.mk (blk_below K31.out (below_drew1 (Below.refl _ _)))
  have K4 := Aside0.mk (blk_below K41.out (below_drew1 (Below.refl _ _)))
  have KB := Aside0.mk (below_drew1 KB1.out)
  clear K11 K21 K31 K41 KB1
  refine start_ (n := 6) (S := fun w' => (w'.cell? ⟨w1.heap.size, 0, none⟩ = some (.int .i64 m) ∧ w'.cell? ⟨w1.heap.size, 1, none⟩ = some (.slice A l.length c)) ∧ w'.cell? ⟨w1.heap.size + 1, 0, none⟩ = some (.int .i64 q1) ∧ w'.cell? ⟨w1.heap.size + 1, 1, none⟩ = some (.int .i64 q2)) (ds := [4, 5]) #[false, false, false, false, false, false] (by kernel_rfl) rfl rfl ⟨⟨(blk_cell K3.out 0).trans rfl, (blk_cell K3.out 1).trans rfl⟩, (blk_cell K4.out 0).trans rfl, (blk_cell K4.out 1).trans rfl⟩ (fun hHeld => ?_)
  generalize w2.drew = w9 at K1 K2 K3 K4 KB hHeld ⊢
  refine take_ (i := 0) (N := some 32) (v := ?_) (a' := ?_) #[true, false, false, false, false, false] rfl rfl (by kernel_rfl) (fun _ _ _ h => h) (Or.inl ⟨by rfl, ?_⟩) hHeld ?_ ?_
  rotate_left
  · rintro w' ⟨⟨s0, s1⟩, s2, s3⟩
    go_simp
    with_reducible rfl
  rotate_left
  · simp only [Act.put, List.setIfInBounds_toArray, List.set_cons_zero, List.set_cons_succ, i64_w, i32_w]
    rfl
  refine take_ (i := 1) (N := some 33) (v := ?_) (a' := ?_) #[true, true, false, false, false, false] rfl rfl (by kernel_rfl) (fun _ _ _ h => h) (Or.inl ⟨by rfl, ?_⟩) hHeld ?_ ?_
  rotate_left
  · rintro w' ⟨⟨s0, s1⟩, s2, s3⟩
    go_simp
    with_reducible rfl
  rotate_left
  · simp only [Act.put, List.setIfInBounds_toArray, List.set_cons_zero, List.set_cons_succ, i64_w, i32_w]
    rfl
  refine pure_ (i := 2) (N := some 34) (v := ?_) (a' := ?_) #[true, true, true, false, false, false] rfl rfl (by kernel_rfl) (fun _ _ _ h => h) (Or.inl ⟨by rfl, ?_⟩) ?_ ?_
  rotate_left
  · intro w'
    go_simp
    with_reducible rfl
  rotate_left
  · simp only [Act.put, List.setIfInBounds_toArray, List.set_cons_zero, List.set_cons_succ, i64_w, i32_w]
    rfl
  have hz0 := blk_frozen K1.out 0
  have hz1 := blk_frozen K1.out 1
  have hx0 := blk_cell K1.out 0
  have hx1 := blk_cell K1.out 1
  simp only [List.getElem?_toArray, List.getElem?_cons_zero, List.getElem?_cons_succ] at hx0 hx1
  refine one_ (i := 3) (N := none) #[true, true, true, true, false, false] rfl rfl (by kernel_rfl) (by decide) (fun K hK => ?_)
  refine skip_ (w1 := ?_) (by rfl) rfl ?_ ?_
  rotate_left
  · go_simp
    rfl
  have L1 := Aside0.mk (blk_put (blk_put K1.out 0 (.int .i64 m) rfl) 1 (.slice A l.length c) rfl)
  have L2 := Aside0.mk (blk_far (blk_far K2.out (by show w.heap.size + 1 ≠ w.heap.size; omega) (p := ⟨w.heap.size, 0, none⟩) (.int .i64 m)) (by show w.heap.size + 1 ≠ w.heap.size; omega) (p := ⟨w.heap.size, 1, none⟩) (.slice A l.length c))
  have L3 := Aside0.mk (blk_far (blk_far K3.out (by show w1.heap.size ≠ w.heap.size; omega) (p := ⟨w.heap.size, 0, none⟩) (.int .i64 m)) (by show w1.heap.size ≠ w.heap.size; omega) (p := ⟨w.heap.size, 1, none⟩) (.slice A l.length c))
  have L4 := Aside0.mk (blk_far (blk_far K4.out (by show w1.heap.size + 1 ≠ w.heap.size; omega) (p := ⟨w.heap.size, 0, none⟩) (.int .i64 m)) (by show w1.heap.size + 1 ≠ w.heap.size; omega) (p := ⟨w.heap.size, 1, none⟩) (.slice A l.length c))
  have LB := Aside0.mk (show Below w.heap.size w ((w9.setCell ⟨w.heap.size, 0, none⟩ (.int .i64 m)).setCell ⟨w.heap.size, 1, none⟩ (.slice A l.length c)) from (KB.out.setCell (Nat.le_refl _) _).setCell (Nat.le_refl _) _)
  clear hz0 hz1 hx0 hx1 K1 K2 K3 K4 KB hHeld
  generalize (w9.setCell ⟨w.heap.size, 0, none⟩ (.int .i64 m)).setCell ⟨w.heap.size, 1, none⟩ (.slice A l.length c) = w10 at L1 L2 L3 L4 LB ⊢
  refine hK.out _ _ ⟨⟨(blk_cell L3.out 0).trans rfl, (blk_cell L3.out 1).trans rfl⟩, (blk_cell L4.out 0).trans rfl, (blk_cell L4.out 1).trans rfl⟩ (fun hHeld => ?_)
  clear hK K
  have hz0 := blk_frozen L2.out 0
  have hz1 := blk_frozen L2.out 1
  have hz2 := blk_frozen L2.out 2
  have hx0 := blk_cell L2.out 0
  have hx1 := blk_cell L2.out 1
  have hx2 := blk_cell L2.out 2
  simp only [List.getElem?_toArray, List.getElem?_cons_zero, List.getElem?_cons_succ] at hx0 hx1 hx2
  refine last_ (i := 4) (N := none) #[true, true, true, true, true, false] rfl rfl (by kernel_rfl) (by decide) (fun K hK => ?_)
  refine skip_ (w1 := ?_) (by rfl) rfl ?_ ?_
  rotate_left
  · go_simp
    rfl
  refine hK.out _ _ ?_
  clear hK K
  refine last_ (i := 5) (N := some 10) #[true, true, true, true, true, true] rfl rfl (by kernel_rfl) (by decide) (fun K hK => ?_)
  refine value_ (w1 := ?_) (v := ?_) (by rfl) rfl ?_ ?_
  rotate_left 2
  · go_simp
    constructor
    · rfl
    · rfl
  refine hK.out _ _ ?_
  clear hK K
  refine norm_ (a' := ?_) ?_ ?_
  rotate_left
  · show Act.put _ (some 10) _ = _
    simp only [Act.put, List.setIfInBounds_toArray, List.set_cons_zero, List.set_cons_succ, i64_w, i32_w]
    rfl
  refine done_ (by kernel_rfl) ?_
  try go_wp2
  refine bodyPost_ret (results_list (rs := [.cell 8 36, .cell 9 40, .tmp 10]) rfl (by simp) (.cell w.heap.size 36 #[.int .i64 m, .slice A l.length c] (0, 0) _ rfl (blk_far (blk_far (blk_far L1.out (by show w.heap.size ≠ w.heap.size + 1; omega) _) (by show w.heap.size ≠ w.heap.size + 1; omega) _) (by show w.heap.size ≠ w.heap.size + 1; omega) _) Try.underlying36 rfl (by kernel_rfl) (.cell (w.heap.size + 1) 40 #[.int .i64 q1, .int .i64 q2, .int .i64 1] (0, 0) _ rfl (blk_put (blk_put (blk_put L2.out 0 _ rfl) 1 _ rfl) 2 _ rfl) Try.underlying40 rfl (by kernel_rfl) (.tmp .nil)))) rfl ?_
  exact ⟨rfl, ((LB.out.setCell (by show w.heap.size ≤ w.heap.size + 1; omega) _).setCell (by show w.heap.size ≤ w.heap.size + 1; omega) _).setCell (by show w.heap.size ≤ w.heap.size + 1; omega) _⟩
set_option maxHeartbeats 1600000 in
set_option maxRecDepth 100000 in
theorem asked_d (m : Int) (A : Option Addr) (c : Nat) (l : List Int) (s : ByteArray) (w : World) (hr : Kd.C (Kd.int .i64) w A l.length l) (hc : l.length ≤ c) (hF : FieldOK m l) (hS : SpotsOK m s) :
    Calls Try.prog 13 #[.int .i64 m, .slice A l.length c, .string s, .string ⟨#[100]⟩] w fun e w' => e = .returned (.tuple #[.agg #[.int .i64 m, .slice A l.length c], .agg #[.int .i64 (placeOf s s.size).1, .int .i64 (placeOf s s.size).2, .int .i64 2], .int .i64 0]) ∧ Below w.heap.size w w' := by
  have hu36 := Try.underlying36
  have hu38 := Try.underlying38
  have hu40 := Try.underlying40
  have hu9 := Try.underlying9
  obtain ⟨⟨q1, q2⟩, hq⟩ : ∃ q, placeOf s s.size = q := ⟨_, rfl⟩
  have hB2 := below_alloc (below_alloc (Below.refl w.heap.size w) (.cells #[.int .i64 0, .slice none 0 0] 36)) (.cells #[.int .i64 0, .int .i64 0, .int .i64 0] 40)
  have HB2 := Aside0.mk hB2
  have HR := placed_calls m A c l s _ (Kd.C_below hr hB2) hc hF hS
  rw [hq] at HR ⊢
  have HR := Aside0.mk HR
  have hb1 : ((w.alloc (.cells #[.int .i64 0, .slice none 0 0] 36)).alloc (.cells #[.int .i64 0, .int .i64 0, .int .i64 0] 40)).heap[w.heap.size]? = some (.cells #[.int .i64 0, .slice none 0 0] 36 (0, 0)) := blk_alloc (heap_alloc_new w (.cells #[.int .i64 0, .slice none 0 0] 36)) _
  have hb2 : ((w.alloc (.cells #[.int .i64 0, .slice none 0 0] 36)).alloc (.cells #[.int .i64 0, .int .i64 0, .int .i64 0] 40)).heap[w.heap.size + 1]? = some (.cells #[.int .i64 0, .int .i64 0, .int .i64 0] 40 (0, 0)) := heap_at _ (asize _ _)
  have HL1 := Aside0.mk (show P.ambush_letter.f 1 = some ⟨#[119]⟩ from by decide +kernel)
  have HL2 := Aside0.mk (show P.ambush_letter.f 2 = some ⟨#[100]⟩ from by decide +kernel)
  clear hr hF hS hB2 hq
  go_enter Try.func13, Try.ntmps13
  go_wp2_with (first | (go_at_call 20; with_reducible refine HR.out.mono ?_; rintro e w1 ⟨rfl, hbr⟩; have HB3 := Aside0.mk (below_step HB2.out hbr); have HBb1 := Aside0.mk (blk_below hb1 hbr); have HBb2 := Aside0.mk (blk_below hb2 hbr); clear hbr hb1 hb2) | fail)
  have hs1 := HBb1.out
  have h2s := blk_lt HBb2.out
  have hw1 : w.heap.size + 2 ≤ w1.heap.size := by omega
  clear hs1 h2s
  have G1 := blk_alloc (blk_alloc HBb1.out (.cells #[.int .i64 m, .slice A l.length c] 36)) (.cells #[.int .i64 q1, .int .i64 q2] 38)
  have G2 := blk_alloc (blk_alloc HBb2.out (.cells #[.int .i64 m, .slice A l.length c] 36)) (.cells #[.int .i64 q1, .int .i64 q2] 38)
  have G3 := blk_alloc (heap_alloc_new w1 (.cells #[.int .i64 m, .slice A l.length c] 36)) (.cells #[.int .i64 q1, .int .i64 q2] 38)
  have G4 := heap_at (w := w1.alloc (.cells #[.int .i64 m, .slice A l.length c] 36)) (.cells #[.int .i64 q1, .int .i64 q2] 38) (asize _ _)
  have GB := below_alloc (below_alloc HB3.out (.cells #[.int .i64 m, .slice A l.length c] 36)) (.cells #[.int .i64 q1, .int .i64 q2] 38)
  clear HBb1 HBb2 HB3
  refine (P.ambush_letter.calls 1 _ _ HL1.out).mono ?_
  rintro e w2 ⟨rfl, hdr⟩
  have hbw := below_of_drawn0 hdr
  have K1a := Aside0.mk (blk_below G1 hbw)
  have K2a := Aside0.mk (blk_below G2 hbw)
  have K3a := Aside0.mk (blk_below G3 hbw)
  have K4a := Aside0.mk (blk_below G4 hbw)
  have KBa := Aside0.mk (below_step GB hbw)
  clear hbw hdr
  go_wp2_with fail
  refine (P.ambush_letter.calls 2 _ _ HL2.out).mono ?_
  rintro e w3 ⟨rfl, hdr⟩
  have hbw := below_of_drawn0 hdr
  have K12 := Aside0.mk (blk_below K1a.out hbw)
  have K22 := Aside0.mk (blk_below K2a.out hbw)
  have K32 := Aside0.mk (blk_below K3a.out hbw)
  have K42 := Aside0.mk (blk_below K4a.out hbw)
  have KB2 := Aside0.mk (below_step KBa.out hbw)
  clear hbw hdr
  go_wp2_with fail
  have K1 := Aside0.mk (blk_below K12.out (below_drew1 (Below.refl _ _)))
  have K2 := Aside0.mk (blk_below K22.out (below_drew1 (Below.refl _ _)))
  have K3 := Aside0.mk (blk_below K32.out (below_drew1 (Below.refl _ _)))
  have K4 := Aside0.mk (blk_below K42.out (below_drew1 (Below.refl _ _)))
  have KB := Aside0.mk (below_drew1 KB2.out)
  clear K12 K22 K32 K42 KB2
  refine start_ (n := 6) (S := fun w' => (w'.cell? ⟨w1.heap.size, 0, none⟩ = some (.int .i64 m) ∧ w'.cell? ⟨w1.heap.size, 1, none⟩ = some (.slice A l.length c)) ∧ w'.cell? ⟨w1.heap.size + 1, 0, none⟩ = some (.int .i64 q1) ∧ w'.cell? ⟨w1.heap.size + 1, 1, none⟩ = some (.int .i64 q2)) (ds := [4, 5]) #[false, false, false, false, false, false] (by kernel_rfl) rfl rfl ⟨⟨(blk_cell K3.out 0).trans rfl, (blk_cell K3.out 1).trans rfl⟩, (blk_cell K4.out 0).trans rfl, (blk_cell K4.out 1).trans rfl⟩ (fun hHeld => ?_)
  generalize w3.drew = w9 at K1 K2 K3 K4 KB hHeld ⊢
  refine take_ (i := 0) (N := some 39) (v := ?_) (a' := ?_) #[true, false, false, false, false, false] rfl rfl (by kernel_rfl) (fun _ _ _ h => h) (Or.inl ⟨by rfl, ?_⟩) hHeld ?_ ?_
  rotate_left
  · rintro w' ⟨⟨s0, s1⟩, s2, s3⟩
    go_simp
    with_reducible rfl
  rotate_left
  · simp only [Act.put, List.setIfInBounds_toArray, List.set_cons_zero, List.set_cons_succ, i64_w, i32_w]
    rfl
  refine take_ (i := 1) (N := some 40) (v := ?_) (a' := ?_) #[true, true, false, false, false, false] rfl rfl (by kernel_rfl) (fun _ _ _ h => h) (Or.inl ⟨by rfl, ?_⟩) hHeld ?_ ?_
  rotate_left
  · rintro w' ⟨⟨s0, s1⟩, s2, s3⟩
    go_simp
    with_reducible rfl
  rotate_left
  · simp only [Act.put, List.setIfInBounds_toArray, List.set_cons_zero, List.set_cons_succ, i64_w, i32_w]
    rfl
  refine pure_ (i := 2) (N := some 41) (v := ?_) (a' := ?_) #[true, true, true, false, false, false] rfl rfl (by kernel_rfl) (fun _ _ _ h => h) (Or.inl ⟨by rfl, ?_⟩) ?_ ?_
  rotate_left
  · intro w'
    go_simp
    with_reducible rfl
  rotate_left
  · simp only [Act.put, List.setIfInBounds_toArray, List.set_cons_zero, List.set_cons_succ, i64_w, i32_w]
    rfl
  have hz0 := blk_frozen K1.out 0
  have hz1 := blk_frozen K1.out 1
  have hx0 := blk_cell K1.out 0
  have hx1 := blk_cell K1.out 1
  simp only [List.getElem?_toArray, List.getElem?_cons_zero, List.getElem?_cons_succ] at hx0 hx1
  refine one_ (i := 3) (N := none) #[true, true, true, true, false, false] rfl rfl (by kernel_rfl) (by decide) (fun K hK => ?_)
  refine skip_ (w1 := ?_) (by rfl) rfl ?_ ?_
  rotate_left
  · go_simp
    rfl
  have L1 := Aside0.mk (blk_put (blk_put K1.out 0 (.int .i64 m) rfl) 1 (.slice A l.length c) rfl)
  have L2 := Aside0.mk (blk_far (blk_far K2.out (by show w.heap.size + 1 ≠ w.heap.size; omega) (p := ⟨w.heap.size, 0, none⟩) (.int .i64 m)) (by show w.heap.size + 1 ≠ w.heap.size; omega) (p := ⟨w.heap.size, 1, none⟩) (.slice A l.length c))
  have L3 := Aside0.mk (blk_far (blk_far K3.out (by show w1.heap.size ≠ w.heap.size; omega) (p := ⟨w.heap.size, 0, none⟩) (.int .i64 m)) (by show w1.heap.size ≠ w.heap.size; omega) (p := ⟨w.heap.size, 1, none⟩) (.slice A l.length c))
  have L4 := Aside0.mk (blk_far (blk_far K4.out (by show w1.heap.size + 1 ≠ w.heap.size; omega) (p := ⟨w.heap.size, 0, none⟩) (.int .i64 m)) (by show w1.heap.size + 1 ≠ w.heap.size; omega) (p := ⟨w.heap.size, 1, none⟩) (.slice A l.length c))
  have LB := Aside0.mk (show Below w.heap.size w ((w9.setCell ⟨w.heap.size, 0, none⟩ (.int .i64 m)).setCell ⟨w.heap.size, 1, none⟩ (.slice A l.length c)) from (KB.out.setCell (Nat.le_refl _) _).setCell (Nat.le_refl _) _)
  clear hz0 hz1 hx0 hx1 K1 K2 K3 K4 KB hHeld
  generalize (w9.setCell ⟨w.heap.size, 0, none⟩ (.int .i64 m)).setCell ⟨w.heap.size, 1, none⟩ (.slice A l.length c) = w10 at L1 L2 L3 L4 LB ⊢
  refine hK.out _ _ ⟨⟨(blk_cell L3.out 0).trans rfl, (blk_cell L3.out 1).trans rfl⟩, (blk_cell L4.out 0).trans rfl, (blk_cell L4.out 1).trans rfl⟩ (fun hHeld => ?_)
  clear hK K
  have hz0 := blk_frozen L2.out 0
  have hz1 := blk_frozen L2.out 1
  have hz2 := blk_frozen L2.out 2
  have hx0 := blk_cell L2.out 0
  have hx1 := blk_cell L2.out 1
  have hx2 := blk_cell L2.out 2
  simp only [List.getElem?_toArray, List.getElem?_cons_zero, List.getElem?_cons_succ] at hx0 hx1 hx2
  refine last_ (i := 4) (N := none) #[true, true, true, true, true, false] rfl rfl (by kernel_rfl) (by decide) (fun K hK => ?_)
  refine skip_ (w1 := ?_) (by rfl) rfl ?_ ?_
  rotate_left
  · go_simp
    rfl
  refine hK.out _ _ ?_
  clear hK K
  refine last_ (i := 5) (N := some 10) #[true, true, true, true, true, true] rfl rfl (by kernel_rfl) (by decide) (fun K hK => ?_)
  refine value_ (w1 := ?_) (v := ?_) (by rfl) rfl ?_ ?_
  rotate_left 2
  · go_simp
    constructor
    · rfl
    · rfl
  refine hK.out _ _ ?_
  clear hK K
  refine norm_ (a' := ?_) ?_ ?_
  rotate_left
  · show Act.put _ (some 10) _ = _
    simp only [Act.put, List.setIfInBounds_toArray, List.set_cons_zero, List.set_cons_succ, i64_w, i32_w]
    rfl
  refine done_ (by kernel_rfl) ?_
  try go_wp2
  refine bodyPost_ret (results_list (rs := [.cell 8 36, .cell 9 40, .tmp 10]) rfl (by simp) (.cell w.heap.size 36 #[.int .i64 m, .slice A l.length c] (0, 0) _ rfl (blk_far (blk_far (blk_far L1.out (by show w.heap.size ≠ w.heap.size + 1; omega) _) (by show w.heap.size ≠ w.heap.size + 1; omega) _) (by show w.heap.size ≠ w.heap.size + 1; omega) _) Try.underlying36 rfl (by kernel_rfl) (.cell (w.heap.size + 1) 40 #[.int .i64 q1, .int .i64 q2, .int .i64 2] (0, 0) _ rfl (blk_put (blk_put (blk_put L2.out 0 _ rfl) 1 _ rfl) 2 _ rfl) Try.underlying40 rfl (by kernel_rfl) (.tmp .nil)))) rfl ?_
  exact ⟨rfl, ((LB.out.setCell (by show w.heap.size ≤ w.heap.size + 1; omega) _).setCell (by show w.heap.size ≤ w.heap.size + 1; omega) _).setCell (by show w.heap.size ≤ w.heap.size + 1; omega) _⟩
end Go.Proofs.Ytldakfaolagoiaa.Tb
