/- The theorem of MobsStirling, proved; part 6 of 7: its texts, merged. -/
import Derived.Test.YtdhgeondbnpeoaaMsE
import Derived.Calls
import Derived.Conc.Beside
import Derived.Laws.Sem
import Derived.Conc.CrowdRun
import Derived.Conc.CommBuf
import Derived.Conc.WgGenN3
import Derived.Test.YtdhgeondbnpeoaaProg
import Derived.KernelRfl
import Derived.Below
import Derived.Deep.Draws
import Derived.Deep.AppendLies
import Derived.Maps.AppendAt
import Derived.OwnWalk
import Derived.Laws.BytesArg
import Derived.Laws.MakeOwn
import Derived.Laws.OwnMore
import Derived.Deep.OwnRows
import Derived.Tactics
import Derived.Lib.ConvBytes
import Derived.Laws.Slices
import Derived.WalkKit
import Derived.RowKit3
import Derived.Deep.LoopGhost
import Derived.Deep.QuietTactic
import Derived.BigQuiet
import Derived.WideLaws
import Derived.Deep.DeepCutAuto
import Derived.Deep.CutBlock
import Derived.Deep.RegionHeld3
import Derived.Laws.Rows
import Derived.Lib.AppendStr
import Derived.ArgAppend
import Derived.Laws.IdiomCopy
import Derived.RowKit
import Derived.OrdersHeld
import Derived.Laws.BitsLemmas
import Derived.Laws.StructEq
import Derived.Maps.OwnOps
import Derived.DeepKeys4
import Derived.WalkSpells
import Derived.Maps.Keyed
set_option linter.unnecessarySimpa false
set_option linter.unusedVariables false
set_option linter.unusedSimpArgs false
namespace Go.Proofs.Ytdhgeondbnpeoaa.P
open Go.RowKit Go.Proofs.YtdhgeondbnpeoaaW.PrintWords Go.Proofs.YtdhgeondbnpeoaaW.PrintLast Go.Proofs.YtdhgeondbnpeoaaW.PrintMore
attribute [local go_sem] max2_int min2_int max_two min_two max_three min_three max_four min_four
def mobs_below.l0 : Nat → List Int → List Int → List (S89) → Int → Int → Option (List Int)
 |0, _, _, _, _, _ => none
 |k + 1, x0, x1, x5, x8, x9 => if x9 < x8 then (if 0 ≤ x9 then (if x9 < (x0.length : Int) then (if x9 < (x1.length : Int) then (if x5.length < 8796093022208 then (mobs_below.l0 k x0 x1 (x5 ++ [(⟨rd x0 x9, rd x1 x9⟩ : S89)]) x8 (wrap64 (x9 + 1))) else (none)) else (none)) else (none)) else (none)) else ((mobs_number_2_int.f x5).bind fun t605 => (some t605))
def mobs_below.f (k : Nat) (l0 : List Int) (l1 : List Int) : Option (List Int) := mobs_below.l0 k l0 l1 ([] : List (S89)) (l0.length : Int) 0
def mobs_below.T5 : Bool × List (List Nat × List Nat) := (true, [([], []), ([], []), ([], []), ([1, 2], [1, 2]), ([3], [3]), ([], []), ([], []), ([5, 6], [5, 6]), ([7], [7]), ([4, 8], [4, 8]), ([9], [9]), ([0, 10], [0, 10]), ([11, 11, 0, 1, 2, 3, 4, 5, 6, 7, 8, 9, 10, 11], [0, 11])])
def mobs_below.B5 : List Nat := [0, 0, 0, 6, 14, 0, 0, 96, 224, 510, 1022, 2047, 4095]
theorem mobs_below.tab5 : rtab .any (opsOf Tra.f63 5) = mobs_below.T5 := by kernel_rfl
theorem mobs_below.bits5 : waitsOk mobs_below.T5.2 mobs_below.B5 = true := by kernel_rfl
set_option maxHeartbeats 8000000 in
set_option maxRecDepth 100000 in
theorem mobs_below.flat (k : Nat) (A0 : Option Addr) (c0 : Nat) (l0 : List Int) (A1 : Option Addr) (c1 : Nat) (l1 : List Int) (r : List Int) (w : World) (hr0 : Kd.C (Kd.int .i64) w A0 l0.length l0) (hc0 : l0.length ≤ c0) (hr1 : Kd.C (Kd.int .i64) w A1 l1.length l1) (hc1 : l1.length ≤ c1) (h : mobs_below.f k l0 l1 = some r) :
  Calls Tra.prog 63 #[.slice A0 l0.length c0, .slice A1 l1.length c1] w fun e w' => ∃ v0_ : Value, e = .returned (v0_) ∧ Ext.OwnI w' w.heap.size v0_ r ∧ Below w.heap.size w w' := by
 have hu89 := Tra.underlying89
 have HR0 := As0.mk hr0
 have HC0 := As0.mk hc0
 clear hr0 hc0
 have HR1 := As0.mk hr1
 have HC1 := As0.mk hc1
 clear hr1 hc1
 have HB := As0.mk (Below.refl w.heap.size w)
 have H : (mobs_below.l0 k l0 l1 ([] : List (S89)) (l0.length : Int) 0) = some r := h
 clear h
 have H' := As0.mk H
 clear H
 go_enter Tra.func63, Tra.ntmps63
 go_wp2
 go_loopg [5, 9] k (fun kq v5 v9 w' => ∃ (x5_1 : List (S89)) (x9_1 : Int), v9 = .int .i64 x9_1 ∧ As0 (mobs_below.l0 kq l0 l1 x5_1 (l0.length : Int) x9_1 = some r) ∧ As0 (kq ≤ k) ∧ As0 (Kd.R k89 89 w' w.heap.size (fun _ => True) v5 x5_1) ∧ As0 (Below w.heap.size w w'))
 case atStart => exact ⟨(([] : List (S89))), (0), (by first | rfl | (simp; done) | (simp [*]; done)), H', ⟨Nat.le_refl _⟩, ⟨by first | exact Kd.R_nil _ _ _ _ _ | exact Kd.N_nil _ _ _ _ _ | exact Kd.V_nil _ _ _ _ _ | exact Kd.Q_nil _ _ _ _ _ | exact Kd.S_nil _ _ _ _ _⟩, ⟨by repeat (first | (with_reducible first | exact HB.out | apply below_alloc | apply pw_below_drewN | apply below_drew1) | exact HB.out)⟩⟩
 case round =>
  clear H'
  try clear c1
  try clear p2
  obtain ⟨x5_1, x9_1, rfl, HA, HK1, HO_5, HB⟩ := hrel
  cases gk with
  |zero => exact absurd HA.out (by simp [mobs_below.l0])
  |succ k1 =>
   have H := HA.out
   clear HA
   simp only [mobs_below.l0] at H
   by_cases c3 : x9_1 < (l0.length : Int)
   ·rw [if_pos c3] at H
    have c3b0 : decide (x9_1 < (l0.length : Int)) = true := decide_eq_true c3
    clear c3
    by_cases c4 : 0 ≤ x9_1
    ·rw [if_pos c4] at H
     have c4b0 : decide (0 ≤ x9_1) = true := decide_eq_true c4
     clear c4
     by_cases c5 : x9_1 < (l0.length : Int)
     ·rw [if_pos c5] at H
      have c5b0 : decide (x9_1 < (l0.length : Int)) = true := decide_eq_true c5
      clear c5
      by_cases c6 : x9_1 < (l1.length : Int)
      ·rw [if_pos c6] at H
       have c6b0 : decide (x9_1 < (l1.length : Int)) = true := decide_eq_true c6
       clear c6
       by_cases c7 : x5_1.length < 8796093022208
       ·rw [if_pos c7] at H
        have LMc7 := As0.mk c7
        clear c7
        obtain ⟨y602, hy602⟩ : ∃ y_ : List (S89), y_ = (x5_1 ++ [(⟨rd l0 x9_1, rd l1 x9_1⟩ : S89)]) := ⟨_, rfl⟩
        replace H : (mobs_below.l0 k1 l0 l1 y602 (l0.length : Int) (wrap64 (x9_1 + 1))) = some r := by first | (rw [hy602]; with_reducible exact H) | (have H2_ := (Option.bind_some _ _).symm.trans H; rw [hy602]; with_reducible exact H2_) | (have H2_ := (Option.bind_some _ _).symm.trans H; with_reducible exact H2_) | with_reducible exact H | (rw [hy602]; exact H) | exact H
        have Ny602 := As0.mk hy602
        clear hy602
        have H' := As0.mk H
        clear H
        try go_wp2
        have n0_ := As0.mk (Kd.R_drew HO_5.out)
        have n1_ := As0.mk (below_drew1 HB.out)
        clear HO_5
        clear HB
        have HO_5 := n0_
        have HB := n1_
        clear n0_ n1_
        have p600 : 0 ≤ (x9_1 : Int) := of_decide_eq_true (by first | (with_reducible assumption) | assumption)
        have q600 : x9_1 < (l0.length : Int) := of_decide_eq_true (by first | (with_reducible assumption) | assumption)
        obtain ⟨ad600, e600, hx600_0⟩ := Kd.at_int HR0.out x9_1 p600 q600
        have hw600_0 := hx600_0
        cases e600
        replace hx600_0 := (HB.out.cell (World.block_lt_of_cell? w _ hx600_0)).trans hx600_0
        replace p600 := eq_true p600
        replace q600 := eq_true q600
        have p601 : 0 ≤ (x9_1 : Int) := of_decide_eq_true (by first | (with_reducible assumption) | assumption)
        have q601 : x9_1 < (l1.length : Int) := of_decide_eq_true (by first | (with_reducible assumption) | assumption)
        obtain ⟨ad601, e601, hx601_0⟩ := Kd.at_int HR1.out x9_1 p601 q601
        have hw601_0 := hx601_0
        cases e601
        replace hx601_0 := (HB.out.cell (World.block_lt_of_cell? w _ hx601_0)).trans hx601_0
        replace p601 := eq_true p601
        replace q601 := eq_true q601
        refine start_ (n := 13) (S := fun w' => w'.cell? (ad600.add (x9_1).toNat) = some (.int .i64 (rd l0 x9_1)) ∧ w'.cell? (ad601.add (x9_1).toNat) = some (.int .i64 (rd l1 x9_1))) (ds := []) #[false, false, false, false, false, false, false, false, false, false, false, false, false] (by kernel_rfl) rfl rfl ⟨((HB.out.cell (World.block_lt_of_cell? w _ hw600_0)).trans hw600_0), ((HB.out.cell (World.block_lt_of_cell? w _ hw601_0)).trans hw601_0)⟩ (fun hHeld => ?_); refine with_tabW mobs_below.tab5 mobs_below.bits5 (fun HT_ HW_ => ?_)
        generalize wr.drew = w8 at HO_5 HB hx600_0 hx601_0 hHeld ⊢
        refine pure_ (i := 0) (N := some 12) (v := ?_) (a' := ?_) #[true, false, false, false, false, false, false, false, false, false, false, false, false] rfl rfl (any_of HT_.out (by kernel_rfl)) (fun _ _ _ h => h) (Or.inl ⟨by rfl, ?_⟩) ?_ ?_
        rotate_left
        ·intro w'
         go_simp
         with_reducible rfl
        rotate_left
        ·simp only [Act.put, List.setIfInBounds_toArray, List.set_cons_zero, List.set_cons_succ, i64_w, i32_w]
         rfl
        refine pure_ (i := 1) (N := some 13) (v := ?_) (a' := ?_) #[true, true, false, false, false, false, false, false, false, false, false, false, false] rfl rfl (any_of HT_.out (by kernel_rfl)) (fun _ _ _ h => h) (Or.inl ⟨by rfl, ?_⟩) ?_ ?_
        rotate_left
        ·intro w'
         go_simp
         with_reducible rfl
        rotate_left
        ·simp only [Act.put, List.setIfInBounds_toArray, List.set_cons_zero, List.set_cons_succ, i64_w, i32_w]
         rfl
        refine pure_ (i := 2) (N := some 14) (v := ?_) (a' := ?_) #[true, true, true, false, false, false, false, false, false, false, false, false, false] rfl rfl (any_of HT_.out (by kernel_rfl)) (fun _ _ _ h => h) (Or.inl ⟨by rfl, ?_⟩) ?_ ?_
        rotate_left
        ·intro w'
         go_simp
         with_reducible rfl
        rotate_left
        ·simp only [Act.put, List.setIfInBounds_toArray, List.set_cons_zero, List.set_cons_succ, i64_w, i32_w]
         rfl
        refine pure_ (i := 3) (N := some 15) (v := ?_) (a' := ?_) #[true, true, true, true, false, false, false, false, false, false, false, false, false] rfl rfl (any_of HT_.out (by kernel_rfl)) (fun _ _ _ h => h) (Or.inl ⟨by rfl, ?_⟩) ?_ ?_
        rotate_left
        ·intro w'
         go_simp
         with_reducible rfl
        rotate_left
        ·simp only [Act.put, List.setIfInBounds_toArray, List.set_cons_zero, List.set_cons_succ, i64_w, i32_w]
         rfl
        refine pure_ (i := 5) (N := some 17) (v := ?_) (a' := ?_) #[true, true, true, true, false, true, false, false, false, false, false, false, false] rfl rfl (any_of HT_.out (by kernel_rfl)) (fun _ _ _ h => h) (Or.inl ⟨by rfl, ?_⟩) ?_ ?_
        rotate_left
        ·intro w'
         go_simp
         with_reducible rfl
        rotate_left
        ·simp only [Act.put, List.setIfInBounds_toArray, List.set_cons_zero, List.set_cons_succ, i64_w, i32_w]
         rfl
        refine pure_ (i := 6) (N := some 18) (v := ?_) (a' := ?_) #[true, true, true, true, false, true, true, false, false, false, false, false, false] rfl rfl (any_of HT_.out (by kernel_rfl)) (fun _ _ _ h => h) (Or.inl ⟨by rfl, ?_⟩) ?_ ?_
        rotate_left
        ·intro w'
         go_simp
         with_reducible rfl
        rotate_left
        ·simp only [Act.put, List.setIfInBounds_toArray, List.set_cons_zero, List.set_cons_succ, i64_w, i32_w]
         rfl
        refine pure_ (i := 7) (N := some 19) (v := ?_) (a' := ?_) #[true, true, true, true, false, true, true, true, false, false, false, false, false] rfl rfl (any_of HT_.out (by kernel_rfl)) (fun _ _ _ h => h) (Or.inl ⟨by rfl, ?_⟩) ?_ ?_
        rotate_left
        ·intro w'
         go_simp
         with_reducible rfl
        rotate_left
        ·simp only [Act.put, List.setIfInBounds_toArray, List.set_cons_zero, List.set_cons_succ, i64_w, i32_w]
         rfl
        refine take_ (i := 4) (N := some 16) (v := ?_) (a' := ?_) #[true, true, true, true, true, true, true, true, false, false, false, false, false] rfl rfl (take_ofW HT_.out HW_.out (by kernel_rfl)) (fun _ _ _ h => h) (Or.inl ⟨by rfl, ?_⟩) hHeld ?_ ?_
        rotate_left
        ·rintro w' ⟨s0, s1⟩
         go_simp
         with_reducible rfl
        rotate_left
        ·simp only [Act.put, List.setIfInBounds_toArray, List.set_cons_zero, List.set_cons_succ, i64_w, i32_w]
         rfl
        refine take_ (i := 8) (N := some 20) (v := ?_) (a' := ?_) #[true, true, true, true, true, true, true, true, true, false, false, false, false] rfl rfl (take_ofW HT_.out HW_.out (by kernel_rfl)) (fun _ _ _ h => h) (Or.inl ⟨by rfl, ?_⟩) hHeld ?_ ?_
        rotate_left
        ·rintro w' ⟨s0, s1⟩
         go_simp
         with_reducible rfl
        rotate_left
        ·simp only [Act.put, List.setIfInBounds_toArray, List.set_cons_zero, List.set_cons_succ, i64_w, i32_w]
         rfl
        refine pure_ (i := 9) (N := some 21) (v := ?_) (a' := ?_) #[true, true, true, true, true, true, true, true, true, true, false, false, false] rfl rfl (any_of HT_.out (by kernel_rfl)) (fun _ _ _ h => h) (Or.inl ⟨by rfl, ?_⟩) ?_ ?_
        rotate_left
        ·intro w'
         go_simp
         with_reducible rfl
        rotate_left
        ·simp only [Act.put, List.setIfInBounds_toArray, List.set_cons_zero, List.set_cons_succ, i64_w, i32_w]
         rfl
        refine one_ (i := 10) (N := some 22) #[true, true, true, true, true, true, true, true, true, true, true, false, false] rfl rfl (one_of HT_.out (by kernel_rfl)) (by decide) (fun K hK => ?_)
        refine value_ (w1 := ?_) (v := ?_) (by rfl) rfl ?_ ?_
        rotate_left 2
        ·go_simp
         constructor
         ·rfl
         ·rfl
        refine hK.out _ _ ⟨(World.cell?_alloc_lt _ _ _ (World.block_lt_of_cell? _ _ (((HB.out.cell (World.block_lt_of_cell? w _ hw600_0)).trans hw600_0)))).trans (((HB.out.cell (World.block_lt_of_cell? w _ hw600_0)).trans hw600_0)), (World.cell?_alloc_lt _ _ _ (World.block_lt_of_cell? _ _ (((HB.out.cell (World.block_lt_of_cell? w _ hw601_0)).trans hw601_0)))).trans (((HB.out.cell (World.block_lt_of_cell? w _ hw601_0)).trans hw601_0))⟩ (fun hHeld => ?_)
        clear hK K
        refine norm_ (a' := ?_) ?_ ?_
        rotate_left
        ·show Act.put _ (some 22) _ = _
         simp only [Act.put, List.setIfInBounds_toArray, List.set_cons_zero, List.set_cons_succ, i64_w, i32_w]
         rfl
        refine one_ (i := 11) (N := some 23) #[true, true, true, true, true, true, true, true, true, true, true, true, false] rfl rfl (one_of HT_.out (by kernel_rfl)) (by decide) (fun K hK => ?_)
        refine Kd.R_append_step k89 (w0 := w) w.heap.size (by rfl) (.tmp 12) (.tmp 22) 88 89 (.agg #[(.int .i64 0), (.int .i64 0)]) 16 rfl Tra.underlying88 info89 rfl (by decide) (by omega) u5 x5_1 (⟨rd l0 x9_1, rd l1 x9_1⟩ : S89) [.int .i64 (rd l0 x9_1), .int .i64 (rd l1 x9_1)] (fun _ => True) (fun _ => False) rfl rfl ?aP (fun _ hk => hk.elim) ?aF ?aO ?aB ?aS ?aL ?_
        (case aP => exact k89_mkM _ _ _ (⟨rd l0 x9_1, rd l1 x9_1⟩ : S89))
        (case aB => exact (by repeat (first | (with_reducible first | exact HB.out | apply below_alloc | apply pw_below_drewN | apply below_drew1) | exact HB.out)))
        (case aF => exact (fun _ _ => trivial))
        (case aO => exact (by (with_reducible repeat (first | apply Kd.R_alloc | apply Kd.R_drewN | apply Kd.R_drew)); exact HO_5.out))
        (case aS => exact (below_size (by repeat (first | (with_reducible first | exact HB.out | apply below_alloc | apply pw_below_drewN | apply below_drew1) | exact HB.out))))
        (case aL => have := LMc7.out; omega)
        intro v603 w9 ho hb hg hat
        rw [← Ny602.out] at ho
        have n0_ := As0.mk (hb)
        have n1_ := As0.mk (ho)
        clear HB
        clear HO_5
        have HB := n0_
        have HO604 := n1_
        clear n0_ n1_
        clear ho hb hg hat
        refine hK.out _ _ ⟨((HB.out.cell (World.block_lt_of_cell? w _ hw600_0)).trans hw600_0), ((HB.out.cell (World.block_lt_of_cell? w _ hw601_0)).trans hw601_0)⟩ (fun hHeld => ?_)
        clear hK K
        refine norm_ (a' := ?_) ?_ ?_
        rotate_left
        ·show Act.put _ (some 23) _ = _
         simp only [Act.put, List.setIfInBounds_toArray, List.set_cons_zero, List.set_cons_succ, i64_w, i32_w]
         rfl
        refine pure_ (i := 12) (N := some 5) (v := ?_) (a' := ?_) #[true, true, true, true, true, true, true, true, true, true, true, true, true] rfl rfl (any_of HT_.out (by kernel_rfl)) (fun _ _ _ h => h) (Or.inl ⟨by rfl, ?_⟩) ?_ ?_
        rotate_left
        ·intro w'
         go_simp
         with_reducible rfl
        rotate_left
        ·simp only [Act.put, List.setIfInBounds_toArray, List.set_cons_zero, List.set_cons_succ, i64_w, i32_w]
         rfl
        refine done_ (done_of HT_.out (by kernel_rfl)) ?_
        try go_wp2
        go_roundg k1
        case measure => have := HK1.out; omega
        case rel => exact ⟨(y602), (wrap64 (x9_1 + 1)), (by first | rfl | (simp; done) | (simp [*]; done)), H', ⟨by have := HK1.out; omega⟩, ⟨by (with_reducible repeat (first | apply Kd.R_alloc | apply Kd.R_drewN | apply Kd.R_drew)); exact HO604.out⟩, ⟨by repeat (first | (with_reducible first | exact HB.out | apply below_alloc | apply pw_below_drewN | apply below_drew1) | exact HB.out)⟩⟩
       ·rw [if_neg c7] at H
        exact absurd H (by simp)
      ·rw [if_neg c6] at H
       exact absurd H (by simp)
     ·rw [if_neg c5] at H
      exact absurd H (by simp)
    ·rw [if_neg c4] at H
     exact absurd H (by simp)
   ·rw [if_neg c3] at H
    have c3b0 : decide (x9_1 < (l0.length : Int)) = false := decide_eq_false c3
    clear c3
    replace H := Option.bind_eq_some_iff.mp H
    obtain ⟨t605, A100, H⟩ := H
    replace H : (some t605) = some r := H
    have A10 := As0.mk A100
    clear A100
    obtain rfl := Option.some.inj H
    obtain ⟨Ao11, co11, eo11⟩ := Kd.R_slice HO_5.out
    subst eo11
    go_wp2_with (first | ((with_reducible refine gate_callee (f := 84) rfl ?_); refine goesL_ (some 26) rfl rfl Tra.func84 (by kernel_rfl) rfl #[.slice Ao11 x5_1.length co11] rfl (by (try simp only [List.map_toArray, List.map_cons, List.map_nil]); first | done | rfl | (simp only [List.length_drop, List.length_take]; rfl)) ?_; (with_reducible refine (mobs_number_2_int.own _ _ x5_1 t605 _ ?side1 ?side2 A10.out).mono ?_); (case side1 => repeat (first | exact (Kd.R_reads' HO_5.out).2.2 | (with_reducible refine Kd.C_alloc ?_ _) | (with_reducible refine Kd.C_drewN ?_ _) | (with_reducible refine Kd.C_drew ?_))); (case side2 => exact (Kd.R_reads' HO_5.out).2.1); rintro e w12 ⟨v606, rfl, hoI_, hb⟩; have HOI_ := As0.mk (hoI_.lower (below_size (by repeat (first | (with_reducible first | exact HB.out | apply below_alloc | apply pw_below_drewN | apply below_drew1) | exact HB.out)))); have ho0 := hoI_.toR; clear hoI_; refine ⟨_, rfl, ?_⟩; have n0_ := As0.mk (Kd.R_below (by (with_reducible repeat (first | apply Kd.R_alloc | apply Kd.R_drewN | apply Kd.R_drew)); exact HO_5.out) hb); have n1_ := As0.mk (Kd.R_lower ho0 (below_size (by repeat (first | (with_reducible first | exact HB.out | apply below_alloc | apply pw_below_drewN | apply below_drew1) | exact HB.out)))); have n2_ := As0.mk (below_step (by repeat (first | (with_reducible first | exact HB.out | apply below_alloc | apply pw_below_drewN | apply below_drew1) | exact HB.out)) hb); clear HO_5; clear HB; have HO_5 := n0_; have HO607 := n1_; have HB := n2_; clear n0_ n1_ n2_; (try clear hb); (try clear hb2); (try clear hk); (try clear hi); (try clear ho0)))
    go_ret
    exact ⟨_, by first | rfl | (simp [errW_none, errW_some] <;> rfl) | (simp [*, errW_none, errW_some] <;> rfl), HOI_.out, by repeat (first | (with_reducible first | exact HB.out | apply below_alloc | apply pw_below_drewN | apply below_drew1) | exact HB.out)⟩
end Go.Proofs.Ytdhgeondbnpeoaa.P
namespace Go.Proofs.Ytdhgeondbnpeoaa.Ext
open Go.RowKit Go.Proofs.YtdhgeondbnpeoaaW.PrintWords Go.Proofs.YtdhgeondbnpeoaaW.PrintLast Go.Proofs.YtdhgeondbnpeoaaW.PrintMore
attribute [local go_sem] max2_int min2_int max_two min_two max_three min_three max_four min_four
def swapL (x y : Int) (out : List Int) : List Int := out.map fun z => if z = x then y else z
def swapTo (x y : Int) (out : List Int) (j : Nat) : List Int := swapL x y (out.take j) ++ out.drop j
def joinStep (b : List Int) (i k : Nat) (out : List Int) : List Int := if b.getD i 0 ≠ b.getD k 0 ∨ out.getD i 0 = out.getD k 0 then out else swapL (out.getD i 0) (out.getD k 0) out
def joinIn (b : List Int) (i : Nat) : Nat → List Int → List Int
 |0, o => o
 |k + 1, o => joinStep b i k (joinIn b i k o)
def joinAll (b : List Int) : Nat → List Int → List Int
 |0, o => o
 |i + 1, o => joinIn b i i (joinAll b i o)
def aboveL (a b : List Int) : List Int := numL (joinAll b b.length a)
theorem swapL_len (x y : Int) (o : List Int) : (swapL x y o).length = o.length := by simp [swapL]
theorem swapTo_len (x y : Int) (o : List Int) (j : Nat) : (swapTo x y o j).length = o.length := by simp [swapTo, swapL_len]; omega
theorem joinStep_len (b : List Int) (i k : Nat) (o : List Int) : (joinStep b i k o).length = o.length := by unfold joinStep; split <;> simp [swapL_len]
theorem joinIn_len (b : List Int) (i : Nat) : ∀ (k : Nat) (o : List Int), (joinIn b i k o).length = o.length
 |0, _ => rfl
 |k + 1, o => (joinStep_len b i k _).trans (joinIn_len b i k o)
theorem joinAll_len (b : List Int) : ∀ (i : Nat) (o : List Int), (joinAll b i o).length = o.length
 |0, _ => rfl
 |i + 1, o => (joinIn_len b i i _).trans (joinAll_len b i o)
theorem swapTo_zero (x y : Int) (o : List Int) : swapTo x y o 0 = o := by simp [swapTo, swapL]
theorem swapTo_all (x y : Int) (o : List Int) : swapTo x y o o.length = swapL x y o := by simp [swapTo]
theorem swapTo_at (x y : Int) {o : List Int} {j : Nat} (h : j < o.length) : (swapTo x y o j).getD j 0 = o.getD j 0 := by
 have h1 : (swapL x y (o.take j)).length = j := by rw [swapL_len, List.length_take]; omega
 unfold swapTo
 rw [List.getD_eq_getElem?_getD, List.getElem?_append_right (by omega), h1, Nat.sub_self, List.getElem?_drop, List.getD_eq_getElem?_getD, Nat.add_zero]
theorem swapTo_succ (x y : Int) {o : List Int} {j : Nat} (h : j < o.length) : swapTo x y o (j + 1) = (swapTo x y o j).set j (if o.getD j 0 = x then y else o.getD j 0) := by
 have h1 : (swapL x y (o.take j)).length = j := by rw [swapL_len, List.length_take]; omega
 unfold swapTo
 rw [List.set_append, if_neg (by omega), h1, Nat.sub_self, List.drop_eq_getElem_cons h, List.set_cons_zero, List.take_succ_eq_append_getElem h]
 rw [List.getD_eq_getElem?_getD, List.getElem?_eq_getElem h]
 unfold swapL
 rw [List.map_append, List.append_assoc]
 rfl
theorem swapTo_same (x y : Int) {o : List Int} {j : Nat} (h : j < o.length) (hne : o.getD j 0 ≠ x) : swapTo x y o (j + 1) = swapTo x y o j := by
 rw [swapTo_succ x y h, if_neg hne, ← swapTo_at x y h]
 have hl : j < (swapTo x y o j).length := by rw [swapTo_len]; exact h
 rw [List.getD_eq_getElem?_getD, List.getElem?_eq_getElem hl, Option.getD_some, List.set_getElem_self]
theorem mem_join {b : List Int} {p : Int → Prop} : ∀ {i : Nat} {o : List Int}, (∀ x ∈ o, p x) → p 0 → ∀ x ∈ joinAll b i o, p x := by
 have hg : ∀ {o : List Int} (i : Nat), (∀ x ∈ o, p x) → p 0 → p (o.getD i 0) := by
  intro o i h h0
  rw [List.getD_eq_getElem?_getD]
  cases hi : o[i]? with
  |none => exact h0
  |some v => exact h v (List.mem_of_getElem? hi)
 have hs : ∀ {i k : Nat} {o : List Int}, (∀ x ∈ o, p x) → p 0 → ∀ x ∈ joinStep b i k o, p x := by
  intro i k o h h0 x hx
  unfold joinStep at hx
  split at hx
  ·exact h x hx
  ·simp only [swapL, List.mem_map] at hx
   obtain ⟨z, hz, rfl⟩ := hx
   split
   ·exact hg k h h0
   ·exact h z hz
 have hi : ∀ {i : Nat} (k : Nat) {o : List Int}, (∀ x ∈ o, p x) → p 0 → ∀ x ∈ joinIn b i k o, p x := by
  intro i k
  induction k with
  |zero => intro o h _; exact h
  |succ k ih => intro o h h0; exact hs (ih h h0) h0
 intro i
 induction i with
 |zero => intro o h _; exact h
 |succ i ih => intro o h h0; exact hi i (ih h h0) h0
set_option maxHeartbeats 8000000 in
set_option maxRecDepth 100000 in
theorem above_all (A : Option Addr) (c : Nat) (la : List Int) (B : Option Addr) (cb : Nat) (lb : List Int) (w : World) (hra : Kd.C (Kd.int .i64) w A la.length la) (hrb : Kd.C (Kd.int .i64) w B lb.length lb) (hab : la.length = lb.length) (hok : ∀ x ∈ la, In64 x) (hL : la.length < 17592186044416) :
  Calls Tra.prog 65 #[.slice A la.length c, .slice B lb.length cb] w fun e w' => ∃ v, e = .returned v ∧ OwnI w' w.heap.size v (aboveL la lb) ∧ Below w.heap.size w w' := by
 have HRB := As0.mk hrb
 have HL := As0.mk hL
 have HAB := As0.mk hab
 have HOK := As0.mk (mem_join (b := lb) (i := lb.length) hok (by unfold In64; omega))
 have HA := As0.mk (clone_calls A c la w hra hL)
 clear hra hrb hL hab hok
 go_enter Tra.func65, Tra.ntmps65
 go_wp2_with fail
 refine HA.out.mono ?_
 rintro e w1 ⟨v5, rfl, hR5, hB1⟩
 have HR1 := As0.mk hR5
 have HB1 := As0.mk hB1
 clear hR5 hB1 HA
 go_wp2_with fail
 go_loopw [16] (fun v16 W => ∃ i : Nat, v16 = .int .i64 i ∧ As0 (i ≤ lb.length) ∧ As0 (Kd.R (Kd.int .i64) 3 W w.heap.size (fun _ => True) v5 (joinAll lb i la)) ∧ As0 (Below w.heap.size w W)) (fun v16 _ => (lb.length - intOf v16).toNat)
 case atStart => exact ⟨0, rfl, ⟨Nat.zero_le _⟩, HR1, HB1⟩
 case round =>
  obtain ⟨i, rfl, hi, hR, hB⟩ := hrel
  have hi' := hi.out
  have hab := HAB.out
  have hLo : lb.length < 17592186044416 := by have := HL.out; omega
  by_cases hlt : i < lb.length
  ·obtain ⟨g, cap, hv, hbg, hgl, _⟩ := Kd.R_form hR.out (by rw [joinAll_len]; omega)
   rw [joinAll_len, hab] at hv
   subst hv
   have HLEN := As0.mk (joinAll_len lb i la)
   have HI := As0.mk hlt
   clear hab
   go_wp2_with fail
   go_loopw [20] (fun v20 W => ∃ k : Nat, v20 = .int .i64 k ∧ As0 (k ≤ i) ∧ As0 (Kd.R (Kd.int .i64) 3 W w.heap.size (fun _ => True) (.slice (some ⟨g, 0, none⟩) lb.length cap) (joinIn lb i k (joinAll lb i la))) ∧ As0 (Below w.heap.size w W)) (fun v20 _ => (i - intOf v20).toNat)
   case atStart => exact ⟨0, rfl, ⟨Nat.zero_le _⟩, hR, hB⟩
   case round =>
    clear hR hB
    obtain ⟨k, rfl, hk, hR, hB⟩ := hrel
    have hk' := hk.out
    by_cases hki : k < i
    ·have hkl : k < lb.length := by omega
     have hln := joinIn_len lb i k (joinAll lb i la)
     have hln2 := HLEN.out
     have hab := HAB.out
     obtain ⟨o, ho⟩ : ∃ o, o = joinIn lb i k (joinAll lb i la) := ⟨_, rfl⟩
     rw [← ho] at hR hln
     have HOE := As0.mk ho
     clear ho
     obtain ⟨hci, hfi⟩ := Kd.R_celln 0 hR.out (i : Int) (by omega) (by omega)
     obtain ⟨hck, hfk⟩ := Kd.R_celln 0 hR.out (k : Int) (by omega) (by omega)
     obtain ⟨bd, rfl, hbi⟩ := Kd.at_int (Kd.C_below HRB.out hB.out) (i : Int) (by omega) (by omega)
     obtain ⟨bd', hbe, hbk⟩ := Kd.at_int (Kd.C_below HRB.out hB.out) (k : Int) (by omega) (by omega)
     injection hbe with hbe
     subst hbe
     simp only [Int.toNat_natCast, rdOf, rd] at hci hck hbi hbk
     obtain ⟨oi, hoi⟩ : ∃ x, x = o.getD i 0 := ⟨_, rfl⟩
     obtain ⟨ok, hok⟩ : ∃ x, x = o.getD k 0 := ⟨_, rfl⟩
     obtain ⟨bi, hbi'⟩ : ∃ x, x = lb.getD i 0 := ⟨_, rfl⟩
     obtain ⟨bk, hbk'⟩ : ∃ x, x = lb.getD k 0 := ⟨_, rfl⟩
     replace hci : wr.cell? ⟨g, i, none⟩ = some (.int .i64 oi) := by rw [hoi]; exact hci
     replace hck : wr.cell? ⟨g, k, none⟩ = some (.int .i64 ok) := by rw [hok]; exact hck
     rw [← hbi'] at hbi
     rw [← hbk'] at hbk
     have HST := As0.mk (show joinIn lb i (k + 1) (joinAll lb i la) = if bi ≠ bk ∨ oi = ok then o else swapL oi ok o from by rw [hbi', hbk', hoi, hok, HOE.out]; rfl)
     have HOI := As0.mk hoi
     have HOK2 := As0.mk hok
     have HLN := As0.mk (hln.trans hln2)
     clear hoi hok hbi' hbk' hfi hfk hln hln2
     by_cases hbb : bi = bk
     ·by_cases hoo : oi = ok
      ·subst hbb hoo
       have HST2 := As0.mk (HST.out.trans (if_pos (.inr rfl)))
       clear HST
       go_wp2_with fail
       go_quiet (fail)
       go_wp2_with fail
       go_roundw
       case rel => exact ⟨k + 1, by go_num, ⟨by omega⟩, ⟨by rw [HST2.out]; exact Kd.R_drewN hR.out _⟩, ⟨pw_below_drewN hB.out _⟩⟩
       case measure => simp [intOf]; omega
      ·subst hbb
       have HST2 := As0.mk (HST.out.trans (if_neg (by rintro (h | h); exact h rfl; exact hoo h)))
       have hoo1 : (oi == ok) = false := beq_eq_false_iff_ne.mpr hoo
       clear HST
       go_wp2_with fail
       go_quiet (fail)
       have HRq := As0.mk (Kd.R_drewN hR.out nq)
       have HBq := As0.mk (pw_below_drewN hB.out nq)
       go_wp2_with fail
       go_quiet (fail)
       have HR0 := As0.mk (show Kd.R (Kd.int .i64) 3 _ w.heap.size (fun _ => True) (.slice (some ⟨g, 0, none⟩) lb.length cap) (swapTo oi ok o 0) from by rw [swapTo_zero]; exact Kd.R_drewN HRq.out nq)
       have HB0 := As0.mk (pw_below_drewN HBq.out nq)
       clear hci hck hbi hbk hR hB HRq HBq
       go_wp2_with fail
       go_loopw [53] (fun v53 W => ∃ j : Nat, v53 = .int .i64 j ∧ As0 (j ≤ lb.length) ∧ As0 (Kd.R (Kd.int .i64) 3 W w.heap.size (fun _ => True) (.slice (some ⟨g, 0, none⟩) lb.length cap) (swapTo oi ok o j)) ∧ As0 (Below w.heap.size w W)) (fun v53 _ => (lb.length - intOf v53).toNat)
       case atStart => exact ⟨0, rfl, ⟨Nat.zero_le _⟩, ⟨by first | exact HR0.out | (have h := HR0.out; rwa [World.drewN_drewN] at h)⟩, ⟨by first | exact HB0.out | (have h := HB0.out; rwa [World.drewN_drewN] at h)⟩⟩
       case round =>
        clear HR0 HB0
        obtain ⟨j, rfl, hj, hR, hB⟩ := hrel
        have hj' := hj.out
        by_cases hjl : j < lb.length
        ·have hol : j < o.length := by have := HLN.out; have := HAB.out; omega
         obtain ⟨hcj, hfj⟩ := Kd.R_celln 0 hR.out (j : Int) (by omega) (by omega)
         simp only [Int.toNat_natCast] at hcj hfj
         obtain ⟨oj, hoj⟩ : ∃ x, x = o.getD j 0 := ⟨_, rfl⟩
         replace hcj : wr.cell? ⟨g, j, none⟩ = some (.int .i64 oj) := by rw [hoj, ← swapTo_at oi ok hol]; exact hcj
         by_cases hjo : oj = oi
         ·have HP := Kd.R_putn hR.out (j : Int) ok
          rw [Int.toNat_natCast, show (swapTo oi ok o j).set j ok = swapTo oi ok o (j + 1) from by rw [swapTo_succ oi ok hol, ← hoj, if_pos hjo]] at HP
          have HP2 := As0.mk HP
          have HB2 := As0.mk (hB.out.setCell (p := ⟨g, j, none⟩) hbg (.int .i64 ok))
          subst hjo
          clear HP hoj hol
          go_wp2_with fail
          go_roundw
          case rel => exact ⟨j + 1, by go_num, ⟨by omega⟩, HP2, HB2⟩
          case measure => simp [intOf]; omega
         ·have HP2 := As0.mk (show Kd.R (Kd.int .i64) 3 wr w.heap.size (fun _ => True) (.slice (some ⟨g, 0, none⟩) lb.length cap) (swapTo oi ok o (j + 1)) from by rw [swapTo_same oi ok hol (by rw [← hoj]; exact hjo)]; exact hR.out)
          have hjo1 : (oj == oi) = false := beq_eq_false_iff_ne.mpr hjo
          clear hoj hol
          go_wp2_with fail
          go_roundw
          case rel => exact ⟨j + 1, by go_num, ⟨by omega⟩, HP2, hB⟩
          case measure => simp [intOf]; omega
        ·have hje : j = lb.length := by omega
         have HRn := As0.mk (show Kd.R (Kd.int .i64) 3 wr w.heap.size (fun _ => True) (.slice (some ⟨g, 0, none⟩) lb.length cap) (joinIn lb i (k + 1) (joinAll lb i la)) from by
          rw [HST2.out, ← swapTo_all, HLN.out, HAB.out]; have h := hR.out; rw [hje] at h; exact h)
         clear hje
         go_wp2_with fail
         go_roundw
         case rel => exact ⟨k + 1, by go_num, ⟨by omega⟩, HRn, hB⟩
         case measure => simp [intOf]; omega
     ·have HST2 := As0.mk (HST.out.trans (if_pos (.inl hbb)))
      have hbb1 : (bi == bk) = false := beq_eq_false_iff_ne.mpr hbb
      have hbb2 : (bi != bk) = true := bne_iff_ne.mpr hbb
      clear HST
      go_wp2_with fail
      go_quiet (fail)
      go_wp2_with fail
      go_roundw
      case rel => exact ⟨k + 1, by go_num, ⟨by omega⟩, ⟨by rw [HST2.out]; exact Kd.R_drewN hR.out _⟩, ⟨pw_below_drewN hB.out _⟩⟩
      case measure => simp [intOf]; omega
    ·have hke : k = i := by omega
     have HRn := As0.mk (show Kd.R (Kd.int .i64) 3 wr w.heap.size (fun _ => True) (.slice (some ⟨g, 0, none⟩) lb.length cap) (joinAll lb (i + 1) la) from by have := hR.out; rw [hke] at this; exact this)
     clear hke
     go_wp2_with fail
     have hii := HI.out
     go_roundw
     case rel => exact ⟨i + 1, by go_num, ⟨by have := HI.out; omega⟩, HRn, hB⟩
     case measure => have := HI.out; simp [intOf]; omega
  ·have hke : i = lb.length := by omega
   have HR := As0.mk (show Kd.R (Kd.int .i64) 3 wr w.heap.size (fun _ => True) v5 (joinAll lb lb.length la) from hke ▸ hR.out)
   clear hke
   obtain ⟨Ao, co, rfl, hco, hC⟩ := Kd.R_reads HR.out
   have HN := As0.mk (num_all Ao co _ wr hC HOK.out (by rw [joinAll_len]; exact HL.out))
   clear hC
   go_wp2_with fail
   refine HN.out.mono ?_
   rintro e w2 ⟨v, rfl, hO, hb⟩
   have HO := As0.mk (hO.lower hB.out.size)
   have HB2 := As0.mk (below_step hB.out hb)
   clear hO hb HN
   go_wp2_with fail
   go_ret
   exact ⟨_, rfl, HO.out, HB2.out⟩
end Go.Proofs.Ytdhgeondbnpeoaa.Ext
namespace Go.Proofs.Ytdhgeondbnpeoaa.Ca
open Go.RowKit Go.Mt Go.Proofs.Ytdhgeondbnpeoaa.P Go.Proofs.YtdhgeondbnpeoaaW.PrintWords Go.Proofs.YtdhgeondbnpeoaaW.PrintLast Go.Proofs.YtdhgeondbnpeoaaW.PrintMore
theorem blk_C {w : World} {b : Nat} {xs : List Int} (h : IntBlk w b xs) (hn : xs.length ≤ 9223372036854775807) : Kd.C (Kd.int .i64) w (some ⟨b, 0, none⟩) xs.length xs := by
 obtain ⟨cs, fr, h1, h2, h3⟩ := h
 refine Kd.C_of_reads (d := (0 : Int)) (h1 := fun _ => rfl) ⟨rfl, hn, fun _ => ⟨_, rfl, fun j hj => ?_⟩⟩
 rw [add_plain, cell_of_row w b j cs 3 fr h1]
 refine h3 j _ ?_
 rw [List.getD_eq_getElem?_getD, List.getElem?_eq_getElem hj]
 rfl
theorem blk_V {w : World} {b c e N : Nat} {xs : List Int} (h : IntBlk w b xs) (hn : xs.length ≤ 9223372036854775807) (hc : xs.length ≤ c) : Kd.V (Kd.int .i64) e w N (fun _ => True) (.slice (some ⟨b, 0, none⟩) xs.length c) xs :=
 Kd.V_mk hc fun W' hW => blk_C (h.of_get (hW b trivial h.lt)) hn
theorem resI_of {w : World} {N : Nat} {v : Value} {xs : List Int} (h : Ext.OwnI w N v xs) (hx : 0 < xs.length) : ResI N w v xs := by
 obtain ⟨⟨h1, h2⟩, h3⟩ := h
 rcases h2 with ⟨_, h0⟩ | ⟨g, cap, cur, rfl, hb, hg, hn, hm, hs, ht⟩
 ·omega
 ·refine ⟨g, cap, rfl, hb, cur, (0, 0), hg, fun c hc => ?_, fun i x hi => ?_⟩
  ·obtain ⟨y, rfl⟩ := h3 g cur _ rfl hg c hc
   rfl
  ·have hlt : i < xs.length := (List.getElem?_eq_some_iff.1 hi).1
   have e : (nums IntKind.i64 xs)[i]? = some (Value.int .i64 x) := by simp [nums, hi]
   rw [← ht, List.getElem?_take, if_pos (by omega)] at e
   simpa using e
theorem same_l (xs : List Int) (hn : xs.length ≤ 4) : ∀ (n k i : Nat), n = xs.length - i → n < k → w6_same.l0 k xs xs (i : Int) = some true
 |n, 0, i, _, h => absurd h (by omega)
 |n, k + 1, i, h, hk => by
  unfold w6_same.l0
  by_cases hi : (i : Int) < (xs.length : Int)
  ·rw [if_pos hi, if_pos (by omega), if_pos hi, if_pos rfl, show wrap64 ((i : Int) + 1) = ((i + 1 : Nat) : Int) by unfold wrap64; omega]
   exact same_l xs hn (n - 1) k (i + 1) (by omega) (by omega)
  ·rw [if_neg hi]
theorem same_self (xs : List Int) (hn : xs.length ≤ 4) : w6_same.f 60 xs xs = some true := by
 unfold w6_same.f
 rw [if_pos rfl]
 exact same_l xs hn _ 60 0 rfl (by omega)
theorem two_C {u : World} {b b1 b2 : Nat} {xs ys : List Int} (h1 : IntBlk u b1 xs) (h2 : IntBlk u b2 ys) (hx : xs.length = 4) (hy : ys.length = 4) (hb : u.heap[b]? = some (.cells #[.slice (some ⟨b1, 0, none⟩) 4 4, .slice (some ⟨b2, 0, none⟩) 4 4] 29 (0, 2))) : Kd.C (Kd.slice 3 (Kd.int .i64)) u (some ⟨b, 0, none⟩) 2 [xs, ys] := by
 refine ⟨rfl, by decide, fun _ => ⟨_, rfl, fun j p hj => ?_⟩⟩
 have e : (Kd.slice 3 (Kd.int .i64)).sz = 1 := rfl
 have key : ∀ (c : Nat) (zs : List Int) (j : Nat), IntBlk u c zs → zs.length = 4 → (#[Value.slice (some ⟨b1, 0, none⟩) 4 4, .slice (some ⟨b2, 0, none⟩) 4 4] : Array Value)[j]? = some (.slice (some ⟨c, 0, none⟩) 4 4) → ∃ c, c.length = 1 ∧ (Kd.slice 3 (Kd.int .i64)).K u zs c ∧ ∀ i v, c[i]? = some v → u.cell? ((⟨b, 0, none⟩ : Addr).add (j * 1 + i)) = some v := by
  intro c zs j hc hz hj
  refine ⟨[.slice (some ⟨c, 0, none⟩) 4 4], rfl, ⟨some ⟨c, 0, none⟩, 4, by rw [hz], by omega, blk_C hc (by omega)⟩, fun i v hi => ?_⟩
  have hi0 : i = 0 := by
   have := (List.getElem?_eq_some_iff.1 hi).1
   simp at this
   omega
  subst hi0
  rw [add_plain, cell_of_row u b _ _ 29 _ hb, Nat.mul_one, Nat.add_zero, hj]
  simpa using hi
 rcases j with _ | _ | j
 ·injection hj with hj
  subst hj
  exact key b1 _ 0 h1 hx rfl
 ·have hj' : ys = p := by simpa using hj
  subst hj'
  exact key b2 _ 1 h2 hy rfl
 ·simp at hj
theorem alK : AlK Tra.prog where
 c36 u b h := (mobs_Rank.calls 60 (fun _ => True) (some ⟨b, 0, none⟩) 3 [0, 1, 1] 3 0 u (blk_V h (by decide) (by decide)) (by decide +kernel)).mono fun e w' hp => hp.1
 c25 u b h := (mobs_Between.flat 60 (fun _ => True) (some ⟨b, 0, none⟩) 3 [0, 0, 1] [0, 1, 1] 0 u (blk_V h (by decide) (by decide)) (by decide +kernel)).mono fun e w' ⟨v, he, hO, _⟩ => ⟨v, he, resI_of hO (by decide)⟩
 c16 u := (mobs_Count.calls 60 4 2 7 0 u (by decide +kernel)).mono fun e w' hp => hp.1
 c18 u := (mobs_Plain.calls 60 4 2 6 0 u (by decide +kernel)).mono fun e w' hp => hp.1
 c23 u b h := (mobs_Crossed.calls 60 (fun _ => True) (some ⟨b, 0, none⟩) 4 [0, 1, 0, 1] 0 1 2 3 true 0 u (blk_V h (by decide) (by decide)) (by decide +kernel)).mono fun e w' hp => hp.1
 c27 u b1 b2 c1 c2 xs h1 h2 hn := (w6_same.nocap 60 (some ⟨b1, 0, none⟩) c1 xs (some ⟨b2, 0, none⟩) c2 xs true u (blk_C h1 (by omega)) (blk_C h2 (by omega)) (same_self xs hn)).mono fun e w' hp => hp.1
 c49 u b b1 b2 h1 h2 hb := (mobs_read.calls 60 (some ⟨b, 0, none⟩) 2 [[0, 0, 1, 1], [0, 1, 1, 0]] 0 u (two_C h1 h2 rfl rfl hb) (by decide) (by decide +kernel)).mono fun e w' hp => hp.1
 c63 u b1 b2 h1 h2 := (mobs_below.flat 60 (some ⟨b1, 0, none⟩) 4 [0, 0, 1, 1] (some ⟨b2, 0, none⟩) 4 [0, 1, 1, 0] [0, 1, 2, 3] u (blk_C h1 (by decide)) (by decide) (blk_C h2 (by decide)) (by decide) (by decide +kernel)).mono fun e w' ⟨v, he, hO, _⟩ => ⟨v, he, resI_of hO (by decide)⟩
 c65 u b1 b2 h1 h2 := by
  refine (Ext.above_all (some ⟨b1, 0, none⟩) 4 [0, 0, 1, 1] (some ⟨b2, 0, none⟩) 4 [0, 1, 1, 0] u (blk_C h1 (by decide)) (blk_C h2 (by decide)) rfl (by decide) (by decide)).mono fun e w' ⟨v, he, hO, _⟩ => ⟨v, he, ?_⟩
  have e1 : Ext.aboveL [0, 0, 1, 1] [0, 1, 1, 0] = [0, 0, 0, 0] := by decide +kernel
  rw [e1] at hO
  exact resI_of hO (by decide)
end Go.Proofs.Ytdhgeondbnpeoaa.Ca
namespace Go.Proofs.Ytdhgeondbnpeoaa.Ca
open Go.RowKit Go.Mt Go.Tr Go.Conc Go.ConcN
theorem below_of {W w : World} (h : Kept W.heap.size W w) : Below W.heap.size W w := ⟨h.os, h.tape, h.output, h.size, h.old⟩
theorem law_run {f : FuncId} {fn : Func} {args : Array Value} {W : World} (hi : Try.prog.inits.idxOf? f = none) (hf : Tra.prog.funcs[f]? = some fn) (hS : S1 f = true) (hT : T1 f = true) (hres : tmpRes fn = true) (h1 : fn.results.size = 1) (ha : args.all flatB = true)
  (hc : ∀ u, Calls Tra.prog f args u fun e _ => e = .returned (.bool true)) :
  ∃ M last o w' t', runNT Try.prog (M + 1) (solo (G (Frame.enter Try.prog f args .normal) []) W) #[] = (.ended o w', t') ∧ runN Try.prog M (solo (G (Frame.enter Try.prog f args .normal) []) W) = .next last ∧ step Try.prog last = .ended o w' ∧
   Go.Conc.Good Try.prog (fun v' w' => v' = .bool true ∧ Below W.heap.size W w') last o w' t' := by
 have hrel : RelPs ⟨W.heap.size, fun _ => False, fun _ => False⟩ [] args args := ⟨rfl, fun i v v' h1 h2 => by
  rw [h1] at h2
  obtain rfl := Option.some.inj h2
  exact .cell (.flat (Array.all_eq_true_iff_forall_mem.1 ha _ (Array.mem_iff_getElem?.2 ⟨i, h1⟩)))⟩
 obtain ⟨M, last, o, w', t', h1, h2, h3, h4⟩ := hyb_run (Rd := fun _ => False) (W := W) Tra.same Tra.calm1 Tra.calmT (special_alive Tra.duo Tra.calm1 alK Tra.als res23 Tra.stand Tra.t20 (fun b h => h.elim)) hi hf hS hT hres hrel (wrel_fz rfl rfl (Nat.le_refl _) (fun b h => h.elim)) (Post := fun v _ => v = .bool true) (fun _ _ _ h => h) (fun τ => (hc _).mono fun e _ h => ⟨_, h, rfl⟩)
 obtain ⟨v', e0, ⟨L, v, u, hv, _, hk, rfl⟩, r0⟩ := h4
 refine ⟨M, last, o, w', t', h1, h2, h3, v', e0, ⟨?_, below_of hk⟩, r0⟩
 split at hv
 ·exact relP_flat hv rfl
 ·exact relV_flat hv rfl
end Go.Proofs.Ytdhgeondbnpeoaa.Ca
namespace Go.Proofs.Ytdhgeondbnpeoaa.Pure
open Go.RowKit Go.Proofs.Ytdhgeondbnpeoaa.P Go.Proofs.YtdhgeondbnpeoaaW.PrintWords Go.Proofs.YtdhgeondbnpeoaaW.PrintLast
theorem stirling_in : (List.range 12).all (fun i => (List.range (i + 1)).all fun j => w6_MobsStirling.f 3000 (i : Int) (j : Int) == some true) = true := by decide +kernel
theorem u8_range {x : Int} (h : (Lit.int .u8 x).wf = true) : 0 ≤ x ∧ x ≤ 255 := by
 have h1 : IntKind.u8.min = 0 := by decide
 have h2 : IntKind.u8.max = 255 := by decide
 simp only [Lit.wf, h1, h2, Bool.and_eq_true, decide_eq_true_eq] at h
 omega
theorem tmod_nat {x n : Int} (h : 0 ≤ x) : Int.tmod x n = x % n := Int.tmod_eq_emod_of_nonneg h
theorem w64 {x : Int} (h0 : -1000 ≤ x) (h1 : x ≤ 1000) : wrap64 x = x := by unfold wrap64; omega
theorem stirling_same (k : Nat) {a0 a1 b0 b1 : Int} (h0 : Int.tmod a0 12 = Int.tmod b0 12) (h1 : Int.tmod (wrap64 a1) (wrap64 (1 + wrap64 (Int.tmod b0 12))) = Int.tmod (wrap64 b1) (wrap64 (1 + wrap64 (Int.tmod b0 12)))) : w6_MobsStirling.f k a0 a1 = w6_MobsStirling.f k b0 b1 := by
 unfold w6_MobsStirling.f
 rw [h0, h1]
theorem MobsStirling : w6_MobsStirling.Pure := by
 intro a0 a1 w0 w1
 obtain ⟨p0, q0⟩ := u8_range w0
 obtain ⟨p1, q1⟩ := u8_range w1
 refine ⟨3000, ?_⟩
 have hi : (a0 % 12).toNat < 12 := by omega
 have hj : (a1 % (1 + a0 % 12)).toNat < (a0 % 12).toNat + 1 := by
  have h1 := Int.emod_nonneg a1 (show 1 + a0 % 12 ≠ 0 by omega)
  have h2 := Int.emod_lt_of_pos a1 (show 0 < 1 + a0 % 12 by omega)
  omega
 have h := beq_iff_eq.1 (List.all_eq_true.1 (List.all_eq_true.1 stirling_in _ (List.mem_range.2 hi)) _ (List.mem_range.2 hj))
 have h1 := Int.emod_nonneg a1 (show 1 + a0 % 12 ≠ 0 by omega)
 have h2 := Int.emod_lt_of_pos a1 (show 0 < 1 + a0 % 12 by omega)
 rw [Int.toNat_of_nonneg (by omega), Int.toNat_of_nonneg h1] at h
 rw [← h]
 have e12 : a0 % 12 % 12 = a0 % 12 := by omega
 refine stirling_same _ ?_ ?_
 ·rw [tmod_nat p0, tmod_nat (by omega), e12]
 ·rw [tmod_nat (show 0 ≤ a0 % 12 by omega), e12, w64 (x := a0 % 12) (by omega) (by omega), w64 (x := 1 + a0 % 12) (by omega) (by omega), w64 (x := a1) (by omega) (by omega), w64 (x := a1 % (1 + a0 % 12)) (by omega) (by omega), tmod_nat p1, tmod_nat h1, Int.emod_emod_of_dvd _ (Int.dvd_refl _)]
end Go.Proofs.Ytdhgeondbnpeoaa.Pure
