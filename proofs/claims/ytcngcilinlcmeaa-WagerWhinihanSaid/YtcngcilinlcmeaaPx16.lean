/- Printed by group.py, a program of this session, over the place's print: functions of the program as Lean functions, and proofs that the machine's calls answer as they do. -/
import Derived.Test.YtcngcilinlcmeaaPx0
import Derived.Test.YtcngcilinlcmeaaPx5
import Derived.Test.YtcngcilinlcmeaaPx6
import Derived.Test.YtcngcilinlcmeaaPx8
import Derived.Test.YtcngcilinlcmeaaPx15
namespace Go.Proofs.Ytcngcilinlcmeaa.P
open Go.RowKit Go.Proofs.YtcngcilinlcmeaaW.PrintWords Go.Proofs.YtcngcilinlcmeaaW.PrintLast Go.Proofs.YtcngcilinlcmeaaW.PrintMore
attribute [local go_sem] max2_int min2_int max_two min_two max_three min_three max_four min_four   -- for this text's walks alone
set_option linter.unusedVariables false
set_option linter.unusedSimpArgs false

/-! ### drovewaylaw07_WagerWhinihan: function 10 -/
mutual
def drovewaylaw07_WagerWhinihan.j0 : Nat → Int → Int → List Int → Int → Int → Int → Int → Bool → Option (Bool)
  | 0, _, _, _, _, _, _, _, _ => none
  | k + 1, x5, x6, x7, x9, x10, x11, x12, x43 => if x43 = true then (some false) else (if x5 = 0 then (drovewaylaw07_WagerWhinihan.j1 k x5 x7 x9 x10 x11 x12 true) else (if 0 ≤ (wrap64 ((x7.length : Int) - 1)) then (if (wrap64 ((x7.length : Int) - 1)) < (x7.length : Int) then (drovewaylaw07_WagerWhinihan.j1 k x5 x7 x9 x10 x11 x12 (decide ((rd x7 (wrap64 ((x7.length : Int) - 1))) > x6))) else (none)) else (none)))
def drovewaylaw07_WagerWhinihan.j1 : Nat → Int → List Int → Int → Int → Int → Int → Bool → Option (Bool)
  | 0, _, _, _, _, _, _, _ => none
  | k + 1, x5, x7, x9, x10, x11, x12, x55 => if x55 = true then (if x10 = 10 then (if x9 = 0 then (drovewaylaw07_WagerWhinihan.j2 k x5 x7 x11 x12) else (some false)) else (some false)) else (if x10 = 0 then (if 0 ≤ (wrap64 ((x7.length : Int) - 1)) then (if (wrap64 ((x7.length : Int) - 1)) < (x7.length : Int) then (if x9 = (rd x7 (wrap64 ((x7.length : Int) - 1))) then (drovewaylaw07_WagerWhinihan.j2 k x5 x7 x11 x12) else (some false)) else (none)) else (none)) else (some false))
def drovewaylaw07_WagerWhinihan.j2 : Nat → Int → List Int → Int → Int → Option (Bool)
  | 0, _, _, _, _ => none
  | k + 1, x5, x7, x11, x12 => if x5 < 2 then (if x12 = 2 then ((drovewaylaw07_alive.f).bind fun t363 => (some t363)) else (some false)) else ((drovewaylaw07_index.f k x5).bind fun t364 => (if t364 ≥ 0 then (if x12 = 10 then (if x11 = 0 then ((drovewaylaw07_alive.f).bind fun t365 => (some t365)) else (some false)) else (some false)) else (if x12 = 0 then (if 0 ≤ (wrap64 ((x7.length : Int) - 1)) then (if (wrap64 ((x7.length : Int) - 1)) < (x7.length : Int) then (if x11 = (rd x7 (wrap64 ((x7.length : Int) - 1))) then ((drovewaylaw07_alive.f).bind fun t367 => (some t367)) else (some false)) else (none)) else (none)) else (some false))))
end
def drovewaylaw07_WagerWhinihan.f (k : Nat) (a0 : Int) (a1 : Int) : Option (Bool) := (drovewaylaw07_heap.f a0).bind fun t351 => ((drovewaylaw07_heap.f a1).bind fun t352 => ((wager_Parts.f k t351).bind fun bt353 => ((wager_Nim.f k t351 t352).bind fun bt357 => ((wager_Whole.f k t351).bind fun bt359 => (if bt353.2 = 0 then (if t351 > 0 then (drovewaylaw07_WagerWhinihan.j0 k t351 t352 bt353.1 bt357.1 bt357.2 bt359.1 bt359.2 ((bt353.1.length : Int) == 0)) else (drovewaylaw07_WagerWhinihan.j0 k t351 t352 bt353.1 bt357.1 bt357.2 bt359.1 bt359.2 false)) else (drovewaylaw07_WagerWhinihan.j0 k t351 t352 bt353.1 bt357.1 bt357.2 bt359.1 bt359.2 true))))))
theorem drovewaylaw07_WagerWhinihan.mono_l : ∀ k, (∀ y0 y1 y2 y3 y4 y5 y6 y7, LeO (drovewaylaw07_WagerWhinihan.j0 k y0 y1 y2 y3 y4 y5 y6 y7) (drovewaylaw07_WagerWhinihan.j0 (k + 1) y0 y1 y2 y3 y4 y5 y6 y7)) ∧ (∀ y0 y1 y2 y3 y4 y5 y6, LeO (drovewaylaw07_WagerWhinihan.j1 k y0 y1 y2 y3 y4 y5 y6) (drovewaylaw07_WagerWhinihan.j1 (k + 1) y0 y1 y2 y3 y4 y5 y6)) ∧ (∀ y0 y1 y2 y3, LeO (drovewaylaw07_WagerWhinihan.j2 k y0 y1 y2 y3) (drovewaylaw07_WagerWhinihan.j2 (k + 1) y0 y1 y2 y3))
  | 0 => ⟨fun _ _ _ _ _ _ _ _ r h => by simp [drovewaylaw07_WagerWhinihan.j0] at h, fun _ _ _ _ _ _ _ r h => by simp [drovewaylaw07_WagerWhinihan.j1] at h, fun _ _ _ _ r h => by simp [drovewaylaw07_WagerWhinihan.j2] at h⟩
  | k + 1 => by
    obtain ⟨ih0, ih1, ih2⟩ := drovewaylaw07_WagerWhinihan.mono_l k
    refine ⟨?_, ?_, ?_⟩
    · intro y0 y1 y2 y3 y4 y5 y6 y7
      unfold drovewaylaw07_WagerWhinihan.j0
      repeat' first
      | (with_reducible exact ih0 _ _ _ _ _ _ _ _)
      | (with_reducible exact ih1 _ _ _ _ _ _ _)
      | (with_reducible exact ih2 _ _ _ _)
      | (with_reducible exact drovewaylaw07_index.mono _ _)
      | (with_reducible exact wager_Nim.mono _ _ _)
      | (with_reducible exact wager_Parts.mono _ _)
      | (with_reducible exact wager_Whole.mono _ _)
      | (with_reducible exact LeO.refl _)
      | (with_reducible exact LeO.none _)
      | (with_reducible refine LeO.ite ?_ ?_)
      | (with_reducible refine LeO.bind ?_ (fun _ => ?_))
      | exact ih0 _ _ _ _ _ _ _ _
      | exact ih1 _ _ _ _ _ _ _
      | exact ih2 _ _ _ _
      | exact drovewaylaw07_index.mono _ _
      | exact wager_Nim.mono _ _ _
      | exact wager_Parts.mono _ _
      | exact wager_Whole.mono _ _
      | exact LeO.none _
      | refine LeO.ite ?_ ?_
      | refine LeO.bind ?_ (fun _ => ?_)
    · intro y0 y1 y2 y3 y4 y5 y6
      unfold drovewaylaw07_WagerWhinihan.j1
      repeat' first
      | (with_reducible exact ih0 _ _ _ _ _ _ _ _)
      | (with_reducible exact ih1 _ _ _ _ _ _ _)
      | (with_reducible exact ih2 _ _ _ _)
      | (with_reducible exact drovewaylaw07_index.mono _ _)
      | (with_reducible exact wager_Nim.mono _ _ _)
      | (with_reducible exact wager_Parts.mono _ _)
      | (with_reducible exact wager_Whole.mono _ _)
      | (with_reducible exact LeO.refl _)
      | (with_reducible exact LeO.none _)
      | (with_reducible refine LeO.ite ?_ ?_)
      | (with_reducible refine LeO.bind ?_ (fun _ => ?_))
      | exact ih0 _ _ _ _ _ _ _ _
      | exact ih1 _ _ _ _ _ _ _
      | exact ih2 _ _ _ _
      | exact drovewaylaw07_index.mono _ _
      | exact wager_Nim.mono _ _ _
      | exact wager_Parts.mono _ _
      | exact wager_Whole.mono _ _
      | exact LeO.none _
      | refine LeO.ite ?_ ?_
      | refine LeO.bind ?_ (fun _ => ?_)
    · intro y0 y1 y2 y3
      unfold drovewaylaw07_WagerWhinihan.j2
      repeat' first
      | (with_reducible exact ih0 _ _ _ _ _ _ _ _)
      | (with_reducible exact ih1 _ _ _ _ _ _ _)
      | (with_reducible exact ih2 _ _ _ _)
      | (with_reducible exact drovewaylaw07_index.mono _ _)
      | (with_reducible exact wager_Nim.mono _ _ _)
      | (with_reducible exact wager_Parts.mono _ _)
      | (with_reducible exact wager_Whole.mono _ _)
      | (with_reducible exact LeO.refl _)
      | (with_reducible exact LeO.none _)
      | (with_reducible refine LeO.ite ?_ ?_)
      | (with_reducible refine LeO.bind ?_ (fun _ => ?_))
      | exact ih0 _ _ _ _ _ _ _ _
      | exact ih1 _ _ _ _ _ _ _
      | exact ih2 _ _ _ _
      | exact drovewaylaw07_index.mono _ _
      | exact wager_Nim.mono _ _ _
      | exact wager_Parts.mono _ _
      | exact wager_Whole.mono _ _
      | exact LeO.none _
      | refine LeO.ite ?_ ?_
      | refine LeO.bind ?_ (fun _ => ?_)
theorem drovewaylaw07_WagerWhinihan.mono : ∀ a0 a1 k, LeO (drovewaylaw07_WagerWhinihan.f k a0 a1) (drovewaylaw07_WagerWhinihan.f (k + 1) a0 a1) := by
  intro a0 a1 k
  obtain ⟨ih0, ih1, ih2⟩ := drovewaylaw07_WagerWhinihan.mono_l k
  unfold drovewaylaw07_WagerWhinihan.f
  repeat' first
      | (with_reducible exact ih0 _ _ _ _ _ _ _ _)
      | (with_reducible exact ih1 _ _ _ _ _ _ _)
      | (with_reducible exact ih2 _ _ _ _)
      | (with_reducible exact drovewaylaw07_index.mono _ _)
      | (with_reducible exact wager_Nim.mono _ _ _)
      | (with_reducible exact wager_Parts.mono _ _)
      | (with_reducible exact wager_Whole.mono _ _)
      | (with_reducible exact LeO.refl _)
      | (with_reducible exact LeO.none _)
      | (with_reducible refine LeO.ite ?_ ?_)
      | (with_reducible refine LeO.bind ?_ (fun _ => ?_))
      | exact ih0 _ _ _ _ _ _ _ _
      | exact ih1 _ _ _ _ _ _ _
      | exact ih2 _ _ _ _
      | exact drovewaylaw07_index.mono _ _
      | exact wager_Nim.mono _ _ _
      | exact wager_Parts.mono _ _
      | exact wager_Whole.mono _ _
      | exact LeO.none _
      | refine LeO.ite ?_ ?_
      | refine LeO.bind ?_ (fun _ => ?_)
set_option maxHeartbeats 8000000 in
set_option maxRecDepth 100000 in
theorem drovewaylaw07_WagerWhinihan.calls (k : Nat) (a0 : Int) (a1 : Int) (r : Bool) (w : World) (h : drovewaylaw07_WagerWhinihan.f k a0 a1 = some r) :
    Calls Try.prog 10 #[.int .u64 a0, .int .u64 a1] w fun e w' => e = .returned (.bool r) ∧ Below w.heap.size w w' := by
  have HB := Aside0.mk (Below.refl w.heap.size w)
  have H : ((drovewaylaw07_heap.f a0).bind fun t351 => ((drovewaylaw07_heap.f a1).bind fun t352 => ((wager_Parts.f k t351).bind fun bt353 => ((wager_Nim.f k t351 t352).bind fun bt357 => ((wager_Whole.f k t351).bind fun bt359 => (if bt353.2 = 0 then (if t351 > 0 then (drovewaylaw07_WagerWhinihan.j0 k t351 t352 bt353.1 bt357.1 bt357.2 bt359.1 bt359.2 ((bt353.1.length : Int) == 0)) else (drovewaylaw07_WagerWhinihan.j0 k t351 t352 bt353.1 bt357.1 bt357.2 bt359.1 bt359.2 false)) else (drovewaylaw07_WagerWhinihan.j0 k t351 t352 bt353.1 bt357.1 bt357.2 bt359.1 bt359.2 true))))))) = some r := h
  clear h
  replace H := Option.bind_eq_some_iff.mp H
  obtain ⟨t351, A30, H⟩ := H
  replace H : ((drovewaylaw07_heap.f a1).bind fun t352 => ((wager_Parts.f k t351).bind fun bt353 => ((wager_Nim.f k t351 t352).bind fun bt357 => ((wager_Whole.f k t351).bind fun bt359 => (if bt353.2 = 0 then (if t351 > 0 then (drovewaylaw07_WagerWhinihan.j0 k t351 t352 bt353.1 bt357.1 bt357.2 bt359.1 bt359.2 ((bt353.1.length : Int) == 0)) else (drovewaylaw07_WagerWhinihan.j0 k t351 t352 bt353.1 bt357.1 bt357.2 bt359.1 bt359.2 false)) else (drovewaylaw07_WagerWhinihan.j0 k t351 t352 bt353.1 bt357.1 bt357.2 bt359.1 bt359.2 true)))))) = some r := H
  have A3 := Aside0.mk A30
  clear A30
  replace H := Option.bind_eq_some_iff.mp H
  obtain ⟨t352, A40, H⟩ := H
  replace H : ((wager_Parts.f k t351).bind fun bt353 => ((wager_Nim.f k t351 t352).bind fun bt357 => ((wager_Whole.f k t351).bind fun bt359 => (if bt353.2 = 0 then (if t351 > 0 then (drovewaylaw07_WagerWhinihan.j0 k t351 t352 bt353.1 bt357.1 bt357.2 bt359.1 bt359.2 ((bt353.1.length : Int) == 0)) else (drovewaylaw07_WagerWhinihan.j0 k t351 t352 bt353.1 bt357.1 bt357.2 bt359.1 bt359.2 false)) else (drovewaylaw07_WagerWhinihan.j0 k t351 t352 bt353.1 bt357.1 bt357.2 bt359.1 bt359.2 true))))) = some r := H
  have A4 := Aside0.mk A40
  clear A40
  replace H := Option.bind_eq_some_iff.mp H
  obtain ⟨⟨t353, t354⟩, A50, H⟩ := H
  replace H : ((wager_Nim.f k t351 t352).bind fun bt357 => ((wager_Whole.f k t351).bind fun bt359 => (if t354 = 0 then (if t351 > 0 then (drovewaylaw07_WagerWhinihan.j0 k t351 t352 t353 bt357.1 bt357.2 bt359.1 bt359.2 ((t353.length : Int) == 0)) else (drovewaylaw07_WagerWhinihan.j0 k t351 t352 t353 bt357.1 bt357.2 bt359.1 bt359.2 false)) else (drovewaylaw07_WagerWhinihan.j0 k t351 t352 t353 bt357.1 bt357.2 bt359.1 bt359.2 true)))) = some r := H
  have A5 := Aside0.mk A50
  clear A50
  replace H := Option.bind_eq_some_iff.mp H
  obtain ⟨⟨t357, t358⟩, A60, H⟩ := H
  replace H : ((wager_Whole.f k t351).bind fun bt359 => (if t354 = 0 then (if t351 > 0 then (drovewaylaw07_WagerWhinihan.j0 k t351 t352 t353 t357 t358 bt359.1 bt359.2 ((t353.length : Int) == 0)) else (drovewaylaw07_WagerWhinihan.j0 k t351 t352 t353 t357 t358 bt359.1 bt359.2 false)) else (drovewaylaw07_WagerWhinihan.j0 k t351 t352 t353 t357 t358 bt359.1 bt359.2 true))) = some r := H
  have A6 := Aside0.mk A60
  clear A60
  replace H := Option.bind_eq_some_iff.mp H
  obtain ⟨⟨t359, t360⟩, A70, H⟩ := H
  replace H : (if t354 = 0 then (if t351 > 0 then (drovewaylaw07_WagerWhinihan.j0 k t351 t352 t353 t357 t358 t359 t360 ((t353.length : Int) == 0)) else (drovewaylaw07_WagerWhinihan.j0 k t351 t352 t353 t357 t358 t359 t360 false)) else (drovewaylaw07_WagerWhinihan.j0 k t351 t352 t353 t357 t358 t359 t360 true)) = some r := H
  have A7 := Aside0.mk A70
  clear A70
  have HC8 := Aside0.mk H
  clear H
  go_enter Try.func10, Try.ntmps10
  go_upto_region 5 with (first | ((with_reducible refine gate_callee (f := 24) rfl ?_); refine goesL_ (some 14) rfl rfl Try.func24 (by kernel_rfl) rfl #[.int .u64 a0] rfl (by (try simp only [List.map_toArray, List.map_cons, List.map_nil]); first | done | rfl | (simp only [List.length_drop, List.length_take]; rfl)) ?_; (with_reducible refine (drovewaylaw07_heap.calls a0 t351 _ A3.out).mono ?_); rintro e w' ⟨rfl, ⟨nd, rfl⟩⟩; refine ⟨_, rfl, ?_⟩) | ((with_reducible refine gate_callee (f := 24) rfl ?_); refine goesL_ (some 16) rfl rfl Try.func24 (by kernel_rfl) rfl #[.int .u64 a1] rfl (by (try simp only [List.map_toArray, List.map_cons, List.map_nil]); first | done | rfl | (simp only [List.length_drop, List.length_take]; rfl)) ?_; (with_reducible refine (drovewaylaw07_heap.calls a1 t352 _ A4.out).mono ?_); rintro e w' ⟨rfl, ⟨nd, rfl⟩⟩; refine ⟨_, rfl, ?_⟩) | ((with_reducible refine gate_callee (f := 25) rfl ?_); refine goesL_ (some 19) rfl rfl Try.func25 (by kernel_rfl) rfl #[.int .i64 t351] rfl (by (try simp only [List.map_toArray, List.map_cons, List.map_nil]); first | done | rfl | (simp only [List.length_drop, List.length_take]; rfl)) ?_; (with_reducible refine (wager_Parts.calls k t351 t353 t354 _ A5.out).mono ?_); rintro e w9 ⟨v355, rfl, ho0, hb⟩; refine ⟨_, rfl, ?_⟩; have n0_ := Aside0.mk (Kd.R_lower ho0 (below_size (by repeat (first | (with_reducible first | exact HB.out | apply below_alloc | apply pw_below_drewN | apply below_drew1) | exact HB.out)))); have n1_ := Aside0.mk (below_step (by repeat (first | (with_reducible first | exact HB.out | apply below_alloc | apply pw_below_drewN | apply below_drew1) | exact HB.out)) hb); clear HB; have HO356 := n0_; have HB := n1_; clear n0_ n1_; (try clear hb); (try clear hb2); (try clear hk); (try clear hi); (try clear ho0)) | ((with_reducible refine gate_callee (f := 27) rfl ?_); refine goesL_ (some 25) rfl rfl Try.func27 (by kernel_rfl) rfl #[.int .i64 t351, .int .i64 t352] rfl (by (try simp only [List.map_toArray, List.map_cons, List.map_nil]); first | done | rfl | (simp only [List.length_drop, List.length_take]; rfl)) ?_; (with_reducible refine (wager_Nim.calls k t351 t352 t357 t358 _ A6.out).mono ?_); rintro e w10 ⟨rfl, hb⟩; refine ⟨_, rfl, ?_⟩; have n0_ := Aside0.mk (Kd.R_below (by (with_reducible repeat (first | apply Kd.R_alloc | apply Kd.R_drewN | apply Kd.R_drew)); exact HO356.out) hb); have n1_ := Aside0.mk (below_step (by repeat (first | (with_reducible first | exact HB.out | apply below_alloc | apply pw_below_drewN | apply below_drew1) | exact HB.out)) hb); clear HO356; clear HB; have HO356 := n0_; have HB := n1_; clear n0_ n1_; (try clear hb); (try clear hb2); (try clear hk); (try clear hi)) | ((with_reducible refine gate_callee (f := 31) rfl ?_); refine goesL_ (some 30) rfl rfl Try.func31 (by kernel_rfl) rfl #[.int .i64 t351] rfl (by (try simp only [List.map_toArray, List.map_cons, List.map_nil]); first | done | rfl | (simp only [List.length_drop, List.length_take]; rfl)) ?_; (with_reducible refine (wager_Whole.calls k t351 t359 t360 _ A7.out).mono ?_); rintro e w11 ⟨rfl, hb⟩; refine ⟨_, rfl, ?_⟩; have n0_ := Aside0.mk (Kd.R_below (by (with_reducible repeat (first | apply Kd.R_alloc | apply Kd.R_drewN | apply Kd.R_drew)); exact HO356.out) hb); have n1_ := Aside0.mk (below_step (by repeat (first | (with_reducible first | exact HB.out | apply below_alloc | apply pw_below_drewN | apply below_drew1) | exact HB.out)) hb); clear HO356; clear HB; have HO356 := n0_; have HB := n1_; clear n0_ n1_; (try clear hb); (try clear hb2); (try clear hk); (try clear hi)))
  (try simp only [Act.put, List.setIfInBounds_toArray, List.set_cons_zero, List.set_cons_succ])
  go_cut [43] (fun v43 wc => ∃ (kq : Nat) (x43_7 : Bool), v43 = .bool x43_7 ∧ Aside0 (drovewaylaw07_WagerWhinihan.j0 kq t351 t352 t353 t357 t358 t359 t360 x43_7 = some r) ∧ Aside0 (kq ≤ k) ∧ Aside0 (Kd.R (Kd.int .i64) 3 wc w.heap.size (fun _ => True) v355 t353) ∧ Aside0 (Below w.heap.size w wc))
  case first =>
    have H := HC8.out
    clear HC8
    by_cases c12 : t354 = 0
    · rw [if_pos c12] at H
      have c12b0 : (t354 == 0) = true := beq_iff_eq.mpr c12
      have c12b1 : (t354 != 0) = false := bne_eq_false_iff_eq.mpr c12
      clear c12
      (first | rw [c12b0] | (simp only [i64_w, i32_w]; rw [c12b0]) | skip)
      by_cases c13 : t351 > 0
      · rw [if_pos c13] at H
        have c13b0 : decide (0 < t351) = true := decide_eq_true c13
        clear c13
        have H' := Aside0.mk H
        clear H
        obtain ⟨Ao14, co14, eo14⟩ := Kd.R_slice HO356.out
        subst eo14
        go_wp2
        go_meet
        case rel => exact ⟨_, (((t353.length : Int) == 0)), (by first | rfl | (simp; done) | (simp [*]; done)), H', ⟨by first | omega | exact Nat.le_refl _⟩, ⟨by (with_reducible repeat (first | apply Kd.R_alloc | apply Kd.R_drewN | apply Kd.R_drew)); exact HO356.out⟩, ⟨by repeat (first | (with_reducible first | exact HB.out | apply below_alloc | apply pw_below_drewN | apply below_drew1) | exact HB.out)⟩⟩
      · rw [if_neg c13] at H
        have c13b0 : decide (0 < t351) = false := decide_eq_false c13
        clear c13
        have H' := Aside0.mk H
        clear H
        go_wp2
        go_meet
        case rel => exact ⟨_, (false), (by first | rfl | (simp; done) | (simp [*]; done)), H', ⟨by first | omega | exact Nat.le_refl _⟩, ⟨by (with_reducible repeat (first | apply Kd.R_alloc | apply Kd.R_drewN | apply Kd.R_drew)); exact HO356.out⟩, ⟨by repeat (first | (with_reducible first | exact HB.out | apply below_alloc | apply pw_below_drewN | apply below_drew1) | exact HB.out)⟩⟩
    · rw [if_neg c12] at H
      have c12b0 : (t354 == 0) = false := beq_eq_false_iff_ne.mpr c12
      have c12b1 : (t354 != 0) = true := bne_iff_ne.mpr c12
      (first | rw [c12b0] | (simp only [i64_w, i32_w]; rw [c12b0]) | skip)
      have H' := Aside0.mk H
      clear H
      go_wp2
      go_meet
      case rel => exact ⟨_, (true), (by first | rfl | (simp; done) | (simp [*]; done)), H', ⟨by first | omega | exact Nat.le_refl _⟩, ⟨by (with_reducible repeat (first | apply Kd.R_alloc | apply Kd.R_drewN | apply Kd.R_drew)); exact HO356.out⟩, ⟨by repeat (first | (with_reducible first | exact HB.out | apply below_alloc | apply pw_below_drewN | apply below_drew1) | exact HB.out)⟩⟩
  case rest =>
    clear HC8
    try clear c1
    try clear c2
    try clear p2
    try clear c3
    try clear c10
    try clear c12
    try clear c12b0
    try clear c12b1
    try clear c13
    try clear c13b0
    obtain ⟨kq, x43_7, rfl, HA, HJ7, HO_7, HB⟩ := hcut
    cases kq with
    | zero => exact absurd HA.out (by simp [drovewaylaw07_WagerWhinihan.j0])
    | succ kj7 =>
      have H := HA.out
      clear HA
      simp only [drovewaylaw07_WagerWhinihan.j0] at H
      by_cases c15 : x43_7 = true
      · subst c15
        have H1 : (some false) = some r := by rw [if_pos rfl] at H; exact H
        clear H
        have H := H1
        clear H1
        obtain rfl := Option.some.inj H
        go_wp2
        go_ret
        exact ⟨by first | rfl | (simp [errW_none, errW_some] <;> rfl) | (simp [*, errW_none, errW_some] <;> rfl), by repeat (first | (with_reducible first | exact HB.out | apply below_alloc | apply pw_below_drewN | apply below_drew1) | exact HB.out)⟩
      · replace c15 := Bool.eq_false_iff.mpr c15
        subst c15
        have H1 : (if t351 = 0 then (drovewaylaw07_WagerWhinihan.j1 kj7 t351 t353 t357 t358 t359 t360 true) else (if 0 ≤ (wrap64 ((t353.length : Int) - 1)) then (if (wrap64 ((t353.length : Int) - 1)) < (t353.length : Int) then (drovewaylaw07_WagerWhinihan.j1 kj7 t351 t353 t357 t358 t359 t360 (decide ((rd t353 (wrap64 ((t353.length : Int) - 1))) > t352))) else (none)) else (none))) = some r := by rw [if_neg (show ¬ (false = true) by decide)] at H; exact H
        clear H
        have H := H1
        clear H1
        have HC16 := Aside0.mk H
        clear H
        go_upto_region 7 with (fail)
        go_cut [55] (fun v55 wc => ∃ (kq : Nat) (x55_15 : Bool), v55 = .bool x55_15 ∧ Aside0 (drovewaylaw07_WagerWhinihan.j1 kq t351 t353 t357 t358 t359 t360 x55_15 = some r) ∧ Aside0 (kq ≤ kj7) ∧ Aside0 (Kd.R (Kd.int .i64) 3 wc w.heap.size (fun _ => True) v355 t353) ∧ Aside0 (Below w.heap.size w wc))
        case first =>
          have H := HC16.out
          clear HC16
          by_cases c17 : t351 = 0
          · rw [if_pos c17] at H
            have c17b0 : (t351 == 0) = true := beq_iff_eq.mpr c17
            have c17b1 : (t351 != 0) = false := bne_eq_false_iff_eq.mpr c17
            clear c17
            (first | rw [c17b0] | (simp only [i64_w, i32_w]; rw [c17b0]) | skip)
            have H' := Aside0.mk H
            clear H
            go_wp2
            go_meet
            case rel => exact ⟨_, (true), (by first | rfl | (simp; done) | (simp [*]; done)), H', ⟨by have := HJ7.out; first | omega | exact Nat.le_refl _⟩, ⟨by (with_reducible repeat (first | apply Kd.R_alloc | apply Kd.R_drewN | apply Kd.R_drew)); exact HO_7.out⟩, ⟨by repeat (first | (with_reducible first | exact HB.out | apply below_alloc | apply pw_below_drewN | apply below_drew1) | exact HB.out)⟩⟩
          · rw [if_neg c17] at H
            have c17b0 : (t351 == 0) = false := beq_eq_false_iff_ne.mpr c17
            have c17b1 : (t351 != 0) = true := bne_iff_ne.mpr c17
            (first | rw [c17b0] | (simp only [i64_w, i32_w]; rw [c17b0]) | skip)
            obtain ⟨ji18, hji18⟩ : ∃ j_ : Int, (wrap64 ((t353.length : Int) - 1)) = j_ := ⟨_, rfl⟩
            replace H : (if 0 ≤ (ji18) then (if (ji18) < (t353.length : Int) then (drovewaylaw07_WagerWhinihan.j1 kj7 t351 t353 t357 t358 t359 t360 (decide ((rd t353 (ji18)) > t352))) else (none)) else (none)) = some r := by first | (rw [hji18] at H; exact H) | (simp only [hji18] at H ⊢; exact H)
            have hji18w : (IntKind.i64.wrap ((t353.length : Int) - 1)) = ji18 := (i64_w _).trans hji18
            by_cases c19 : 0 ≤ (ji18)
            · rw [if_pos c19] at H
              have c19b0 : decide (0 ≤ (ji18)) = true := decide_eq_true c19
              clear c19
              by_cases c20 : (ji18) < (t353.length : Int)
              · rw [if_pos c20] at H
                have c20b0 : decide ((ji18) < (t353.length : Int)) = true := decide_eq_true c20
                clear c20
                have H' := Aside0.mk H
                clear H
                obtain ⟨Ao21, co21, eo21⟩ := Kd.R_slice HO_7.out
                subst eo21
                have p361 : 0 ≤ ((ji18) : Int) := of_decide_eq_true (by first | (with_reducible assumption) | assumption)
                have q361 : (ji18) < (t353.length : Int) := of_decide_eq_true (by first | (with_reducible assumption) | assumption)
                obtain ⟨ad361, e361, hx361_0⟩ := Kd.at_int (Kd.R_reads' HO_7.out).2.2 (ji18) p361 q361
                cases e361
                replace p361 := eq_true p361
                replace q361 := eq_true q361
                go_wp2
                go_meet
                case rel => exact ⟨_, (decide ((rd t353 (ji18)) > t352)), (by first | rfl | (simp; done) | (simp only [← hji18] <;> (first | rfl | simp)) | (simp [*]; done)), H', ⟨by have := HJ7.out; first | omega | exact Nat.le_refl _⟩, ⟨by (with_reducible repeat (first | apply Kd.R_alloc | apply Kd.R_drewN | apply Kd.R_drew)); exact HO_7.out⟩, ⟨by repeat (first | (with_reducible first | exact HB.out | apply below_alloc | apply pw_below_drewN | apply below_drew1) | exact HB.out)⟩⟩
              · rw [if_neg c20] at H
                exact absurd H (by simp)
            · rw [if_neg c19] at H
              exact absurd H (by simp)
        case rest =>
          clear HC16
          try clear c1
          try clear c2
          try clear p2
          try clear c3
          try clear p3
          try clear q3
          try clear hx3
          try clear p6
          try clear c10
          try clear c12
          try clear c12b0
          try clear c12b1
          try clear c13
          try clear c13b0
          try clear c15
          try clear c17
          try clear c17b0
          try clear c17b1
          try clear c19
          try clear c19b0
          try clear c20
          try clear c20b0
          try clear hx361_0
          try clear p2
          try clear p361
          try clear q361
          obtain ⟨kq, x55_15, rfl, HA, HJ15, HO_7, HB⟩ := hcut
          cases kq with
          | zero => exact absurd HA.out (by simp [drovewaylaw07_WagerWhinihan.j1])
          | succ kj15 =>
            have H := HA.out
            clear HA
            simp only [drovewaylaw07_WagerWhinihan.j1] at H
            have HC22 := Aside0.mk H
            clear H
            go_upto_if 55 with (fail)
            go_cut [] (fun wc => ∃ (kq : Nat), Aside0 (drovewaylaw07_WagerWhinihan.j2 kq t351 t353 t359 t360 = some r) ∧ Aside0 (kq ≤ kj15) ∧ Aside0 (Kd.R (Kd.int .i64) 3 wc w.heap.size (fun _ => True) v355 t353) ∧ Aside0 (Below w.heap.size w wc))
            case first =>
              have H := HC22.out
              clear HC22
              by_cases c23 : x55_15 = true
              · subst c23
                have H1 : (if t358 = 10 then (if t357 = 0 then (drovewaylaw07_WagerWhinihan.j2 kj15 t351 t353 t359 t360) else (some false)) else (some false)) = some r := by rw [if_pos rfl] at H; exact H
                clear H
                have H := H1
                clear H1
                by_cases c24 : t358 = 10
                · rw [if_pos c24] at H
                  have c24b0 : (t358 == 10) = true := beq_iff_eq.mpr c24
                  have c24b1 : (t358 != 10) = false := bne_eq_false_iff_eq.mpr c24
                  clear c24
                  (first | rw [c24b0] | (simp only [i64_w, i32_w]; rw [c24b0]) | skip)
                  by_cases c25 : t357 = 0
                  · rw [if_pos c25] at H
                    have c25b0 : (t357 == 0) = true := beq_iff_eq.mpr c25
                    have c25b1 : (t357 != 0) = false := bne_eq_false_iff_eq.mpr c25
                    clear c25
                    have H' := Aside0.mk H
                    clear H
                    go_wp2
                    go_meet
                    case rel => exact ⟨_, H', ⟨by have := HJ7.out; have := HJ15.out; first | omega | exact Nat.le_refl _⟩, ⟨by (with_reducible repeat (first | apply Kd.R_alloc | apply Kd.R_drewN | apply Kd.R_drew)); exact HO_7.out⟩, ⟨by repeat (first | (with_reducible first | exact HB.out | apply below_alloc | apply pw_below_drewN | apply below_drew1) | exact HB.out)⟩⟩
                  · rw [if_neg c25] at H
                    have c25b0 : (t357 == 0) = false := beq_eq_false_iff_ne.mpr c25
                    have c25b1 : (t357 != 0) = true := bne_iff_ne.mpr c25
                    obtain rfl := Option.some.inj H
                    go_wp2
                    go_ret
                    exact ⟨by first | rfl | (simp [errW_none, errW_some] <;> rfl) | (simp [*, errW_none, errW_some] <;> rfl), by repeat (first | (with_reducible first | exact HB.out | apply below_alloc | apply pw_below_drewN | apply below_drew1) | exact HB.out)⟩
                · rw [if_neg c24] at H
                  have c24b0 : (t358 == 10) = false := beq_eq_false_iff_ne.mpr c24
                  have c24b1 : (t358 != 10) = true := bne_iff_ne.mpr c24
                  (first | rw [c24b0] | (simp only [i64_w, i32_w]; rw [c24b0]) | skip)
                  obtain rfl := Option.some.inj H
                  go_wp2
                  go_ret
                  exact ⟨by first | rfl | (simp [errW_none, errW_some] <;> rfl) | (simp [*, errW_none, errW_some] <;> rfl), by repeat (first | (with_reducible first | exact HB.out | apply below_alloc | apply pw_below_drewN | apply below_drew1) | exact HB.out)⟩
              · replace c23 := Bool.eq_false_iff.mpr c23
                subst c23
                have H1 : (if t358 = 0 then (if 0 ≤ (wrap64 ((t353.length : Int) - 1)) then (if (wrap64 ((t353.length : Int) - 1)) < (t353.length : Int) then (if t357 = (rd t353 (wrap64 ((t353.length : Int) - 1))) then (drovewaylaw07_WagerWhinihan.j2 kj15 t351 t353 t359 t360) else (some false)) else (none)) else (none)) else (some false)) = some r := by rw [if_neg (show ¬ (false = true) by decide)] at H; exact H
                clear H
                have H := H1
                clear H1
                by_cases c26 : t358 = 0
                · rw [if_pos c26] at H
                  have c26b0 : (t358 == 0) = true := beq_iff_eq.mpr c26
                  have c26b1 : (t358 != 0) = false := bne_eq_false_iff_eq.mpr c26
                  clear c26
                  obtain ⟨ji27, hji27⟩ : ∃ j_ : Int, (wrap64 ((t353.length : Int) - 1)) = j_ := ⟨_, rfl⟩
                  replace H : (if 0 ≤ (ji27) then (if (ji27) < (t353.length : Int) then (if t357 = (rd t353 (ji27)) then (drovewaylaw07_WagerWhinihan.j2 kj15 t351 t353 t359 t360) else (some false)) else (none)) else (none)) = some r := by first | (rw [hji27] at H; exact H) | (simp only [hji27] at H ⊢; exact H)
                  have hji27w : (IntKind.i64.wrap ((t353.length : Int) - 1)) = ji27 := (i64_w _).trans hji27
                  by_cases c28 : 0 ≤ (ji27)
                  · rw [if_pos c28] at H
                    have c28b0 : decide (0 ≤ (ji27)) = true := decide_eq_true c28
                    clear c28
                    by_cases c29 : (ji27) < (t353.length : Int)
                    · rw [if_pos c29] at H
                      have c29b0 : decide ((ji27) < (t353.length : Int)) = true := decide_eq_true c29
                      clear c29
                      by_cases c30 : t357 = (rd t353 (ji27))
                      · rw [if_pos c30] at H
                        have c30b0 : (t357 == (rd t353 (ji27))) = true := beq_iff_eq.mpr c30
                        have c30b1 : (t357 != (rd t353 (ji27))) = false := bne_eq_false_iff_eq.mpr c30
                        clear c30
                        have H' := Aside0.mk H
                        clear H
                        obtain ⟨Ao31, co31, eo31⟩ := Kd.R_slice HO_7.out
                        subst eo31
                        have p362 : 0 ≤ ((ji27) : Int) := of_decide_eq_true (by first | (with_reducible assumption) | assumption)
                        have q362 : (ji27) < (t353.length : Int) := of_decide_eq_true (by first | (with_reducible assumption) | assumption)
                        obtain ⟨ad362, e362, hx362_0⟩ := Kd.at_int (Kd.R_reads' HO_7.out).2.2 (ji27) p362 q362
                        cases e362
                        replace p362 := eq_true p362
                        replace q362 := eq_true q362
                        go_wp2
                        go_meet
                        case rel => exact ⟨_, H', ⟨by have := HJ7.out; have := HJ15.out; first | omega | exact Nat.le_refl _⟩, ⟨by (with_reducible repeat (first | apply Kd.R_alloc | apply Kd.R_drewN | apply Kd.R_drew)); exact HO_7.out⟩, ⟨by repeat (first | (with_reducible first | exact HB.out | apply below_alloc | apply pw_below_drewN | apply below_drew1) | exact HB.out)⟩⟩
                      · rw [if_neg c30] at H
                        have c30b0 : (t357 == (rd t353 (ji27))) = false := beq_eq_false_iff_ne.mpr c30
                        have c30b1 : (t357 != (rd t353 (ji27))) = true := bne_iff_ne.mpr c30
                        obtain rfl := Option.some.inj H
                        obtain ⟨Ao32, co32, eo32⟩ := Kd.R_slice HO_7.out
                        subst eo32
                        have p362 : 0 ≤ ((ji27) : Int) := of_decide_eq_true (by first | (with_reducible assumption) | assumption)
                        have q362 : (ji27) < (t353.length : Int) := of_decide_eq_true (by first | (with_reducible assumption) | assumption)
                        obtain ⟨ad362, e362, hx362_0⟩ := Kd.at_int (Kd.R_reads' HO_7.out).2.2 (ji27) p362 q362
                        cases e362
                        replace p362 := eq_true p362
                        replace q362 := eq_true q362
                        go_wp2
                        go_ret
                        exact ⟨by first | rfl | (simp [errW_none, errW_some] <;> rfl) | (simp only [← hji27]; first | rfl | (simp [errW_none, errW_some] <;> rfl)) | (simp [*, errW_none, errW_some] <;> rfl), by repeat (first | (with_reducible first | exact HB.out | apply below_alloc | apply pw_below_drewN | apply below_drew1) | exact HB.out)⟩
                    · rw [if_neg c29] at H
                      exact absurd H (by simp)
                  · rw [if_neg c28] at H
                    exact absurd H (by simp)
                · rw [if_neg c26] at H
                  have c26b0 : (t358 == 0) = false := beq_eq_false_iff_ne.mpr c26
                  have c26b1 : (t358 != 0) = true := bne_iff_ne.mpr c26
                  obtain rfl := Option.some.inj H
                  go_wp2
                  go_ret
                  exact ⟨by first | rfl | (simp [errW_none, errW_some] <;> rfl) | (simp [*, errW_none, errW_some] <;> rfl), by repeat (first | (with_reducible first | exact HB.out | apply below_alloc | apply pw_below_drewN | apply below_drew1) | exact HB.out)⟩
            case rest =>
              clear HC22
              try clear c1
              try clear c2
              try clear p2
              try clear c3
              try clear p3
              try clear q3
              try clear hx3
              try clear p6
              try clear c10
              try clear c12
              try clear c12b0
              try clear c12b1
              try clear c13
              try clear c13b0
              try clear c15
              try clear c17
              try clear c17b0
              try clear c17b1
              try clear c19
              try clear c19b0
              try clear c20
              try clear c20b0
              try clear c23
              try clear c24
              try clear c24b0
              try clear c24b1
              try clear c25
              try clear c25b0
              try clear c25b1
              try clear c26
              try clear c26b0
              try clear c26b1
              try clear c27
              try clear c28
              try clear c28b0
              try clear c29
              try clear c29b0
              try clear c30
              try clear c30b0
              try clear c30b1
              try clear c31
              try clear hx361_0
              try clear hx362_0
              try clear p2
              try clear p3
              try clear p361
              try clear p362
              try clear p6
              try clear q3
              try clear q361
              try clear q362
              obtain ⟨kq, HA, HJ21, HO_7, HB⟩ := hcut
              cases kq with
              | zero => exact absurd HA.out (by simp [drovewaylaw07_WagerWhinihan.j2])
              | succ kj21 =>
                have H := HA.out
                clear HA
                simp only [drovewaylaw07_WagerWhinihan.j2] at H
                by_cases c33 : t351 < 2
                · rw [if_pos c33] at H
                  have c33b0 : decide (t351 < 2) = true := decide_eq_true c33
                  clear c33
                  by_cases c34 : t360 = 2
                  · rw [if_pos c34] at H
                    have c34b0 : (t360 == 2) = true := beq_iff_eq.mpr c34
                    have c34b1 : (t360 != 2) = false := bne_eq_false_iff_eq.mpr c34
                    clear c34
                    replace H := Option.bind_eq_some_iff.mp H
                    obtain ⟨t363, A350, H⟩ := H
                    replace H : (some t363) = some r := H
                    have A35 := Aside0.mk A350
                    clear A350
                    obtain rfl := Option.some.inj H
                    go_wp2_with (first | (go_at_call 19; (with_reducible refine (drovewaylaw07_alive.calls  t363 _ A35.out).mono ?_); rintro e w36 ⟨rfl, hb⟩; have n0_ := Aside0.mk (Kd.R_below (by (with_reducible repeat (first | apply Kd.R_alloc | apply Kd.R_drewN | apply Kd.R_drew)); exact HO_7.out) hb); have n1_ := Aside0.mk (below_step (by repeat (first | (with_reducible first | exact HB.out | apply below_alloc | apply pw_below_drewN | apply below_drew1) | exact HB.out)) hb); clear HO_7; clear HB; have HO_7 := n0_; have HB := n1_; clear n0_ n1_; (try clear hb); (try clear hb2); (try clear hk); (try clear hi)))
                    go_ret
                    exact ⟨by first | rfl | (simp [errW_none, errW_some] <;> rfl) | (simp [*, errW_none, errW_some] <;> rfl), by repeat (first | (with_reducible first | exact HB.out | apply below_alloc | apply pw_below_drewN | apply below_drew1) | exact HB.out)⟩
                  · rw [if_neg c34] at H
                    have c34b0 : (t360 == 2) = false := beq_eq_false_iff_ne.mpr c34
                    have c34b1 : (t360 != 2) = true := bne_iff_ne.mpr c34
                    obtain rfl := Option.some.inj H
                    go_wp2
                    go_ret
                    exact ⟨by first | rfl | (simp [errW_none, errW_some] <;> rfl) | (simp [*, errW_none, errW_some] <;> rfl), by repeat (first | (with_reducible first | exact HB.out | apply below_alloc | apply pw_below_drewN | apply below_drew1) | exact HB.out)⟩
                · rw [if_neg c33] at H
                  have c33b0 : decide (t351 < 2) = false := decide_eq_false c33
                  clear c33
                  replace H := Option.bind_eq_some_iff.mp H
                  obtain ⟨t364, A370, H⟩ := H
                  replace H : (if t364 ≥ 0 then (if t360 = 10 then (if t359 = 0 then ((drovewaylaw07_alive.f).bind fun t365 => (some t365)) else (some false)) else (some false)) else (if t360 = 0 then (if 0 ≤ (wrap64 ((t353.length : Int) - 1)) then (if (wrap64 ((t353.length : Int) - 1)) < (t353.length : Int) then (if t359 = (rd t353 (wrap64 ((t353.length : Int) - 1))) then ((drovewaylaw07_alive.f).bind fun t367 => (some t367)) else (some false)) else (none)) else (none)) else (some false))) = some r := H
                  have A37 := Aside0.mk A370
                  clear A370
                  by_cases c38 : t364 ≥ 0
                  · rw [if_pos c38] at H
                    have c38b0 : decide (0 ≤ t364) = true := decide_eq_true c38
                    clear c38
                    by_cases c39 : t360 = 10
                    · rw [if_pos c39] at H
                      have c39b0 : (t360 == 10) = true := beq_iff_eq.mpr c39
                      have c39b1 : (t360 != 10) = false := bne_eq_false_iff_eq.mpr c39
                      clear c39
                      by_cases c40 : t359 = 0
                      · rw [if_pos c40] at H
                        have c40b0 : (t359 == 0) = true := beq_iff_eq.mpr c40
                        have c40b1 : (t359 != 0) = false := bne_eq_false_iff_eq.mpr c40
                        clear c40
                        replace H := Option.bind_eq_some_iff.mp H
                        obtain ⟨t365, A410, H⟩ := H
                        replace H : (some t365) = some r := H
                        have A41 := Aside0.mk A410
                        clear A410
                        obtain rfl := Option.some.inj H
                        go_wp2_with (first | ((with_reducible refine gate_callee (f := 26) rfl ?_); refine goesL_ (some 82) rfl rfl Try.func26 (by kernel_rfl) rfl #[.int .i64 t351] rfl (by (try simp only [List.map_toArray, List.map_cons, List.map_nil]); first | done | rfl | (simp only [List.length_drop, List.length_take]; rfl)) ?_; (with_reducible refine (drovewaylaw07_index.calls kj21 t351 t364 _ A37.out).mono ?_); rintro e w' ⟨rfl, ⟨nd, rfl⟩⟩; refine ⟨_, rfl, ?_⟩) | (go_at_call 19; (with_reducible refine (drovewaylaw07_alive.calls  t365 _ A41.out).mono ?_); rintro e w42 ⟨rfl, hb⟩; have n0_ := Aside0.mk (Kd.R_below (by (with_reducible repeat (first | apply Kd.R_alloc | apply Kd.R_drewN | apply Kd.R_drew)); exact HO_7.out) hb); have n1_ := Aside0.mk (below_step (by repeat (first | (with_reducible first | exact HB.out | apply below_alloc | apply pw_below_drewN | apply below_drew1) | exact HB.out)) hb); clear HO_7; clear HB; have HO_7 := n0_; have HB := n1_; clear n0_ n1_; (try clear hb); (try clear hb2); (try clear hk); (try clear hi)))
                        go_ret
                        exact ⟨by first | rfl | (simp [errW_none, errW_some] <;> rfl) | (simp [*, errW_none, errW_some] <;> rfl), by repeat (first | (with_reducible first | exact HB.out | apply below_alloc | apply pw_below_drewN | apply below_drew1) | exact HB.out)⟩
                      · rw [if_neg c40] at H
                        have c40b0 : (t359 == 0) = false := beq_eq_false_iff_ne.mpr c40
                        have c40b1 : (t359 != 0) = true := bne_iff_ne.mpr c40
                        obtain rfl := Option.some.inj H
                        go_wp2_with (first | ((with_reducible refine gate_callee (f := 26) rfl ?_); refine goesL_ (some 82) rfl rfl Try.func26 (by kernel_rfl) rfl #[.int .i64 t351] rfl (by (try simp only [List.map_toArray, List.map_cons, List.map_nil]); first | done | rfl | (simp only [List.length_drop, List.length_take]; rfl)) ?_; (with_reducible refine (drovewaylaw07_index.calls kj21 t351 t364 _ A37.out).mono ?_); rintro e w' ⟨rfl, ⟨nd, rfl⟩⟩; refine ⟨_, rfl, ?_⟩))
                        go_ret
                        exact ⟨by first | rfl | (simp [errW_none, errW_some] <;> rfl) | (simp [*, errW_none, errW_some] <;> rfl), by repeat (first | (with_reducible first | exact HB.out | apply below_alloc | apply pw_below_drewN | apply below_drew1) | exact HB.out)⟩
                    · rw [if_neg c39] at H
                      have c39b0 : (t360 == 10) = false := beq_eq_false_iff_ne.mpr c39
                      have c39b1 : (t360 != 10) = true := bne_iff_ne.mpr c39
                      obtain rfl := Option.some.inj H
                      go_wp2_with (first | ((with_reducible refine gate_callee (f := 26) rfl ?_); refine goesL_ (some 82) rfl rfl Try.func26 (by kernel_rfl) rfl #[.int .i64 t351] rfl (by (try simp only [List.map_toArray, List.map_cons, List.map_nil]); first | done | rfl | (simp only [List.length_drop, List.length_take]; rfl)) ?_; (with_reducible refine (drovewaylaw07_index.calls kj21 t351 t364 _ A37.out).mono ?_); rintro e w' ⟨rfl, ⟨nd, rfl⟩⟩; refine ⟨_, rfl, ?_⟩))
                      go_ret
                      exact ⟨by first | rfl | (simp [errW_none, errW_some] <;> rfl) | (simp [*, errW_none, errW_some] <;> rfl), by repeat (first | (with_reducible first | exact HB.out | apply below_alloc | apply pw_below_drewN | apply below_drew1) | exact HB.out)⟩
                  · rw [if_neg c38] at H
                    have c38b0 : decide (0 ≤ t364) = false := decide_eq_false c38
                    clear c38
                    by_cases c43 : t360 = 0
                    · rw [if_pos c43] at H
                      have c43b0 : (t360 == 0) = true := beq_iff_eq.mpr c43
                      have c43b1 : (t360 != 0) = false := bne_eq_false_iff_eq.mpr c43
                      clear c43
                      obtain ⟨ji44, hji44⟩ : ∃ j_ : Int, (wrap64 ((t353.length : Int) - 1)) = j_ := ⟨_, rfl⟩
                      replace H : (if 0 ≤ (ji44) then (if (ji44) < (t353.length : Int) then (if t359 = (rd t353 (ji44)) then ((drovewaylaw07_alive.f).bind fun t367 => (some t367)) else (some false)) else (none)) else (none)) = some r := by first | (rw [hji44] at H; exact H) | (simp only [hji44] at H ⊢; exact H)
                      (try rw [hji44] at A37)
                      have hji44w : (IntKind.i64.wrap ((t353.length : Int) - 1)) = ji44 := (i64_w _).trans hji44
                      by_cases c45 : 0 ≤ (ji44)
                      · rw [if_pos c45] at H
                        have c45b0 : decide (0 ≤ (ji44)) = true := decide_eq_true c45
                        clear c45
                        by_cases c46 : (ji44) < (t353.length : Int)
                        · rw [if_pos c46] at H
                          have c46b0 : decide ((ji44) < (t353.length : Int)) = true := decide_eq_true c46
                          clear c46
                          by_cases c47 : t359 = (rd t353 (ji44))
                          · rw [if_pos c47] at H
                            have c47b0 : (t359 == (rd t353 (ji44))) = true := beq_iff_eq.mpr c47
                            have c47b1 : (t359 != (rd t353 (ji44))) = false := bne_eq_false_iff_eq.mpr c47
                            clear c47
                            replace H := Option.bind_eq_some_iff.mp H
                            obtain ⟨t367, A480, H⟩ := H
                            replace H : (some t367) = some r := H
                            have A48 := Aside0.mk A480
                            clear A480
                            obtain rfl := Option.some.inj H
                            go_wp2_with (first | ((with_reducible refine gate_callee (f := 26) rfl ?_); refine goesL_ (some 82) rfl rfl Try.func26 (by kernel_rfl) rfl #[.int .i64 t351] rfl (by (try simp only [List.map_toArray, List.map_cons, List.map_nil]); first | done | rfl | (simp only [List.length_drop, List.length_take]; rfl)) ?_; (with_reducible refine (drovewaylaw07_index.calls kj21 t351 t364 _ A37.out).mono ?_); rintro e w' ⟨rfl, ⟨nd, rfl⟩⟩; refine ⟨_, rfl, ?_⟩; obtain ⟨Ao49, co49, eo49⟩ := Kd.R_slice HO_7.out; subst eo49; have p366 : 0 ≤ ((ji44) : Int) := of_decide_eq_true (by first | (with_reducible assumption) | assumption); have q366 : (ji44) < (t353.length : Int) := of_decide_eq_true (by first | (with_reducible assumption) | assumption); obtain ⟨ad366, e366, hx366_0⟩ := Kd.at_int (Kd.R_reads' HO_7.out).2.2 (ji44) p366 q366; cases e366; replace p366 := eq_true p366; replace q366 := eq_true q366) | (go_at_call 19; (with_reducible refine (drovewaylaw07_alive.calls  t367 _ A48.out).mono ?_); rintro e w50 ⟨rfl, hb⟩; have n0_ := Aside0.mk (Kd.R_below (by (with_reducible repeat (first | apply Kd.R_alloc | apply Kd.R_drewN | apply Kd.R_drew)); exact HO_7.out) hb); have n1_ := Aside0.mk (below_step (by repeat (first | (with_reducible first | exact HB.out | apply below_alloc | apply pw_below_drewN | apply below_drew1) | exact HB.out)) hb); clear HO_7; clear HB; have HO_7 := n0_; have HB := n1_; clear n0_ n1_; (try clear hb); (try clear hb2); (try clear hk); (try clear hi)))
                            go_ret
                            exact ⟨by first | rfl | (simp [errW_none, errW_some] <;> rfl) | (simp only [← hji44]; first | rfl | (simp [errW_none, errW_some] <;> rfl)) | (simp [*, errW_none, errW_some] <;> rfl), by repeat (first | (with_reducible first | exact HB.out | apply below_alloc | apply pw_below_drewN | apply below_drew1) | exact HB.out)⟩
                          · rw [if_neg c47] at H
                            have c47b0 : (t359 == (rd t353 (ji44))) = false := beq_eq_false_iff_ne.mpr c47
                            have c47b1 : (t359 != (rd t353 (ji44))) = true := bne_iff_ne.mpr c47
                            obtain rfl := Option.some.inj H
                            go_wp2_with (first | ((with_reducible refine gate_callee (f := 26) rfl ?_); refine goesL_ (some 82) rfl rfl Try.func26 (by kernel_rfl) rfl #[.int .i64 t351] rfl (by (try simp only [List.map_toArray, List.map_cons, List.map_nil]); first | done | rfl | (simp only [List.length_drop, List.length_take]; rfl)) ?_; (with_reducible refine (drovewaylaw07_index.calls kj21 t351 t364 _ A37.out).mono ?_); rintro e w' ⟨rfl, ⟨nd, rfl⟩⟩; refine ⟨_, rfl, ?_⟩; obtain ⟨Ao51, co51, eo51⟩ := Kd.R_slice HO_7.out; subst eo51; have p366 : 0 ≤ ((ji44) : Int) := of_decide_eq_true (by first | (with_reducible assumption) | assumption); have q366 : (ji44) < (t353.length : Int) := of_decide_eq_true (by first | (with_reducible assumption) | assumption); obtain ⟨ad366, e366, hx366_0⟩ := Kd.at_int (Kd.R_reads' HO_7.out).2.2 (ji44) p366 q366; cases e366; replace p366 := eq_true p366; replace q366 := eq_true q366))
                            go_ret
                            exact ⟨by first | rfl | (simp [errW_none, errW_some] <;> rfl) | (simp only [← hji44]; first | rfl | (simp [errW_none, errW_some] <;> rfl)) | (simp [*, errW_none, errW_some] <;> rfl), by repeat (first | (with_reducible first | exact HB.out | apply below_alloc | apply pw_below_drewN | apply below_drew1) | exact HB.out)⟩
                        · rw [if_neg c46] at H
                          exact absurd H (by simp)
                      · rw [if_neg c45] at H
                        exact absurd H (by simp)
                    · rw [if_neg c43] at H
                      have c43b0 : (t360 == 0) = false := beq_eq_false_iff_ne.mpr c43
                      have c43b1 : (t360 != 0) = true := bne_iff_ne.mpr c43
                      obtain rfl := Option.some.inj H
                      go_wp2_with (first | ((with_reducible refine gate_callee (f := 26) rfl ?_); refine goesL_ (some 82) rfl rfl Try.func26 (by kernel_rfl) rfl #[.int .i64 t351] rfl (by (try simp only [List.map_toArray, List.map_cons, List.map_nil]); first | done | rfl | (simp only [List.length_drop, List.length_take]; rfl)) ?_; (with_reducible refine (drovewaylaw07_index.calls kj21 t351 t364 _ A37.out).mono ?_); rintro e w' ⟨rfl, ⟨nd, rfl⟩⟩; refine ⟨_, rfl, ?_⟩))
                      go_ret
                      exact ⟨by first | rfl | (simp [errW_none, errW_some] <;> rfl) | (simp [*, errW_none, errW_some] <;> rfl), by repeat (first | (with_reducible first | exact HB.out | apply below_alloc | apply pw_below_drewN | apply below_drew1) | exact HB.out)⟩

/-- THE ONE PURE STATEMENT of drovewaylaw07_WagerWhinihan: yours. -/
def drovewaylaw07_WagerWhinihan.Pure : Prop := ∀ (a0 : Int) (a1 : Int), (Lit.int .u64 a0).wf = true → (Lit.int .u64 a1).wf = true → ∃ k, drovewaylaw07_WagerWhinihan.f k a0 a1 = some true
theorem drovewaylaw07_WagerWhinihan.walk (P : drovewaylaw07_WagerWhinihan.Pure) (a0 : Int) (a1 : Int) (w : World) (w0 : (Lit.int .u64 a0).wf = true) (w1 : (Lit.int .u64 a1).wf = true) :
    Calls Try.prog 10 #[.int .u64 a0, .int .u64 a1] w fun e w' => e = .returned (.bool true) ∧ Below w.heap.size w w' := by
  obtain ⟨k, h⟩ := P a0 a1 w0 w1
  refine (drovewaylaw07_WagerWhinihan.calls k a0 a1 true w h).mono ?_
  rintro e w' ⟨rfl, hd⟩
  exact ⟨rfl, hd⟩

-- NOT PRINTED: function 50 (wager_read)

/-! ### wager_Chomp: function 33, by hand (ExtG) -/
def mk49 (p : Int × Int) : S49 := ⟨p.1, p.2⟩
theorem R_49 {w : World} {base : Nat} {ok : Nat → Prop} {v : Value} {l : List (Int × Int)} (h : Kd.R (Kd.pair (Kd.int .i64) (Kd.int .i64)) 49 w base ok v l) : Kd.R k49 49 w base ok v (l.map mk49) := by
  obtain ⟨h1, inner, ho, hr⟩ := h
  refine ⟨h1, inner, by rw [List.length_map]; exact ho, ?_⟩
  refine ⟨by rw [List.length_map]; exact hr.1, fun j p hj => ?_⟩
  rw [List.getElem?_map] at hj
  obtain ⟨q, hq, rfl⟩ := Option.map_eq_some_iff.1 hj
  exact hr.2 j q hq
def wager_Chomp.f (l0 : List Int) : Option (List S49 × Int) := some ((Ext.chompL l0).1.map mk49, (Ext.chompL l0).2)
theorem wager_Chomp.calls (A0 : Option Addr) (c0 : Nat) (l0 : List Int) (r1 : List S49) (r2 : Int) (w : World) (hr0 : Kd.C (Kd.int .i64) w A0 l0.length l0) (hc0 : l0.length ≤ c0) (h : wager_Chomp.f l0 = some (r1, r2)) :
    Calls Try.prog 33 #[.slice A0 l0.length c0] w fun e w' => ∃ v0_ : Value, e = .returned (.tuple #[v0_, .int .i64 r2]) ∧ Kd.R k49 49 w' w.heap.size (fun _ => True) v0_ r1 ∧ Below w.heap.size w w' := by
  have e := Option.some.inj h
  have e1 : (Ext.chompL l0).1.map mk49 = r1 := congrArg Prod.fst e
  have e2 : (Ext.chompL l0).2 = r2 := congrArg Prod.snd e
  subst e1 e2
  refine (Ext.chomp_calls A0 c0 l0 w hr0 hc0).mono ?_
  rintro e w' ⟨v, he, hR, hB⟩
  exact ⟨v, he, R_49 hR, hB⟩

end Go.Proofs.Ytcngcilinlcmeaa.P
