/- Printed by group.py, a program of this session, over the place's print: functions of the program as Lean functions, and proofs that the machine's calls answer as they do. -/
import Derived.Test.YtcngcilinlcmeaaPx0
import Derived.Test.YtcngcilinlcmeaaPx1
import Derived.Test.YtcngcilinlcmeaaPx5
import Derived.Test.YtcngcilinlcmeaaPxRBitten
import Derived.Test.YtcngcilinlcmeaaPx6
import Derived.Test.YtcngcilinlcmeaaPx7
import Derived.Test.YtcngcilinlcmeaaPxChomp
namespace Go.Proofs.Ytcngcilinlcmeaa.P
open Go.RowKit Go.Proofs.YtcngcilinlcmeaaW.PrintWords Go.Proofs.YtcngcilinlcmeaaW.PrintLast Go.Proofs.YtcngcilinlcmeaaW.PrintMore
attribute [local go_sem] max2_int min2_int max_two min_two max_three min_three max_four min_four   -- for this text's walks alone
set_option linter.unusedVariables false
set_option linter.unusedSimpArgs false

attribute [local go_sem high] eqA49
/-! ### drovewaylaw07_WagerLosing: function 13 -/
mutual
def drovewaylaw07_WagerLosing.j0 : Nat → List Int → Int → List (List Int) → Bool → Option (Bool)
  | 0, _, _, _, _ => none
  | k + 1, x2, x7, x9, x70 => if x70 = true then ((drovewaylaw07_alive.f).bind fun t433 => (some t433)) else ((drovewaylaw07_inside.f k x9 x2).bind fun t434 => ((wager_Chomp.f x2).bind fun bt435 => (if ((bt435.2 == 10) != t434) = true then (drovewaylaw07_WagerLosing.j1 k x2 x7 x9 t434 bt435.1 true) else (if bt435.2 = 0 then (drovewaylaw07_WagerLosing.j1 k x2 x7 x9 t434 bt435.1 false) else (drovewaylaw07_WagerLosing.j1 k x2 x7 x9 t434 bt435.1 (bt435.2 != 10))))))
def drovewaylaw07_WagerLosing.j1 : Nat → List Int → Int → List (List Int) → Bool → List (S49) → Bool → Option (Bool)
  | 0, _, _, _, _, _, _ => none
  | k + 1, x2, x7, x9, x11, x12, x91 => if x91 = true then (some false) else (drovewaylaw07_WagerLosing.l0 k x2 x7 x9 x11 x12 0 0)
def drovewaylaw07_WagerLosing.l0 : Nat → List Int → Int → List (List Int) → Bool → List (S49) → Int → Int → Option (Bool)
  | 0, _, _, _, _, _, _, _ => none
  | k + 1, x2, x7, x9, x11, x12, x14, x15 => if x15 < x7 then (drovewaylaw07_WagerLosing.l1 k x2 x7 x9 x11 x12 x14 x15 0) else (if x14 = (x12.length : Int) then (if ((x14 == 0) == x11) = true then ((drovewaylaw07_alive.f).bind fun t439 => (some t439)) else (some false)) else (some false))
def drovewaylaw07_WagerLosing.l1 : Nat → List Int → Int → List (List Int) → Bool → List (S49) → Int → Int → Int → Option (Bool)
  | 0, _, _, _, _, _, _, _, _ => none
  | k + 1, x2, x7, x9, x11, x12, x14, x15, x16 => if 0 ≤ x15 then (if x15 < (x2.length : Int) then (if x16 < (rd x2 x15) then ((wager_Bitten.f x2 x15 x16).bind fun bt441 => (if bt441.2 = 0 then ((drovewaylaw07_inside.f k x9 bt441.1).bind fun t445 => (if t445 = true then (if x14 ≥ (x12.length : Int) then (some false) else (if 0 ≤ x14 then (if x14 < (x12.length : Int) then (if (!(((rd_T49 x12 x14).f0) == x15) || (!(((rd_T49 x12 x14).f1) == x16))) = true then (some false) else (drovewaylaw07_WagerLosing.l1 k x2 x7 x9 x11 x12 (wrap64 (x14 + 1)) x15 (wrap64 (x16 + 1)))) else (none)) else (none))) else (drovewaylaw07_WagerLosing.l1 k x2 x7 x9 x11 x12 x14 x15 (wrap64 (x16 + 1))))) else (some false))) else (drovewaylaw07_WagerLosing.l0 k x2 x7 x9 x11 x12 x14 (wrap64 (x15 + 1)))) else (none)) else (none)
end
def drovewaylaw07_WagerLosing.f (k : Nat) (a0 : Int) (a1 : Int) (l2 : List Int) : Option (Bool) := (wager_Lost.f (wrap64 (1 + (wrap64 (Int.tmod a0 6)))) (wrap64 (1 + (wrap64 (Int.tmod a1 7))))).bind fun bt425 => (if (wrap64 ((wrap64 (1 + (wrap64 (Int.tmod a0 6)))) * (wrap64 (1 + (wrap64 (Int.tmod a1 7)))))) > 24 then (if bt425.2 = 8 then (if (bt425.1.length : Int) = 0 then ((drovewaylaw07_alive.f).bind fun t429 => (some t429)) else (some false)) else (some false)) else (if bt425.2 = 0 then (if (l2.length : Int) = (wrap64 (1 + (wrap64 (Int.tmod a0 6)))) then ((drovewayref07_IsBar.f k l2).bind fun t430 => (if t430 = true then (if 0 < (l2.length : Int) then (if (rd l2 0) > (wrap64 (1 + (wrap64 (Int.tmod a1 7)))) then (drovewaylaw07_WagerLosing.j0 k l2 (wrap64 (1 + (wrap64 (Int.tmod a0 6)))) bt425.1 true) else (drovewaylaw07_WagerLosing.j0 k l2 (wrap64 (1 + (wrap64 (Int.tmod a0 6)))) bt425.1 ((rd l2 0) == 0))) else (none)) else (drovewaylaw07_WagerLosing.j0 k l2 (wrap64 (1 + (wrap64 (Int.tmod a0 6)))) bt425.1 true))) else (drovewaylaw07_WagerLosing.j0 k l2 (wrap64 (1 + (wrap64 (Int.tmod a0 6)))) bt425.1 true)) else (some false)))
theorem drovewaylaw07_WagerLosing.mono_l : ∀ k, (∀ y0 y1 y2 y3, LeO (drovewaylaw07_WagerLosing.j0 k y0 y1 y2 y3) (drovewaylaw07_WagerLosing.j0 (k + 1) y0 y1 y2 y3)) ∧ (∀ y0 y1 y2 y3 y4 y5, LeO (drovewaylaw07_WagerLosing.j1 k y0 y1 y2 y3 y4 y5) (drovewaylaw07_WagerLosing.j1 (k + 1) y0 y1 y2 y3 y4 y5)) ∧ (∀ y0 y1 y2 y3 y4 y5 y6, LeO (drovewaylaw07_WagerLosing.l0 k y0 y1 y2 y3 y4 y5 y6) (drovewaylaw07_WagerLosing.l0 (k + 1) y0 y1 y2 y3 y4 y5 y6)) ∧ (∀ y0 y1 y2 y3 y4 y5 y6 y7, LeO (drovewaylaw07_WagerLosing.l1 k y0 y1 y2 y3 y4 y5 y6 y7) (drovewaylaw07_WagerLosing.l1 (k + 1) y0 y1 y2 y3 y4 y5 y6 y7))
  | 0 => ⟨fun _ _ _ _ r h => by simp [drovewaylaw07_WagerLosing.j0] at h, fun _ _ _ _ _ _ r h => by simp [drovewaylaw07_WagerLosing.j1] at h, fun _ _ _ _ _ _ _ r h => by simp [drovewaylaw07_WagerLosing.l0] at h, fun _ _ _ _ _ _ _ _ r h => by simp [drovewaylaw07_WagerLosing.l1] at h⟩
  | k + 1 => by
    obtain ⟨ih0, ih1, ih2, ih3⟩ := drovewaylaw07_WagerLosing.mono_l k
    refine ⟨?_, ?_, ?_, ?_⟩
    · intro y0 y1 y2 y3
      unfold drovewaylaw07_WagerLosing.j0
      repeat' first
      | (with_reducible exact ih0 _ _ _ _)
      | (with_reducible exact ih1 _ _ _ _ _ _)
      | (with_reducible exact ih2 _ _ _ _ _ _ _)
      | (with_reducible exact ih3 _ _ _ _ _ _ _ _)
      | (with_reducible exact drovewaylaw07_inside.mono _ _ _)
      | (with_reducible exact drovewayref07_IsBar.mono _ _)
      | (with_reducible exact LeO.refl _)
      | (with_reducible exact LeO.none _)
      | (with_reducible refine LeO.ite ?_ ?_)
      | (with_reducible refine LeO.bind ?_ (fun _ => ?_))
      | exact ih0 _ _ _ _
      | exact ih1 _ _ _ _ _ _
      | exact ih2 _ _ _ _ _ _ _
      | exact ih3 _ _ _ _ _ _ _ _
      | exact drovewaylaw07_inside.mono _ _ _
      | exact drovewayref07_IsBar.mono _ _
      | exact LeO.none _
      | refine LeO.ite ?_ ?_
      | refine LeO.bind ?_ (fun _ => ?_)
    · intro y0 y1 y2 y3 y4 y5
      unfold drovewaylaw07_WagerLosing.j1
      repeat' first
      | (with_reducible exact ih0 _ _ _ _)
      | (with_reducible exact ih1 _ _ _ _ _ _)
      | (with_reducible exact ih2 _ _ _ _ _ _ _)
      | (with_reducible exact ih3 _ _ _ _ _ _ _ _)
      | (with_reducible exact drovewaylaw07_inside.mono _ _ _)
      | (with_reducible exact drovewayref07_IsBar.mono _ _)
      | (with_reducible exact LeO.refl _)
      | (with_reducible exact LeO.none _)
      | (with_reducible refine LeO.ite ?_ ?_)
      | (with_reducible refine LeO.bind ?_ (fun _ => ?_))
      | exact ih0 _ _ _ _
      | exact ih1 _ _ _ _ _ _
      | exact ih2 _ _ _ _ _ _ _
      | exact ih3 _ _ _ _ _ _ _ _
      | exact drovewaylaw07_inside.mono _ _ _
      | exact drovewayref07_IsBar.mono _ _
      | exact LeO.none _
      | refine LeO.ite ?_ ?_
      | refine LeO.bind ?_ (fun _ => ?_)
    · intro y0 y1 y2 y3 y4 y5 y6
      unfold drovewaylaw07_WagerLosing.l0
      repeat' first
      | (with_reducible exact ih0 _ _ _ _)
      | (with_reducible exact ih1 _ _ _ _ _ _)
      | (with_reducible exact ih2 _ _ _ _ _ _ _)
      | (with_reducible exact ih3 _ _ _ _ _ _ _ _)
      | (with_reducible exact drovewaylaw07_inside.mono _ _ _)
      | (with_reducible exact drovewayref07_IsBar.mono _ _)
      | (with_reducible exact LeO.refl _)
      | (with_reducible exact LeO.none _)
      | (with_reducible refine LeO.ite ?_ ?_)
      | (with_reducible refine LeO.bind ?_ (fun _ => ?_))
      | exact ih0 _ _ _ _
      | exact ih1 _ _ _ _ _ _
      | exact ih2 _ _ _ _ _ _ _
      | exact ih3 _ _ _ _ _ _ _ _
      | exact drovewaylaw07_inside.mono _ _ _
      | exact drovewayref07_IsBar.mono _ _
      | exact LeO.none _
      | refine LeO.ite ?_ ?_
      | refine LeO.bind ?_ (fun _ => ?_)
    · intro y0 y1 y2 y3 y4 y5 y6 y7
      unfold drovewaylaw07_WagerLosing.l1
      repeat' first
      | (with_reducible exact ih0 _ _ _ _)
      | (with_reducible exact ih1 _ _ _ _ _ _)
      | (with_reducible exact ih2 _ _ _ _ _ _ _)
      | (with_reducible exact ih3 _ _ _ _ _ _ _ _)
      | (with_reducible exact drovewaylaw07_inside.mono _ _ _)
      | (with_reducible exact drovewayref07_IsBar.mono _ _)
      | (with_reducible exact LeO.refl _)
      | (with_reducible exact LeO.none _)
      | (with_reducible refine LeO.ite ?_ ?_)
      | (with_reducible refine LeO.bind ?_ (fun _ => ?_))
      | exact ih0 _ _ _ _
      | exact ih1 _ _ _ _ _ _
      | exact ih2 _ _ _ _ _ _ _
      | exact ih3 _ _ _ _ _ _ _ _
      | exact drovewaylaw07_inside.mono _ _ _
      | exact drovewayref07_IsBar.mono _ _
      | exact LeO.none _
      | refine LeO.ite ?_ ?_
      | refine LeO.bind ?_ (fun _ => ?_)
theorem drovewaylaw07_WagerLosing.mono : ∀ a0 a1 a2 k, LeO (drovewaylaw07_WagerLosing.f k a0 a1 a2) (drovewaylaw07_WagerLosing.f (k + 1) a0 a1 a2) := by
  intro a0 a1 a2 k
  obtain ⟨ih0, ih1, ih2, ih3⟩ := drovewaylaw07_WagerLosing.mono_l k
  unfold drovewaylaw07_WagerLosing.f
  repeat' first
      | (with_reducible exact ih0 _ _ _ _)
      | (with_reducible exact ih1 _ _ _ _ _ _)
      | (with_reducible exact ih2 _ _ _ _ _ _ _)
      | (with_reducible exact ih3 _ _ _ _ _ _ _ _)
      | (with_reducible exact drovewaylaw07_inside.mono _ _ _)
      | (with_reducible exact drovewayref07_IsBar.mono _ _)
      | (with_reducible exact LeO.refl _)
      | (with_reducible exact LeO.none _)
      | (with_reducible refine LeO.ite ?_ ?_)
      | (with_reducible refine LeO.bind ?_ (fun _ => ?_))
      | exact ih0 _ _ _ _
      | exact ih1 _ _ _ _ _ _
      | exact ih2 _ _ _ _ _ _ _
      | exact ih3 _ _ _ _ _ _ _ _
      | exact drovewaylaw07_inside.mono _ _ _
      | exact drovewayref07_IsBar.mono _ _
      | exact LeO.none _
      | refine LeO.ite ?_ ?_
      | refine LeO.bind ?_ (fun _ => ?_)
set_option maxHeartbeats 8000000 in
set_option maxRecDepth 100000 in
theorem drovewaylaw07_WagerLosing.calls (k : Nat) (a0 : Int) (a1 : Int) (A2 : Option Addr) (c2 : Nat) (l2 : List Int) (r : Bool) (w : World) (hr2 : Kd.C (Kd.int .i64) w A2 l2.length l2) (hc2 : l2.length ≤ c2) (h : drovewaylaw07_WagerLosing.f k a0 a1 l2 = some r) :
    Calls Try.prog 13 #[.int .u8 a0, .int .u8 a1, .slice A2 l2.length c2] w fun e w' => e = .returned (.bool r) ∧ Below w.heap.size w w' := by
  have hu49 := Try.underlying49
  have HR2 := Aside0.mk hr2
  have HC2 := Aside0.mk hc2
  clear hr2 hc2
  have HB := Aside0.mk (Below.refl w.heap.size w)
  have H : ((wager_Lost.f (wrap64 (1 + (wrap64 (Int.tmod a0 6)))) (wrap64 (1 + (wrap64 (Int.tmod a1 7))))).bind fun bt425 => (if (wrap64 ((wrap64 (1 + (wrap64 (Int.tmod a0 6)))) * (wrap64 (1 + (wrap64 (Int.tmod a1 7)))))) > 24 then (if bt425.2 = 8 then (if (bt425.1.length : Int) = 0 then ((drovewaylaw07_alive.f).bind fun t429 => (some t429)) else (some false)) else (some false)) else (if bt425.2 = 0 then (if (l2.length : Int) = (wrap64 (1 + (wrap64 (Int.tmod a0 6)))) then ((drovewayref07_IsBar.f k l2).bind fun t430 => (if t430 = true then (if 0 < (l2.length : Int) then (if (rd l2 0) > (wrap64 (1 + (wrap64 (Int.tmod a1 7)))) then (drovewaylaw07_WagerLosing.j0 k l2 (wrap64 (1 + (wrap64 (Int.tmod a0 6)))) bt425.1 true) else (drovewaylaw07_WagerLosing.j0 k l2 (wrap64 (1 + (wrap64 (Int.tmod a0 6)))) bt425.1 ((rd l2 0) == 0))) else (none)) else (drovewaylaw07_WagerLosing.j0 k l2 (wrap64 (1 + (wrap64 (Int.tmod a0 6)))) bt425.1 true))) else (drovewaylaw07_WagerLosing.j0 k l2 (wrap64 (1 + (wrap64 (Int.tmod a0 6)))) bt425.1 true)) else (some false)))) = some r := h
  clear h
  replace H := Option.bind_eq_some_iff.mp H
  obtain ⟨⟨t425, t426⟩, A40, H⟩ := H
  replace H : (if (wrap64 ((wrap64 (1 + (wrap64 (Int.tmod a0 6)))) * (wrap64 (1 + (wrap64 (Int.tmod a1 7)))))) > 24 then (if t426 = 8 then (if (t425.length : Int) = 0 then ((drovewaylaw07_alive.f).bind fun t429 => (some t429)) else (some false)) else (some false)) else (if t426 = 0 then (if (l2.length : Int) = (wrap64 (1 + (wrap64 (Int.tmod a0 6)))) then ((drovewayref07_IsBar.f k l2).bind fun t430 => (if t430 = true then (if 0 < (l2.length : Int) then (if (rd l2 0) > (wrap64 (1 + (wrap64 (Int.tmod a1 7)))) then (drovewaylaw07_WagerLosing.j0 k l2 (wrap64 (1 + (wrap64 (Int.tmod a0 6)))) t425 true) else (drovewaylaw07_WagerLosing.j0 k l2 (wrap64 (1 + (wrap64 (Int.tmod a0 6)))) t425 ((rd l2 0) == 0))) else (none)) else (drovewaylaw07_WagerLosing.j0 k l2 (wrap64 (1 + (wrap64 (Int.tmod a0 6)))) t425 true))) else (drovewaylaw07_WagerLosing.j0 k l2 (wrap64 (1 + (wrap64 (Int.tmod a0 6)))) t425 true)) else (some false))) = some r := H
  have A4 := Aside0.mk A40
  clear A40
  by_cases c5 : (wrap64 ((wrap64 (1 + (wrap64 (Int.tmod a0 6)))) * (wrap64 (1 + (wrap64 (Int.tmod a1 7)))))) > 24
  · rw [if_pos c5] at H
    have c5b0 : decide (24 < (wrap64 ((wrap64 (1 + (wrap64 (Int.tmod a0 6)))) * (wrap64 (1 + (wrap64 (Int.tmod a1 7))))))) = true := decide_eq_true c5
    clear c5
    by_cases c6 : t426 = 8
    · rw [if_pos c6] at H
      have c6b0 : (t426 == 8) = true := beq_iff_eq.mpr c6
      have c6b1 : (t426 != 8) = false := bne_eq_false_iff_eq.mpr c6
      clear c6
      by_cases c7 : (t425.length : Int) = 0
      · rw [if_pos c7] at H
        have c7b0 : ((t425.length : Int) == 0) = true := beq_iff_eq.mpr c7
        have c7b1 : ((t425.length : Int) != 0) = false := bne_eq_false_iff_eq.mpr c7
        clear c7
        replace H := Option.bind_eq_some_iff.mp H
        obtain ⟨t429, A80, H⟩ := H
        replace H : (some t429) = some r := H
        have A8 := Aside0.mk A80
        clear A80
        obtain rfl := Option.some.inj H
        go_enter Try.func13, Try.ntmps13
        go_wp2_with (first | ((with_reducible refine gate_callee (f := 21) rfl ?_); refine goesL_ (some 30) rfl rfl Try.func21 (by kernel_rfl) rfl #[.int .i64 (wrap64 (1 + (wrap64 (Int.tmod a0 6)))), .int .i64 (wrap64 (1 + (wrap64 (Int.tmod a1 7))))] rfl (by (try simp only [List.map_toArray, List.map_cons, List.map_nil]); first | done | rfl | (simp only [List.length_drop, List.length_take]; rfl)) ?_; (with_reducible refine (wager_Lost.calls (wrap64 (1 + (wrap64 (Int.tmod a0 6)))) (wrap64 (1 + (wrap64 (Int.tmod a1 7)))) t425 t426 _ A4.out).mono ?_); rintro e w9 ⟨v427, rfl, ho0, hb⟩; refine ⟨_, rfl, ?_⟩; have n0_ := Aside0.mk (Kd.S_lower ho0 (below_size (by repeat (first | (with_reducible first | exact HB.out | apply below_alloc | apply pw_below_drewN | apply below_drew1) | exact HB.out)))); have n1_ := Aside0.mk (below_step (by repeat (first | (with_reducible first | exact HB.out | apply below_alloc | apply pw_below_drewN | apply below_drew1) | exact HB.out)) hb); clear HB; have HO428 := n0_; have HB := n1_; clear n0_ n1_; (try clear hb); (try clear hb2); (try clear hk); (try clear hi); (try clear ho0); obtain ⟨Ao10, co10, eo10⟩ := Kd.S_slice HO428.out; subst eo10) | (go_at_call 19; (with_reducible refine (drovewaylaw07_alive.calls  t429 _ A8.out).mono ?_); rintro e w11 ⟨rfl, hb⟩; have n0_ := Aside0.mk (Kd.S_below (by (with_reducible repeat (first | apply Kd.S_alloc | apply Kd.S_drewN | apply Kd.S_drew)); exact HO428.out) hb); have n1_ := Aside0.mk (below_step (by repeat (first | (with_reducible first | exact HB.out | apply below_alloc | apply pw_below_drewN | apply below_drew1) | exact HB.out)) hb); clear HO428; clear HB; have HO428 := n0_; have HB := n1_; clear n0_ n1_; (try clear hb); (try clear hb2); (try clear hk); (try clear hi)))
        go_ret
        exact ⟨by first | rfl | (simp [errW_none, errW_some] <;> rfl) | (simp [*, errW_none, errW_some] <;> rfl), by repeat (first | (with_reducible first | exact HB.out | apply below_alloc | apply pw_below_drewN | apply below_drew1) | exact HB.out)⟩
      · rw [if_neg c7] at H
        have c7b0 : ((t425.length : Int) == 0) = false := beq_eq_false_iff_ne.mpr c7
        have c7b1 : ((t425.length : Int) != 0) = true := bne_iff_ne.mpr c7
        have c7b2 : ¬ (t425 = []) := fun h_ => c7 (by rw [h_]; rfl)
        obtain rfl := Option.some.inj H
        go_enter Try.func13, Try.ntmps13
        go_wp2_with (first | ((with_reducible refine gate_callee (f := 21) rfl ?_); refine goesL_ (some 30) rfl rfl Try.func21 (by kernel_rfl) rfl #[.int .i64 (wrap64 (1 + (wrap64 (Int.tmod a0 6)))), .int .i64 (wrap64 (1 + (wrap64 (Int.tmod a1 7))))] rfl (by (try simp only [List.map_toArray, List.map_cons, List.map_nil]); first | done | rfl | (simp only [List.length_drop, List.length_take]; rfl)) ?_; (with_reducible refine (wager_Lost.calls (wrap64 (1 + (wrap64 (Int.tmod a0 6)))) (wrap64 (1 + (wrap64 (Int.tmod a1 7)))) t425 t426 _ A4.out).mono ?_); rintro e w12 ⟨v427, rfl, ho0, hb⟩; refine ⟨_, rfl, ?_⟩; have n0_ := Aside0.mk (Kd.S_lower ho0 (below_size (by repeat (first | (with_reducible first | exact HB.out | apply below_alloc | apply pw_below_drewN | apply below_drew1) | exact HB.out)))); have n1_ := Aside0.mk (below_step (by repeat (first | (with_reducible first | exact HB.out | apply below_alloc | apply pw_below_drewN | apply below_drew1) | exact HB.out)) hb); clear HB; have HO428 := n0_; have HB := n1_; clear n0_ n1_; (try clear hb); (try clear hb2); (try clear hk); (try clear hi); (try clear ho0); obtain ⟨Ao13, co13, eo13⟩ := Kd.S_slice HO428.out; subst eo13))
        go_ret
        exact ⟨by first | rfl | (simp [errW_none, errW_some] <;> rfl) | (simp [*, errW_none, errW_some] <;> rfl), by repeat (first | (with_reducible first | exact HB.out | apply below_alloc | apply pw_below_drewN | apply below_drew1) | exact HB.out)⟩
    · rw [if_neg c6] at H
      have c6b0 : (t426 == 8) = false := beq_eq_false_iff_ne.mpr c6
      have c6b1 : (t426 != 8) = true := bne_iff_ne.mpr c6
      obtain rfl := Option.some.inj H
      go_enter Try.func13, Try.ntmps13
      go_wp2_with (first | ((with_reducible refine gate_callee (f := 21) rfl ?_); refine goesL_ (some 30) rfl rfl Try.func21 (by kernel_rfl) rfl #[.int .i64 (wrap64 (1 + (wrap64 (Int.tmod a0 6)))), .int .i64 (wrap64 (1 + (wrap64 (Int.tmod a1 7))))] rfl (by (try simp only [List.map_toArray, List.map_cons, List.map_nil]); first | done | rfl | (simp only [List.length_drop, List.length_take]; rfl)) ?_; (with_reducible refine (wager_Lost.calls (wrap64 (1 + (wrap64 (Int.tmod a0 6)))) (wrap64 (1 + (wrap64 (Int.tmod a1 7)))) t425 t426 _ A4.out).mono ?_); rintro e w14 ⟨v427, rfl, ho0, hb⟩; refine ⟨_, rfl, ?_⟩; have n0_ := Aside0.mk (Kd.S_lower ho0 (below_size (by repeat (first | (with_reducible first | exact HB.out | apply below_alloc | apply pw_below_drewN | apply below_drew1) | exact HB.out)))); have n1_ := Aside0.mk (below_step (by repeat (first | (with_reducible first | exact HB.out | apply below_alloc | apply pw_below_drewN | apply below_drew1) | exact HB.out)) hb); clear HB; have HO428 := n0_; have HB := n1_; clear n0_ n1_; (try clear hb); (try clear hb2); (try clear hk); (try clear hi); (try clear ho0)))
      go_ret
      exact ⟨by first | rfl | (simp [errW_none, errW_some] <;> rfl) | (simp [*, errW_none, errW_some] <;> rfl), by repeat (first | (with_reducible first | exact HB.out | apply below_alloc | apply pw_below_drewN | apply below_drew1) | exact HB.out)⟩
  · rw [if_neg c5] at H
    have c5b0 : decide (24 < (wrap64 ((wrap64 (1 + (wrap64 (Int.tmod a0 6)))) * (wrap64 (1 + (wrap64 (Int.tmod a1 7))))))) = false := decide_eq_false c5
    clear c5
    by_cases c15 : t426 = 0
    · rw [if_pos c15] at H
      have c15b0 : (t426 == 0) = true := beq_iff_eq.mpr c15
      have c15b1 : (t426 != 0) = false := bne_eq_false_iff_eq.mpr c15
      clear c15
      have HC16 := Aside0.mk H
      clear H
      go_enter Try.func13, Try.ntmps13
      go_upto_region 7 with (first | ((with_reducible refine gate_callee (f := 21) rfl ?_); refine goesL_ (some 30) rfl rfl Try.func21 (by kernel_rfl) rfl #[.int .i64 (wrap64 (1 + (wrap64 (Int.tmod a0 6)))), .int .i64 (wrap64 (1 + (wrap64 (Int.tmod a1 7))))] rfl (by (try simp only [List.map_toArray, List.map_cons, List.map_nil]); first | done | rfl | (simp only [List.length_drop, List.length_take]; rfl)) ?_; (with_reducible refine (wager_Lost.calls (wrap64 (1 + (wrap64 (Int.tmod a0 6)))) (wrap64 (1 + (wrap64 (Int.tmod a1 7)))) t425 t426 _ A4.out).mono ?_); rintro e w17 ⟨v427, rfl, ho0, hb⟩; refine ⟨_, rfl, ?_⟩; have n0_ := Aside0.mk (Kd.S_lower ho0 (below_size (by repeat (first | (with_reducible first | exact HB.out | apply below_alloc | apply pw_below_drewN | apply below_drew1) | exact HB.out)))); have n1_ := Aside0.mk (below_step (by repeat (first | (with_reducible first | exact HB.out | apply below_alloc | apply pw_below_drewN | apply below_drew1) | exact HB.out)) hb); clear HB; have HO428 := n0_; have HB := n1_; clear n0_ n1_; (try clear hb); (try clear hb2); (try clear hk); (try clear hi); (try clear ho0)))
      (try simp only [Act.put, List.setIfInBounds_toArray, List.set_cons_zero, List.set_cons_succ])
      go_cut [70] (fun v70 wc => ∃ (kq : Nat) (x70_15 : Bool), v70 = .bool x70_15 ∧ Aside0 (drovewaylaw07_WagerLosing.j0 kq l2 (wrap64 (1 + (wrap64 (Int.tmod a0 6)))) t425 x70_15 = some r) ∧ Aside0 (kq ≤ k) ∧ Aside0 (Kd.S (Kd.slice 3 (Kd.int .i64)) 25 wc w.heap.size (fun _ => True) v427 t425) ∧ Aside0 (Below w.heap.size w wc))
      case first =>
        have H := HC16.out
        clear HC16
        by_cases c18 : (l2.length : Int) = (wrap64 (1 + (wrap64 (Int.tmod a0 6))))
        · rw [if_pos c18] at H
          have c18b0 : ((l2.length : Int) == (wrap64 (1 + (wrap64 (Int.tmod a0 6))))) = true := beq_iff_eq.mpr c18
          have c18b1 : ((l2.length : Int) != (wrap64 (1 + (wrap64 (Int.tmod a0 6))))) = false := bne_eq_false_iff_eq.mpr c18
          clear c18
          (first | rw [c18b0] | (simp only [i64_w, i32_w]; rw [c18b0]) | skip)
          replace H := Option.bind_eq_some_iff.mp H
          obtain ⟨t430, A190, H⟩ := H
          replace H : (if t430 = true then (if 0 < (l2.length : Int) then (if (rd l2 0) > (wrap64 (1 + (wrap64 (Int.tmod a1 7)))) then (drovewaylaw07_WagerLosing.j0 k l2 (wrap64 (1 + (wrap64 (Int.tmod a0 6)))) t425 true) else (drovewaylaw07_WagerLosing.j0 k l2 (wrap64 (1 + (wrap64 (Int.tmod a0 6)))) t425 ((rd l2 0) == 0))) else (none)) else (drovewaylaw07_WagerLosing.j0 k l2 (wrap64 (1 + (wrap64 (Int.tmod a0 6)))) t425 true)) = some r := H
          have A19 := Aside0.mk A190
          clear A190
          by_cases c20 : t430 = true
          · subst c20
            have H1 : (if 0 < (l2.length : Int) then (if (rd l2 0) > (wrap64 (1 + (wrap64 (Int.tmod a1 7)))) then (drovewaylaw07_WagerLosing.j0 k l2 (wrap64 (1 + (wrap64 (Int.tmod a0 6)))) t425 true) else (drovewaylaw07_WagerLosing.j0 k l2 (wrap64 (1 + (wrap64 (Int.tmod a0 6)))) t425 ((rd l2 0) == 0))) else (none)) = some r := by rw [if_pos rfl] at H; exact H
            clear H
            have H := H1
            clear H1
            by_cases c21 : 0 < (l2.length : Int)
            · rw [if_pos c21] at H
              have c21b0 : decide (0 < (l2.length : Int)) = true := decide_eq_true c21
              have c21b1 : decide (0 < l2.length) = true := decide_eq_true (by omega)
              clear c21
              by_cases c22 : (rd l2 0) > (wrap64 (1 + (wrap64 (Int.tmod a1 7))))
              · rw [if_pos c22] at H
                have c22b0 : decide ((wrap64 (1 + (wrap64 (Int.tmod a1 7)))) < (rd l2 0)) = true := decide_eq_true c22
                clear c22
                have H' := Aside0.mk H
                clear H
                go_wp2_with (first | (go_at_call 38; (with_reducible refine (drovewayref07_IsBar.calls k _ _ l2 true _ ?side1 ?side2 A19.out).mono ?_); (case side1 => repeat (first | exact (Kd.C_below HR2.out HB.out) | (with_reducible refine Kd.C_alloc ?_ _) | (with_reducible refine Kd.C_drewN ?_ _) | (with_reducible refine Kd.C_drew ?_))); (case side2 => exact HC2.out); rintro e w' ⟨rfl, ⟨nd, rfl⟩⟩; have p431 : 0 ≤ (0 : Int) := (by omega); have q431 : 0 < (l2.length : Int) := of_decide_eq_true (by first | (with_reducible assumption) | assumption); obtain ⟨ad431, e431, hx431_0⟩ := Kd.at_int HR2.out 0 p431 q431; cases e431; have qi431 : (0 < l2.length) = True := eq_true (by omega); (try rw [show ((0 : Int)).toNat = 0 from rfl] at hx431_0); (try rw [Addr.add_zero'] at hx431_0); replace hx431_0 := (HB.out.cell (World.block_lt_of_cell? w _ hx431_0)).trans hx431_0; replace p431 := eq_true p431; replace q431 := eq_true q431))
                go_meet
                case rel => exact ⟨_, (true), (by first | rfl | (simp; done) | (simp [*]; done)), H', ⟨by first | omega | exact Nat.le_refl _⟩, ⟨by (with_reducible repeat (first | apply Kd.S_alloc | apply Kd.S_drewN | apply Kd.S_drew)); exact HO428.out⟩, ⟨by repeat (first | (with_reducible first | exact HB.out | apply below_alloc | apply pw_below_drewN | apply below_drew1) | exact HB.out)⟩⟩
              · rw [if_neg c22] at H
                have c22b0 : decide ((wrap64 (1 + (wrap64 (Int.tmod a1 7)))) < (rd l2 0)) = false := decide_eq_false c22
                clear c22
                have H' := Aside0.mk H
                clear H
                go_wp2_with (first | (go_at_call 38; (with_reducible refine (drovewayref07_IsBar.calls k _ _ l2 true _ ?side1 ?side2 A19.out).mono ?_); (case side1 => repeat (first | exact (Kd.C_below HR2.out HB.out) | (with_reducible refine Kd.C_alloc ?_ _) | (with_reducible refine Kd.C_drewN ?_ _) | (with_reducible refine Kd.C_drew ?_))); (case side2 => exact HC2.out); rintro e w' ⟨rfl, ⟨nd, rfl⟩⟩; have p431 : 0 ≤ (0 : Int) := (by omega); have q431 : 0 < (l2.length : Int) := of_decide_eq_true (by first | (with_reducible assumption) | assumption); obtain ⟨ad431, e431, hx431_0⟩ := Kd.at_int HR2.out 0 p431 q431; cases e431; have qi431 : (0 < l2.length) = True := eq_true (by omega); (try rw [show ((0 : Int)).toNat = 0 from rfl] at hx431_0); (try rw [Addr.add_zero'] at hx431_0); replace hx431_0 := (HB.out.cell (World.block_lt_of_cell? w _ hx431_0)).trans hx431_0; replace p431 := eq_true p431; replace q431 := eq_true q431; have p432 : 0 ≤ (0 : Int) := (by omega); have q432 : 0 < (l2.length : Int) := of_decide_eq_true (by first | (with_reducible assumption) | assumption); obtain ⟨ad432, e432, hx432_0⟩ := Kd.at_int HR2.out 0 p432 q432; obtain rfl : ad431 = ad432 := (by injection e432); have qi432 : (0 < l2.length) = True := eq_true (by omega); (try rw [show ((0 : Int)).toNat = 0 from rfl] at hx432_0); (try rw [Addr.add_zero'] at hx432_0); replace hx432_0 := (HB.out.cell (World.block_lt_of_cell? w _ hx432_0)).trans hx432_0; replace p432 := eq_true p432; replace q432 := eq_true q432))
                go_meet
                case rel => exact ⟨_, (((rd l2 0) == 0)), (by first | rfl | (simp; done) | (simp [*]; done)), H', ⟨by first | omega | exact Nat.le_refl _⟩, ⟨by (with_reducible repeat (first | apply Kd.S_alloc | apply Kd.S_drewN | apply Kd.S_drew)); exact HO428.out⟩, ⟨by repeat (first | (with_reducible first | exact HB.out | apply below_alloc | apply pw_below_drewN | apply below_drew1) | exact HB.out)⟩⟩
            · rw [if_neg c21] at H
              exact absurd H (by simp)
          · replace c20 := Bool.eq_false_iff.mpr c20
            subst c20
            have H1 : (drovewaylaw07_WagerLosing.j0 k l2 (wrap64 (1 + (wrap64 (Int.tmod a0 6)))) t425 true) = some r := by rw [if_neg (show ¬ (false = true) by decide)] at H; exact H
            clear H
            have H := H1
            clear H1
            have H' := Aside0.mk H
            clear H
            go_wp2_with (first | (go_at_call 38; (with_reducible refine (drovewayref07_IsBar.calls k _ _ l2 false _ ?side1 ?side2 A19.out).mono ?_); (case side1 => repeat (first | exact (Kd.C_below HR2.out HB.out) | (with_reducible refine Kd.C_alloc ?_ _) | (with_reducible refine Kd.C_drewN ?_ _) | (with_reducible refine Kd.C_drew ?_))); (case side2 => exact HC2.out); rintro e w' ⟨rfl, ⟨nd, rfl⟩⟩))
            go_meet
            case rel => exact ⟨_, (true), (by first | rfl | (simp; done) | (simp [*]; done)), H', ⟨by first | omega | exact Nat.le_refl _⟩, ⟨by (with_reducible repeat (first | apply Kd.S_alloc | apply Kd.S_drewN | apply Kd.S_drew)); exact HO428.out⟩, ⟨by repeat (first | (with_reducible first | exact HB.out | apply below_alloc | apply pw_below_drewN | apply below_drew1) | exact HB.out)⟩⟩
        · rw [if_neg c18] at H
          have c18b0 : ((l2.length : Int) == (wrap64 (1 + (wrap64 (Int.tmod a0 6))))) = false := beq_eq_false_iff_ne.mpr c18
          have c18b1 : ((l2.length : Int) != (wrap64 (1 + (wrap64 (Int.tmod a0 6))))) = true := bne_iff_ne.mpr c18
          (first | rw [c18b0] | (simp only [i64_w, i32_w]; rw [c18b0]) | skip)
          have H' := Aside0.mk H
          clear H
          go_wp2
          go_meet
          case rel => exact ⟨_, (true), (by first | rfl | (simp; done) | (simp [*]; done)), H', ⟨by first | omega | exact Nat.le_refl _⟩, ⟨by (with_reducible repeat (first | apply Kd.S_alloc | apply Kd.S_drewN | apply Kd.S_drew)); exact HO428.out⟩, ⟨by repeat (first | (with_reducible first | exact HB.out | apply below_alloc | apply pw_below_drewN | apply below_drew1) | exact HB.out)⟩⟩
      case rest =>
        clear HC16
        try clear c1
        try clear c2
        try clear p2
        try clear p4
        try clear q4
        try clear hx4
        try clear qi4
        try clear c5
        try clear c5b0
        try clear c6
        try clear c6b0
        try clear c6b1
        try clear p6
        try clear c7
        try clear c7b0
        try clear c7b1
        try clear c7b2
        try clear c13
        try clear c15
        try clear c15b0
        try clear c15b1
        try clear c18
        try clear c18b0
        try clear c18b1
        try clear c20
        try clear c21
        try clear c21b0
        try clear c21b1
        try clear c22
        try clear c22b0
        try clear hx431_0
        try clear hx432_0
        try clear p431
        try clear p432
        try clear q431
        try clear q432
        obtain ⟨kq, x70_15, rfl, HA, HJ15, HO_9, HB⟩ := hcut
        cases kq with
        | zero => exact absurd HA.out (by simp [drovewaylaw07_WagerLosing.j0])
        | succ kj15 =>
          have H := HA.out
          clear HA
          simp only [drovewaylaw07_WagerLosing.j0] at H
          by_cases c23 : x70_15 = true
          · subst c23
            have H1 : ((drovewaylaw07_alive.f).bind fun t433 => (some t433)) = some r := by rw [if_pos rfl] at H; exact H
            clear H
            have H := H1
            clear H1
            replace H := Option.bind_eq_some_iff.mp H
            obtain ⟨t433, A240, H⟩ := H
            replace H : (some t433) = some r := H
            have A24 := Aside0.mk A240
            clear A240
            obtain rfl := Option.some.inj H
            go_wp2_with (first | ((with_reducible refine gate_callee (f := 19) rfl ?_); refine goesL_ (some 71) rfl rfl Try.func19 (by kernel_rfl) rfl #[] rfl (by (try simp only [List.map_toArray, List.map_cons, List.map_nil]); first | done | rfl | (simp only [List.length_drop, List.length_take]; rfl)) ?_; (with_reducible refine (drovewaylaw07_alive.calls  t433 _ A24.out).mono ?_); rintro e w25 ⟨rfl, hb⟩; refine ⟨_, rfl, ?_⟩; have n0_ := Aside0.mk (Kd.S_below (by (with_reducible repeat (first | apply Kd.S_alloc | apply Kd.S_drewN | apply Kd.S_drew)); exact HO_9.out) hb); have n1_ := Aside0.mk (below_step (by repeat (first | (with_reducible first | exact HB.out | apply below_alloc | apply pw_below_drewN | apply below_drew1) | exact HB.out)) hb); clear HO_9; clear HB; have HO_9 := n0_; have HB := n1_; clear n0_ n1_; (try clear hb); (try clear hb2); (try clear hk); (try clear hi)))
            go_ret
            exact ⟨by first | rfl | (simp [errW_none, errW_some] <;> rfl) | (simp [*, errW_none, errW_some] <;> rfl), by repeat (first | (with_reducible first | exact HB.out | apply below_alloc | apply pw_below_drewN | apply below_drew1) | exact HB.out)⟩
          · replace c23 := Bool.eq_false_iff.mpr c23
            subst c23
            have H1 : ((drovewaylaw07_inside.f kj15 t425 l2).bind fun t434 => ((wager_Chomp.f l2).bind fun bt435 => (if ((bt435.2 == 10) != t434) = true then (drovewaylaw07_WagerLosing.j1 kj15 l2 (wrap64 (1 + (wrap64 (Int.tmod a0 6)))) t425 t434 bt435.1 true) else (if bt435.2 = 0 then (drovewaylaw07_WagerLosing.j1 kj15 l2 (wrap64 (1 + (wrap64 (Int.tmod a0 6)))) t425 t434 bt435.1 false) else (drovewaylaw07_WagerLosing.j1 kj15 l2 (wrap64 (1 + (wrap64 (Int.tmod a0 6)))) t425 t434 bt435.1 (bt435.2 != 10)))))) = some r := by rw [if_neg (show ¬ (false = true) by decide)] at H; exact H
            clear H
            have H := H1
            clear H1
            replace H := Option.bind_eq_some_iff.mp H
            obtain ⟨t434, A260, H⟩ := H
            replace H : ((wager_Chomp.f l2).bind fun bt435 => (if ((bt435.2 == 10) != t434) = true then (drovewaylaw07_WagerLosing.j1 kj15 l2 (wrap64 (1 + (wrap64 (Int.tmod a0 6)))) t425 t434 bt435.1 true) else (if bt435.2 = 0 then (drovewaylaw07_WagerLosing.j1 kj15 l2 (wrap64 (1 + (wrap64 (Int.tmod a0 6)))) t425 t434 bt435.1 false) else (drovewaylaw07_WagerLosing.j1 kj15 l2 (wrap64 (1 + (wrap64 (Int.tmod a0 6)))) t425 t434 bt435.1 (bt435.2 != 10))))) = some r := H
            have A26 := Aside0.mk A260
            clear A260
            replace H := Option.bind_eq_some_iff.mp H
            obtain ⟨⟨t435, t436⟩, A270, H⟩ := H
            replace H : (if ((t436 == 10) != t434) = true then (drovewaylaw07_WagerLosing.j1 kj15 l2 (wrap64 (1 + (wrap64 (Int.tmod a0 6)))) t425 t434 t435 true) else (if t436 = 0 then (drovewaylaw07_WagerLosing.j1 kj15 l2 (wrap64 (1 + (wrap64 (Int.tmod a0 6)))) t425 t434 t435 false) else (drovewaylaw07_WagerLosing.j1 kj15 l2 (wrap64 (1 + (wrap64 (Int.tmod a0 6)))) t425 t434 t435 (t436 != 10)))) = some r := H
            have A27 := Aside0.mk A270
            clear A270
            have HC28 := Aside0.mk H
            clear H
            obtain ⟨Ao29, co29, eo29⟩ := Kd.S_slice HO_9.out
            subst eo29
            go_upto_region 11 with (first | ((with_reducible refine gate_callee (f := 39) rfl ?_); refine goesL_ (some 74) rfl rfl Try.func39 (by kernel_rfl) rfl #[.slice Ao29 t425.length co29, .slice A2 l2.length c2] rfl (by (try simp only [List.map_toArray, List.map_cons, List.map_nil]); first | done | rfl | (simp only [List.length_drop, List.length_take]; rfl)) ?_; (with_reducible refine (drovewaylaw07_inside.calls kj15 _ _ t425 _ _ l2 t434 _ ?side1 ?side2 ?side3 ?side4 A26.out).mono ?_); (case side1 => repeat (first | exact (Kd.S_reads' HO_9.out).2.2 | (with_reducible refine Kd.C_alloc ?_ _) | (with_reducible refine Kd.C_drewN ?_ _) | (with_reducible refine Kd.C_drew ?_))); (case side2 => exact (Kd.S_reads' HO_9.out).2.1); (case side3 => repeat (first | exact (Kd.C_below HR2.out HB.out) | (with_reducible refine Kd.C_alloc ?_ _) | (with_reducible refine Kd.C_drewN ?_ _) | (with_reducible refine Kd.C_drew ?_))); (case side4 => exact HC2.out); rintro e w' ⟨rfl, ⟨nd, rfl⟩⟩; refine ⟨_, rfl, ?_⟩) | ((with_reducible refine gate_callee (f := 33) rfl ?_); refine goesL_ (some 77) rfl rfl Try.func33 (by kernel_rfl) rfl #[.slice A2 l2.length c2] rfl (by (try simp only [List.map_toArray, List.map_cons, List.map_nil]); first | done | rfl | (simp only [List.length_drop, List.length_take]; rfl)) ?_; (with_reducible refine (wager_Chomp.calls _ _ l2 t435 t436 _ ?side1 ?side2 A27.out).mono ?_); (case side1 => repeat (first | exact (Kd.C_below HR2.out (by repeat (first | (with_reducible first | exact HB.out | apply below_alloc | apply pw_below_drewN | apply below_drew1) | exact HB.out))) | (with_reducible refine Kd.C_alloc ?_ _) | (with_reducible refine Kd.C_drewN ?_ _) | (with_reducible refine Kd.C_drew ?_))); (case side2 => exact HC2.out); rintro e w30 ⟨v437, rfl, ho0, hb⟩; refine ⟨_, rfl, ?_⟩; have n0_ := Aside0.mk (Kd.S_below (by (with_reducible repeat (first | apply Kd.S_alloc | apply Kd.S_drewN | apply Kd.S_drew)); exact HO_9.out) hb); have n1_ := Aside0.mk (Kd.R_lower ho0 (below_size (by repeat (first | (with_reducible first | exact HB.out | apply below_alloc | apply pw_below_drewN | apply below_drew1) | exact HB.out)))); have n2_ := Aside0.mk (below_step (by repeat (first | (with_reducible first | exact HB.out | apply below_alloc | apply pw_below_drewN | apply below_drew1) | exact HB.out)) hb); clear HO_9; clear HB; have HO_9 := n0_; have HO438 := n1_; have HB := n2_; clear n0_ n1_ n2_; (try clear hb); (try clear hb2); (try clear hk); (try clear hi); (try clear ho0)))
            (try simp only [Act.put, List.setIfInBounds_toArray, List.set_cons_zero, List.set_cons_succ])
            go_cut [91] (fun v91 wc => ∃ (kq : Nat) (x91_27 : Bool), v91 = .bool x91_27 ∧ Aside0 (drovewaylaw07_WagerLosing.j1 kq l2 (wrap64 (1 + (wrap64 (Int.tmod a0 6)))) t425 t434 t435 x91_27 = some r) ∧ Aside0 (kq ≤ kj15) ∧ Aside0 (Kd.S (Kd.slice 3 (Kd.int .i64)) 25 wc w.heap.size (fun _ => True) (.slice Ao29 t425.length co29) t425) ∧ Aside0 (Kd.R k49 49 wc w.heap.size (fun _ => True) v437 t435) ∧ Aside0 (Below w.heap.size w wc))
            case first =>
              have H := HC28.out
              clear HC28
              by_cases c31 : ((t436 == 10) != t434) = true
              · rw [if_pos c31] at H
                have c31b0 : ((t436 == 10) != t434) = true := c31
                (try (have c31b1 : decide ((t436 == 10) = t434) = false := by simpa using c31))
                (try (have c31b2 : ((t436 == 10) == t434) = false := by simpa using c31))
                (try (have c31b3 : ¬ ((t436 == 10) = t434) := by simpa using c31))
                clear c31
                (first | rw [c31b0] | (simp only [i64_w, i32_w]; rw [c31b0]) | skip)
                have H' := Aside0.mk H
                clear H
                go_wp2
                go_meet
                case rel => exact ⟨_, (true), (by first | rfl | (simp; done) | (simp [*]; done)), H', ⟨by have := HJ15.out; first | omega | exact Nat.le_refl _⟩, ⟨by (with_reducible repeat (first | apply Kd.S_alloc | apply Kd.S_drewN | apply Kd.S_drew)); exact HO_9.out⟩, ⟨by (with_reducible repeat (first | apply Kd.R_alloc | apply Kd.R_drewN | apply Kd.R_drew)); exact HO438.out⟩, ⟨by repeat (first | (with_reducible first | exact HB.out | apply below_alloc | apply pw_below_drewN | apply below_drew1) | exact HB.out)⟩⟩
              · rw [if_neg c31] at H
                have c31b0 : ((t436 == 10) != t434) = false := by simpa using c31
                (try (have c31b1 : decide ((t436 == 10) = t434) = true := by simpa using c31))
                (try (have c31b2 : ((t436 == 10) == t434) = true := by simpa using c31))
                clear c31
                (first | rw [c31b0] | (simp only [i64_w, i32_w]; rw [c31b0]) | skip)
                by_cases c32 : t436 = 0
                · rw [if_pos c32] at H
                  have c32b0 : (t436 == 0) = true := beq_iff_eq.mpr c32
                  have c32b1 : (t436 != 0) = false := bne_eq_false_iff_eq.mpr c32
                  clear c32
                  have H' := Aside0.mk H
                  clear H
                  go_wp2
                  go_meet
                  case rel => exact ⟨_, (false), (by first | rfl | (simp; done) | (simp [*]; done)), H', ⟨by have := HJ15.out; first | omega | exact Nat.le_refl _⟩, ⟨by (with_reducible repeat (first | apply Kd.S_alloc | apply Kd.S_drewN | apply Kd.S_drew)); exact HO_9.out⟩, ⟨by (with_reducible repeat (first | apply Kd.R_alloc | apply Kd.R_drewN | apply Kd.R_drew)); exact HO438.out⟩, ⟨by repeat (first | (with_reducible first | exact HB.out | apply below_alloc | apply pw_below_drewN | apply below_drew1) | exact HB.out)⟩⟩
                · rw [if_neg c32] at H
                  have c32b0 : (t436 == 0) = false := beq_eq_false_iff_ne.mpr c32
                  have c32b1 : (t436 != 0) = true := bne_iff_ne.mpr c32
                  have H' := Aside0.mk H
                  clear H
                  go_wp2
                  go_meet
                  case rel => exact ⟨_, ((t436 != 10)), (by first | rfl | (simp; done) | (simp [*]; done)), H', ⟨by have := HJ15.out; first | omega | exact Nat.le_refl _⟩, ⟨by (with_reducible repeat (first | apply Kd.S_alloc | apply Kd.S_drewN | apply Kd.S_drew)); exact HO_9.out⟩, ⟨by (with_reducible repeat (first | apply Kd.R_alloc | apply Kd.R_drewN | apply Kd.R_drew)); exact HO438.out⟩, ⟨by repeat (first | (with_reducible first | exact HB.out | apply below_alloc | apply pw_below_drewN | apply below_drew1) | exact HB.out)⟩⟩
            case rest =>
              clear HC28
              try clear c1
              try clear c2
              try clear p2
              try clear c3
              try clear p4
              try clear q4
              try clear hx4
              try clear qi4
              try clear c5
              try clear c5b0
              try clear c6
              try clear c6b0
              try clear c6b1
              try clear p6
              try clear c7
              try clear c7b0
              try clear c7b1
              try clear c7b2
              try clear c13
              try clear c15
              try clear c15b0
              try clear c15b1
              try clear c18
              try clear c18b0
              try clear c18b1
              try clear c19
              try clear c20
              try clear c21
              try clear c21b0
              try clear c21b1
              try clear c22
              try clear c22b0
              try clear c23
              try clear c31
              try clear c31b0
              try clear c31b1
              try clear c31b2
              try clear c32
              try clear c32b0
              try clear c32b1
              try clear hx431_0
              try clear hx432_0
              try clear p2
              try clear p4
              try clear p431
              try clear p432
              try clear p6
              try clear q4
              try clear q431
              try clear q432
              obtain ⟨kq, x91_27, rfl, HA, HJ27, HO_9, HO_12, HB⟩ := hcut
              cases kq with
              | zero => exact absurd HA.out (by simp [drovewaylaw07_WagerLosing.j1])
              | succ kj27 =>
                have H := HA.out
                clear HA
                simp only [drovewaylaw07_WagerLosing.j1] at H
                by_cases c33 : x91_27 = true
                · subst c33
                  have H1 : (some false) = some r := by rw [if_pos rfl] at H; exact H
                  clear H
                  have H := H1
                  clear H1
                  obtain rfl := Option.some.inj H
                  go_wp2
                  go_ret
                  exact ⟨by first | rfl | (simp [errW_none, errW_some] <;> rfl) | (simp [*, errW_none, errW_some] <;> rfl), by repeat (first | (with_reducible first | exact HB.out | apply below_alloc | apply pw_below_drewN | apply below_drew1) | exact HB.out)⟩
                · replace c33 := Bool.eq_false_iff.mpr c33
                  subst c33
                  have H1 : (drovewaylaw07_WagerLosing.l0 kj27 l2 (wrap64 (1 + (wrap64 (Int.tmod a0 6)))) t425 t434 t435 0 0) = some r := by rw [if_neg (show ¬ (false = true) by decide)] at H; exact H
                  clear H
                  have H := H1
                  clear H1
                  have H' := Aside0.mk H
                  clear H
                  go_wp2
                  go_loopg [14, 15] kj27 (fun kq v14 v15 w' => ∃ (x14_3 : Int) (x15_3 : Int), v14 = .int .i64 x14_3 ∧ v15 = .int .i64 x15_3 ∧ Aside0 (drovewaylaw07_WagerLosing.l0 kq l2 (wrap64 (1 + (wrap64 (Int.tmod a0 6)))) t425 t434 t435 x14_3 x15_3 = some r) ∧ Aside0 (kq ≤ kj27) ∧ Aside0 (Kd.S (Kd.slice 3 (Kd.int .i64)) 25 w' w.heap.size (fun _ => True) (.slice Ao29 t425.length co29) t425) ∧ Aside0 (Kd.R k49 49 w' w.heap.size (fun _ => True) v437 t435) ∧ Aside0 (Below w.heap.size w w'))
                  case atStart => exact ⟨(0), (0), (by first | rfl | (simp; done) | (simp [*]; done)), (by first | rfl | (simp; done) | (simp [*]; done)), H', ⟨Nat.le_refl _⟩, ⟨by (with_reducible repeat (first | apply Kd.S_alloc | apply Kd.S_drewN | apply Kd.S_drew)); exact HO_9.out⟩, ⟨by (with_reducible repeat (first | apply Kd.R_alloc | apply Kd.R_drewN | apply Kd.R_drew)); exact HO_12.out⟩, ⟨by repeat (first | (with_reducible first | exact HB.out | apply below_alloc | apply pw_below_drewN | apply below_drew1) | exact HB.out)⟩⟩
                  case round =>
                    clear H'
                    try clear c1
                    try clear c2
                    try clear p2
                    try clear c3
                    try clear p4
                    try clear q4
                    try clear hx4
                    try clear qi4
                    try clear c5
                    try clear c5b0
                    try clear c6
                    try clear c6b0
                    try clear c6b1
                    try clear p6
                    try clear c7
                    try clear c7b0
                    try clear c7b1
                    try clear c7b2
                    try clear c13
                    try clear c15
                    try clear c15b0
                    try clear c15b1
                    try clear c18
                    try clear c18b0
                    try clear c18b1
                    try clear c19
                    try clear c20
                    try clear c21
                    try clear c21b0
                    try clear c21b1
                    try clear c22
                    try clear c22b0
                    try clear c23
                    try clear c31
                    try clear c31b0
                    try clear c31b1
                    try clear c31b2
                    try clear c32
                    try clear c32b0
                    try clear c32b1
                    try clear c33
                    try clear hx431_0
                    try clear hx432_0
                    try clear p2
                    try clear p4
                    try clear p431
                    try clear p432
                    try clear p6
                    try clear q4
                    try clear q431
                    try clear q432
                    obtain ⟨x14_3, x15_3, rfl, rfl, HA, HK3, HO_9, HO_12, HB⟩ := hrel
                    cases gk with
                    | zero => exact absurd HA.out (by simp [drovewaylaw07_WagerLosing.l0])
                    | succ k3 =>
                      have H := HA.out
                      clear HA
                      simp only [drovewaylaw07_WagerLosing.l0] at H
                      by_cases c34 : x15_3 < (wrap64 (1 + (wrap64 (Int.tmod a0 6))))
                      · rw [if_pos c34] at H
                        have c34b0 : decide (x15_3 < (wrap64 (1 + (wrap64 (Int.tmod a0 6))))) = true := decide_eq_true c34
                        clear c34
                        have H' := Aside0.mk H
                        clear H
                        go_wp2
                        go_loopg [14, 16] k3 (fun kq v14 v16 w' => ∃ (x14_4 : Int) (x16_4 : Int), v14 = .int .i64 x14_4 ∧ v16 = .int .i64 x16_4 ∧ Aside0 (drovewaylaw07_WagerLosing.l1 kq l2 (wrap64 (1 + (wrap64 (Int.tmod a0 6)))) t425 t434 t435 x14_4 x15_3 x16_4 = some r) ∧ Aside0 (kq ≤ k3) ∧ Aside0 (Kd.S (Kd.slice 3 (Kd.int .i64)) 25 w' w.heap.size (fun _ => True) (.slice Ao29 t425.length co29) t425) ∧ Aside0 (Kd.R k49 49 w' w.heap.size (fun _ => True) v437 t435) ∧ Aside0 (Below w.heap.size w w'))
                        case atStart => exact ⟨(x14_3), (0), (by first | rfl | (simp; done) | (simp [*]; done)), (by first | rfl | (simp; done) | (simp [*]; done)), H', ⟨Nat.le_refl _⟩, ⟨by (with_reducible repeat (first | apply Kd.S_alloc | apply Kd.S_drewN | apply Kd.S_drew)); exact HO_9.out⟩, ⟨by (with_reducible repeat (first | apply Kd.R_alloc | apply Kd.R_drewN | apply Kd.R_drew)); exact HO_12.out⟩, ⟨by repeat (first | (with_reducible first | exact HB.out | apply below_alloc | apply pw_below_drewN | apply below_drew1) | exact HB.out)⟩⟩
                        case round =>
                          clear H'
                          try clear c1
                          try clear c2
                          try clear p2
                          try clear c3
                          try clear p4
                          try clear q4
                          try clear hx4
                          try clear qi4
                          try clear c5
                          try clear c5b0
                          try clear c6
                          try clear c6b0
                          try clear c6b1
                          try clear p6
                          try clear c7
                          try clear c7b0
                          try clear c7b1
                          try clear c7b2
                          try clear c13
                          try clear c15
                          try clear c15b0
                          try clear c15b1
                          try clear c18
                          try clear c18b0
                          try clear c18b1
                          try clear c19
                          try clear c20
                          try clear c21
                          try clear c21b0
                          try clear c21b1
                          try clear c22
                          try clear c22b0
                          try clear c23
                          try clear c31
                          try clear c31b0
                          try clear c31b1
                          try clear c31b2
                          try clear c32
                          try clear c32b0
                          try clear c32b1
                          try clear c33
                          try clear c34
                          try clear c34b0
                          try clear hx431_0
                          try clear hx432_0
                          try clear p2
                          try clear p4
                          try clear p431
                          try clear p432
                          try clear p6
                          try clear q4
                          try clear q431
                          try clear q432
                          obtain ⟨x14_4, x16_4, rfl, rfl, HA, HK4, HO_9, HO_12, HB⟩ := hrel
                          cases gk with
                          | zero => exact absurd HA.out (by simp [drovewaylaw07_WagerLosing.l1])
                          | succ k4 =>
                            have H := HA.out
                            clear HA
                            simp only [drovewaylaw07_WagerLosing.l1] at H
                            by_cases c35 : 0 ≤ x15_3
                            · rw [if_pos c35] at H
                              have c35b0 : decide (0 ≤ x15_3) = true := decide_eq_true c35
                              clear c35
                              by_cases c36 : x15_3 < (l2.length : Int)
                              · rw [if_pos c36] at H
                                have c36b0 : decide (x15_3 < (l2.length : Int)) = true := decide_eq_true c36
                                clear c36
                                by_cases c37 : x16_4 < (rd l2 x15_3)
                                · rw [if_pos c37] at H
                                  have c37b0 : decide (x16_4 < (rd l2 x15_3)) = true := decide_eq_true c37
                                  clear c37
                                  replace H := Option.bind_eq_some_iff.mp H
                                  obtain ⟨⟨t441, t442⟩, A380, H⟩ := H
                                  replace H : (if t442 = 0 then ((drovewaylaw07_inside.f k4 t425 t441).bind fun t445 => (if t445 = true then (if x14_4 ≥ (t435.length : Int) then (some false) else (if 0 ≤ x14_4 then (if x14_4 < (t435.length : Int) then (if (!(((rd_T49 t435 x14_4).f0) == x15_3) || (!(((rd_T49 t435 x14_4).f1) == x16_4))) = true then (some false) else (drovewaylaw07_WagerLosing.l1 k4 l2 (wrap64 (1 + (wrap64 (Int.tmod a0 6)))) t425 t434 t435 (wrap64 (x14_4 + 1)) x15_3 (wrap64 (x16_4 + 1)))) else (none)) else (none))) else (drovewaylaw07_WagerLosing.l1 k4 l2 (wrap64 (1 + (wrap64 (Int.tmod a0 6)))) t425 t434 t435 x14_4 x15_3 (wrap64 (x16_4 + 1))))) else (some false)) = some r := H
                                  have A38 := Aside0.mk A380
                                  clear A380
                                  by_cases c39 : t442 = 0
                                  · rw [if_pos c39] at H
                                    have c39b0 : (t442 == 0) = true := beq_iff_eq.mpr c39
                                    have c39b1 : (t442 != 0) = false := bne_eq_false_iff_eq.mpr c39
                                    clear c39
                                    replace H := Option.bind_eq_some_iff.mp H
                                    obtain ⟨t445, A400, H⟩ := H
                                    replace H : (if t445 = true then (if x14_4 ≥ (t435.length : Int) then (some false) else (if 0 ≤ x14_4 then (if x14_4 < (t435.length : Int) then (if (!(((rd_T49 t435 x14_4).f0) == x15_3) || (!(((rd_T49 t435 x14_4).f1) == x16_4))) = true then (some false) else (drovewaylaw07_WagerLosing.l1 k4 l2 (wrap64 (1 + (wrap64 (Int.tmod a0 6)))) t425 t434 t435 (wrap64 (x14_4 + 1)) x15_3 (wrap64 (x16_4 + 1)))) else (none)) else (none))) else (drovewaylaw07_WagerLosing.l1 k4 l2 (wrap64 (1 + (wrap64 (Int.tmod a0 6)))) t425 t434 t435 x14_4 x15_3 (wrap64 (x16_4 + 1)))) = some r := H
                                    have A40 := Aside0.mk A400
                                    clear A400
                                    by_cases c41 : t445 = true
                                    · subst c41
                                      have H1 : (if x14_4 ≥ (t435.length : Int) then (some false) else (if 0 ≤ x14_4 then (if x14_4 < (t435.length : Int) then (if (!(((rd_T49 t435 x14_4).f0) == x15_3) || (!(((rd_T49 t435 x14_4).f1) == x16_4))) = true then (some false) else (drovewaylaw07_WagerLosing.l1 k4 l2 (wrap64 (1 + (wrap64 (Int.tmod a0 6)))) t425 t434 t435 (wrap64 (x14_4 + 1)) x15_3 (wrap64 (x16_4 + 1)))) else (none)) else (none))) = some r := by rw [if_pos rfl] at H; exact H
                                      clear H
                                      have H := H1
                                      clear H1
                                      by_cases c42 : x14_4 ≥ (t435.length : Int)
                                      · rw [if_pos c42] at H
                                        have c42b0 : decide ((t435.length : Int) ≤ x14_4) = true := decide_eq_true c42
                                        clear c42
                                        obtain rfl := Option.some.inj H
                                        have p440 : 0 ≤ (x15_3 : Int) := of_decide_eq_true (by first | (with_reducible assumption) | assumption)
                                        have q440 : x15_3 < (l2.length : Int) := of_decide_eq_true (by first | (with_reducible assumption) | assumption)
                                        obtain ⟨ad440, e440, hx440_0⟩ := Kd.at_int HR2.out x15_3 p440 q440
                                        cases e440
                                        replace hx440_0 := (HB.out.cell (World.block_lt_of_cell? w _ hx440_0)).trans hx440_0
                                        replace p440 := eq_true p440
                                        replace q440 := eq_true q440
                                        go_wp2_with (first | ((with_reducible refine gate_callee (f := 36) rfl ?_); refine goesL_ (some 109) rfl rfl Try.func36 (by kernel_rfl) rfl #[.slice (some ad440) l2.length c2, .int .i64 x15_3, .int .i64 x16_4] rfl (by (try simp only [List.map_toArray, List.map_cons, List.map_nil]); first | done | rfl | (simp only [List.length_drop, List.length_take]; rfl)) ?_; (with_reducible refine (wager_Bitten.calls _ _ l2 x15_3 x16_4 t441 t442 _ ?side1 ?side2 A38.out).mono ?_); (case side1 => repeat (first | exact (Kd.C_below HR2.out HB.out) | (with_reducible refine Kd.C_alloc ?_ _) | (with_reducible refine Kd.C_drewN ?_ _) | (with_reducible refine Kd.C_drew ?_))); (case side2 => exact HC2.out); rintro e w43 ⟨v443, rfl, ho0, hb⟩; refine ⟨_, rfl, ?_⟩; have n0_ := Aside0.mk (Kd.S_elder' (by (with_reducible repeat (first | apply Kd.S_alloc | apply Kd.S_drewN | apply Kd.S_drew)); exact HO_9.out) (Kd.R_base ho0) hb); have n1_ := Aside0.mk (Kd.R_below (by (with_reducible repeat (first | apply Kd.R_alloc | apply Kd.R_drewN | apply Kd.R_drew)); exact HO_12.out) hb); have n2_ := Aside0.mk (Kd.R_lower ho0 (below_size (by repeat (first | (with_reducible first | exact HB.out | apply below_alloc | apply pw_below_drewN | apply below_drew1) | exact HB.out)))); have n3_ := Aside0.mk (below_step (by repeat (first | (with_reducible first | exact HB.out | apply below_alloc | apply pw_below_drewN | apply below_drew1) | exact HB.out)) hb); clear HO_9; clear HO_12; clear HB; have HO_9 := n0_; have HO_12 := n1_; have HO444 := n2_; have HB := n3_; clear n0_ n1_ n2_ n3_; (try clear hb); (try clear hb2); (try clear hk); (try clear hi); (try clear ho0); obtain ⟨Ao44, co44, eo44⟩ := Kd.R_slice HO444.out; subst eo44) | ((with_reducible refine gate_callee (f := 39) rfl ?_); refine goesL_ (some 116) rfl rfl Try.func39 (by kernel_rfl) rfl #[.slice Ao29 t425.length co29, .slice Ao44 t441.length co44] rfl (by (try simp only [List.map_toArray, List.map_cons, List.map_nil]); first | done | rfl | (simp only [List.length_drop, List.length_take]; rfl)) ?_; (with_reducible refine (drovewaylaw07_inside.calls k4 _ _ t425 _ _ t441 true _ ?side1 ?side2 ?side3 ?side4 A40.out).mono ?_); (case side1 => repeat (first | exact (Kd.S_reads' HO_9.out).2.2 | (with_reducible refine Kd.C_alloc ?_ _) | (with_reducible refine Kd.C_drewN ?_ _) | (with_reducible refine Kd.C_drew ?_))); (case side2 => exact (Kd.S_reads' HO_9.out).2.1); (case side3 => repeat (first | exact (Kd.R_reads' HO444.out).2.2 | (with_reducible refine Kd.C_alloc ?_ _) | (with_reducible refine Kd.C_drewN ?_ _) | (with_reducible refine Kd.C_drew ?_))); (case side4 => exact (Kd.R_reads' HO444.out).2.1); rintro e w' ⟨rfl, ⟨nd, rfl⟩⟩; refine ⟨_, rfl, ?_⟩; obtain ⟨Ao45, co45, eo45⟩ := Kd.R_slice HO_12.out; subst eo45))
                                        go_ret
                                        exact ⟨by first | rfl | (simp [errW_none, errW_some] <;> rfl) | (simp [*, errW_none, errW_some] <;> rfl), by repeat (first | (with_reducible first | exact HB.out | apply below_alloc | apply pw_below_drewN | apply below_drew1) | exact HB.out)⟩
                                      · rw [if_neg c42] at H
                                        have c42b0 : decide ((t435.length : Int) ≤ x14_4) = false := decide_eq_false c42
                                        clear c42
                                        by_cases c46 : 0 ≤ x14_4
                                        · rw [if_pos c46] at H
                                          have c46b0 : decide (0 ≤ x14_4) = true := decide_eq_true c46
                                          clear c46
                                          by_cases c47 : x14_4 < (t435.length : Int)
                                          · rw [if_pos c47] at H
                                            have c47b0 : decide (x14_4 < (t435.length : Int)) = true := decide_eq_true c47
                                            clear c47
                                            by_cases c48 : (!(((rd_T49 t435 x14_4).f0) == x15_3) || (!(((rd_T49 t435 x14_4).f1) == x16_4))) = true
                                            · rw [if_pos c48] at H
                                              have c48b0 : (!(((rd_T49 t435 x14_4).f0) == x15_3) || (!(((rd_T49 t435 x14_4).f1) == x16_4))) = true := c48
                                              clear c48
                                              obtain rfl := Option.some.inj H
                                              have p440 : 0 ≤ (x15_3 : Int) := of_decide_eq_true (by first | (with_reducible assumption) | assumption)
                                              have q440 : x15_3 < (l2.length : Int) := of_decide_eq_true (by first | (with_reducible assumption) | assumption)
                                              obtain ⟨ad440, e440, hx440_0⟩ := Kd.at_int HR2.out x15_3 p440 q440
                                              cases e440
                                              replace hx440_0 := (HB.out.cell (World.block_lt_of_cell? w _ hx440_0)).trans hx440_0
                                              replace p440 := eq_true p440
                                              replace q440 := eq_true q440
                                              go_wp2_with (first | ((with_reducible refine gate_callee (f := 36) rfl ?_); refine goesL_ (some 109) rfl rfl Try.func36 (by kernel_rfl) rfl #[.slice (some ad440) l2.length c2, .int .i64 x15_3, .int .i64 x16_4] rfl (by (try simp only [List.map_toArray, List.map_cons, List.map_nil]); first | done | rfl | (simp only [List.length_drop, List.length_take]; rfl)) ?_; (with_reducible refine (wager_Bitten.calls _ _ l2 x15_3 x16_4 t441 t442 _ ?side1 ?side2 A38.out).mono ?_); (case side1 => repeat (first | exact (Kd.C_below HR2.out HB.out) | (with_reducible refine Kd.C_alloc ?_ _) | (with_reducible refine Kd.C_drewN ?_ _) | (with_reducible refine Kd.C_drew ?_))); (case side2 => exact HC2.out); rintro e w49 ⟨v443, rfl, ho0, hb⟩; refine ⟨_, rfl, ?_⟩; have n0_ := Aside0.mk (Kd.S_elder' (by (with_reducible repeat (first | apply Kd.S_alloc | apply Kd.S_drewN | apply Kd.S_drew)); exact HO_9.out) (Kd.R_base ho0) hb); have n1_ := Aside0.mk (Kd.R_below (by (with_reducible repeat (first | apply Kd.R_alloc | apply Kd.R_drewN | apply Kd.R_drew)); exact HO_12.out) hb); have n2_ := Aside0.mk (Kd.R_lower ho0 (below_size (by repeat (first | (with_reducible first | exact HB.out | apply below_alloc | apply pw_below_drewN | apply below_drew1) | exact HB.out)))); have n3_ := Aside0.mk (below_step (by repeat (first | (with_reducible first | exact HB.out | apply below_alloc | apply pw_below_drewN | apply below_drew1) | exact HB.out)) hb); clear HO_9; clear HO_12; clear HB; have HO_9 := n0_; have HO_12 := n1_; have HO444 := n2_; have HB := n3_; clear n0_ n1_ n2_ n3_; (try clear hb); (try clear hb2); (try clear hk); (try clear hi); (try clear ho0); obtain ⟨Ao50, co50, eo50⟩ := Kd.R_slice HO444.out; subst eo50) | ((with_reducible refine gate_callee (f := 39) rfl ?_); refine goesL_ (some 116) rfl rfl Try.func39 (by kernel_rfl) rfl #[.slice Ao29 t425.length co29, .slice Ao50 t441.length co50] rfl (by (try simp only [List.map_toArray, List.map_cons, List.map_nil]); first | done | rfl | (simp only [List.length_drop, List.length_take]; rfl)) ?_; (with_reducible refine (drovewaylaw07_inside.calls k4 _ _ t425 _ _ t441 true _ ?side1 ?side2 ?side3 ?side4 A40.out).mono ?_); (case side1 => repeat (first | exact (Kd.S_reads' HO_9.out).2.2 | (with_reducible refine Kd.C_alloc ?_ _) | (with_reducible refine Kd.C_drewN ?_ _) | (with_reducible refine Kd.C_drew ?_))); (case side2 => exact (Kd.S_reads' HO_9.out).2.1); (case side3 => repeat (first | exact (Kd.R_reads' HO444.out).2.2 | (with_reducible refine Kd.C_alloc ?_ _) | (with_reducible refine Kd.C_drewN ?_ _) | (with_reducible refine Kd.C_drew ?_))); (case side4 => exact (Kd.R_reads' HO444.out).2.1); rintro e w' ⟨rfl, ⟨nd, rfl⟩⟩; refine ⟨_, rfl, ?_⟩; obtain ⟨Ao51, co51, eo51⟩ := Kd.R_slice HO_12.out; subst eo51; have p446 : 0 ≤ (x14_4 : Int) := of_decide_eq_true (by first | (with_reducible assumption) | assumption); have q446 : x14_4 < (t435.length : Int) := of_decide_eq_true (by first | (with_reducible assumption) | assumption); obtain ⟨ad446, e446, hx446_0, hx446_1⟩ := at_T49 (Kd.R_reads' HO_12.out).2.2 x14_4 p446 q446; cases e446; replace p446 := eq_true p446; replace q446 := eq_true q446))
                                              go_ret
                                              exact ⟨by first | rfl | (simp [errW_none, errW_some] <;> rfl) | (simp [*, errW_none, errW_some] <;> rfl), by repeat (first | (with_reducible first | exact HB.out | apply below_alloc | apply pw_below_drewN | apply below_drew1) | exact HB.out)⟩
                                            · rw [if_neg c48] at H
                                              have c48b0 : (!(((rd_T49 t435 x14_4).f0) == x15_3) || (!(((rd_T49 t435 x14_4).f1) == x16_4))) = false := by simpa using c48
                                              clear c48
                                              have H' := Aside0.mk H
                                              clear H
                                              have p440 : 0 ≤ (x15_3 : Int) := of_decide_eq_true (by first | (with_reducible assumption) | assumption)
                                              have q440 : x15_3 < (l2.length : Int) := of_decide_eq_true (by first | (with_reducible assumption) | assumption)
                                              obtain ⟨ad440, e440, hx440_0⟩ := Kd.at_int HR2.out x15_3 p440 q440
                                              cases e440
                                              replace hx440_0 := (HB.out.cell (World.block_lt_of_cell? w _ hx440_0)).trans hx440_0
                                              replace p440 := eq_true p440
                                              replace q440 := eq_true q440
                                              go_wp2_with (first | ((with_reducible refine gate_callee (f := 36) rfl ?_); refine goesL_ (some 109) rfl rfl Try.func36 (by kernel_rfl) rfl #[.slice (some ad440) l2.length c2, .int .i64 x15_3, .int .i64 x16_4] rfl (by (try simp only [List.map_toArray, List.map_cons, List.map_nil]); first | done | rfl | (simp only [List.length_drop, List.length_take]; rfl)) ?_; (with_reducible refine (wager_Bitten.calls _ _ l2 x15_3 x16_4 t441 t442 _ ?side1 ?side2 A38.out).mono ?_); (case side1 => repeat (first | exact (Kd.C_below HR2.out HB.out) | (with_reducible refine Kd.C_alloc ?_ _) | (with_reducible refine Kd.C_drewN ?_ _) | (with_reducible refine Kd.C_drew ?_))); (case side2 => exact HC2.out); rintro e w52 ⟨v443, rfl, ho0, hb⟩; refine ⟨_, rfl, ?_⟩; have n0_ := Aside0.mk (Kd.S_elder' (by (with_reducible repeat (first | apply Kd.S_alloc | apply Kd.S_drewN | apply Kd.S_drew)); exact HO_9.out) (Kd.R_base ho0) hb); have n1_ := Aside0.mk (Kd.R_below (by (with_reducible repeat (first | apply Kd.R_alloc | apply Kd.R_drewN | apply Kd.R_drew)); exact HO_12.out) hb); have n2_ := Aside0.mk (Kd.R_lower ho0 (below_size (by repeat (first | (with_reducible first | exact HB.out | apply below_alloc | apply pw_below_drewN | apply below_drew1) | exact HB.out)))); have n3_ := Aside0.mk (below_step (by repeat (first | (with_reducible first | exact HB.out | apply below_alloc | apply pw_below_drewN | apply below_drew1) | exact HB.out)) hb); clear HO_9; clear HO_12; clear HB; have HO_9 := n0_; have HO_12 := n1_; have HO444 := n2_; have HB := n3_; clear n0_ n1_ n2_ n3_; (try clear hb); (try clear hb2); (try clear hk); (try clear hi); (try clear ho0); obtain ⟨Ao53, co53, eo53⟩ := Kd.R_slice HO444.out; subst eo53) | ((with_reducible refine gate_callee (f := 39) rfl ?_); refine goesL_ (some 116) rfl rfl Try.func39 (by kernel_rfl) rfl #[.slice Ao29 t425.length co29, .slice Ao53 t441.length co53] rfl (by (try simp only [List.map_toArray, List.map_cons, List.map_nil]); first | done | rfl | (simp only [List.length_drop, List.length_take]; rfl)) ?_; (with_reducible refine (drovewaylaw07_inside.calls k4 _ _ t425 _ _ t441 true _ ?side1 ?side2 ?side3 ?side4 A40.out).mono ?_); (case side1 => repeat (first | exact (Kd.S_reads' HO_9.out).2.2 | (with_reducible refine Kd.C_alloc ?_ _) | (with_reducible refine Kd.C_drewN ?_ _) | (with_reducible refine Kd.C_drew ?_))); (case side2 => exact (Kd.S_reads' HO_9.out).2.1); (case side3 => repeat (first | exact (Kd.R_reads' HO444.out).2.2 | (with_reducible refine Kd.C_alloc ?_ _) | (with_reducible refine Kd.C_drewN ?_ _) | (with_reducible refine Kd.C_drew ?_))); (case side4 => exact (Kd.R_reads' HO444.out).2.1); rintro e w' ⟨rfl, ⟨nd, rfl⟩⟩; refine ⟨_, rfl, ?_⟩; obtain ⟨Ao54, co54, eo54⟩ := Kd.R_slice HO_12.out; subst eo54; have p446 : 0 ≤ (x14_4 : Int) := of_decide_eq_true (by first | (with_reducible assumption) | assumption); have q446 : x14_4 < (t435.length : Int) := of_decide_eq_true (by first | (with_reducible assumption) | assumption); obtain ⟨ad446, e446, hx446_0, hx446_1⟩ := at_T49 (Kd.R_reads' HO_12.out).2.2 x14_4 p446 q446; cases e446; replace p446 := eq_true p446; replace q446 := eq_true q446))
                                              go_roundg k4
                                              case measure => have := HJ15.out; have := HJ27.out; have := HK3.out; have := HK4.out; omega
                                              case rel => exact ⟨(wrap64 (x14_4 + 1)), (wrap64 (x16_4 + 1)), (by first | rfl | (simp; done) | (simp [*]; done)), (by first | rfl | (simp; done) | (simp [*]; done)), H', ⟨by have := HJ15.out; have := HJ27.out; have := HK3.out; have := HK4.out; omega⟩, ⟨by (with_reducible repeat (first | apply Kd.S_alloc | apply Kd.S_drewN | apply Kd.S_drew)); exact Kd.S_mono HO_9.out (fun _ hk => trivial)⟩, ⟨by (with_reducible repeat (first | apply Kd.R_alloc | apply Kd.R_drewN | apply Kd.R_drew)); exact HO_12.out⟩, ⟨by repeat (first | (with_reducible first | exact HB.out | apply below_alloc | apply pw_below_drewN | apply below_drew1) | exact HB.out)⟩⟩
                                          · rw [if_neg c47] at H
                                            exact absurd H (by simp)
                                        · rw [if_neg c46] at H
                                          exact absurd H (by simp)
                                    · replace c41 := Bool.eq_false_iff.mpr c41
                                      subst c41
                                      have H1 : (drovewaylaw07_WagerLosing.l1 k4 l2 (wrap64 (1 + (wrap64 (Int.tmod a0 6)))) t425 t434 t435 x14_4 x15_3 (wrap64 (x16_4 + 1))) = some r := by rw [if_neg (show ¬ (false = true) by decide)] at H; exact H
                                      clear H
                                      have H := H1
                                      clear H1
                                      have H' := Aside0.mk H
                                      clear H
                                      have p440 : 0 ≤ (x15_3 : Int) := of_decide_eq_true (by first | (with_reducible assumption) | assumption)
                                      have q440 : x15_3 < (l2.length : Int) := of_decide_eq_true (by first | (with_reducible assumption) | assumption)
                                      obtain ⟨ad440, e440, hx440_0⟩ := Kd.at_int HR2.out x15_3 p440 q440
                                      cases e440
                                      replace hx440_0 := (HB.out.cell (World.block_lt_of_cell? w _ hx440_0)).trans hx440_0
                                      replace p440 := eq_true p440
                                      replace q440 := eq_true q440
                                      go_wp2_with (first | ((with_reducible refine gate_callee (f := 36) rfl ?_); refine goesL_ (some 109) rfl rfl Try.func36 (by kernel_rfl) rfl #[.slice (some ad440) l2.length c2, .int .i64 x15_3, .int .i64 x16_4] rfl (by (try simp only [List.map_toArray, List.map_cons, List.map_nil]); first | done | rfl | (simp only [List.length_drop, List.length_take]; rfl)) ?_; (with_reducible refine (wager_Bitten.calls _ _ l2 x15_3 x16_4 t441 t442 _ ?side1 ?side2 A38.out).mono ?_); (case side1 => repeat (first | exact (Kd.C_below HR2.out HB.out) | (with_reducible refine Kd.C_alloc ?_ _) | (with_reducible refine Kd.C_drewN ?_ _) | (with_reducible refine Kd.C_drew ?_))); (case side2 => exact HC2.out); rintro e w55 ⟨v443, rfl, ho0, hb⟩; refine ⟨_, rfl, ?_⟩; have n0_ := Aside0.mk (Kd.S_elder' (by (with_reducible repeat (first | apply Kd.S_alloc | apply Kd.S_drewN | apply Kd.S_drew)); exact HO_9.out) (Kd.R_base ho0) hb); have n1_ := Aside0.mk (Kd.R_below (by (with_reducible repeat (first | apply Kd.R_alloc | apply Kd.R_drewN | apply Kd.R_drew)); exact HO_12.out) hb); have n2_ := Aside0.mk (Kd.R_lower ho0 (below_size (by repeat (first | (with_reducible first | exact HB.out | apply below_alloc | apply pw_below_drewN | apply below_drew1) | exact HB.out)))); have n3_ := Aside0.mk (below_step (by repeat (first | (with_reducible first | exact HB.out | apply below_alloc | apply pw_below_drewN | apply below_drew1) | exact HB.out)) hb); clear HO_9; clear HO_12; clear HB; have HO_9 := n0_; have HO_12 := n1_; have HO444 := n2_; have HB := n3_; clear n0_ n1_ n2_ n3_; (try clear hb); (try clear hb2); (try clear hk); (try clear hi); (try clear ho0); obtain ⟨Ao56, co56, eo56⟩ := Kd.R_slice HO444.out; subst eo56) | ((with_reducible refine gate_callee (f := 39) rfl ?_); refine goesL_ (some 116) rfl rfl Try.func39 (by kernel_rfl) rfl #[.slice Ao29 t425.length co29, .slice Ao56 t441.length co56] rfl (by (try simp only [List.map_toArray, List.map_cons, List.map_nil]); first | done | rfl | (simp only [List.length_drop, List.length_take]; rfl)) ?_; (with_reducible refine (drovewaylaw07_inside.calls k4 _ _ t425 _ _ t441 false _ ?side1 ?side2 ?side3 ?side4 A40.out).mono ?_); (case side1 => repeat (first | exact (Kd.S_reads' HO_9.out).2.2 | (with_reducible refine Kd.C_alloc ?_ _) | (with_reducible refine Kd.C_drewN ?_ _) | (with_reducible refine Kd.C_drew ?_))); (case side2 => exact (Kd.S_reads' HO_9.out).2.1); (case side3 => repeat (first | exact (Kd.R_reads' HO444.out).2.2 | (with_reducible refine Kd.C_alloc ?_ _) | (with_reducible refine Kd.C_drewN ?_ _) | (with_reducible refine Kd.C_drew ?_))); (case side4 => exact (Kd.R_reads' HO444.out).2.1); rintro e w' ⟨rfl, ⟨nd, rfl⟩⟩; refine ⟨_, rfl, ?_⟩))
                                      go_roundg k4
                                      case measure => have := HJ15.out; have := HJ27.out; have := HK3.out; have := HK4.out; omega
                                      case rel => exact ⟨(x14_4), (wrap64 (x16_4 + 1)), (by first | rfl | (simp; done) | (simp [*]; done)), (by first | rfl | (simp; done) | (simp [*]; done)), H', ⟨by have := HJ15.out; have := HJ27.out; have := HK3.out; have := HK4.out; omega⟩, ⟨by (with_reducible repeat (first | apply Kd.S_alloc | apply Kd.S_drewN | apply Kd.S_drew)); exact Kd.S_mono HO_9.out (fun _ hk => trivial)⟩, ⟨by (with_reducible repeat (first | apply Kd.R_alloc | apply Kd.R_drewN | apply Kd.R_drew)); exact HO_12.out⟩, ⟨by repeat (first | (with_reducible first | exact HB.out | apply below_alloc | apply pw_below_drewN | apply below_drew1) | exact HB.out)⟩⟩
                                  · rw [if_neg c39] at H
                                    have c39b0 : (t442 == 0) = false := beq_eq_false_iff_ne.mpr c39
                                    have c39b1 : (t442 != 0) = true := bne_iff_ne.mpr c39
                                    obtain rfl := Option.some.inj H
                                    have p440 : 0 ≤ (x15_3 : Int) := of_decide_eq_true (by first | (with_reducible assumption) | assumption)
                                    have q440 : x15_3 < (l2.length : Int) := of_decide_eq_true (by first | (with_reducible assumption) | assumption)
                                    obtain ⟨ad440, e440, hx440_0⟩ := Kd.at_int HR2.out x15_3 p440 q440
                                    cases e440
                                    replace hx440_0 := (HB.out.cell (World.block_lt_of_cell? w _ hx440_0)).trans hx440_0
                                    replace p440 := eq_true p440
                                    replace q440 := eq_true q440
                                    go_wp2_with (first | ((with_reducible refine gate_callee (f := 36) rfl ?_); refine goesL_ (some 109) rfl rfl Try.func36 (by kernel_rfl) rfl #[.slice (some ad440) l2.length c2, .int .i64 x15_3, .int .i64 x16_4] rfl (by (try simp only [List.map_toArray, List.map_cons, List.map_nil]); first | done | rfl | (simp only [List.length_drop, List.length_take]; rfl)) ?_; (with_reducible refine (wager_Bitten.calls _ _ l2 x15_3 x16_4 t441 t442 _ ?side1 ?side2 A38.out).mono ?_); (case side1 => repeat (first | exact (Kd.C_below HR2.out HB.out) | (with_reducible refine Kd.C_alloc ?_ _) | (with_reducible refine Kd.C_drewN ?_ _) | (with_reducible refine Kd.C_drew ?_))); (case side2 => exact HC2.out); rintro e w57 ⟨v443, rfl, ho0, hb⟩; refine ⟨_, rfl, ?_⟩; have n0_ := Aside0.mk (Kd.S_elder' (by (with_reducible repeat (first | apply Kd.S_alloc | apply Kd.S_drewN | apply Kd.S_drew)); exact HO_9.out) (Kd.R_base ho0) hb); have n1_ := Aside0.mk (Kd.R_below (by (with_reducible repeat (first | apply Kd.R_alloc | apply Kd.R_drewN | apply Kd.R_drew)); exact HO_12.out) hb); have n2_ := Aside0.mk (Kd.R_lower ho0 (below_size (by repeat (first | (with_reducible first | exact HB.out | apply below_alloc | apply pw_below_drewN | apply below_drew1) | exact HB.out)))); have n3_ := Aside0.mk (below_step (by repeat (first | (with_reducible first | exact HB.out | apply below_alloc | apply pw_below_drewN | apply below_drew1) | exact HB.out)) hb); clear HO_9; clear HO_12; clear HB; have HO_9 := n0_; have HO_12 := n1_; have HO444 := n2_; have HB := n3_; clear n0_ n1_ n2_ n3_; (try clear hb); (try clear hb2); (try clear hk); (try clear hi); (try clear ho0)))
                                    go_ret
                                    exact ⟨by first | rfl | (simp [errW_none, errW_some] <;> rfl) | (simp [*, errW_none, errW_some] <;> rfl), by repeat (first | (with_reducible first | exact HB.out | apply below_alloc | apply pw_below_drewN | apply below_drew1) | exact HB.out)⟩
                                · rw [if_neg c37] at H
                                  have c37b0 : decide (x16_4 < (rd l2 x15_3)) = false := decide_eq_false c37
                                  clear c37
                                  have H' := Aside0.mk H
                                  clear H
                                  have p440 : 0 ≤ (x15_3 : Int) := of_decide_eq_true (by first | (with_reducible assumption) | assumption)
                                  have q440 : x15_3 < (l2.length : Int) := of_decide_eq_true (by first | (with_reducible assumption) | assumption)
                                  obtain ⟨ad440, e440, hx440_0⟩ := Kd.at_int HR2.out x15_3 p440 q440
                                  cases e440
                                  replace hx440_0 := (HB.out.cell (World.block_lt_of_cell? w _ hx440_0)).trans hx440_0
                                  replace p440 := eq_true p440
                                  replace q440 := eq_true q440
                                  go_wp2
                                  go_roundg k4
                                  case measure => have := HJ15.out; have := HJ27.out; have := HK3.out; have := HK4.out; omega
                                  case rel => exact ⟨(x14_4), (wrap64 (x15_3 + 1)), (by first | rfl | (simp; done) | (simp [*]; done)), (by first | rfl | (simp; done) | (simp [*]; done)), H', ⟨by have := HJ15.out; have := HJ27.out; have := HK3.out; have := HK4.out; omega⟩, ⟨by (with_reducible repeat (first | apply Kd.S_alloc | apply Kd.S_drewN | apply Kd.S_drew)); exact HO_9.out⟩, ⟨by (with_reducible repeat (first | apply Kd.R_alloc | apply Kd.R_drewN | apply Kd.R_drew)); exact HO_12.out⟩, ⟨by repeat (first | (with_reducible first | exact HB.out | apply below_alloc | apply pw_below_drewN | apply below_drew1) | exact HB.out)⟩⟩
                              · rw [if_neg c36] at H
                                exact absurd H (by simp)
                            · rw [if_neg c35] at H
                              exact absurd H (by simp)
                      · rw [if_neg c34] at H
                        have c34b0 : decide (x15_3 < (wrap64 (1 + (wrap64 (Int.tmod a0 6))))) = false := decide_eq_false c34
                        clear c34
                        by_cases c58 : x14_3 = (t435.length : Int)
                        · rw [if_pos c58] at H
                          have c58b0 : (x14_3 == (t435.length : Int)) = true := beq_iff_eq.mpr c58
                          have c58b1 : (x14_3 != (t435.length : Int)) = false := bne_eq_false_iff_eq.mpr c58
                          clear c58
                          by_cases c59 : ((x14_3 == 0) == t434) = true
                          · rw [if_pos c59] at H
                            have c59b0 : ((x14_3 == 0) == t434) = true := c59
                            (try (have c59b1 : decide ((x14_3 == 0) = t434) = true := by simpa using c59))
                            (try (have c59b2 : ((x14_3 == 0) == t434) = true := by simpa using c59))
                            clear c59
                            replace H := Option.bind_eq_some_iff.mp H
                            obtain ⟨t439, A600, H⟩ := H
                            replace H : (some t439) = some r := H
                            have A60 := Aside0.mk A600
                            clear A600
                            obtain rfl := Option.some.inj H
                            obtain ⟨Ao61, co61, eo61⟩ := Kd.R_slice HO_12.out
                            subst eo61
                            go_wp2_with (first | (go_at_call 19; (with_reducible refine (drovewaylaw07_alive.calls  t439 _ A60.out).mono ?_); rintro e w62 ⟨rfl, hb⟩; have n0_ := Aside0.mk (Kd.S_below (by (with_reducible repeat (first | apply Kd.S_alloc | apply Kd.S_drewN | apply Kd.S_drew)); exact HO_9.out) hb); have n1_ := Aside0.mk (Kd.R_below (by (with_reducible repeat (first | apply Kd.R_alloc | apply Kd.R_drewN | apply Kd.R_drew)); exact HO_12.out) hb); have n2_ := Aside0.mk (below_step (by repeat (first | (with_reducible first | exact HB.out | apply below_alloc | apply pw_below_drewN | apply below_drew1) | exact HB.out)) hb); clear HO_9; clear HO_12; clear HB; have HO_9 := n0_; have HO_12 := n1_; have HB := n2_; clear n0_ n1_ n2_; (try clear hb); (try clear hb2); (try clear hk); (try clear hi)))
                            go_ret
                            exact ⟨by first | rfl | (simp [errW_none, errW_some] <;> rfl) | (simp [*, errW_none, errW_some] <;> rfl), by repeat (first | (with_reducible first | exact HB.out | apply below_alloc | apply pw_below_drewN | apply below_drew1) | exact HB.out)⟩
                          · rw [if_neg c59] at H
                            have c59b0 : ((x14_3 == 0) == t434) = false := by simpa using c59
                            (try (have c59b1 : decide ((x14_3 == 0) = t434) = false := by simpa using c59))
                            (try (have c59b2 : ((x14_3 == 0) == t434) = false := by simpa using c59))
                            (try (have c59b3 : ¬ ((x14_3 == 0) = t434) := by simpa using c59))
                            clear c59
                            obtain rfl := Option.some.inj H
                            obtain ⟨Ao63, co63, eo63⟩ := Kd.R_slice HO_12.out
                            subst eo63
                            go_wp2
                            go_ret
                            exact ⟨by first | rfl | (simp [errW_none, errW_some] <;> rfl) | (simp [*, errW_none, errW_some] <;> rfl), by repeat (first | (with_reducible first | exact HB.out | apply below_alloc | apply pw_below_drewN | apply below_drew1) | exact HB.out)⟩
                        · rw [if_neg c58] at H
                          have c58b0 : (x14_3 == (t435.length : Int)) = false := beq_eq_false_iff_ne.mpr c58
                          have c58b1 : (x14_3 != (t435.length : Int)) = true := bne_iff_ne.mpr c58
                          obtain rfl := Option.some.inj H
                          obtain ⟨Ao64, co64, eo64⟩ := Kd.R_slice HO_12.out
                          subst eo64
                          go_wp2
                          go_ret
                          exact ⟨by first | rfl | (simp [errW_none, errW_some] <;> rfl) | (simp [*, errW_none, errW_some] <;> rfl), by repeat (first | (with_reducible first | exact HB.out | apply below_alloc | apply pw_below_drewN | apply below_drew1) | exact HB.out)⟩
    · rw [if_neg c15] at H
      have c15b0 : (t426 == 0) = false := beq_eq_false_iff_ne.mpr c15
      have c15b1 : (t426 != 0) = true := bne_iff_ne.mpr c15
      obtain rfl := Option.some.inj H
      go_enter Try.func13, Try.ntmps13
      go_wp2_with (first | ((with_reducible refine gate_callee (f := 21) rfl ?_); refine goesL_ (some 30) rfl rfl Try.func21 (by kernel_rfl) rfl #[.int .i64 (wrap64 (1 + (wrap64 (Int.tmod a0 6)))), .int .i64 (wrap64 (1 + (wrap64 (Int.tmod a1 7))))] rfl (by (try simp only [List.map_toArray, List.map_cons, List.map_nil]); first | done | rfl | (simp only [List.length_drop, List.length_take]; rfl)) ?_; (with_reducible refine (wager_Lost.calls (wrap64 (1 + (wrap64 (Int.tmod a0 6)))) (wrap64 (1 + (wrap64 (Int.tmod a1 7)))) t425 t426 _ A4.out).mono ?_); rintro e w65 ⟨v427, rfl, ho0, hb⟩; refine ⟨_, rfl, ?_⟩; have n0_ := Aside0.mk (Kd.S_lower ho0 (below_size (by repeat (first | (with_reducible first | exact HB.out | apply below_alloc | apply pw_below_drewN | apply below_drew1) | exact HB.out)))); have n1_ := Aside0.mk (below_step (by repeat (first | (with_reducible first | exact HB.out | apply below_alloc | apply pw_below_drewN | apply below_drew1) | exact HB.out)) hb); clear HB; have HO428 := n0_; have HB := n1_; clear n0_ n1_; (try clear hb); (try clear hb2); (try clear hk); (try clear hi); (try clear ho0)))
      go_ret
      exact ⟨by first | rfl | (simp [errW_none, errW_some] <;> rfl) | (simp [*, errW_none, errW_some] <;> rfl), by repeat (first | (with_reducible first | exact HB.out | apply below_alloc | apply pw_below_drewN | apply below_drew1) | exact HB.out)⟩

/-- THE ONE PURE STATEMENT of drovewaylaw07_WagerLosing: yours. -/
def drovewaylaw07_WagerLosing.Pure : Prop := ∀ (a0 : Int) (a1 : Int) (l2 : List Int), (Lit.int .u8 a0).wf = true → (Lit.int .u8 a1).wf = true → l2.length ≤ maxLen → l2.length * 8 ≤ 140737488351232 → (∀ x ∈ l2, (Lit.int .i64 x).wf = true) → ∃ k, drovewaylaw07_WagerLosing.f k a0 a1 l2 = some true
theorem drovewaylaw07_WagerLosing.walk (P : drovewaylaw07_WagerLosing.Pure) (a0 : Int) (a1 : Int) (a2 : Option Addr) (len2 cap2 : Nat) (z2 : List Int) (w : World) (w0 : (Lit.int .u8 a0).wf = true) (w1 : (Lit.int .u8 a1).wf = true) (w2 : (a2 = none ∧ len2 = 0 ∧ cap2 = 0 ∧ z2 = []) ∨ ∃ x, a2 = some x ∧ len2 ≤ cap2 ∧ cap2 ≤ maxLen ∧ z2.length = cap2 ∧ (∀ i, i < z2.length → w.cell? (x.add i) = some (.int .i64 (z2.getD i 0))) ∧ ∀ n ∈ z2, (Lit.int .i64 n).wf = true) (y2 : len2 * 8 ≤ 140737488351232) :
    Calls Try.prog 13 #[.int .u8 a0, .int .u8 a1, .slice a2 len2 cap2] w fun e w' => e = .returned (.bool true) ∧ Below w.heap.size w w' := by
  obtain ⟨l2, rfl, hr2, hm2, hw2, hc2⟩ := ReadsInt.ofRowC w2
  obtain ⟨k, h⟩ := P a0 a1 l2 w0 w1 hm2 y2 hw2
  refine (drovewaylaw07_WagerLosing.calls k a0 a1 _ _ l2 true w (Kd.C_of_reads (d := (0 : Int)) (h1 := fun _ => rfl) hr2) hc2 h).mono ?_
  rintro e w' ⟨rfl, hd⟩
  exact ⟨rfl, hd⟩

end Go.Proofs.Ytcngcilinlcmeaa.P
