/- Printed by group.py, a program of this session, over the place's print: functions of the program as Lean functions, and proofs that the machine's calls answer as they do. -/
import Derived.Test.YtcngcilinlcmeaaPx0
import Derived.Test.YtcngcilinlcmeaaPx6
import Derived.Test.YtcngcilinlcmeaaPx8
namespace Go.Proofs.Ytcngcilinlcmeaa.P
open Go.RowKit Go.Proofs.YtcngcilinlcmeaaW.PrintWords Go.Proofs.YtcngcilinlcmeaaW.PrintLast Go.Proofs.YtcngcilinlcmeaaW.PrintMore
attribute [local go_sem] max2_int min2_int max_two min_two max_three min_three max_four min_four   -- for this text's walks alone
set_option linter.unusedVariables false
set_option linter.unusedSimpArgs false

/-! ### drovewaylaw07_WagerPlayed: function 6 -/
mutual
def drovewaylaw07_WagerPlayed.j1 : Nat → Int → Int → Int → Int → Int → Option (Bool)
  | 0, _, _, _, _, _ => none
  | k + 1, x2, x7, x8, x9, x10 => if (mn x7 x8) = 0 then (if x10 = 10 then ((drovewaylaw07_alive.f).bind fun t245 => (some t245)) else (some false)) else (if (IntKind.u64.wrap (mn x7 x8)) = 0 then (none) else ((wager_Nim.f k (wrap64 (x7 - (wrap64 (1 + (wrap64 (Int.tmod x2 (IntKind.u64.wrap (mn x7 x8)))))))) (mn (wrap64 (2 * (wrap64 (1 + (wrap64 (Int.tmod x2 (IntKind.u64.wrap (mn x7 x8)))))))) 1099511627776)).bind fun bt246 => (if bt246.2 = 0 then ((drovewaylaw07_alive.f).bind fun t248 => (some t248)) else (if bt246.2 = 10 then (if x10 = 0 then (if (wrap64 (1 + (wrap64 (Int.tmod x2 (IntKind.u64.wrap (mn x7 x8)))))) ≥ x9 then ((drovewaylaw07_alive.f).bind fun t249 => (some t249)) else (some false)) else (some false)) else (some false)))))
def drovewaylaw07_WagerPlayed.j0 : Nat → Int → Int → Int → Int → Int → Bool → Option (Bool)
  | 0, _, _, _, _, _, _ => none
  | k + 1, x2, x7, x8, x9, x10, x40 => if x40 = true then (some false) else ((wager_Nim.f k (wrap64 (x7 - x9)) (mn (wrap64 (2 * x9)) 1099511627776)).bind fun bt243 => (if bt243.2 = 10 then (drovewaylaw07_WagerPlayed.j1 k x2 x7 x8 x9 x10) else (some false)))
end
def drovewaylaw07_WagerPlayed.f (k : Nat) (a0 : Int) (a1 : Int) (a2 : Int) : Option (Bool) := (drovewaylaw07_heap.f a0).bind fun t239 => ((drovewaylaw07_heap.f a1).bind fun t240 => ((wager_Nim.f k t239 t240).bind fun bt241 => (if bt241.2 = 0 then (if bt241.1 < 1 then (drovewaylaw07_WagerPlayed.j0 k a2 t239 t240 bt241.1 bt241.2 true) else (if bt241.1 > t239 then (drovewaylaw07_WagerPlayed.j0 k a2 t239 t240 bt241.1 bt241.2 true) else (drovewaylaw07_WagerPlayed.j0 k a2 t239 t240 bt241.1 bt241.2 (decide (bt241.1 > t240))))) else (if bt241.2 = 10 then (drovewaylaw07_WagerPlayed.j1 k a2 t239 t240 bt241.1 bt241.2) else (some false)))))
theorem drovewaylaw07_WagerPlayed.mono_l : ∀ k, (∀ y0 y1 y2 y3 y4, LeO (drovewaylaw07_WagerPlayed.j1 k y0 y1 y2 y3 y4) (drovewaylaw07_WagerPlayed.j1 (k + 1) y0 y1 y2 y3 y4)) ∧ (∀ y0 y1 y2 y3 y4 y5, LeO (drovewaylaw07_WagerPlayed.j0 k y0 y1 y2 y3 y4 y5) (drovewaylaw07_WagerPlayed.j0 (k + 1) y0 y1 y2 y3 y4 y5))
  | 0 => ⟨fun _ _ _ _ _ r h => by simp [drovewaylaw07_WagerPlayed.j1] at h, fun _ _ _ _ _ _ r h => by simp [drovewaylaw07_WagerPlayed.j0] at h⟩
  | k + 1 => by
    obtain ⟨ih0, ih1⟩ := drovewaylaw07_WagerPlayed.mono_l k
    refine ⟨?_, ?_⟩
    · intro y0 y1 y2 y3 y4
      unfold drovewaylaw07_WagerPlayed.j1
      repeat' first
      | (with_reducible exact ih0 _ _ _ _ _)
      | (with_reducible exact ih1 _ _ _ _ _ _)
      | (with_reducible exact wager_Nim.mono _ _ _)
      | (with_reducible exact LeO.refl _)
      | (with_reducible exact LeO.none _)
      | (with_reducible refine LeO.ite ?_ ?_)
      | (with_reducible refine LeO.bind ?_ (fun _ => ?_))
      | exact ih0 _ _ _ _ _
      | exact ih1 _ _ _ _ _ _
      | exact wager_Nim.mono _ _ _
      | exact LeO.none _
      | refine LeO.ite ?_ ?_
      | refine LeO.bind ?_ (fun _ => ?_)
    · intro y0 y1 y2 y3 y4 y5
      unfold drovewaylaw07_WagerPlayed.j0
      repeat' first
      | (with_reducible exact ih0 _ _ _ _ _)
      | (with_reducible exact ih1 _ _ _ _ _ _)
      | (with_reducible exact wager_Nim.mono _ _ _)
      | (with_reducible exact LeO.refl _)
      | (with_reducible exact LeO.none _)
      | (with_reducible refine LeO.ite ?_ ?_)
      | (with_reducible refine LeO.bind ?_ (fun _ => ?_))
      | exact ih0 _ _ _ _ _
      | exact ih1 _ _ _ _ _ _
      | exact wager_Nim.mono _ _ _
      | exact LeO.none _
      | refine LeO.ite ?_ ?_
      | refine LeO.bind ?_ (fun _ => ?_)
theorem drovewaylaw07_WagerPlayed.mono : ∀ a0 a1 a2 k, LeO (drovewaylaw07_WagerPlayed.f k a0 a1 a2) (drovewaylaw07_WagerPlayed.f (k + 1) a0 a1 a2) := by
  intro a0 a1 a2 k
  obtain ⟨ih0, ih1⟩ := drovewaylaw07_WagerPlayed.mono_l k
  unfold drovewaylaw07_WagerPlayed.f
  repeat' first
      | (with_reducible exact ih0 _ _ _ _ _)
      | (with_reducible exact ih1 _ _ _ _ _ _)
      | (with_reducible exact wager_Nim.mono _ _ _)
      | (with_reducible exact LeO.refl _)
      | (with_reducible exact LeO.none _)
      | (with_reducible refine LeO.ite ?_ ?_)
      | (with_reducible refine LeO.bind ?_ (fun _ => ?_))
      | exact ih0 _ _ _ _ _
      | exact ih1 _ _ _ _ _ _
      | exact wager_Nim.mono _ _ _
      | exact LeO.none _
      | refine LeO.ite ?_ ?_
      | refine LeO.bind ?_ (fun _ => ?_)
set_option maxHeartbeats 8000000 in
set_option maxRecDepth 100000 in
theorem drovewaylaw07_WagerPlayed.calls (k : Nat) (a0 : Int) (a1 : Int) (a2 : Int) (r : Bool) (w : World) (h : drovewaylaw07_WagerPlayed.f k a0 a1 a2 = some r) :
    Calls Try.prog 6 #[.int .u64 a0, .int .u64 a1, .int .u64 a2] w fun e w' => e = .returned (.bool r) ∧ Below w.heap.size w w' := by
  have HB := Aside0.mk (Below.refl w.heap.size w)
  have H : ((drovewaylaw07_heap.f a0).bind fun t239 => ((drovewaylaw07_heap.f a1).bind fun t240 => ((wager_Nim.f k t239 t240).bind fun bt241 => (if bt241.2 = 0 then (if bt241.1 < 1 then (drovewaylaw07_WagerPlayed.j0 k a2 t239 t240 bt241.1 bt241.2 true) else (if bt241.1 > t239 then (drovewaylaw07_WagerPlayed.j0 k a2 t239 t240 bt241.1 bt241.2 true) else (drovewaylaw07_WagerPlayed.j0 k a2 t239 t240 bt241.1 bt241.2 (decide (bt241.1 > t240))))) else (if bt241.2 = 10 then (drovewaylaw07_WagerPlayed.j1 k a2 t239 t240 bt241.1 bt241.2) else (some false)))))) = some r := h
  clear h
  replace H := Option.bind_eq_some_iff.mp H
  obtain ⟨t239, A40, H⟩ := H
  replace H : ((drovewaylaw07_heap.f a1).bind fun t240 => ((wager_Nim.f k t239 t240).bind fun bt241 => (if bt241.2 = 0 then (if bt241.1 < 1 then (drovewaylaw07_WagerPlayed.j0 k a2 t239 t240 bt241.1 bt241.2 true) else (if bt241.1 > t239 then (drovewaylaw07_WagerPlayed.j0 k a2 t239 t240 bt241.1 bt241.2 true) else (drovewaylaw07_WagerPlayed.j0 k a2 t239 t240 bt241.1 bt241.2 (decide (bt241.1 > t240))))) else (if bt241.2 = 10 then (drovewaylaw07_WagerPlayed.j1 k a2 t239 t240 bt241.1 bt241.2) else (some false))))) = some r := H
  have A4 := Aside0.mk A40
  clear A40
  replace H := Option.bind_eq_some_iff.mp H
  obtain ⟨t240, A50, H⟩ := H
  replace H : ((wager_Nim.f k t239 t240).bind fun bt241 => (if bt241.2 = 0 then (if bt241.1 < 1 then (drovewaylaw07_WagerPlayed.j0 k a2 t239 t240 bt241.1 bt241.2 true) else (if bt241.1 > t239 then (drovewaylaw07_WagerPlayed.j0 k a2 t239 t240 bt241.1 bt241.2 true) else (drovewaylaw07_WagerPlayed.j0 k a2 t239 t240 bt241.1 bt241.2 (decide (bt241.1 > t240))))) else (if bt241.2 = 10 then (drovewaylaw07_WagerPlayed.j1 k a2 t239 t240 bt241.1 bt241.2) else (some false)))) = some r := H
  have A5 := Aside0.mk A50
  clear A50
  replace H := Option.bind_eq_some_iff.mp H
  obtain ⟨⟨t241, t242⟩, A60, H⟩ := H
  replace H : (if t242 = 0 then (if t241 < 1 then (drovewaylaw07_WagerPlayed.j0 k a2 t239 t240 t241 t242 true) else (if t241 > t239 then (drovewaylaw07_WagerPlayed.j0 k a2 t239 t240 t241 t242 true) else (drovewaylaw07_WagerPlayed.j0 k a2 t239 t240 t241 t242 (decide (t241 > t240))))) else (if t242 = 10 then (drovewaylaw07_WagerPlayed.j1 k a2 t239 t240 t241 t242) else (some false))) = some r := H
  have A6 := Aside0.mk A60
  clear A60
  have HC7 := Aside0.mk H
  clear H
  go_enter Try.func6, Try.ntmps6
  go_upto_if 28 with (first | ((with_reducible refine gate_callee (f := 24) rfl ?_); refine goesL_ (some 18) rfl rfl Try.func24 (by kernel_rfl) rfl #[.int .u64 a0] rfl (by (try simp only [List.map_toArray, List.map_cons, List.map_nil]); first | done | rfl | (simp only [List.length_drop, List.length_take]; rfl)) ?_; (with_reducible refine (drovewaylaw07_heap.calls a0 t239 _ A4.out).mono ?_); rintro e w' ⟨rfl, ⟨nd, rfl⟩⟩; refine ⟨_, rfl, ?_⟩) | ((with_reducible refine gate_callee (f := 24) rfl ?_); refine goesL_ (some 20) rfl rfl Try.func24 (by kernel_rfl) rfl #[.int .u64 a1] rfl (by (try simp only [List.map_toArray, List.map_cons, List.map_nil]); first | done | rfl | (simp only [List.length_drop, List.length_take]; rfl)) ?_; (with_reducible refine (drovewaylaw07_heap.calls a1 t240 _ A5.out).mono ?_); rintro e w' ⟨rfl, ⟨nd, rfl⟩⟩; refine ⟨_, rfl, ?_⟩) | ((with_reducible refine gate_callee (f := 27) rfl ?_); refine goesL_ (some 24) rfl rfl Try.func27 (by kernel_rfl) rfl #[.int .i64 t239, .int .i64 t240] rfl (by (try simp only [List.map_toArray, List.map_cons, List.map_nil]); first | done | rfl | (simp only [List.length_drop, List.length_take]; rfl)) ?_; (with_reducible refine (wager_Nim.calls k t239 t240 t241 t242 _ A6.out).mono ?_); rintro e w8 ⟨rfl, hb⟩; refine ⟨_, rfl, ?_⟩; have n0_ := Aside0.mk (below_step (by repeat (first | (with_reducible first | exact HB.out | apply below_alloc | apply pw_below_drewN | apply below_drew1) | exact HB.out)) hb); clear HB; have HB := n0_; clear n0_; (try clear hb); (try clear hb2); (try clear hk); (try clear hi)))
  (try simp only [Act.put, List.setIfInBounds_toArray, List.set_cons_zero, List.set_cons_succ])
  go_cut [] (fun wc => ∃ (kq : Nat), Aside0 (drovewaylaw07_WagerPlayed.j1 kq a2 t239 t240 t241 t242 = some r) ∧ Aside0 (kq ≤ k) ∧ Aside0 (Below w.heap.size w wc))
  case first =>
    have H := HC7.out
    clear HC7
    by_cases c9 : t242 = 0
    · rw [if_pos c9] at H
      have c9b0 : (t242 == 0) = true := beq_iff_eq.mpr c9
      have c9b1 : (t242 != 0) = false := bne_eq_false_iff_eq.mpr c9
      clear c9
      (first | rw [c9b0] | (simp only [i64_w, i32_w]; rw [c9b0]) | skip)
      have HC10 := Aside0.mk H
      clear H
      go_upto_region 4 with (fail)
      go_cut [40] (fun v40 wc => ∃ (kq : Nat) (x40_9 : Bool), v40 = .bool x40_9 ∧ Aside0 (drovewaylaw07_WagerPlayed.j0 kq a2 t239 t240 t241 t242 x40_9 = some r) ∧ Aside0 (kq ≤ k) ∧ Aside0 (Below w.heap.size w wc))
      case first =>
        have H := HC10.out
        clear HC10
        by_cases c11 : t241 < 1
        · rw [if_pos c11] at H
          have c11b0 : decide (t241 < 1) = true := decide_eq_true c11
          clear c11
          (first | rw [c11b0] | (simp only [i64_w, i32_w]; rw [c11b0]) | skip)
          have H' := Aside0.mk H
          clear H
          go_wp2
          go_meet
          case rel => exact ⟨_, (true), (by first | rfl | (simp; done) | (simp [*]; done)), H', ⟨by first | omega | exact Nat.le_refl _⟩, ⟨by repeat (first | (with_reducible first | exact HB.out | apply below_alloc | apply pw_below_drewN | apply below_drew1) | exact HB.out)⟩⟩
        · rw [if_neg c11] at H
          have c11b0 : decide (t241 < 1) = false := decide_eq_false c11
          clear c11
          (first | rw [c11b0] | (simp only [i64_w, i32_w]; rw [c11b0]) | skip)
          by_cases c12 : t241 > t239
          · rw [if_pos c12] at H
            have c12b0 : decide (t239 < t241) = true := decide_eq_true c12
            clear c12
            have H' := Aside0.mk H
            clear H
            go_wp2
            go_meet
            case rel => exact ⟨_, (true), (by first | rfl | (simp; done) | (simp [*]; done)), H', ⟨by first | omega | exact Nat.le_refl _⟩, ⟨by repeat (first | (with_reducible first | exact HB.out | apply below_alloc | apply pw_below_drewN | apply below_drew1) | exact HB.out)⟩⟩
          · rw [if_neg c12] at H
            have c12b0 : decide (t239 < t241) = false := decide_eq_false c12
            clear c12
            have H' := Aside0.mk H
            clear H
            go_wp2
            go_meet
            case rel => exact ⟨_, (decide (t241 > t240)), (by first | rfl | (simp; done) | (simp [*]; done)), H', ⟨by first | omega | exact Nat.le_refl _⟩, ⟨by repeat (first | (with_reducible first | exact HB.out | apply below_alloc | apply pw_below_drewN | apply below_drew1) | exact HB.out)⟩⟩
      case rest =>
        clear HC10
        try clear c1
        try clear c2
        try clear p2
        try clear c6
        try clear c9
        try clear c9b0
        try clear c9b1
        try clear c11
        try clear c11b0
        try clear c12
        try clear c12b0
        obtain ⟨kq, x40_9, rfl, HA, HJ9, HB⟩ := hcut
        cases kq with
        | zero => exact absurd HA.out (by simp [drovewaylaw07_WagerPlayed.j0])
        | succ kj9 =>
          have H := HA.out
          clear HA
          simp only [drovewaylaw07_WagerPlayed.j0] at H
          by_cases c13 : x40_9 = true
          · subst c13
            have H1 : (some false) = some r := by rw [if_pos rfl] at H; exact H
            clear H
            have H := H1
            clear H1
            obtain rfl := Option.some.inj H
            go_wp2
            go_ret
            exact ⟨by first | rfl | (simp [errW_none, errW_some] <;> rfl) | (simp [*, errW_none, errW_some] <;> rfl), by repeat (first | (with_reducible first | exact HB.out | apply below_alloc | apply pw_below_drewN | apply below_drew1) | exact HB.out)⟩
          · replace c13 := Bool.eq_false_iff.mpr c13
            subst c13
            have H1 : ((wager_Nim.f kj9 (wrap64 (t239 - t241)) (mn (wrap64 (2 * t241)) 1099511627776)).bind fun bt243 => (if bt243.2 = 10 then (drovewaylaw07_WagerPlayed.j1 kj9 a2 t239 t240 t241 t242) else (some false))) = some r := by rw [if_neg (show ¬ (false = true) by decide)] at H; exact H
            clear H
            have H := H1
            clear H1
            obtain ⟨ji14, hji14⟩ : ∃ j_ : Int, (mn (wrap64 (2 * t241)) 1099511627776) = j_ := ⟨_, rfl⟩
            replace H : ((wager_Nim.f kj9 (wrap64 (t239 - t241)) (ji14)).bind fun bt243 => (if bt243.2 = 10 then (drovewaylaw07_WagerPlayed.j1 kj9 a2 t239 t240 t241 t242) else (some false))) = some r := by first | (rw [hji14] at H; exact H) | (simp only [hji14] at H ⊢; exact H)
            have hji14_ : (if 1099511627776 < (wrap64 (2 * t241)) then 1099511627776 else (wrap64 (2 * t241))) = ji14 := hji14
            replace H := Option.bind_eq_some_iff.mp H
            obtain ⟨⟨t243, t244⟩, A150, H⟩ := H
            replace H : (if t244 = 10 then (drovewaylaw07_WagerPlayed.j1 kj9 a2 t239 t240 t241 t242) else (some false)) = some r := H
            have A15 := Aside0.mk A150
            clear A150
            by_cases c16 : t244 = 10
            · rw [if_pos c16] at H
              have c16b0 : (t244 == 10) = true := beq_iff_eq.mpr c16
              have c16b1 : (t244 != 10) = false := bne_eq_false_iff_eq.mpr c16
              clear c16
              have H' := Aside0.mk H
              clear H
              go_wp2_with (first | ((with_reducible refine gate_callee (f := 27) rfl ?_); refine goesL_ (some 48) rfl rfl Try.func27 (by kernel_rfl) rfl #[.int .i64 (wrap64 (t239 - t241)), .int .i64 ji14] rfl (by (try simp only [List.map_toArray, List.map_cons, List.map_nil]); first | done | (simp only [hji14]; rfl) | rfl | (simp only [List.length_drop, List.length_take]; rfl)) ?_; (with_reducible refine (wager_Nim.calls kj9 (wrap64 (t239 - t241)) ji14 t243 t244 _ A15.out).mono ?_); rintro e w17 ⟨rfl, hb⟩; refine ⟨_, rfl, ?_⟩; have n0_ := Aside0.mk (below_step (by repeat (first | (with_reducible first | exact HB.out | apply below_alloc | apply pw_below_drewN | apply below_drew1) | exact HB.out)) hb); clear HB; have HB := n0_; clear n0_; (try clear hb); (try clear hb2); (try clear hk); (try clear hi)))
              go_meet
              case rel => exact ⟨_, H', ⟨by have := HJ9.out; first | omega | exact Nat.le_refl _⟩, ⟨by repeat (first | (with_reducible first | exact HB.out | apply below_alloc | apply pw_below_drewN | apply below_drew1) | exact HB.out)⟩⟩
            · rw [if_neg c16] at H
              have c16b0 : (t244 == 10) = false := beq_eq_false_iff_ne.mpr c16
              have c16b1 : (t244 != 10) = true := bne_iff_ne.mpr c16
              obtain rfl := Option.some.inj H
              go_wp2_with (first | ((with_reducible refine gate_callee (f := 27) rfl ?_); refine goesL_ (some 48) rfl rfl Try.func27 (by kernel_rfl) rfl #[.int .i64 (wrap64 (t239 - t241)), .int .i64 ji14] rfl (by (try simp only [List.map_toArray, List.map_cons, List.map_nil]); first | done | (simp only [hji14]; rfl) | rfl | (simp only [List.length_drop, List.length_take]; rfl)) ?_; (with_reducible refine (wager_Nim.calls kj9 (wrap64 (t239 - t241)) ji14 t243 t244 _ A15.out).mono ?_); rintro e w18 ⟨rfl, hb⟩; refine ⟨_, rfl, ?_⟩; have n0_ := Aside0.mk (below_step (by repeat (first | (with_reducible first | exact HB.out | apply below_alloc | apply pw_below_drewN | apply below_drew1) | exact HB.out)) hb); clear HB; have HB := n0_; clear n0_; (try clear hb); (try clear hb2); (try clear hk); (try clear hi)))
              go_ret
              exact ⟨by first | rfl | (simp [errW_none, errW_some] <;> rfl) | (simp only [← hji14]; first | rfl | (simp [errW_none, errW_some] <;> rfl)) | (simp [*, errW_none, errW_some] <;> rfl), by repeat (first | (with_reducible first | exact HB.out | apply below_alloc | apply pw_below_drewN | apply below_drew1) | exact HB.out)⟩
    · rw [if_neg c9] at H
      have c9b0 : (t242 == 0) = false := beq_eq_false_iff_ne.mpr c9
      have c9b1 : (t242 != 0) = true := bne_iff_ne.mpr c9
      (first | rw [c9b0] | (simp only [i64_w, i32_w]; rw [c9b0]) | skip)
      by_cases c19 : t242 = 10
      · rw [if_pos c19] at H
        have c19b0 : (t242 == 10) = true := beq_iff_eq.mpr c19
        have c19b1 : (t242 != 10) = false := bne_eq_false_iff_eq.mpr c19
        clear c19
        have H' := Aside0.mk H
        clear H
        go_wp2
        go_meet
        case rel => exact ⟨_, H', ⟨by first | omega | exact Nat.le_refl _⟩, ⟨by repeat (first | (with_reducible first | exact HB.out | apply below_alloc | apply pw_below_drewN | apply below_drew1) | exact HB.out)⟩⟩
      · rw [if_neg c19] at H
        have c19b0 : (t242 == 10) = false := beq_eq_false_iff_ne.mpr c19
        have c19b1 : (t242 != 10) = true := bne_iff_ne.mpr c19
        obtain rfl := Option.some.inj H
        go_wp2
        go_ret
        exact ⟨by first | rfl | (simp [errW_none, errW_some] <;> rfl) | (simp [*, errW_none, errW_some] <;> rfl), by repeat (first | (with_reducible first | exact HB.out | apply below_alloc | apply pw_below_drewN | apply below_drew1) | exact HB.out)⟩
  case rest =>
    clear HC7
    try clear c1
    try clear c2
    try clear p2
    try clear c6
    try clear p6
    try clear c9
    try clear c9b0
    try clear c9b1
    try clear c11
    try clear c11b0
    try clear c12
    try clear c12b0
    try clear c13
    try clear c16
    try clear c16b0
    try clear c16b1
    try clear c19
    try clear c19b0
    try clear c19b1
    try clear p2
    obtain ⟨kq, HA, HJ6, HB⟩ := hcut
    cases kq with
    | zero => exact absurd HA.out (by simp [drovewaylaw07_WagerPlayed.j1])
    | succ kj6 =>
      have H := HA.out
      clear HA
      simp only [drovewaylaw07_WagerPlayed.j1] at H
      obtain ⟨ji20, hji20⟩ : ∃ j_ : Int, (mn t239 t240) = j_ := ⟨_, rfl⟩
      replace H : (if (ji20) = 0 then (if t242 = 10 then ((drovewaylaw07_alive.f).bind fun t245 => (some t245)) else (some false)) else (if (IntKind.u64.wrap (ji20)) = 0 then (none) else ((wager_Nim.f kj6 (wrap64 (t239 - (wrap64 (1 + (wrap64 (Int.tmod a2 (IntKind.u64.wrap (ji20)))))))) (mn (wrap64 (2 * (wrap64 (1 + (wrap64 (Int.tmod a2 (IntKind.u64.wrap (ji20)))))))) 1099511627776)).bind fun bt246 => (if bt246.2 = 0 then ((drovewaylaw07_alive.f).bind fun t248 => (some t248)) else (if bt246.2 = 10 then (if t242 = 0 then (if (wrap64 (1 + (wrap64 (Int.tmod a2 (IntKind.u64.wrap (ji20)))))) ≥ t241 then ((drovewaylaw07_alive.f).bind fun t249 => (some t249)) else (some false)) else (some false)) else (some false)))))) = some r := by first | (rw [hji20] at H; exact H) | (simp only [hji20] at H ⊢; exact H)
      have hji20_ : (if t240 < t239 then t240 else t239) = ji20 := hji20
      by_cases c21 : (ji20) = 0
      · rw [if_pos c21] at H
        have c21b0 : ((ji20) == 0) = true := beq_iff_eq.mpr c21
        have c21b1 : ((ji20) != 0) = false := bne_eq_false_iff_eq.mpr c21
        clear c21
        by_cases c22 : t242 = 10
        · rw [if_pos c22] at H
          have c22b0 : (t242 == 10) = true := beq_iff_eq.mpr c22
          have c22b1 : (t242 != 10) = false := bne_eq_false_iff_eq.mpr c22
          clear c22
          replace H := Option.bind_eq_some_iff.mp H
          obtain ⟨t245, A230, H⟩ := H
          replace H : (some t245) = some r := H
          have A23 := Aside0.mk A230
          clear A230
          obtain rfl := Option.some.inj H
          go_wp2_with (first | (go_at_call 19; (with_reducible refine (drovewaylaw07_alive.calls  t245 _ A23.out).mono ?_); rintro e w24 ⟨rfl, hb⟩; have n0_ := Aside0.mk (below_step (by repeat (first | (with_reducible first | exact HB.out | apply below_alloc | apply pw_below_drewN | apply below_drew1) | exact HB.out)) hb); clear HB; have HB := n0_; clear n0_; (try clear hb); (try clear hb2); (try clear hk); (try clear hi)))
          go_ret
          exact ⟨by first | rfl | (simp [errW_none, errW_some] <;> rfl) | (simp only [← hji20]; first | rfl | (simp [errW_none, errW_some] <;> rfl)) | (simp [*, errW_none, errW_some] <;> rfl), by repeat (first | (with_reducible first | exact HB.out | apply below_alloc | apply pw_below_drewN | apply below_drew1) | exact HB.out)⟩
        · rw [if_neg c22] at H
          have c22b0 : (t242 == 10) = false := beq_eq_false_iff_ne.mpr c22
          have c22b1 : (t242 != 10) = true := bne_iff_ne.mpr c22
          obtain rfl := Option.some.inj H
          go_wp2
          go_ret
          exact ⟨by first | rfl | (simp [errW_none, errW_some] <;> rfl) | (simp only [← hji20]; first | rfl | (simp [errW_none, errW_some] <;> rfl)) | (simp [*, errW_none, errW_some] <;> rfl), by repeat (first | (with_reducible first | exact HB.out | apply below_alloc | apply pw_below_drewN | apply below_drew1) | exact HB.out)⟩
      · rw [if_neg c21] at H
        have c21b0 : ((ji20) == 0) = false := beq_eq_false_iff_ne.mpr c21
        have c21b1 : ((ji20) != 0) = true := bne_iff_ne.mpr c21
        by_cases c25 : (IntKind.u64.wrap (ji20)) = 0
        · rw [if_pos c25] at H
          exact absurd H (by simp)
        · rw [if_neg c25] at H
          have c25b0 : ((IntKind.u64.wrap (ji20)) == 0) = false := beq_eq_false_iff_ne.mpr c25
          have c25b1 : ((IntKind.u64.wrap (ji20)) != 0) = true := bne_iff_ne.mpr c25
          obtain ⟨ji26, hji26⟩ : ∃ j_ : Int, (mn (wrap64 (2 * (wrap64 (1 + (wrap64 (Int.tmod a2 (IntKind.u64.wrap (ji20)))))))) 1099511627776) = j_ := ⟨_, rfl⟩
          replace H : ((wager_Nim.f kj6 (wrap64 (t239 - (wrap64 (1 + (wrap64 (Int.tmod a2 (IntKind.u64.wrap (ji20)))))))) (ji26)).bind fun bt246 => (if bt246.2 = 0 then ((drovewaylaw07_alive.f).bind fun t248 => (some t248)) else (if bt246.2 = 10 then (if t242 = 0 then (if (wrap64 (1 + (wrap64 (Int.tmod a2 (IntKind.u64.wrap (ji20)))))) ≥ t241 then ((drovewaylaw07_alive.f).bind fun t249 => (some t249)) else (some false)) else (some false)) else (some false)))) = some r := by first | (rw [hji26] at H; exact H) | (simp only [hji26] at H ⊢; exact H)
          have hji26_ : (if 1099511627776 < (wrap64 (2 * (wrap64 (1 + (wrap64 (Int.tmod a2 (IntKind.u64.wrap (ji20)))))))) then 1099511627776 else (wrap64 (2 * (wrap64 (1 + (wrap64 (Int.tmod a2 (IntKind.u64.wrap (ji20))))))))) = ji26 := hji26
          replace H := Option.bind_eq_some_iff.mp H
          obtain ⟨⟨t246, t247⟩, A270, H⟩ := H
          replace H : (if t247 = 0 then ((drovewaylaw07_alive.f).bind fun t248 => (some t248)) else (if t247 = 10 then (if t242 = 0 then (if (wrap64 (1 + (wrap64 (Int.tmod a2 (IntKind.u64.wrap (ji20)))))) ≥ t241 then ((drovewaylaw07_alive.f).bind fun t249 => (some t249)) else (some false)) else (some false)) else (some false))) = some r := H
          have A27 := Aside0.mk A270
          clear A270
          by_cases c28 : t247 = 0
          · rw [if_pos c28] at H
            have c28b0 : (t247 == 0) = true := beq_iff_eq.mpr c28
            have c28b1 : (t247 != 0) = false := bne_eq_false_iff_eq.mpr c28
            clear c28
            replace H := Option.bind_eq_some_iff.mp H
            obtain ⟨t248, A290, H⟩ := H
            replace H : (some t248) = some r := H
            have A29 := Aside0.mk A290
            clear A290
            obtain rfl := Option.some.inj H
            go_wp2_with (first | ((with_reducible refine gate_callee (f := 27) rfl ?_); refine goesL_ (some 78) rfl rfl Try.func27 (by kernel_rfl) rfl #[.int .i64 (wrap64 (t239 - (wrap64 (1 + (wrap64 (Int.tmod a2 (IntKind.u64.wrap (ji20)))))))), .int .i64 ji26] rfl (by (try simp only [List.map_toArray, List.map_cons, List.map_nil]); first | done | (simp only [hji20, hji26]; rfl) | rfl | (simp only [List.length_drop, List.length_take]; rfl)) ?_; (with_reducible refine (wager_Nim.calls kj6 (wrap64 (t239 - (wrap64 (1 + (wrap64 (Int.tmod a2 (IntKind.u64.wrap (ji20)))))))) ji26 t246 t247 _ A27.out).mono ?_); rintro e w30 ⟨rfl, hb⟩; refine ⟨_, rfl, ?_⟩; have n0_ := Aside0.mk (below_step (by repeat (first | (with_reducible first | exact HB.out | apply below_alloc | apply pw_below_drewN | apply below_drew1) | exact HB.out)) hb); clear HB; have HB := n0_; clear n0_; (try clear hb); (try clear hb2); (try clear hk); (try clear hi)) | (go_at_call 19; (with_reducible refine (drovewaylaw07_alive.calls  t248 _ A29.out).mono ?_); rintro e w31 ⟨rfl, hb⟩; have n0_ := Aside0.mk (below_step (by repeat (first | (with_reducible first | exact HB.out | apply below_alloc | apply pw_below_drewN | apply below_drew1) | exact HB.out)) hb); clear HB; have HB := n0_; clear n0_; (try clear hb); (try clear hb2); (try clear hk); (try clear hi)))
            go_ret
            exact ⟨by first | rfl | (simp [errW_none, errW_some] <;> rfl) | (simp only [← hji20, ← hji26]; first | rfl | (simp [errW_none, errW_some] <;> rfl)) | (simp [*, errW_none, errW_some] <;> rfl), by repeat (first | (with_reducible first | exact HB.out | apply below_alloc | apply pw_below_drewN | apply below_drew1) | exact HB.out)⟩
          · rw [if_neg c28] at H
            have c28b0 : (t247 == 0) = false := beq_eq_false_iff_ne.mpr c28
            have c28b1 : (t247 != 0) = true := bne_iff_ne.mpr c28
            by_cases c32 : t247 = 10
            · rw [if_pos c32] at H
              have c32b0 : (t247 == 10) = true := beq_iff_eq.mpr c32
              have c32b1 : (t247 != 10) = false := bne_eq_false_iff_eq.mpr c32
              clear c32
              by_cases c33 : t242 = 0
              · rw [if_pos c33] at H
                have c33b0 : (t242 == 0) = true := beq_iff_eq.mpr c33
                have c33b1 : (t242 != 0) = false := bne_eq_false_iff_eq.mpr c33
                clear c33
                by_cases c34 : (wrap64 (1 + (wrap64 (Int.tmod a2 (IntKind.u64.wrap (ji20)))))) ≥ t241
                · rw [if_pos c34] at H
                  have c34b0 : decide (t241 ≤ (wrap64 (1 + (wrap64 (Int.tmod a2 (IntKind.u64.wrap (ji20))))))) = true := decide_eq_true c34
                  clear c34
                  replace H := Option.bind_eq_some_iff.mp H
                  obtain ⟨t249, A350, H⟩ := H
                  replace H : (some t249) = some r := H
                  have A35 := Aside0.mk A350
                  clear A350
                  obtain rfl := Option.some.inj H
                  go_wp2_with (first | ((with_reducible refine gate_callee (f := 27) rfl ?_); refine goesL_ (some 78) rfl rfl Try.func27 (by kernel_rfl) rfl #[.int .i64 (wrap64 (t239 - (wrap64 (1 + (wrap64 (Int.tmod a2 (IntKind.u64.wrap (ji20)))))))), .int .i64 ji26] rfl (by (try simp only [List.map_toArray, List.map_cons, List.map_nil]); first | done | (simp only [hji20, hji26]; rfl) | rfl | (simp only [List.length_drop, List.length_take]; rfl)) ?_; (with_reducible refine (wager_Nim.calls kj6 (wrap64 (t239 - (wrap64 (1 + (wrap64 (Int.tmod a2 (IntKind.u64.wrap (ji20)))))))) ji26 t246 t247 _ A27.out).mono ?_); rintro e w36 ⟨rfl, hb⟩; refine ⟨_, rfl, ?_⟩; have n0_ := Aside0.mk (below_step (by repeat (first | (with_reducible first | exact HB.out | apply below_alloc | apply pw_below_drewN | apply below_drew1) | exact HB.out)) hb); clear HB; have HB := n0_; clear n0_; (try clear hb); (try clear hb2); (try clear hk); (try clear hi)) | (go_at_call 19; (with_reducible refine (drovewaylaw07_alive.calls  t249 _ A35.out).mono ?_); rintro e w37 ⟨rfl, hb⟩; have n0_ := Aside0.mk (below_step (by repeat (first | (with_reducible first | exact HB.out | apply below_alloc | apply pw_below_drewN | apply below_drew1) | exact HB.out)) hb); clear HB; have HB := n0_; clear n0_; (try clear hb); (try clear hb2); (try clear hk); (try clear hi)))
                  go_ret
                  exact ⟨by first | rfl | (simp [errW_none, errW_some] <;> rfl) | (simp only [← hji20, ← hji26]; first | rfl | (simp [errW_none, errW_some] <;> rfl)) | (simp [*, errW_none, errW_some] <;> rfl), by repeat (first | (with_reducible first | exact HB.out | apply below_alloc | apply pw_below_drewN | apply below_drew1) | exact HB.out)⟩
                · rw [if_neg c34] at H
                  have c34b0 : decide (t241 ≤ (wrap64 (1 + (wrap64 (Int.tmod a2 (IntKind.u64.wrap (ji20))))))) = false := decide_eq_false c34
                  clear c34
                  obtain rfl := Option.some.inj H
                  go_wp2_with (first | ((with_reducible refine gate_callee (f := 27) rfl ?_); refine goesL_ (some 78) rfl rfl Try.func27 (by kernel_rfl) rfl #[.int .i64 (wrap64 (t239 - (wrap64 (1 + (wrap64 (Int.tmod a2 (IntKind.u64.wrap (ji20)))))))), .int .i64 ji26] rfl (by (try simp only [List.map_toArray, List.map_cons, List.map_nil]); first | done | (simp only [hji20, hji26]; rfl) | rfl | (simp only [List.length_drop, List.length_take]; rfl)) ?_; (with_reducible refine (wager_Nim.calls kj6 (wrap64 (t239 - (wrap64 (1 + (wrap64 (Int.tmod a2 (IntKind.u64.wrap (ji20)))))))) ji26 t246 t247 _ A27.out).mono ?_); rintro e w38 ⟨rfl, hb⟩; refine ⟨_, rfl, ?_⟩; have n0_ := Aside0.mk (below_step (by repeat (first | (with_reducible first | exact HB.out | apply below_alloc | apply pw_below_drewN | apply below_drew1) | exact HB.out)) hb); clear HB; have HB := n0_; clear n0_; (try clear hb); (try clear hb2); (try clear hk); (try clear hi)))
                  go_ret
                  exact ⟨by first | rfl | (simp [errW_none, errW_some] <;> rfl) | (simp only [← hji20, ← hji26]; first | rfl | (simp [errW_none, errW_some] <;> rfl)) | (simp [*, errW_none, errW_some] <;> rfl), by repeat (first | (with_reducible first | exact HB.out | apply below_alloc | apply pw_below_drewN | apply below_drew1) | exact HB.out)⟩
              · rw [if_neg c33] at H
                have c33b0 : (t242 == 0) = false := beq_eq_false_iff_ne.mpr c33
                have c33b1 : (t242 != 0) = true := bne_iff_ne.mpr c33
                obtain rfl := Option.some.inj H
                go_wp2_with (first | ((with_reducible refine gate_callee (f := 27) rfl ?_); refine goesL_ (some 78) rfl rfl Try.func27 (by kernel_rfl) rfl #[.int .i64 (wrap64 (t239 - (wrap64 (1 + (wrap64 (Int.tmod a2 (IntKind.u64.wrap (ji20)))))))), .int .i64 ji26] rfl (by (try simp only [List.map_toArray, List.map_cons, List.map_nil]); first | done | (simp only [hji20, hji26]; rfl) | rfl | (simp only [List.length_drop, List.length_take]; rfl)) ?_; (with_reducible refine (wager_Nim.calls kj6 (wrap64 (t239 - (wrap64 (1 + (wrap64 (Int.tmod a2 (IntKind.u64.wrap (ji20)))))))) ji26 t246 t247 _ A27.out).mono ?_); rintro e w39 ⟨rfl, hb⟩; refine ⟨_, rfl, ?_⟩; have n0_ := Aside0.mk (below_step (by repeat (first | (with_reducible first | exact HB.out | apply below_alloc | apply pw_below_drewN | apply below_drew1) | exact HB.out)) hb); clear HB; have HB := n0_; clear n0_; (try clear hb); (try clear hb2); (try clear hk); (try clear hi)))
                go_ret
                exact ⟨by first | rfl | (simp [errW_none, errW_some] <;> rfl) | (simp only [← hji20, ← hji26]; first | rfl | (simp [errW_none, errW_some] <;> rfl)) | (simp [*, errW_none, errW_some] <;> rfl), by repeat (first | (with_reducible first | exact HB.out | apply below_alloc | apply pw_below_drewN | apply below_drew1) | exact HB.out)⟩
            · rw [if_neg c32] at H
              have c32b0 : (t247 == 10) = false := beq_eq_false_iff_ne.mpr c32
              have c32b1 : (t247 != 10) = true := bne_iff_ne.mpr c32
              obtain rfl := Option.some.inj H
              go_wp2_with (first | ((with_reducible refine gate_callee (f := 27) rfl ?_); refine goesL_ (some 78) rfl rfl Try.func27 (by kernel_rfl) rfl #[.int .i64 (wrap64 (t239 - (wrap64 (1 + (wrap64 (Int.tmod a2 (IntKind.u64.wrap (ji20)))))))), .int .i64 ji26] rfl (by (try simp only [List.map_toArray, List.map_cons, List.map_nil]); first | done | (simp only [hji20, hji26]; rfl) | rfl | (simp only [List.length_drop, List.length_take]; rfl)) ?_; (with_reducible refine (wager_Nim.calls kj6 (wrap64 (t239 - (wrap64 (1 + (wrap64 (Int.tmod a2 (IntKind.u64.wrap (ji20)))))))) ji26 t246 t247 _ A27.out).mono ?_); rintro e w40 ⟨rfl, hb⟩; refine ⟨_, rfl, ?_⟩; have n0_ := Aside0.mk (below_step (by repeat (first | (with_reducible first | exact HB.out | apply below_alloc | apply pw_below_drewN | apply below_drew1) | exact HB.out)) hb); clear HB; have HB := n0_; clear n0_; (try clear hb); (try clear hb2); (try clear hk); (try clear hi)))
              go_ret
              exact ⟨by first | rfl | (simp [errW_none, errW_some] <;> rfl) | (simp only [← hji20, ← hji26]; first | rfl | (simp [errW_none, errW_some] <;> rfl)) | (simp [*, errW_none, errW_some] <;> rfl), by repeat (first | (with_reducible first | exact HB.out | apply below_alloc | apply pw_below_drewN | apply below_drew1) | exact HB.out)⟩

/-- THE ONE PURE STATEMENT of drovewaylaw07_WagerPlayed: yours. -/
def drovewaylaw07_WagerPlayed.Pure : Prop := ∀ (a0 : Int) (a1 : Int) (a2 : Int), (Lit.int .u64 a0).wf = true → (Lit.int .u64 a1).wf = true → (Lit.int .u64 a2).wf = true → ∃ k, drovewaylaw07_WagerPlayed.f k a0 a1 a2 = some true
theorem drovewaylaw07_WagerPlayed.walk (P : drovewaylaw07_WagerPlayed.Pure) (a0 : Int) (a1 : Int) (a2 : Int) (w : World) (w0 : (Lit.int .u64 a0).wf = true) (w1 : (Lit.int .u64 a1).wf = true) (w2 : (Lit.int .u64 a2).wf = true) :
    Calls Try.prog 6 #[.int .u64 a0, .int .u64 a1, .int .u64 a2] w fun e w' => e = .returned (.bool true) ∧ Below w.heap.size w w' := by
  obtain ⟨k, h⟩ := P a0 a1 a2 w0 w1 w2
  refine (drovewaylaw07_WagerPlayed.calls k a0 a1 a2 true w h).mono ?_
  rintro e w' ⟨rfl, hd⟩
  exact ⟨rfl, hd⟩

/-! ### drovewaylaw07_product: function 55 -/
def drovewaylaw07_product.f (a0 : Int) (a1 : Int) : Option (Int × Int) := some (wrap64 ((wrap64 ((wrap64 ((wrap64 (Int.tdiv a0 1048576)) * (wrap64 (Int.tdiv a1 1048576)))) + (wrap64 (Int.tdiv (wrap64 ((wrap64 ((wrap64 (Int.tdiv a0 1048576)) * (Int.tmod a1 1048576))) + (wrap64 ((Int.tmod a0 1048576) * (wrap64 (Int.tdiv a1 1048576)))))) 1048576)))) + (wrap64 (Int.tdiv (wrap64 ((wrap64 ((Int.tmod a0 1048576) * (Int.tmod a1 1048576))) + (wrap64 ((Int.tmod (wrap64 ((wrap64 ((wrap64 (Int.tdiv a0 1048576)) * (Int.tmod a1 1048576))) + (wrap64 ((Int.tmod a0 1048576) * (wrap64 (Int.tdiv a1 1048576)))))) 1048576) * 1048576)))) 1099511627776))), Int.tmod (wrap64 ((wrap64 ((Int.tmod a0 1048576) * (Int.tmod a1 1048576))) + (wrap64 ((Int.tmod (wrap64 ((wrap64 ((wrap64 (Int.tdiv a0 1048576)) * (Int.tmod a1 1048576))) + (wrap64 ((Int.tmod a0 1048576) * (wrap64 (Int.tdiv a1 1048576)))))) 1048576) * 1048576)))) 1099511627776)
set_option maxHeartbeats 8000000 in
set_option maxRecDepth 100000 in
theorem drovewaylaw07_product.calls (a0 : Int) (a1 : Int) (r1 : Int) (r2 : Int) (w : World) (h : drovewaylaw07_product.f a0 a1 = some (r1, r2)) :
    Calls Try.prog 55 #[.int .i64 a0, .int .i64 a1] w fun e w' => e = .returned (.tuple #[.int .i64 r1, .int .i64 r2]) ∧ Drawn0 w w' := by
  have H : (some (wrap64 ((wrap64 ((wrap64 ((wrap64 (Int.tdiv a0 1048576)) * (wrap64 (Int.tdiv a1 1048576)))) + (wrap64 (Int.tdiv (wrap64 ((wrap64 ((wrap64 (Int.tdiv a0 1048576)) * (Int.tmod a1 1048576))) + (wrap64 ((Int.tmod a0 1048576) * (wrap64 (Int.tdiv a1 1048576)))))) 1048576)))) + (wrap64 (Int.tdiv (wrap64 ((wrap64 ((Int.tmod a0 1048576) * (Int.tmod a1 1048576))) + (wrap64 ((Int.tmod (wrap64 ((wrap64 ((wrap64 (Int.tdiv a0 1048576)) * (Int.tmod a1 1048576))) + (wrap64 ((Int.tmod a0 1048576) * (wrap64 (Int.tdiv a1 1048576)))))) 1048576) * 1048576)))) 1099511627776))), Int.tmod (wrap64 ((wrap64 ((Int.tmod a0 1048576) * (Int.tmod a1 1048576))) + (wrap64 ((Int.tmod (wrap64 ((wrap64 ((wrap64 (Int.tdiv a0 1048576)) * (Int.tmod a1 1048576))) + (wrap64 ((Int.tmod a0 1048576) * (wrap64 (Int.tdiv a1 1048576)))))) 1048576) * 1048576)))) 1099511627776)) = some (r1, r2) := h
  clear h
  simp only [Option.some.injEq, Prod.mk.injEq] at H
  obtain ⟨rfl, rfl⟩ := H
  go_enter Try.func55, Try.ntmps55
  go_wp2
  go_ret2
  exact ⟨by first | rfl | (simp; done) | (simp [*]; done), by repeat (first | exact Drawn0.refl _ | apply Drawn0.step)⟩

/-! ### drovewaylaw07_beyond: function 28 -/
def drovewaylaw07_beyond.f (a0 : Int) (a1 : Int) : Option (Bool) := (drovewaylaw07_product.f a0 (wrap64 (a0 - a1))).bind fun bt250 => ((drovewaylaw07_product.f a1 a1).bind fun bt252 => (if bt250.1 > bt252.1 then (some true) else (if bt250.1 = bt252.1 then (some (decide (bt250.2 > bt252.2))) else (some false))))
set_option maxHeartbeats 8000000 in
set_option maxRecDepth 100000 in
theorem drovewaylaw07_beyond.calls (a0 : Int) (a1 : Int) (r : Bool) (w : World) (h : drovewaylaw07_beyond.f a0 a1 = some r) :
    Calls Try.prog 28 #[.int .i64 a0, .int .i64 a1] w fun e w' => e = .returned (.bool r) ∧ Drawn0 w w' := by
  have H : ((drovewaylaw07_product.f a0 (wrap64 (a0 - a1))).bind fun bt250 => ((drovewaylaw07_product.f a1 a1).bind fun bt252 => (if bt250.1 > bt252.1 then (some true) else (if bt250.1 = bt252.1 then (some (decide (bt250.2 > bt252.2))) else (some false))))) = some r := h
  clear h
  replace H := Option.bind_eq_some_iff.mp H
  obtain ⟨⟨t250, t251⟩, A30, H⟩ := H
  replace H : ((drovewaylaw07_product.f a1 a1).bind fun bt252 => (if t250 > bt252.1 then (some true) else (if t250 = bt252.1 then (some (decide (t251 > bt252.2))) else (some false)))) = some r := H
  have A3 := Aside0.mk A30
  clear A30
  replace H := Option.bind_eq_some_iff.mp H
  obtain ⟨⟨t252, t253⟩, A40, H⟩ := H
  replace H : (if t250 > t252 then (some true) else (if t250 = t252 then (some (decide (t251 > t253))) else (some false))) = some r := H
  have A4 := Aside0.mk A40
  clear A40
  by_cases c5 : t250 > t252
  · rw [if_pos c5] at H
    have c5b0 : decide (t252 < t250) = true := decide_eq_true c5
    clear c5
    obtain rfl := Option.some.inj H
    go_enter Try.func28, Try.ntmps28
    go_wp2_with (first | ((with_reducible refine gate_callee (f := 55) rfl ?_); refine goesL_ (some 14) rfl rfl Try.func55 (by kernel_rfl) rfl #[.int .i64 a0, .int .i64 (wrap64 (a0 - a1))] rfl (by (try simp only [List.map_toArray, List.map_cons, List.map_nil]); first | done | rfl | (simp only [List.length_drop, List.length_take]; rfl)) ?_; (with_reducible refine (drovewaylaw07_product.calls a0 (wrap64 (a0 - a1)) t250 t251 _ A3.out).mono ?_); rintro e w' ⟨rfl, ⟨nd, rfl⟩⟩; refine ⟨_, rfl, ?_⟩) | ((with_reducible refine gate_callee (f := 55) rfl ?_); refine goesL_ (some 20) rfl rfl Try.func55 (by kernel_rfl) rfl #[.int .i64 a1, .int .i64 a1] rfl (by (try simp only [List.map_toArray, List.map_cons, List.map_nil]); first | done | rfl | (simp only [List.length_drop, List.length_take]; rfl)) ?_; (with_reducible refine (drovewaylaw07_product.calls a1 a1 t252 t253 _ A4.out).mono ?_); rintro e w' ⟨rfl, ⟨nd, rfl⟩⟩; refine ⟨_, rfl, ?_⟩))
    go_ret
    exact ⟨by first | rfl | (simp; done) | (simp [*]; done), by repeat (first | exact Drawn0.refl _ | apply Drawn0.step)⟩
  · rw [if_neg c5] at H
    have c5b0 : decide (t252 < t250) = false := decide_eq_false c5
    clear c5
    by_cases c6 : t250 = t252
    · rw [if_pos c6] at H
      have c6b0 : (t250 == t252) = true := beq_iff_eq.mpr c6
      have c6b1 : (t250 != t252) = false := bne_eq_false_iff_eq.mpr c6
      clear c6
      obtain rfl := Option.some.inj H
      go_enter Try.func28, Try.ntmps28
      go_wp2_with (first | ((with_reducible refine gate_callee (f := 55) rfl ?_); refine goesL_ (some 14) rfl rfl Try.func55 (by kernel_rfl) rfl #[.int .i64 a0, .int .i64 (wrap64 (a0 - a1))] rfl (by (try simp only [List.map_toArray, List.map_cons, List.map_nil]); first | done | rfl | (simp only [List.length_drop, List.length_take]; rfl)) ?_; (with_reducible refine (drovewaylaw07_product.calls a0 (wrap64 (a0 - a1)) t250 t251 _ A3.out).mono ?_); rintro e w' ⟨rfl, ⟨nd, rfl⟩⟩; refine ⟨_, rfl, ?_⟩) | ((with_reducible refine gate_callee (f := 55) rfl ?_); refine goesL_ (some 20) rfl rfl Try.func55 (by kernel_rfl) rfl #[.int .i64 a1, .int .i64 a1] rfl (by (try simp only [List.map_toArray, List.map_cons, List.map_nil]); first | done | rfl | (simp only [List.length_drop, List.length_take]; rfl)) ?_; (with_reducible refine (drovewaylaw07_product.calls a1 a1 t252 t253 _ A4.out).mono ?_); rintro e w' ⟨rfl, ⟨nd, rfl⟩⟩; refine ⟨_, rfl, ?_⟩))
      go_ret
      exact ⟨by first | rfl | (simp; done) | (simp [*]; done), by repeat (first | exact Drawn0.refl _ | apply Drawn0.step)⟩
    · rw [if_neg c6] at H
      have c6b0 : (t250 == t252) = false := beq_eq_false_iff_ne.mpr c6
      have c6b1 : (t250 != t252) = true := bne_iff_ne.mpr c6
      obtain rfl := Option.some.inj H
      go_enter Try.func28, Try.ntmps28
      go_wp2_with (first | ((with_reducible refine gate_callee (f := 55) rfl ?_); refine goesL_ (some 14) rfl rfl Try.func55 (by kernel_rfl) rfl #[.int .i64 a0, .int .i64 (wrap64 (a0 - a1))] rfl (by (try simp only [List.map_toArray, List.map_cons, List.map_nil]); first | done | rfl | (simp only [List.length_drop, List.length_take]; rfl)) ?_; (with_reducible refine (drovewaylaw07_product.calls a0 (wrap64 (a0 - a1)) t250 t251 _ A3.out).mono ?_); rintro e w' ⟨rfl, ⟨nd, rfl⟩⟩; refine ⟨_, rfl, ?_⟩) | ((with_reducible refine gate_callee (f := 55) rfl ?_); refine goesL_ (some 20) rfl rfl Try.func55 (by kernel_rfl) rfl #[.int .i64 a1, .int .i64 a1] rfl (by (try simp only [List.map_toArray, List.map_cons, List.map_nil]); first | done | rfl | (simp only [List.length_drop, List.length_take]; rfl)) ?_; (with_reducible refine (drovewaylaw07_product.calls a1 a1 t252 t253 _ A4.out).mono ?_); rintro e w' ⟨rfl, ⟨nd, rfl⟩⟩; refine ⟨_, rfl, ?_⟩))
      go_ret
      exact ⟨by first | rfl | (simp; done) | (simp [*]; done), by repeat (first | exact Drawn0.refl _ | apply Drawn0.step)⟩

end Go.Proofs.Ytcngcilinlcmeaa.P
