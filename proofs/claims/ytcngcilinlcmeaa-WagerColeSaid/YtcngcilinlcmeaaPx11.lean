/- Printed by group.py, a program of this session, over the place's print: functions of the program as Lean functions, and proofs that the machine's calls answer as they do. -/
import Derived.Test.YtcngcilinlcmeaaPx0
import Derived.Test.YtcngcilinlcmeaaPx3
import Derived.Test.YtcngcilinlcmeaaPx4
import Derived.Test.YtcngcilinlcmeaaPx6
import Derived.Test.YtcngcilinlcmeaaPx8
import Derived.Test.YtcngcilinlcmeaaPx10
namespace Go.Proofs.Ytcngcilinlcmeaa.P
open Go.RowKit Go.Proofs.YtcngcilinlcmeaaW.PrintWords Go.Proofs.YtcngcilinlcmeaaW.PrintLast Go.Proofs.YtcngcilinlcmeaaW.PrintMore
attribute [local go_sem] max2_int min2_int max_two min_two max_three min_three max_four min_four   -- for this text's walks alone
set_option linter.unusedVariables false
set_option linter.unusedSimpArgs false

/-! ### drovewaylaw07_WagerCole: function 7 -/
mutual
def drovewaylaw07_WagerCole.j0 : Nat → Int → Int → Int → Int → Int → List Int → Bool → Option (Bool)
  | 0, _, _, _, _, _, _, _ => none
  | k + 1, x5, x6, x7, x8, x9, x10, x40 => if x40 = true then (some false) else (if x5 = 0 then (drovewaylaw07_WagerCole.j1 k x5 x6 x7 x8 x9 x10 true) else (drovewaylaw07_WagerCole.j1 k x5 x6 x7 x8 x9 x10 (x6 == 0)))
def drovewaylaw07_WagerCole.j1 : Nat → Int → Int → Int → Int → Int → List Int → Bool → Option (Bool)
  | 0, _, _, _, _, _, _, _ => none
  | k + 1, x5, x6, x7, x8, x9, x10, x46 => if x46 = true then (if x9 = 10 then (if x7 = 0 then (if x8 = 0 then (if (x10.length : Int) = 0 then ((drovewaylaw07_alive.f).bind fun t263 => (some t263)) else (some false)) else (some false)) else (some false)) else (some false)) else (if x5 = x6 then (drovewaylaw07_WagerCole.j2 k x9 x10 true) else ((drovewaylaw07_beyond.f (mx x5 x6) (mn x5 x6)).bind fun t264 => (drovewaylaw07_WagerCole.j2 k x9 x10 t264)))
def drovewaylaw07_WagerCole.j2 : Nat → Int → List Int → Bool → Option (Bool)
  | 0, _, _, _ => none
  | k + 1, x9, x10, x12 => if ((x9 == 0) != x12) = true then (drovewaylaw07_WagerCole.j3 k x10 x12 true) else (drovewaylaw07_WagerCole.j3 k x10 x12 ((x10.length : Int) == 0))
def drovewaylaw07_WagerCole.j3 : Nat → List Int → Bool → Bool → Option (Bool)
  | 0, _, _, _ => none
  | k + 1, x10, x12, x85 => if x85 = true then (some false) else (drovewaylaw07_WagerCole.l0 k x10 x12 0)
def drovewaylaw07_WagerCole.l0 : Nat → List Int → Bool → Int → Option (Bool)
  | 0, _, _, _ => none
  | k + 1, x10, x12, x13 => if x13 < (wrap64 ((x10.length : Int) - 1)) then (if 0 ≤ x13 then (if x13 < (x10.length : Int) then (if (rd x10 x13) = 1 then (drovewaylaw07_WagerCole.l0 k x10 x12 (wrap64 (x13 + 1))) else (if (((Int.tmod x13 2) == 0) == x12) = true then ((drovewaylaw07_alive.f).bind fun t266 => (some t266)) else (some false))) else (none)) else (none)) else (if (((Int.tmod x13 2) == 0) == x12) = true then ((drovewaylaw07_alive.f).bind fun t267 => (some t267)) else (some false))
end
def drovewaylaw07_WagerCole.f (k : Nat) (a0 : Int) (a1 : Int) : Option (Bool) := (drovewaylaw07_heap.f a0).bind fun t254 => ((drovewaylaw07_heap.f a1).bind fun t255 => ((wager_Euclid.f k t254 t255).bind fun bt256 => ((wager_Steps.f t254 t255).bind fun bt259 => (if bt259.2 = 0 then (if bt256.2.2 = 0 then (drovewaylaw07_WagerCole.j0 k t254 t255 bt256.1 bt256.2.1 bt256.2.2 bt259.1 false) else (drovewaylaw07_WagerCole.j0 k t254 t255 bt256.1 bt256.2.1 bt256.2.2 bt259.1 (bt256.2.2 != 10))) else (drovewaylaw07_WagerCole.j0 k t254 t255 bt256.1 bt256.2.1 bt256.2.2 bt259.1 true)))))
theorem drovewaylaw07_WagerCole.mono_l : ∀ k, (∀ y0 y1 y2 y3 y4 y5 y6, LeO (drovewaylaw07_WagerCole.j0 k y0 y1 y2 y3 y4 y5 y6) (drovewaylaw07_WagerCole.j0 (k + 1) y0 y1 y2 y3 y4 y5 y6)) ∧ (∀ y0 y1 y2 y3 y4 y5 y6, LeO (drovewaylaw07_WagerCole.j1 k y0 y1 y2 y3 y4 y5 y6) (drovewaylaw07_WagerCole.j1 (k + 1) y0 y1 y2 y3 y4 y5 y6)) ∧ (∀ y0 y1 y2, LeO (drovewaylaw07_WagerCole.j2 k y0 y1 y2) (drovewaylaw07_WagerCole.j2 (k + 1) y0 y1 y2)) ∧ (∀ y0 y1 y2, LeO (drovewaylaw07_WagerCole.j3 k y0 y1 y2) (drovewaylaw07_WagerCole.j3 (k + 1) y0 y1 y2)) ∧ (∀ y0 y1 y2, LeO (drovewaylaw07_WagerCole.l0 k y0 y1 y2) (drovewaylaw07_WagerCole.l0 (k + 1) y0 y1 y2))
  | 0 => ⟨fun _ _ _ _ _ _ _ r h => by simp [drovewaylaw07_WagerCole.j0] at h, fun _ _ _ _ _ _ _ r h => by simp [drovewaylaw07_WagerCole.j1] at h, fun _ _ _ r h => by simp [drovewaylaw07_WagerCole.j2] at h, fun _ _ _ r h => by simp [drovewaylaw07_WagerCole.j3] at h, fun _ _ _ r h => by simp [drovewaylaw07_WagerCole.l0] at h⟩
  | k + 1 => by
    obtain ⟨ih0, ih1, ih2, ih3, ih4⟩ := drovewaylaw07_WagerCole.mono_l k
    refine ⟨?_, ?_, ?_, ?_, ?_⟩
    · intro y0 y1 y2 y3 y4 y5 y6
      unfold drovewaylaw07_WagerCole.j0
      repeat' first
      | (with_reducible exact ih0 _ _ _ _ _ _ _)
      | (with_reducible exact ih1 _ _ _ _ _ _ _)
      | (with_reducible exact ih2 _ _ _)
      | (with_reducible exact ih3 _ _ _)
      | (with_reducible exact ih4 _ _ _)
      | (with_reducible exact wager_Euclid.mono _ _ _)
      | (with_reducible exact LeO.refl _)
      | (with_reducible exact LeO.none _)
      | (with_reducible refine LeO.ite ?_ ?_)
      | (with_reducible refine LeO.bind ?_ (fun _ => ?_))
      | exact ih0 _ _ _ _ _ _ _
      | exact ih1 _ _ _ _ _ _ _
      | exact ih2 _ _ _
      | exact ih3 _ _ _
      | exact ih4 _ _ _
      | exact wager_Euclid.mono _ _ _
      | exact LeO.none _
      | refine LeO.ite ?_ ?_
      | refine LeO.bind ?_ (fun _ => ?_)
    · intro y0 y1 y2 y3 y4 y5 y6
      unfold drovewaylaw07_WagerCole.j1
      repeat' first
      | (with_reducible exact ih0 _ _ _ _ _ _ _)
      | (with_reducible exact ih1 _ _ _ _ _ _ _)
      | (with_reducible exact ih2 _ _ _)
      | (with_reducible exact ih3 _ _ _)
      | (with_reducible exact ih4 _ _ _)
      | (with_reducible exact wager_Euclid.mono _ _ _)
      | (with_reducible exact LeO.refl _)
      | (with_reducible exact LeO.none _)
      | (with_reducible refine LeO.ite ?_ ?_)
      | (with_reducible refine LeO.bind ?_ (fun _ => ?_))
      | exact ih0 _ _ _ _ _ _ _
      | exact ih1 _ _ _ _ _ _ _
      | exact ih2 _ _ _
      | exact ih3 _ _ _
      | exact ih4 _ _ _
      | exact wager_Euclid.mono _ _ _
      | exact LeO.none _
      | refine LeO.ite ?_ ?_
      | refine LeO.bind ?_ (fun _ => ?_)
    · intro y0 y1 y2
      unfold drovewaylaw07_WagerCole.j2
      repeat' first
      | (with_reducible exact ih0 _ _ _ _ _ _ _)
      | (with_reducible exact ih1 _ _ _ _ _ _ _)
      | (with_reducible exact ih2 _ _ _)
      | (with_reducible exact ih3 _ _ _)
      | (with_reducible exact ih4 _ _ _)
      | (with_reducible exact wager_Euclid.mono _ _ _)
      | (with_reducible exact LeO.refl _)
      | (with_reducible exact LeO.none _)
      | (with_reducible refine LeO.ite ?_ ?_)
      | (with_reducible refine LeO.bind ?_ (fun _ => ?_))
      | exact ih0 _ _ _ _ _ _ _
      | exact ih1 _ _ _ _ _ _ _
      | exact ih2 _ _ _
      | exact ih3 _ _ _
      | exact ih4 _ _ _
      | exact wager_Euclid.mono _ _ _
      | exact LeO.none _
      | refine LeO.ite ?_ ?_
      | refine LeO.bind ?_ (fun _ => ?_)
    · intro y0 y1 y2
      unfold drovewaylaw07_WagerCole.j3
      repeat' first
      | (with_reducible exact ih0 _ _ _ _ _ _ _)
      | (with_reducible exact ih1 _ _ _ _ _ _ _)
      | (with_reducible exact ih2 _ _ _)
      | (with_reducible exact ih3 _ _ _)
      | (with_reducible exact ih4 _ _ _)
      | (with_reducible exact wager_Euclid.mono _ _ _)
      | (with_reducible exact LeO.refl _)
      | (with_reducible exact LeO.none _)
      | (with_reducible refine LeO.ite ?_ ?_)
      | (with_reducible refine LeO.bind ?_ (fun _ => ?_))
      | exact ih0 _ _ _ _ _ _ _
      | exact ih1 _ _ _ _ _ _ _
      | exact ih2 _ _ _
      | exact ih3 _ _ _
      | exact ih4 _ _ _
      | exact wager_Euclid.mono _ _ _
      | exact LeO.none _
      | refine LeO.ite ?_ ?_
      | refine LeO.bind ?_ (fun _ => ?_)
    · intro y0 y1 y2
      unfold drovewaylaw07_WagerCole.l0
      repeat' first
      | (with_reducible exact ih0 _ _ _ _ _ _ _)
      | (with_reducible exact ih1 _ _ _ _ _ _ _)
      | (with_reducible exact ih2 _ _ _)
      | (with_reducible exact ih3 _ _ _)
      | (with_reducible exact ih4 _ _ _)
      | (with_reducible exact wager_Euclid.mono _ _ _)
      | (with_reducible exact LeO.refl _)
      | (with_reducible exact LeO.none _)
      | (with_reducible refine LeO.ite ?_ ?_)
      | (with_reducible refine LeO.bind ?_ (fun _ => ?_))
      | exact ih0 _ _ _ _ _ _ _
      | exact ih1 _ _ _ _ _ _ _
      | exact ih2 _ _ _
      | exact ih3 _ _ _
      | exact ih4 _ _ _
      | exact wager_Euclid.mono _ _ _
      | exact LeO.none _
      | refine LeO.ite ?_ ?_
      | refine LeO.bind ?_ (fun _ => ?_)
theorem drovewaylaw07_WagerCole.mono : ∀ a0 a1 k, LeO (drovewaylaw07_WagerCole.f k a0 a1) (drovewaylaw07_WagerCole.f (k + 1) a0 a1) := by
  intro a0 a1 k
  obtain ⟨ih0, ih1, ih2, ih3, ih4⟩ := drovewaylaw07_WagerCole.mono_l k
  unfold drovewaylaw07_WagerCole.f
  repeat' first
      | (with_reducible exact ih0 _ _ _ _ _ _ _)
      | (with_reducible exact ih1 _ _ _ _ _ _ _)
      | (with_reducible exact ih2 _ _ _)
      | (with_reducible exact ih3 _ _ _)
      | (with_reducible exact ih4 _ _ _)
      | (with_reducible exact wager_Euclid.mono _ _ _)
      | (with_reducible exact LeO.refl _)
      | (with_reducible exact LeO.none _)
      | (with_reducible refine LeO.ite ?_ ?_)
      | (with_reducible refine LeO.bind ?_ (fun _ => ?_))
      | exact ih0 _ _ _ _ _ _ _
      | exact ih1 _ _ _ _ _ _ _
      | exact ih2 _ _ _
      | exact ih3 _ _ _
      | exact ih4 _ _ _
      | exact wager_Euclid.mono _ _ _
      | exact LeO.none _
      | refine LeO.ite ?_ ?_
      | refine LeO.bind ?_ (fun _ => ?_)
set_option maxHeartbeats 8000000 in
set_option maxRecDepth 100000 in
theorem drovewaylaw07_WagerCole.calls (k : Nat) (a0 : Int) (a1 : Int) (r : Bool) (w : World) (h : drovewaylaw07_WagerCole.f k a0 a1 = some r) :
    Calls Try.prog 7 #[.int .u64 a0, .int .u64 a1] w fun e w' => e = .returned (.bool r) ∧ Below w.heap.size w w' := by
  have HB := Aside0.mk (Below.refl w.heap.size w)
  have H : ((drovewaylaw07_heap.f a0).bind fun t254 => ((drovewaylaw07_heap.f a1).bind fun t255 => ((wager_Euclid.f k t254 t255).bind fun bt256 => ((wager_Steps.f t254 t255).bind fun bt259 => (if bt259.2 = 0 then (if bt256.2.2 = 0 then (drovewaylaw07_WagerCole.j0 k t254 t255 bt256.1 bt256.2.1 bt256.2.2 bt259.1 false) else (drovewaylaw07_WagerCole.j0 k t254 t255 bt256.1 bt256.2.1 bt256.2.2 bt259.1 (bt256.2.2 != 10))) else (drovewaylaw07_WagerCole.j0 k t254 t255 bt256.1 bt256.2.1 bt256.2.2 bt259.1 true)))))) = some r := h
  clear h
  replace H := Option.bind_eq_some_iff.mp H
  obtain ⟨t254, A30, H⟩ := H
  replace H : ((drovewaylaw07_heap.f a1).bind fun t255 => ((wager_Euclid.f k t254 t255).bind fun bt256 => ((wager_Steps.f t254 t255).bind fun bt259 => (if bt259.2 = 0 then (if bt256.2.2 = 0 then (drovewaylaw07_WagerCole.j0 k t254 t255 bt256.1 bt256.2.1 bt256.2.2 bt259.1 false) else (drovewaylaw07_WagerCole.j0 k t254 t255 bt256.1 bt256.2.1 bt256.2.2 bt259.1 (bt256.2.2 != 10))) else (drovewaylaw07_WagerCole.j0 k t254 t255 bt256.1 bt256.2.1 bt256.2.2 bt259.1 true))))) = some r := H
  have A3 := Aside0.mk A30
  clear A30
  replace H := Option.bind_eq_some_iff.mp H
  obtain ⟨t255, A40, H⟩ := H
  replace H : ((wager_Euclid.f k t254 t255).bind fun bt256 => ((wager_Steps.f t254 t255).bind fun bt259 => (if bt259.2 = 0 then (if bt256.2.2 = 0 then (drovewaylaw07_WagerCole.j0 k t254 t255 bt256.1 bt256.2.1 bt256.2.2 bt259.1 false) else (drovewaylaw07_WagerCole.j0 k t254 t255 bt256.1 bt256.2.1 bt256.2.2 bt259.1 (bt256.2.2 != 10))) else (drovewaylaw07_WagerCole.j0 k t254 t255 bt256.1 bt256.2.1 bt256.2.2 bt259.1 true)))) = some r := H
  have A4 := Aside0.mk A40
  clear A40
  replace H := Option.bind_eq_some_iff.mp H
  obtain ⟨⟨t256, t257, t258⟩, A50, H⟩ := H
  replace H : ((wager_Steps.f t254 t255).bind fun bt259 => (if bt259.2 = 0 then (if t258 = 0 then (drovewaylaw07_WagerCole.j0 k t254 t255 t256 t257 t258 bt259.1 false) else (drovewaylaw07_WagerCole.j0 k t254 t255 t256 t257 t258 bt259.1 (t258 != 10))) else (drovewaylaw07_WagerCole.j0 k t254 t255 t256 t257 t258 bt259.1 true))) = some r := H
  have A5 := Aside0.mk A50
  clear A50
  replace H := Option.bind_eq_some_iff.mp H
  obtain ⟨⟨t259, t260⟩, A60, H⟩ := H
  replace H : (if t260 = 0 then (if t258 = 0 then (drovewaylaw07_WagerCole.j0 k t254 t255 t256 t257 t258 t259 false) else (drovewaylaw07_WagerCole.j0 k t254 t255 t256 t257 t258 t259 (t258 != 10))) else (drovewaylaw07_WagerCole.j0 k t254 t255 t256 t257 t258 t259 true)) = some r := H
  have A6 := Aside0.mk A60
  clear A60
  have HC7 := Aside0.mk H
  clear H
  go_enter Try.func7, Try.ntmps7
  go_upto_region 4 with (first | ((with_reducible refine gate_callee (f := 24) rfl ?_); refine goesL_ (some 15) rfl rfl Try.func24 (by kernel_rfl) rfl #[.int .u64 a0] rfl (by (try simp only [List.map_toArray, List.map_cons, List.map_nil]); first | done | rfl | (simp only [List.length_drop, List.length_take]; rfl)) ?_; (with_reducible refine (drovewaylaw07_heap.calls a0 t254 _ A3.out).mono ?_); rintro e w' ⟨rfl, ⟨nd, rfl⟩⟩; refine ⟨_, rfl, ?_⟩) | ((with_reducible refine gate_callee (f := 24) rfl ?_); refine goesL_ (some 17) rfl rfl Try.func24 (by kernel_rfl) rfl #[.int .u64 a1] rfl (by (try simp only [List.map_toArray, List.map_cons, List.map_nil]); first | done | rfl | (simp only [List.length_drop, List.length_take]; rfl)) ?_; (with_reducible refine (drovewaylaw07_heap.calls a1 t255 _ A4.out).mono ?_); rintro e w' ⟨rfl, ⟨nd, rfl⟩⟩; refine ⟨_, rfl, ?_⟩) | ((with_reducible refine gate_callee (f := 14) rfl ?_); refine goesL_ (some 21) rfl rfl Try.func14 (by kernel_rfl) rfl #[.int .i64 t254, .int .i64 t255] rfl (by (try simp only [List.map_toArray, List.map_cons, List.map_nil]); first | done | rfl | (simp only [List.length_drop, List.length_take]; rfl)) ?_; (with_reducible refine (wager_Euclid.calls k t254 t255 t256 t257 t258 _ A5.out).mono ?_); rintro e w8 ⟨rfl, hb⟩; refine ⟨_, rfl, ?_⟩; have n0_ := Aside0.mk (below_step (by repeat (first | (with_reducible first | exact HB.out | apply below_alloc | apply pw_below_drewN | apply below_drew1) | exact HB.out)) hb); clear HB; have HB := n0_; clear n0_; (try clear hb); (try clear hb2); (try clear hk); (try clear hi)) | ((with_reducible refine gate_callee (f := 16) rfl ?_); refine goesL_ (some 28) rfl rfl Try.func16 (by kernel_rfl) rfl #[.int .i64 t254, .int .i64 t255] rfl (by (try simp only [List.map_toArray, List.map_cons, List.map_nil]); first | done | rfl | (simp only [List.length_drop, List.length_take]; rfl)) ?_; (with_reducible refine (wager_Steps.calls t254 t255 t259 t260 _ A6.out).mono ?_); rintro e w9 ⟨v261, rfl, ho0, hb⟩; refine ⟨_, rfl, ?_⟩; have n0_ := Aside0.mk (Kd.R_lower ho0 (below_size (by repeat (first | (with_reducible first | exact HB.out | apply below_alloc | apply pw_below_drewN | apply below_drew1) | exact HB.out)))); have n1_ := Aside0.mk (below_step (by repeat (first | (with_reducible first | exact HB.out | apply below_alloc | apply pw_below_drewN | apply below_drew1) | exact HB.out)) hb); clear HB; have HO262 := n0_; have HB := n1_; clear n0_ n1_; (try clear hb); (try clear hb2); (try clear hk); (try clear hi); (try clear ho0)))
  (try simp only [Act.put, List.setIfInBounds_toArray, List.set_cons_zero, List.set_cons_succ])
  go_cut [40] (fun v40 wc => ∃ (kq : Nat) (x40_6 : Bool), v40 = .bool x40_6 ∧ Aside0 (drovewaylaw07_WagerCole.j0 kq t254 t255 t256 t257 t258 t259 x40_6 = some r) ∧ Aside0 (kq ≤ k) ∧ Aside0 (Kd.R (Kd.int .i64) 3 wc w.heap.size (fun _ => True) v261 t259) ∧ Aside0 (Below w.heap.size w wc))
  case first =>
    have H := HC7.out
    clear HC7
    by_cases c10 : t260 = 0
    · rw [if_pos c10] at H
      have c10b0 : (t260 == 0) = true := beq_iff_eq.mpr c10
      have c10b1 : (t260 != 0) = false := bne_eq_false_iff_eq.mpr c10
      clear c10
      (first | rw [c10b0] | (simp only [i64_w, i32_w]; rw [c10b0]) | skip)
      by_cases c11 : t258 = 0
      · rw [if_pos c11] at H
        have c11b0 : (t258 == 0) = true := beq_iff_eq.mpr c11
        have c11b1 : (t258 != 0) = false := bne_eq_false_iff_eq.mpr c11
        clear c11
        have H' := Aside0.mk H
        clear H
        go_wp2
        go_meet
        case rel => exact ⟨_, (false), (by first | rfl | (simp; done) | (simp [*]; done)), H', ⟨by first | omega | exact Nat.le_refl _⟩, ⟨by (with_reducible repeat (first | apply Kd.R_alloc | apply Kd.R_drewN | apply Kd.R_drew)); exact HO262.out⟩, ⟨by repeat (first | (with_reducible first | exact HB.out | apply below_alloc | apply pw_below_drewN | apply below_drew1) | exact HB.out)⟩⟩
      · rw [if_neg c11] at H
        have c11b0 : (t258 == 0) = false := beq_eq_false_iff_ne.mpr c11
        have c11b1 : (t258 != 0) = true := bne_iff_ne.mpr c11
        have H' := Aside0.mk H
        clear H
        go_wp2
        go_meet
        case rel => exact ⟨_, ((t258 != 10)), (by first | rfl | (simp; done) | (simp [*]; done)), H', ⟨by first | omega | exact Nat.le_refl _⟩, ⟨by (with_reducible repeat (first | apply Kd.R_alloc | apply Kd.R_drewN | apply Kd.R_drew)); exact HO262.out⟩, ⟨by repeat (first | (with_reducible first | exact HB.out | apply below_alloc | apply pw_below_drewN | apply below_drew1) | exact HB.out)⟩⟩
    · rw [if_neg c10] at H
      have c10b0 : (t260 == 0) = false := beq_eq_false_iff_ne.mpr c10
      have c10b1 : (t260 != 0) = true := bne_iff_ne.mpr c10
      (first | rw [c10b0] | (simp only [i64_w, i32_w]; rw [c10b0]) | skip)
      have H' := Aside0.mk H
      clear H
      go_wp2
      go_meet
      case rel => exact ⟨_, (true), (by first | rfl | (simp; done) | (simp [*]; done)), H', ⟨by first | omega | exact Nat.le_refl _⟩, ⟨by (with_reducible repeat (first | apply Kd.R_alloc | apply Kd.R_drewN | apply Kd.R_drew)); exact HO262.out⟩, ⟨by repeat (first | (with_reducible first | exact HB.out | apply below_alloc | apply pw_below_drewN | apply below_drew1) | exact HB.out)⟩⟩
  case rest =>
    clear HC7
    try clear c1
    try clear c2
    try clear p2
    try clear c7
    try clear c10
    try clear c10b0
    try clear c10b1
    try clear c11
    try clear c11b0
    try clear c11b1
    obtain ⟨kq, x40_6, rfl, HA, HJ6, HO_10, HB⟩ := hcut
    cases kq with
    | zero => exact absurd HA.out (by simp [drovewaylaw07_WagerCole.j0])
    | succ kj6 =>
      have H := HA.out
      clear HA
      simp only [drovewaylaw07_WagerCole.j0] at H
      by_cases c12 : x40_6 = true
      · subst c12
        have H1 : (some false) = some r := by rw [if_pos rfl] at H; exact H
        clear H
        have H := H1
        clear H1
        obtain rfl := Option.some.inj H
        go_wp2
        go_ret
        exact ⟨by first | rfl | (simp [errW_none, errW_some] <;> rfl) | (simp [*, errW_none, errW_some] <;> rfl), by repeat (first | (with_reducible first | exact HB.out | apply below_alloc | apply pw_below_drewN | apply below_drew1) | exact HB.out)⟩
      · replace c12 := Bool.eq_false_iff.mpr c12
        subst c12
        have H1 : (if t254 = 0 then (drovewaylaw07_WagerCole.j1 kj6 t254 t255 t256 t257 t258 t259 true) else (drovewaylaw07_WagerCole.j1 kj6 t254 t255 t256 t257 t258 t259 (t255 == 0))) = some r := by rw [if_neg (show ¬ (false = true) by decide)] at H; exact H
        clear H
        have H := H1
        clear H1
        have HC13 := Aside0.mk H
        clear H
        go_upto_region 6 with (fail)
        go_cut [46] (fun v46 wc => ∃ (kq : Nat) (x46_12 : Bool), v46 = .bool x46_12 ∧ Aside0 (drovewaylaw07_WagerCole.j1 kq t254 t255 t256 t257 t258 t259 x46_12 = some r) ∧ Aside0 (kq ≤ kj6) ∧ Aside0 (Kd.R (Kd.int .i64) 3 wc w.heap.size (fun _ => True) v261 t259) ∧ Aside0 (Below w.heap.size w wc))
        case first =>
          have H := HC13.out
          clear HC13
          by_cases c14 : t254 = 0
          · rw [if_pos c14] at H
            have c14b0 : (t254 == 0) = true := beq_iff_eq.mpr c14
            have c14b1 : (t254 != 0) = false := bne_eq_false_iff_eq.mpr c14
            clear c14
            (first | rw [c14b0] | (simp only [i64_w, i32_w]; rw [c14b0]) | skip)
            have H' := Aside0.mk H
            clear H
            go_wp2
            go_meet
            case rel => exact ⟨_, (true), (by first | rfl | (simp; done) | (simp [*]; done)), H', ⟨by have := HJ6.out; first | omega | exact Nat.le_refl _⟩, ⟨by (with_reducible repeat (first | apply Kd.R_alloc | apply Kd.R_drewN | apply Kd.R_drew)); exact HO_10.out⟩, ⟨by repeat (first | (with_reducible first | exact HB.out | apply below_alloc | apply pw_below_drewN | apply below_drew1) | exact HB.out)⟩⟩
          · rw [if_neg c14] at H
            have c14b0 : (t254 == 0) = false := beq_eq_false_iff_ne.mpr c14
            have c14b1 : (t254 != 0) = true := bne_iff_ne.mpr c14
            (first | rw [c14b0] | (simp only [i64_w, i32_w]; rw [c14b0]) | skip)
            have H' := Aside0.mk H
            clear H
            go_wp2
            go_meet
            case rel => exact ⟨_, ((t255 == 0)), (by first | rfl | (simp; done) | (simp [*]; done)), H', ⟨by have := HJ6.out; first | omega | exact Nat.le_refl _⟩, ⟨by (with_reducible repeat (first | apply Kd.R_alloc | apply Kd.R_drewN | apply Kd.R_drew)); exact HO_10.out⟩, ⟨by repeat (first | (with_reducible first | exact HB.out | apply below_alloc | apply pw_below_drewN | apply below_drew1) | exact HB.out)⟩⟩
        case rest =>
          clear HC13
          try clear c1
          try clear c2
          try clear p2
          try clear c7
          try clear c10
          try clear c10b0
          try clear c10b1
          try clear c11
          try clear c11b0
          try clear c11b1
          try clear c12
          try clear c14
          try clear c14b0
          try clear c14b1
          try clear p2
          obtain ⟨kq, x46_12, rfl, HA, HJ12, HO_10, HB⟩ := hcut
          cases kq with
          | zero => exact absurd HA.out (by simp [drovewaylaw07_WagerCole.j1])
          | succ kj12 =>
            have H := HA.out
            clear HA
            simp only [drovewaylaw07_WagerCole.j1] at H
            by_cases c15 : x46_12 = true
            · subst c15
              have H1 : (if t258 = 10 then (if t256 = 0 then (if t257 = 0 then (if (t259.length : Int) = 0 then ((drovewaylaw07_alive.f).bind fun t263 => (some t263)) else (some false)) else (some false)) else (some false)) else (some false)) = some r := by rw [if_pos rfl] at H; exact H
              clear H
              have H := H1
              clear H1
              by_cases c16 : t258 = 10
              · rw [if_pos c16] at H
                have c16b0 : (t258 == 10) = true := beq_iff_eq.mpr c16
                have c16b1 : (t258 != 10) = false := bne_eq_false_iff_eq.mpr c16
                clear c16
                by_cases c17 : t256 = 0
                · rw [if_pos c17] at H
                  have c17b0 : (t256 == 0) = true := beq_iff_eq.mpr c17
                  have c17b1 : (t256 != 0) = false := bne_eq_false_iff_eq.mpr c17
                  clear c17
                  by_cases c18 : t257 = 0
                  · rw [if_pos c18] at H
                    have c18b0 : (t257 == 0) = true := beq_iff_eq.mpr c18
                    have c18b1 : (t257 != 0) = false := bne_eq_false_iff_eq.mpr c18
                    clear c18
                    by_cases c19 : (t259.length : Int) = 0
                    · rw [if_pos c19] at H
                      have c19b0 : ((t259.length : Int) == 0) = true := beq_iff_eq.mpr c19
                      have c19b1 : ((t259.length : Int) != 0) = false := bne_eq_false_iff_eq.mpr c19
                      clear c19
                      replace H := Option.bind_eq_some_iff.mp H
                      obtain ⟨t263, A200, H⟩ := H
                      replace H : (some t263) = some r := H
                      have A20 := Aside0.mk A200
                      clear A200
                      obtain rfl := Option.some.inj H
                      obtain ⟨Ao21, co21, eo21⟩ := Kd.R_slice HO_10.out
                      subst eo21
                      go_wp2_with (first | (go_at_call 19; (with_reducible refine (drovewaylaw07_alive.calls  t263 _ A20.out).mono ?_); rintro e w22 ⟨rfl, hb⟩; have n0_ := Aside0.mk (Kd.R_below (by (with_reducible repeat (first | apply Kd.R_alloc | apply Kd.R_drewN | apply Kd.R_drew)); exact HO_10.out) hb); have n1_ := Aside0.mk (below_step (by repeat (first | (with_reducible first | exact HB.out | apply below_alloc | apply pw_below_drewN | apply below_drew1) | exact HB.out)) hb); clear HO_10; clear HB; have HO_10 := n0_; have HB := n1_; clear n0_ n1_; (try clear hb); (try clear hb2); (try clear hk); (try clear hi)))
                      go_ret
                      exact ⟨by first | rfl | (simp [errW_none, errW_some] <;> rfl) | (simp [*, errW_none, errW_some] <;> rfl), by repeat (first | (with_reducible first | exact HB.out | apply below_alloc | apply pw_below_drewN | apply below_drew1) | exact HB.out)⟩
                    · rw [if_neg c19] at H
                      have c19b0 : ((t259.length : Int) == 0) = false := beq_eq_false_iff_ne.mpr c19
                      have c19b1 : ((t259.length : Int) != 0) = true := bne_iff_ne.mpr c19
                      have c19b2 : ¬ (t259 = []) := fun h_ => c19 (by rw [h_]; rfl)
                      obtain rfl := Option.some.inj H
                      obtain ⟨Ao23, co23, eo23⟩ := Kd.R_slice HO_10.out
                      subst eo23
                      go_wp2
                      go_ret
                      exact ⟨by first | rfl | (simp [errW_none, errW_some] <;> rfl) | (simp [*, errW_none, errW_some] <;> rfl), by repeat (first | (with_reducible first | exact HB.out | apply below_alloc | apply pw_below_drewN | apply below_drew1) | exact HB.out)⟩
                  · rw [if_neg c18] at H
                    have c18b0 : (t257 == 0) = false := beq_eq_false_iff_ne.mpr c18
                    have c18b1 : (t257 != 0) = true := bne_iff_ne.mpr c18
                    obtain rfl := Option.some.inj H
                    go_wp2
                    go_ret
                    exact ⟨by first | rfl | (simp [errW_none, errW_some] <;> rfl) | (simp [*, errW_none, errW_some] <;> rfl), by repeat (first | (with_reducible first | exact HB.out | apply below_alloc | apply pw_below_drewN | apply below_drew1) | exact HB.out)⟩
                · rw [if_neg c17] at H
                  have c17b0 : (t256 == 0) = false := beq_eq_false_iff_ne.mpr c17
                  have c17b1 : (t256 != 0) = true := bne_iff_ne.mpr c17
                  obtain rfl := Option.some.inj H
                  go_wp2
                  go_ret
                  exact ⟨by first | rfl | (simp [errW_none, errW_some] <;> rfl) | (simp [*, errW_none, errW_some] <;> rfl), by repeat (first | (with_reducible first | exact HB.out | apply below_alloc | apply pw_below_drewN | apply below_drew1) | exact HB.out)⟩
              · rw [if_neg c16] at H
                have c16b0 : (t258 == 10) = false := beq_eq_false_iff_ne.mpr c16
                have c16b1 : (t258 != 10) = true := bne_iff_ne.mpr c16
                obtain rfl := Option.some.inj H
                go_wp2
                go_ret
                exact ⟨by first | rfl | (simp [errW_none, errW_some] <;> rfl) | (simp [*, errW_none, errW_some] <;> rfl), by repeat (first | (with_reducible first | exact HB.out | apply below_alloc | apply pw_below_drewN | apply below_drew1) | exact HB.out)⟩
            · replace c15 := Bool.eq_false_iff.mpr c15
              subst c15
              have H1 : (if t254 = t255 then (drovewaylaw07_WagerCole.j2 kj12 t258 t259 true) else ((drovewaylaw07_beyond.f (mx t254 t255) (mn t254 t255)).bind fun t264 => (drovewaylaw07_WagerCole.j2 kj12 t258 t259 t264))) = some r := by rw [if_neg (show ¬ (false = true) by decide)] at H; exact H
              clear H
              have H := H1
              clear H1
              have HC24 := Aside0.mk H
              clear H
              go_upto_region 8 with (fail)
              go_cut [12] (fun v12 wc => ∃ (kq : Nat) (x12_23 : Bool), v12 = .bool x12_23 ∧ Aside0 (drovewaylaw07_WagerCole.j2 kq t258 t259 x12_23 = some r) ∧ Aside0 (kq ≤ kj12) ∧ Aside0 (Kd.R (Kd.int .i64) 3 wc w.heap.size (fun _ => True) v261 t259) ∧ Aside0 (Below w.heap.size w wc))
              case first =>
                have H := HC24.out
                clear HC24
                by_cases c25 : t254 = t255
                · rw [if_pos c25] at H
                  have c25b0 : (t254 == t255) = true := beq_iff_eq.mpr c25
                  have c25b1 : (t254 != t255) = false := bne_eq_false_iff_eq.mpr c25
                  clear c25
                  (first | rw [c25b0] | (simp only [i64_w, i32_w]; rw [c25b0]) | skip)
                  have H' := Aside0.mk H
                  clear H
                  go_wp2
                  go_meet
                  case rel => exact ⟨_, (true), (by first | rfl | (simp; done) | (simp [*]; done)), H', ⟨by have := HJ6.out; have := HJ12.out; first | omega | exact Nat.le_refl _⟩, ⟨by (with_reducible repeat (first | apply Kd.R_alloc | apply Kd.R_drewN | apply Kd.R_drew)); exact HO_10.out⟩, ⟨by repeat (first | (with_reducible first | exact HB.out | apply below_alloc | apply pw_below_drewN | apply below_drew1) | exact HB.out)⟩⟩
                · rw [if_neg c25] at H
                  have c25b0 : (t254 == t255) = false := beq_eq_false_iff_ne.mpr c25
                  have c25b1 : (t254 != t255) = true := bne_iff_ne.mpr c25
                  (first | rw [c25b0] | (simp only [i64_w, i32_w]; rw [c25b0]) | skip)
                  obtain ⟨ji26, hji26⟩ : ∃ j_ : Int, (mx t254 t255) = j_ := ⟨_, rfl⟩
                  replace H : ((drovewaylaw07_beyond.f (ji26) (mn t254 t255)).bind fun t264 => (drovewaylaw07_WagerCole.j2 kj12 t258 t259 t264)) = some r := by first | (rw [hji26] at H; exact H) | (simp only [hji26] at H ⊢; exact H)
                  have hji26_ : (if t254 < t255 then t255 else t254) = ji26 := hji26
                  obtain ⟨ji27, hji27⟩ : ∃ j_ : Int, (mn t254 t255) = j_ := ⟨_, rfl⟩
                  replace H : ((drovewaylaw07_beyond.f (ji26) (ji27)).bind fun t264 => (drovewaylaw07_WagerCole.j2 kj12 t258 t259 t264)) = some r := by first | (rw [hji27] at H; exact H) | (simp only [hji27] at H ⊢; exact H)
                  have hji27_ : (if t255 < t254 then t255 else t254) = ji27 := hji27
                  replace H := Option.bind_eq_some_iff.mp H
                  obtain ⟨t264, A280, H⟩ := H
                  replace H : (drovewaylaw07_WagerCole.j2 kj12 t258 t259 t264) = some r := H
                  have A28 := Aside0.mk A280
                  clear A280
                  have H' := Aside0.mk H
                  clear H
                  go_wp2_with (first | (go_at_call 28; (with_reducible refine (drovewaylaw07_beyond.calls ji26 ji27 t264 _ A28.out).mono ?_); rintro e w' ⟨rfl, ⟨nd, rfl⟩⟩))
                  go_meet
                  case rel => exact ⟨_, (t264), (by first | rfl | (simp; done) | (simp [*]; done)), H', ⟨by have := HJ6.out; have := HJ12.out; first | omega | exact Nat.le_refl _⟩, ⟨by (with_reducible repeat (first | apply Kd.R_alloc | apply Kd.R_drewN | apply Kd.R_drew)); exact HO_10.out⟩, ⟨by repeat (first | (with_reducible first | exact HB.out | apply below_alloc | apply pw_below_drewN | apply below_drew1) | exact HB.out)⟩⟩
              case rest =>
                clear HC24
                try clear c1
                try clear c2
                try clear p2
                try clear c7
                try clear c10
                try clear c10b0
                try clear c10b1
                try clear c11
                try clear c11b0
                try clear c11b1
                try clear c12
                try clear c14
                try clear c14b0
                try clear c14b1
                try clear c15
                try clear c16
                try clear c16b0
                try clear c16b1
                try clear c17
                try clear c17b0
                try clear c17b1
                try clear c18
                try clear c18b0
                try clear c18b1
                try clear c19
                try clear c19b0
                try clear c19b1
                try clear c19b2
                try clear c24
                try clear c25
                try clear c25b0
                try clear c25b1
                try clear p2
                obtain ⟨kq, x12_23, rfl, HA, HJ23, HO_10, HB⟩ := hcut
                cases kq with
                | zero => exact absurd HA.out (by simp [drovewaylaw07_WagerCole.j2])
                | succ kj23 =>
                  have H := HA.out
                  clear HA
                  simp only [drovewaylaw07_WagerCole.j2] at H
                  have HC29 := Aside0.mk H
                  clear H
                  go_upto_region 9 with (fail)
                  go_cut [85] (fun v85 wc => ∃ (kq : Nat) (x85_28 : Bool), v85 = .bool x85_28 ∧ Aside0 (drovewaylaw07_WagerCole.j3 kq t259 x12_23 x85_28 = some r) ∧ Aside0 (kq ≤ kj23) ∧ Aside0 (Kd.R (Kd.int .i64) 3 wc w.heap.size (fun _ => True) v261 t259) ∧ Aside0 (Below w.heap.size w wc))
                  case first =>
                    have H := HC29.out
                    clear HC29
                    by_cases c30 : ((t258 == 0) != x12_23) = true
                    · rw [if_pos c30] at H
                      have c30b0 : ((t258 == 0) != x12_23) = true := c30
                      (try (have c30b1 : decide ((t258 == 0) = x12_23) = false := by simpa using c30))
                      (try (have c30b2 : ((t258 == 0) == x12_23) = false := by simpa using c30))
                      (try (have c30b3 : ¬ ((t258 == 0) = x12_23) := by simpa using c30))
                      clear c30
                      (first | rw [c30b0] | (simp only [i64_w, i32_w]; rw [c30b0]) | skip)
                      have H' := Aside0.mk H
                      clear H
                      go_wp2
                      go_meet
                      case rel => exact ⟨_, (true), (by first | rfl | (simp; done) | (simp [*]; done)), H', ⟨by have := HJ6.out; have := HJ12.out; have := HJ23.out; first | omega | exact Nat.le_refl _⟩, ⟨by (with_reducible repeat (first | apply Kd.R_alloc | apply Kd.R_drewN | apply Kd.R_drew)); exact HO_10.out⟩, ⟨by repeat (first | (with_reducible first | exact HB.out | apply below_alloc | apply pw_below_drewN | apply below_drew1) | exact HB.out)⟩⟩
                    · rw [if_neg c30] at H
                      have c30b0 : ((t258 == 0) != x12_23) = false := by simpa using c30
                      (try (have c30b1 : decide ((t258 == 0) = x12_23) = true := by simpa using c30))
                      (try (have c30b2 : ((t258 == 0) == x12_23) = true := by simpa using c30))
                      clear c30
                      (first | rw [c30b0] | (simp only [i64_w, i32_w]; rw [c30b0]) | skip)
                      have H' := Aside0.mk H
                      clear H
                      obtain ⟨Ao31, co31, eo31⟩ := Kd.R_slice HO_10.out
                      subst eo31
                      go_wp2
                      go_meet
                      case rel => exact ⟨_, (((t259.length : Int) == 0)), (by first | rfl | (simp; done) | (simp [*]; done)), H', ⟨by have := HJ6.out; have := HJ12.out; have := HJ23.out; first | omega | exact Nat.le_refl _⟩, ⟨by (with_reducible repeat (first | apply Kd.R_alloc | apply Kd.R_drewN | apply Kd.R_drew)); exact HO_10.out⟩, ⟨by repeat (first | (with_reducible first | exact HB.out | apply below_alloc | apply pw_below_drewN | apply below_drew1) | exact HB.out)⟩⟩
                  case rest =>
                    clear HC29
                    try clear c1
                    try clear c2
                    try clear p2
                    try clear c3
                    try clear c7
                    try clear c10
                    try clear c10b0
                    try clear c10b1
                    try clear c11
                    try clear c11b0
                    try clear c11b1
                    try clear c12
                    try clear c14
                    try clear c14b0
                    try clear c14b1
                    try clear c15
                    try clear c16
                    try clear c16b0
                    try clear c16b1
                    try clear c17
                    try clear c17b0
                    try clear c17b1
                    try clear c18
                    try clear c18b0
                    try clear c18b1
                    try clear c19
                    try clear c19b0
                    try clear c19b1
                    try clear c19b2
                    try clear c24
                    try clear c25
                    try clear c25b0
                    try clear c25b1
                    try clear c30
                    try clear c30b0
                    try clear c30b1
                    try clear c30b2
                    try clear p2
                    obtain ⟨kq, x85_28, rfl, HA, HJ28, HO_10, HB⟩ := hcut
                    cases kq with
                    | zero => exact absurd HA.out (by simp [drovewaylaw07_WagerCole.j3])
                    | succ kj28 =>
                      have H := HA.out
                      clear HA
                      simp only [drovewaylaw07_WagerCole.j3] at H
                      by_cases c32 : x85_28 = true
                      · subst c32
                        have H1 : (some false) = some r := by rw [if_pos rfl] at H; exact H
                        clear H
                        have H := H1
                        clear H1
                        obtain rfl := Option.some.inj H
                        go_wp2
                        go_ret
                        exact ⟨by first | rfl | (simp [errW_none, errW_some] <;> rfl) | (simp [*, errW_none, errW_some] <;> rfl), by repeat (first | (with_reducible first | exact HB.out | apply below_alloc | apply pw_below_drewN | apply below_drew1) | exact HB.out)⟩
                      · replace c32 := Bool.eq_false_iff.mpr c32
                        subst c32
                        have H1 : (drovewaylaw07_WagerCole.l0 kj28 t259 x12_23 0) = some r := by rw [if_neg (show ¬ (false = true) by decide)] at H; exact H
                        clear H
                        have H := H1
                        clear H1
                        have H' := Aside0.mk H
                        clear H
                        go_wp2
                        go_loopg [13] kj28 (fun kq v13 w' => ∃ (x13_5 : Int), v13 = .int .i64 x13_5 ∧ Aside0 (drovewaylaw07_WagerCole.l0 kq t259 x12_23 x13_5 = some r) ∧ Aside0 (kq ≤ kj28) ∧ Aside0 (Kd.R (Kd.int .i64) 3 w' w.heap.size (fun _ => True) v261 t259) ∧ Aside0 (Below w.heap.size w w'))
                        case atStart => exact ⟨(0), (by first | rfl | (simp; done) | (simp [*]; done)), H', ⟨Nat.le_refl _⟩, ⟨by (with_reducible repeat (first | apply Kd.R_alloc | apply Kd.R_drewN | apply Kd.R_drew)); exact HO_10.out⟩, ⟨by repeat (first | (with_reducible first | exact HB.out | apply below_alloc | apply pw_below_drewN | apply below_drew1) | exact HB.out)⟩⟩
                        case round =>
                          clear H'
                          try clear c1
                          try clear c2
                          try clear p2
                          try clear c3
                          try clear c7
                          try clear c10
                          try clear c10b0
                          try clear c10b1
                          try clear c11
                          try clear c11b0
                          try clear c11b1
                          try clear c12
                          try clear c14
                          try clear c14b0
                          try clear c14b1
                          try clear c15
                          try clear c16
                          try clear c16b0
                          try clear c16b1
                          try clear c17
                          try clear c17b0
                          try clear c17b1
                          try clear c18
                          try clear c18b0
                          try clear c18b1
                          try clear c19
                          try clear c19b0
                          try clear c19b1
                          try clear c19b2
                          try clear c24
                          try clear c25
                          try clear c25b0
                          try clear c25b1
                          try clear c30
                          try clear c30b0
                          try clear c30b1
                          try clear c30b2
                          try clear c32
                          try clear p2
                          obtain ⟨x13_5, rfl, HA, HK5, HO_10, HB⟩ := hrel
                          cases gk with
                          | zero => exact absurd HA.out (by simp [drovewaylaw07_WagerCole.l0])
                          | succ k5 =>
                            have H := HA.out
                            clear HA
                            simp only [drovewaylaw07_WagerCole.l0] at H
                            by_cases c33 : x13_5 < (wrap64 ((t259.length : Int) - 1))
                            · rw [if_pos c33] at H
                              have c33b0 : decide (x13_5 < (wrap64 ((t259.length : Int) - 1))) = true := decide_eq_true c33
                              clear c33
                              by_cases c34 : 0 ≤ x13_5
                              · rw [if_pos c34] at H
                                have c34b0 : decide (0 ≤ x13_5) = true := decide_eq_true c34
                                clear c34
                                by_cases c35 : x13_5 < (t259.length : Int)
                                · rw [if_pos c35] at H
                                  have c35b0 : decide (x13_5 < (t259.length : Int)) = true := decide_eq_true c35
                                  clear c35
                                  by_cases c36 : (rd t259 x13_5) = 1
                                  · rw [if_pos c36] at H
                                    have c36b0 : ((rd t259 x13_5) == 1) = true := beq_iff_eq.mpr c36
                                    have c36b1 : ((rd t259 x13_5) != 1) = false := bne_eq_false_iff_eq.mpr c36
                                    clear c36
                                    have H' := Aside0.mk H
                                    clear H
                                    obtain ⟨Ao37, co37, eo37⟩ := Kd.R_slice HO_10.out
                                    subst eo37
                                    have p265 : 0 ≤ (x13_5 : Int) := of_decide_eq_true (by first | (with_reducible assumption) | assumption)
                                    have q265 : x13_5 < (t259.length : Int) := of_decide_eq_true (by first | (with_reducible assumption) | assumption)
                                    obtain ⟨ad265, e265, hx265_0⟩ := Kd.at_int (Kd.R_reads' HO_10.out).2.2 x13_5 p265 q265
                                    cases e265
                                    replace p265 := eq_true p265
                                    replace q265 := eq_true q265
                                    go_wp2
                                    go_roundg k5
                                    case measure => have := HJ6.out; have := HJ12.out; have := HJ23.out; have := HJ28.out; have := HK5.out; omega
                                    case rel => exact ⟨(wrap64 (x13_5 + 1)), (by first | rfl | (simp; done) | (simp [*]; done)), H', ⟨by have := HJ6.out; have := HJ12.out; have := HJ23.out; have := HJ28.out; have := HK5.out; omega⟩, ⟨by (with_reducible repeat (first | apply Kd.R_alloc | apply Kd.R_drewN | apply Kd.R_drew)); exact HO_10.out⟩, ⟨by repeat (first | (with_reducible first | exact HB.out | apply below_alloc | apply pw_below_drewN | apply below_drew1) | exact HB.out)⟩⟩
                                  · rw [if_neg c36] at H
                                    have c36b0 : ((rd t259 x13_5) == 1) = false := beq_eq_false_iff_ne.mpr c36
                                    have c36b1 : ((rd t259 x13_5) != 1) = true := bne_iff_ne.mpr c36
                                    by_cases c38 : (((Int.tmod x13_5 2) == 0) == x12_23) = true
                                    · rw [if_pos c38] at H
                                      have c38b0 : (((Int.tmod x13_5 2) == 0) == x12_23) = true := c38
                                      (try (have c38b1 : decide (((Int.tmod x13_5 2) == 0) = x12_23) = true := by simpa using c38))
                                      (try (have c38b2 : (((Int.tmod x13_5 2) == 0) == x12_23) = true := by simpa using c38))
                                      clear c38
                                      replace H := Option.bind_eq_some_iff.mp H
                                      obtain ⟨t266, A390, H⟩ := H
                                      replace H : (some t266) = some r := H
                                      have A39 := Aside0.mk A390
                                      clear A390
                                      obtain rfl := Option.some.inj H
                                      obtain ⟨Ao40, co40, eo40⟩ := Kd.R_slice HO_10.out
                                      subst eo40
                                      have p265 : 0 ≤ (x13_5 : Int) := of_decide_eq_true (by first | (with_reducible assumption) | assumption)
                                      have q265 : x13_5 < (t259.length : Int) := of_decide_eq_true (by first | (with_reducible assumption) | assumption)
                                      obtain ⟨ad265, e265, hx265_0⟩ := Kd.at_int (Kd.R_reads' HO_10.out).2.2 x13_5 p265 q265
                                      cases e265
                                      replace p265 := eq_true p265
                                      replace q265 := eq_true q265
                                      go_wp2_with (first | (go_at_call 19; (with_reducible refine (drovewaylaw07_alive.calls  t266 _ A39.out).mono ?_); rintro e w41 ⟨rfl, hb⟩; have n0_ := Aside0.mk (Kd.R_below (by (with_reducible repeat (first | apply Kd.R_alloc | apply Kd.R_drewN | apply Kd.R_drew)); exact HO_10.out) hb); have n1_ := Aside0.mk (below_step (by repeat (first | (with_reducible first | exact HB.out | apply below_alloc | apply pw_below_drewN | apply below_drew1) | exact HB.out)) hb); clear HO_10; clear HB; have HO_10 := n0_; have HB := n1_; clear n0_ n1_; (try clear hb); (try clear hb2); (try clear hk); (try clear hi)))
                                      go_ret
                                      exact ⟨by first | rfl | (simp [errW_none, errW_some] <;> rfl) | (simp [*, errW_none, errW_some] <;> rfl), by repeat (first | (with_reducible first | exact HB.out | apply below_alloc | apply pw_below_drewN | apply below_drew1) | exact HB.out)⟩
                                    · rw [if_neg c38] at H
                                      have c38b0 : (((Int.tmod x13_5 2) == 0) == x12_23) = false := by simpa using c38
                                      (try (have c38b1 : decide (((Int.tmod x13_5 2) == 0) = x12_23) = false := by simpa using c38))
                                      (try (have c38b2 : (((Int.tmod x13_5 2) == 0) == x12_23) = false := by simpa using c38))
                                      (try (have c38b3 : ¬ (((Int.tmod x13_5 2) == 0) = x12_23) := by simpa using c38))
                                      clear c38
                                      obtain rfl := Option.some.inj H
                                      obtain ⟨Ao42, co42, eo42⟩ := Kd.R_slice HO_10.out
                                      subst eo42
                                      have p265 : 0 ≤ (x13_5 : Int) := of_decide_eq_true (by first | (with_reducible assumption) | assumption)
                                      have q265 : x13_5 < (t259.length : Int) := of_decide_eq_true (by first | (with_reducible assumption) | assumption)
                                      obtain ⟨ad265, e265, hx265_0⟩ := Kd.at_int (Kd.R_reads' HO_10.out).2.2 x13_5 p265 q265
                                      cases e265
                                      replace p265 := eq_true p265
                                      replace q265 := eq_true q265
                                      go_wp2
                                      go_ret
                                      exact ⟨by first | rfl | (simp [errW_none, errW_some] <;> rfl) | (simp [*, errW_none, errW_some] <;> rfl), by repeat (first | (with_reducible first | exact HB.out | apply below_alloc | apply pw_below_drewN | apply below_drew1) | exact HB.out)⟩
                                · rw [if_neg c35] at H
                                  exact absurd H (by simp)
                              · rw [if_neg c34] at H
                                exact absurd H (by simp)
                            · rw [if_neg c33] at H
                              have c33b0 : decide (x13_5 < (wrap64 ((t259.length : Int) - 1))) = false := decide_eq_false c33
                              clear c33
                              by_cases c43 : (((Int.tmod x13_5 2) == 0) == x12_23) = true
                              · rw [if_pos c43] at H
                                have c43b0 : (((Int.tmod x13_5 2) == 0) == x12_23) = true := c43
                                (try (have c43b1 : decide (((Int.tmod x13_5 2) == 0) = x12_23) = true := by simpa using c43))
                                (try (have c43b2 : (((Int.tmod x13_5 2) == 0) == x12_23) = true := by simpa using c43))
                                clear c43
                                replace H := Option.bind_eq_some_iff.mp H
                                obtain ⟨t267, A440, H⟩ := H
                                replace H : (some t267) = some r := H
                                have A44 := Aside0.mk A440
                                clear A440
                                obtain rfl := Option.some.inj H
                                obtain ⟨Ao45, co45, eo45⟩ := Kd.R_slice HO_10.out
                                subst eo45
                                go_wp2_with (first | (go_at_call 19; (with_reducible refine (drovewaylaw07_alive.calls  t267 _ A44.out).mono ?_); rintro e w46 ⟨rfl, hb⟩; have n0_ := Aside0.mk (Kd.R_below (by (with_reducible repeat (first | apply Kd.R_alloc | apply Kd.R_drewN | apply Kd.R_drew)); exact HO_10.out) hb); have n1_ := Aside0.mk (below_step (by repeat (first | (with_reducible first | exact HB.out | apply below_alloc | apply pw_below_drewN | apply below_drew1) | exact HB.out)) hb); clear HO_10; clear HB; have HO_10 := n0_; have HB := n1_; clear n0_ n1_; (try clear hb); (try clear hb2); (try clear hk); (try clear hi)))
                                go_ret
                                exact ⟨by first | rfl | (simp [errW_none, errW_some] <;> rfl) | (simp [*, errW_none, errW_some] <;> rfl), by repeat (first | (with_reducible first | exact HB.out | apply below_alloc | apply pw_below_drewN | apply below_drew1) | exact HB.out)⟩
                              · rw [if_neg c43] at H
                                have c43b0 : (((Int.tmod x13_5 2) == 0) == x12_23) = false := by simpa using c43
                                (try (have c43b1 : decide (((Int.tmod x13_5 2) == 0) = x12_23) = false := by simpa using c43))
                                (try (have c43b2 : (((Int.tmod x13_5 2) == 0) == x12_23) = false := by simpa using c43))
                                (try (have c43b3 : ¬ (((Int.tmod x13_5 2) == 0) = x12_23) := by simpa using c43))
                                clear c43
                                obtain rfl := Option.some.inj H
                                obtain ⟨Ao47, co47, eo47⟩ := Kd.R_slice HO_10.out
                                subst eo47
                                go_wp2
                                go_ret
                                exact ⟨by first | rfl | (simp [errW_none, errW_some] <;> rfl) | (simp [*, errW_none, errW_some] <;> rfl), by repeat (first | (with_reducible first | exact HB.out | apply below_alloc | apply pw_below_drewN | apply below_drew1) | exact HB.out)⟩

/-- THE ONE PURE STATEMENT of drovewaylaw07_WagerCole: yours. -/
def drovewaylaw07_WagerCole.Pure : Prop := ∀ (a0 : Int) (a1 : Int), (Lit.int .u64 a0).wf = true → (Lit.int .u64 a1).wf = true → ∃ k, drovewaylaw07_WagerCole.f k a0 a1 = some true
theorem drovewaylaw07_WagerCole.walk (P : drovewaylaw07_WagerCole.Pure) (a0 : Int) (a1 : Int) (w : World) (w0 : (Lit.int .u64 a0).wf = true) (w1 : (Lit.int .u64 a1).wf = true) :
    Calls Try.prog 7 #[.int .u64 a0, .int .u64 a1] w fun e w' => e = .returned (.bool true) ∧ Below w.heap.size w w' := by
  obtain ⟨k, h⟩ := P a0 a1 w0 w1
  refine (drovewaylaw07_WagerCole.calls k a0 a1 true w h).mono ?_
  rintro e w' ⟨rfl, hd⟩
  exact ⟨rfl, hd⟩

end Go.Proofs.Ytcngcilinlcmeaa.P
