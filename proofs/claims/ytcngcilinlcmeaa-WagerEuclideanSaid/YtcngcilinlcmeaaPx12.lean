/- Printed by group.py, a program of this session, over the place's print: functions of the program as Lean functions, and proofs that the machine's calls answer as they do. -/
import Derived.Test.YtcngcilinlcmeaaPx0
import Derived.Test.YtcngcilinlcmeaaPx3
import Derived.Test.YtcngcilinlcmeaaPx6
import Derived.Test.YtcngcilinlcmeaaPx8
namespace Go.Proofs.Ytcngcilinlcmeaa.P
open Go.RowKit Go.Proofs.YtcngcilinlcmeaaW.PrintWords Go.Proofs.YtcngcilinlcmeaaW.PrintLast Go.Proofs.YtcngcilinlcmeaaW.PrintMore
attribute [local go_sem] max2_int min2_int max_two min_two max_three min_three max_four min_four   -- for this text's walks alone
set_option linter.unusedVariables false
set_option linter.unusedSimpArgs false

/-! ### drovewaylaw07_WagerEuclidean: function 8 -/
mutual
def drovewaylaw07_WagerEuclidean.j0 : Nat → Int → Int → Int → Int → Int → Int → Bool → Option (Bool)
  | 0, _, _, _, _, _, _, _ => none
  | k + 1, x2, x7, x8, x9, x10, x11, x41 => if x41 = true then (if x11 = 10 then ((drovewaylaw07_alive.f).bind fun t273 => (some t273)) else (some false)) else (if (mn x7 x8) = 0 then (none) else (if (IntKind.u64.wrap (wrap64 (Int.tdiv (mx x7 x8) (mn x7 x8)))) = 0 then (none) else ((wager_Euclid.f k (wrap64 ((mx x7 x8) - (wrap64 ((wrap64 (1 + (wrap64 (Int.tmod x2 (IntKind.u64.wrap (wrap64 (Int.tdiv (mx x7 x8) (mn x7 x8)))))))) * (mn x7 x8))))) (mn x7 x8)).bind fun bt274 => (if (wrap64 ((mx x7 x8) - (wrap64 ((wrap64 (1 + (wrap64 (Int.tmod x2 (IntKind.u64.wrap (wrap64 (Int.tdiv (mx x7 x8) (mn x7 x8)))))))) * (mn x7 x8))))) = 0 then (drovewaylaw07_WagerEuclidean.j1 k x7 x8 x9 x10 x11 (mx x7 x8) (mn x7 x8) (wrap64 (1 + (wrap64 (Int.tmod x2 (IntKind.u64.wrap (wrap64 (Int.tdiv (mx x7 x8) (mn x7 x8)))))))) bt274.2.2 true) else (drovewaylaw07_WagerEuclidean.j1 k x7 x8 x9 x10 x11 (mx x7 x8) (mn x7 x8) (wrap64 (1 + (wrap64 (Int.tmod x2 (IntKind.u64.wrap (wrap64 (Int.tdiv (mx x7 x8) (mn x7 x8)))))))) bt274.2.2 (bt274.2.2 == 10))))))
def drovewaylaw07_WagerEuclidean.j1 : Nat → Int → Int → Int → Int → Int → Int → Int → Int → Int → Bool → Option (Bool)
  | 0, _, _, _, _, _, _, _, _, _, _ => none
  | k + 1, x7, x8, x9, x10, x11, x12, x13, x14, x19, x20 => if x19 = 0 then (drovewaylaw07_WagerEuclidean.j2 k x7 x8 x9 x10 x11 x12 x13 x14 x20 false) else (drovewaylaw07_WagerEuclidean.j2 k x7 x8 x9 x10 x11 x12 x13 x14 x20 (x19 != 10))
def drovewaylaw07_WagerEuclidean.j2 : Nat → Int → Int → Int → Int → Int → Int → Int → Int → Bool → Bool → Option (Bool)
  | 0, _, _, _, _, _, _, _, _, _, _ => none
  | k + 1, x7, x8, x9, x10, x11, x12, x13, x14, x20, x85 => if x85 = true then (some false) else (if x11 = 0 then (if x7 = x8 then (if x9 = x7 then (if x10 = 0 then ((drovewaylaw07_alive.f).bind fun t278 => (some t278)) else (some false)) else (some false)) else (if x9 < 0 then (drovewaylaw07_WagerEuclidean.j3 k x9 x10 x13 x14 x20 (wrap64 ((wrap64 ((wrap64 (x7 - x9)) + x8)) - x10)) true) else (if x10 < 0 then (drovewaylaw07_WagerEuclidean.j3 k x9 x10 x13 x14 x20 (wrap64 ((wrap64 ((wrap64 (x7 - x9)) + x8)) - x10)) true) else (if x7 > x8 then (if x10 = x8 then (if x7 < x8 then (if x9 = x7 then (if (wrap64 ((wrap64 ((wrap64 (x7 - x9)) + x8)) - x10)) < x13 then (drovewaylaw07_WagerEuclidean.j3 k x9 x10 x13 x14 x20 (wrap64 ((wrap64 ((wrap64 (x7 - x9)) + x8)) - x10)) true) else (if x13 = 0 then (none) else (if (Int.tmod (wrap64 ((wrap64 ((wrap64 (x7 - x9)) + x8)) - x10)) x13) = 0 then (drovewaylaw07_WagerEuclidean.j3 k x9 x10 x13 x14 x20 (wrap64 ((wrap64 ((wrap64 (x7 - x9)) + x8)) - x10)) (decide ((wrap64 ((wrap64 ((wrap64 (x7 - x9)) + x8)) - x10)) > x12))) else (drovewaylaw07_WagerEuclidean.j3 k x9 x10 x13 x14 x20 (wrap64 ((wrap64 ((wrap64 (x7 - x9)) + x8)) - x10)) true)))) else (drovewaylaw07_WagerEuclidean.j3 k x9 x10 x13 x14 x20 (wrap64 ((wrap64 ((wrap64 (x7 - x9)) + x8)) - x10)) true)) else (if (wrap64 ((wrap64 ((wrap64 (x7 - x9)) + x8)) - x10)) < x13 then (drovewaylaw07_WagerEuclidean.j3 k x9 x10 x13 x14 x20 (wrap64 ((wrap64 ((wrap64 (x7 - x9)) + x8)) - x10)) true) else (if x13 = 0 then (none) else (if (Int.tmod (wrap64 ((wrap64 ((wrap64 (x7 - x9)) + x8)) - x10)) x13) = 0 then (drovewaylaw07_WagerEuclidean.j3 k x9 x10 x13 x14 x20 (wrap64 ((wrap64 ((wrap64 (x7 - x9)) + x8)) - x10)) (decide ((wrap64 ((wrap64 ((wrap64 (x7 - x9)) + x8)) - x10)) > x12))) else (drovewaylaw07_WagerEuclidean.j3 k x9 x10 x13 x14 x20 (wrap64 ((wrap64 ((wrap64 (x7 - x9)) + x8)) - x10)) true))))) else (drovewaylaw07_WagerEuclidean.j3 k x9 x10 x13 x14 x20 (wrap64 ((wrap64 ((wrap64 (x7 - x9)) + x8)) - x10)) true)) else (if x7 < x8 then (if x9 = x7 then (if (wrap64 ((wrap64 ((wrap64 (x7 - x9)) + x8)) - x10)) < x13 then (drovewaylaw07_WagerEuclidean.j3 k x9 x10 x13 x14 x20 (wrap64 ((wrap64 ((wrap64 (x7 - x9)) + x8)) - x10)) true) else (if x13 = 0 then (none) else (if (Int.tmod (wrap64 ((wrap64 ((wrap64 (x7 - x9)) + x8)) - x10)) x13) = 0 then (drovewaylaw07_WagerEuclidean.j3 k x9 x10 x13 x14 x20 (wrap64 ((wrap64 ((wrap64 (x7 - x9)) + x8)) - x10)) (decide ((wrap64 ((wrap64 ((wrap64 (x7 - x9)) + x8)) - x10)) > x12))) else (drovewaylaw07_WagerEuclidean.j3 k x9 x10 x13 x14 x20 (wrap64 ((wrap64 ((wrap64 (x7 - x9)) + x8)) - x10)) true)))) else (drovewaylaw07_WagerEuclidean.j3 k x9 x10 x13 x14 x20 (wrap64 ((wrap64 ((wrap64 (x7 - x9)) + x8)) - x10)) true)) else (if (wrap64 ((wrap64 ((wrap64 (x7 - x9)) + x8)) - x10)) < x13 then (drovewaylaw07_WagerEuclidean.j3 k x9 x10 x13 x14 x20 (wrap64 ((wrap64 ((wrap64 (x7 - x9)) + x8)) - x10)) true) else (if x13 = 0 then (none) else (if (Int.tmod (wrap64 ((wrap64 ((wrap64 (x7 - x9)) + x8)) - x10)) x13) = 0 then (drovewaylaw07_WagerEuclidean.j3 k x9 x10 x13 x14 x20 (wrap64 ((wrap64 ((wrap64 (x7 - x9)) + x8)) - x10)) (decide ((wrap64 ((wrap64 ((wrap64 (x7 - x9)) + x8)) - x10)) > x12))) else (drovewaylaw07_WagerEuclidean.j3 k x9 x10 x13 x14 x20 (wrap64 ((wrap64 ((wrap64 (x7 - x9)) + x8)) - x10)) true))))))))) else (if x11 = 10 then (if x9 = 0 then (if x10 = 0 then (if x20 = true then (some false) else ((drovewaylaw07_alive.f).bind fun t277 => (some t277))) else (some false)) else (some false)) else (some false)))
def drovewaylaw07_WagerEuclidean.j3 : Nat → Int → Int → Int → Int → Bool → Int → Bool → Option (Bool)
  | 0, _, _, _, _, _, _, _ => none
  | k + 1, x9, x10, x13, x14, x20, x21, x166 => if x166 = true then (some false) else ((wager_Euclid.f k x9 x10).bind fun bt279 => (if bt279.2.2 = 10 then (if x20 = true then (if (wrap64 (x14 * x13)) ≥ x21 then ((drovewaylaw07_alive.f).bind fun t282 => (some t282)) else (some false)) else ((drovewaylaw07_alive.f).bind fun t283 => (some t283))) else (some false)))
end
def drovewaylaw07_WagerEuclidean.f (k : Nat) (a0 : Int) (a1 : Int) (a2 : Int) : Option (Bool) := (drovewaylaw07_heap.f a0).bind fun t268 => ((drovewaylaw07_heap.f a1).bind fun t269 => ((wager_Euclid.f k t268 t269).bind fun bt270 => (if t268 = 0 then (drovewaylaw07_WagerEuclidean.j0 k a2 t268 t269 bt270.1 bt270.2.1 bt270.2.2 true) else (drovewaylaw07_WagerEuclidean.j0 k a2 t268 t269 bt270.1 bt270.2.1 bt270.2.2 (t269 == 0)))))
theorem drovewaylaw07_WagerEuclidean.mono_l : ∀ k, (∀ y0 y1 y2 y3 y4 y5 y6, LeO (drovewaylaw07_WagerEuclidean.j0 k y0 y1 y2 y3 y4 y5 y6) (drovewaylaw07_WagerEuclidean.j0 (k + 1) y0 y1 y2 y3 y4 y5 y6)) ∧ (∀ y0 y1 y2 y3 y4 y5 y6 y7 y8 y9, LeO (drovewaylaw07_WagerEuclidean.j1 k y0 y1 y2 y3 y4 y5 y6 y7 y8 y9) (drovewaylaw07_WagerEuclidean.j1 (k + 1) y0 y1 y2 y3 y4 y5 y6 y7 y8 y9)) ∧ (∀ y0 y1 y2 y3 y4 y5 y6 y7 y8 y9, LeO (drovewaylaw07_WagerEuclidean.j2 k y0 y1 y2 y3 y4 y5 y6 y7 y8 y9) (drovewaylaw07_WagerEuclidean.j2 (k + 1) y0 y1 y2 y3 y4 y5 y6 y7 y8 y9)) ∧ (∀ y0 y1 y2 y3 y4 y5 y6, LeO (drovewaylaw07_WagerEuclidean.j3 k y0 y1 y2 y3 y4 y5 y6) (drovewaylaw07_WagerEuclidean.j3 (k + 1) y0 y1 y2 y3 y4 y5 y6))
  | 0 => ⟨fun _ _ _ _ _ _ _ r h => by simp [drovewaylaw07_WagerEuclidean.j0] at h, fun _ _ _ _ _ _ _ _ _ _ r h => by simp [drovewaylaw07_WagerEuclidean.j1] at h, fun _ _ _ _ _ _ _ _ _ _ r h => by simp [drovewaylaw07_WagerEuclidean.j2] at h, fun _ _ _ _ _ _ _ r h => by simp [drovewaylaw07_WagerEuclidean.j3] at h⟩
  | k + 1 => by
    obtain ⟨ih0, ih1, ih2, ih3⟩ := drovewaylaw07_WagerEuclidean.mono_l k
    refine ⟨?_, ?_, ?_, ?_⟩
    · intro y0 y1 y2 y3 y4 y5 y6
      unfold drovewaylaw07_WagerEuclidean.j0
      repeat' first
      | (with_reducible exact ih0 _ _ _ _ _ _ _)
      | (with_reducible exact ih1 _ _ _ _ _ _ _ _ _ _)
      | (with_reducible exact ih2 _ _ _ _ _ _ _ _ _ _)
      | (with_reducible exact ih3 _ _ _ _ _ _ _)
      | (with_reducible exact wager_Euclid.mono _ _ _)
      | (with_reducible exact LeO.refl _)
      | (with_reducible exact LeO.none _)
      | (with_reducible refine LeO.ite ?_ ?_)
      | (with_reducible refine LeO.bind ?_ (fun _ => ?_))
      | exact ih0 _ _ _ _ _ _ _
      | exact ih1 _ _ _ _ _ _ _ _ _ _
      | exact ih2 _ _ _ _ _ _ _ _ _ _
      | exact ih3 _ _ _ _ _ _ _
      | exact wager_Euclid.mono _ _ _
      | exact LeO.none _
      | refine LeO.ite ?_ ?_
      | refine LeO.bind ?_ (fun _ => ?_)
    · intro y0 y1 y2 y3 y4 y5 y6 y7 y8 y9
      unfold drovewaylaw07_WagerEuclidean.j1
      repeat' first
      | (with_reducible exact ih0 _ _ _ _ _ _ _)
      | (with_reducible exact ih1 _ _ _ _ _ _ _ _ _ _)
      | (with_reducible exact ih2 _ _ _ _ _ _ _ _ _ _)
      | (with_reducible exact ih3 _ _ _ _ _ _ _)
      | (with_reducible exact wager_Euclid.mono _ _ _)
      | (with_reducible exact LeO.refl _)
      | (with_reducible exact LeO.none _)
      | (with_reducible refine LeO.ite ?_ ?_)
      | (with_reducible refine LeO.bind ?_ (fun _ => ?_))
      | exact ih0 _ _ _ _ _ _ _
      | exact ih1 _ _ _ _ _ _ _ _ _ _
      | exact ih2 _ _ _ _ _ _ _ _ _ _
      | exact ih3 _ _ _ _ _ _ _
      | exact wager_Euclid.mono _ _ _
      | exact LeO.none _
      | refine LeO.ite ?_ ?_
      | refine LeO.bind ?_ (fun _ => ?_)
    · intro y0 y1 y2 y3 y4 y5 y6 y7 y8 y9
      unfold drovewaylaw07_WagerEuclidean.j2
      repeat' first
      | (with_reducible exact ih0 _ _ _ _ _ _ _)
      | (with_reducible exact ih1 _ _ _ _ _ _ _ _ _ _)
      | (with_reducible exact ih2 _ _ _ _ _ _ _ _ _ _)
      | (with_reducible exact ih3 _ _ _ _ _ _ _)
      | (with_reducible exact wager_Euclid.mono _ _ _)
      | (with_reducible exact LeO.refl _)
      | (with_reducible exact LeO.none _)
      | (with_reducible refine LeO.ite ?_ ?_)
      | (with_reducible refine LeO.bind ?_ (fun _ => ?_))
      | exact ih0 _ _ _ _ _ _ _
      | exact ih1 _ _ _ _ _ _ _ _ _ _
      | exact ih2 _ _ _ _ _ _ _ _ _ _
      | exact ih3 _ _ _ _ _ _ _
      | exact wager_Euclid.mono _ _ _
      | exact LeO.none _
      | refine LeO.ite ?_ ?_
      | refine LeO.bind ?_ (fun _ => ?_)
    · intro y0 y1 y2 y3 y4 y5 y6
      unfold drovewaylaw07_WagerEuclidean.j3
      repeat' first
      | (with_reducible exact ih0 _ _ _ _ _ _ _)
      | (with_reducible exact ih1 _ _ _ _ _ _ _ _ _ _)
      | (with_reducible exact ih2 _ _ _ _ _ _ _ _ _ _)
      | (with_reducible exact ih3 _ _ _ _ _ _ _)
      | (with_reducible exact wager_Euclid.mono _ _ _)
      | (with_reducible exact LeO.refl _)
      | (with_reducible exact LeO.none _)
      | (with_reducible refine LeO.ite ?_ ?_)
      | (with_reducible refine LeO.bind ?_ (fun _ => ?_))
      | exact ih0 _ _ _ _ _ _ _
      | exact ih1 _ _ _ _ _ _ _ _ _ _
      | exact ih2 _ _ _ _ _ _ _ _ _ _
      | exact ih3 _ _ _ _ _ _ _
      | exact wager_Euclid.mono _ _ _
      | exact LeO.none _
      | refine LeO.ite ?_ ?_
      | refine LeO.bind ?_ (fun _ => ?_)
theorem drovewaylaw07_WagerEuclidean.mono : ∀ a0 a1 a2 k, LeO (drovewaylaw07_WagerEuclidean.f k a0 a1 a2) (drovewaylaw07_WagerEuclidean.f (k + 1) a0 a1 a2) := by
  intro a0 a1 a2 k
  obtain ⟨ih0, ih1, ih2, ih3⟩ := drovewaylaw07_WagerEuclidean.mono_l k
  unfold drovewaylaw07_WagerEuclidean.f
  repeat' first
      | (with_reducible exact ih0 _ _ _ _ _ _ _)
      | (with_reducible exact ih1 _ _ _ _ _ _ _ _ _ _)
      | (with_reducible exact ih2 _ _ _ _ _ _ _ _ _ _)
      | (with_reducible exact ih3 _ _ _ _ _ _ _)
      | (with_reducible exact wager_Euclid.mono _ _ _)
      | (with_reducible exact LeO.refl _)
      | (with_reducible exact LeO.none _)
      | (with_reducible refine LeO.ite ?_ ?_)
      | (with_reducible refine LeO.bind ?_ (fun _ => ?_))
      | exact ih0 _ _ _ _ _ _ _
      | exact ih1 _ _ _ _ _ _ _ _ _ _
      | exact ih2 _ _ _ _ _ _ _ _ _ _
      | exact ih3 _ _ _ _ _ _ _
      | exact wager_Euclid.mono _ _ _
      | exact LeO.none _
      | refine LeO.ite ?_ ?_
      | refine LeO.bind ?_ (fun _ => ?_)
set_option maxHeartbeats 8000000 in
set_option maxRecDepth 100000 in
theorem drovewaylaw07_WagerEuclidean.calls (k : Nat) (a0 : Int) (a1 : Int) (a2 : Int) (r : Bool) (w : World) (h : drovewaylaw07_WagerEuclidean.f k a0 a1 a2 = some r) :
    Calls Try.prog 8 #[.int .u64 a0, .int .u64 a1, .int .u64 a2] w fun e w' => e = .returned (.bool r) ∧ Below w.heap.size w w' := by
  have HB := Aside0.mk (Below.refl w.heap.size w)
  have H : ((drovewaylaw07_heap.f a0).bind fun t268 => ((drovewaylaw07_heap.f a1).bind fun t269 => ((wager_Euclid.f k t268 t269).bind fun bt270 => (if t268 = 0 then (drovewaylaw07_WagerEuclidean.j0 k a2 t268 t269 bt270.1 bt270.2.1 bt270.2.2 true) else (drovewaylaw07_WagerEuclidean.j0 k a2 t268 t269 bt270.1 bt270.2.1 bt270.2.2 (t269 == 0)))))) = some r := h
  clear h
  replace H := Option.bind_eq_some_iff.mp H
  obtain ⟨t268, A40, H⟩ := H
  replace H : ((drovewaylaw07_heap.f a1).bind fun t269 => ((wager_Euclid.f k t268 t269).bind fun bt270 => (if t268 = 0 then (drovewaylaw07_WagerEuclidean.j0 k a2 t268 t269 bt270.1 bt270.2.1 bt270.2.2 true) else (drovewaylaw07_WagerEuclidean.j0 k a2 t268 t269 bt270.1 bt270.2.1 bt270.2.2 (t269 == 0))))) = some r := H
  have A4 := Aside0.mk A40
  clear A40
  replace H := Option.bind_eq_some_iff.mp H
  obtain ⟨t269, A50, H⟩ := H
  replace H : ((wager_Euclid.f k t268 t269).bind fun bt270 => (if t268 = 0 then (drovewaylaw07_WagerEuclidean.j0 k a2 t268 t269 bt270.1 bt270.2.1 bt270.2.2 true) else (drovewaylaw07_WagerEuclidean.j0 k a2 t268 t269 bt270.1 bt270.2.1 bt270.2.2 (t269 == 0)))) = some r := H
  have A5 := Aside0.mk A50
  clear A50
  replace H := Option.bind_eq_some_iff.mp H
  obtain ⟨⟨t270, t271, t272⟩, A60, H⟩ := H
  replace H : (if t268 = 0 then (drovewaylaw07_WagerEuclidean.j0 k a2 t268 t269 t270 t271 t272 true) else (drovewaylaw07_WagerEuclidean.j0 k a2 t268 t269 t270 t271 t272 (t269 == 0))) = some r := H
  have A6 := Aside0.mk A60
  clear A60
  have HC7 := Aside0.mk H
  clear H
  go_enter Try.func8, Try.ntmps8
  go_upto_region 3 with (first | ((with_reducible refine gate_callee (f := 24) rfl ?_); refine goesL_ (some 26) rfl rfl Try.func24 (by kernel_rfl) rfl #[.int .u64 a0] rfl (by (try simp only [List.map_toArray, List.map_cons, List.map_nil]); first | done | rfl | (simp only [List.length_drop, List.length_take]; rfl)) ?_; (with_reducible refine (drovewaylaw07_heap.calls a0 t268 _ A4.out).mono ?_); rintro e w' ⟨rfl, ⟨nd, rfl⟩⟩; refine ⟨_, rfl, ?_⟩) | ((with_reducible refine gate_callee (f := 24) rfl ?_); refine goesL_ (some 28) rfl rfl Try.func24 (by kernel_rfl) rfl #[.int .u64 a1] rfl (by (try simp only [List.map_toArray, List.map_cons, List.map_nil]); first | done | rfl | (simp only [List.length_drop, List.length_take]; rfl)) ?_; (with_reducible refine (drovewaylaw07_heap.calls a1 t269 _ A5.out).mono ?_); rintro e w' ⟨rfl, ⟨nd, rfl⟩⟩; refine ⟨_, rfl, ?_⟩) | ((with_reducible refine gate_callee (f := 14) rfl ?_); refine goesL_ (some 32) rfl rfl Try.func14 (by kernel_rfl) rfl #[.int .i64 t268, .int .i64 t269] rfl (by (try simp only [List.map_toArray, List.map_cons, List.map_nil]); first | done | rfl | (simp only [List.length_drop, List.length_take]; rfl)) ?_; (with_reducible refine (wager_Euclid.calls k t268 t269 t270 t271 t272 _ A6.out).mono ?_); rintro e w8 ⟨rfl, hb⟩; refine ⟨_, rfl, ?_⟩; have n0_ := Aside0.mk (below_step (by repeat (first | (with_reducible first | exact HB.out | apply below_alloc | apply pw_below_drewN | apply below_drew1) | exact HB.out)) hb); clear HB; have HB := n0_; clear n0_; (try clear hb); (try clear hb2); (try clear hk); (try clear hi)))
  (try simp only [Act.put, List.setIfInBounds_toArray, List.set_cons_zero, List.set_cons_succ])
  go_cut [41] (fun v41 wc => ∃ (kq : Nat) (x41_6 : Bool), v41 = .bool x41_6 ∧ Aside0 (drovewaylaw07_WagerEuclidean.j0 kq a2 t268 t269 t270 t271 t272 x41_6 = some r) ∧ Aside0 (kq ≤ k) ∧ Aside0 (Below w.heap.size w wc))
  case first =>
    have H := HC7.out
    clear HC7
    by_cases c9 : t268 = 0
    · rw [if_pos c9] at H
      have c9b0 : (t268 == 0) = true := beq_iff_eq.mpr c9
      have c9b1 : (t268 != 0) = false := bne_eq_false_iff_eq.mpr c9
      clear c9
      (first | rw [c9b0] | (simp only [i64_w, i32_w]; rw [c9b0]) | skip)
      have H' := Aside0.mk H
      clear H
      go_wp2
      go_meet
      case rel => exact ⟨_, (true), (by first | rfl | (simp; done) | (simp [*]; done)), H', ⟨by first | omega | exact Nat.le_refl _⟩, ⟨by repeat (first | (with_reducible first | exact HB.out | apply below_alloc | apply pw_below_drewN | apply below_drew1) | exact HB.out)⟩⟩
    · rw [if_neg c9] at H
      have c9b0 : (t268 == 0) = false := beq_eq_false_iff_ne.mpr c9
      have c9b1 : (t268 != 0) = true := bne_iff_ne.mpr c9
      (first | rw [c9b0] | (simp only [i64_w, i32_w]; rw [c9b0]) | skip)
      have H' := Aside0.mk H
      clear H
      go_wp2
      go_meet
      case rel => exact ⟨_, ((t269 == 0)), (by first | rfl | (simp; done) | (simp [*]; done)), H', ⟨by first | omega | exact Nat.le_refl _⟩, ⟨by repeat (first | (with_reducible first | exact HB.out | apply below_alloc | apply pw_below_drewN | apply below_drew1) | exact HB.out)⟩⟩
  case rest => as_aux_lemma =>
    clear HC7
    try clear c1
    try clear c2
    try clear p2
    try clear c8
    try clear c9
    try clear c9b0
    try clear c9b1
    obtain ⟨kq, x41_6, rfl, HA, HJ6, HB⟩ := hcut
    cases kq with
    | zero => exact absurd HA.out (by simp [drovewaylaw07_WagerEuclidean.j0])
    | succ kj6 =>
      have H := HA.out
      clear HA
      simp only [drovewaylaw07_WagerEuclidean.j0] at H
      by_cases c10 : x41_6 = true
      · subst c10
        have H1 : (if t272 = 10 then ((drovewaylaw07_alive.f).bind fun t273 => (some t273)) else (some false)) = some r := by rw [if_pos rfl] at H; exact H
        clear H
        have H := H1
        clear H1
        by_cases c11 : t272 = 10
        · rw [if_pos c11] at H
          have c11b0 : (t272 == 10) = true := beq_iff_eq.mpr c11
          have c11b1 : (t272 != 10) = false := bne_eq_false_iff_eq.mpr c11
          clear c11
          replace H := Option.bind_eq_some_iff.mp H
          obtain ⟨t273, A120, H⟩ := H
          replace H : (some t273) = some r := H
          have A12 := Aside0.mk A120
          clear A120
          obtain rfl := Option.some.inj H
          go_wp2_with (first | (go_at_call 19; (with_reducible refine (drovewaylaw07_alive.calls  t273 _ A12.out).mono ?_); rintro e w13 ⟨rfl, hb⟩; have n0_ := Aside0.mk (below_step (by repeat (first | (with_reducible first | exact HB.out | apply below_alloc | apply pw_below_drewN | apply below_drew1) | exact HB.out)) hb); clear HB; have HB := n0_; clear n0_; (try clear hb); (try clear hb2); (try clear hk); (try clear hi)))
          go_ret
          exact ⟨by first | rfl | (simp [errW_none, errW_some] <;> rfl) | (simp [*, errW_none, errW_some] <;> rfl), by repeat (first | (with_reducible first | exact HB.out | apply below_alloc | apply pw_below_drewN | apply below_drew1) | exact HB.out)⟩
        · rw [if_neg c11] at H
          have c11b0 : (t272 == 10) = false := beq_eq_false_iff_ne.mpr c11
          have c11b1 : (t272 != 10) = true := bne_iff_ne.mpr c11
          obtain rfl := Option.some.inj H
          go_wp2
          go_ret
          exact ⟨by first | rfl | (simp [errW_none, errW_some] <;> rfl) | (simp [*, errW_none, errW_some] <;> rfl), by repeat (first | (with_reducible first | exact HB.out | apply below_alloc | apply pw_below_drewN | apply below_drew1) | exact HB.out)⟩
      · replace c10 := Bool.eq_false_iff.mpr c10
        subst c10
        have H1 : (if (mn t268 t269) = 0 then (none) else (if (IntKind.u64.wrap (wrap64 (Int.tdiv (mx t268 t269) (mn t268 t269)))) = 0 then (none) else ((wager_Euclid.f kj6 (wrap64 ((mx t268 t269) - (wrap64 ((wrap64 (1 + (wrap64 (Int.tmod a2 (IntKind.u64.wrap (wrap64 (Int.tdiv (mx t268 t269) (mn t268 t269)))))))) * (mn t268 t269))))) (mn t268 t269)).bind fun bt274 => (if (wrap64 ((mx t268 t269) - (wrap64 ((wrap64 (1 + (wrap64 (Int.tmod a2 (IntKind.u64.wrap (wrap64 (Int.tdiv (mx t268 t269) (mn t268 t269)))))))) * (mn t268 t269))))) = 0 then (drovewaylaw07_WagerEuclidean.j1 kj6 t268 t269 t270 t271 t272 (mx t268 t269) (mn t268 t269) (wrap64 (1 + (wrap64 (Int.tmod a2 (IntKind.u64.wrap (wrap64 (Int.tdiv (mx t268 t269) (mn t268 t269)))))))) bt274.2.2 true) else (drovewaylaw07_WagerEuclidean.j1 kj6 t268 t269 t270 t271 t272 (mx t268 t269) (mn t268 t269) (wrap64 (1 + (wrap64 (Int.tmod a2 (IntKind.u64.wrap (wrap64 (Int.tdiv (mx t268 t269) (mn t268 t269)))))))) bt274.2.2 (bt274.2.2 == 10)))))) = some r := by rw [if_neg (show ¬ (false = true) by decide)] at H; exact H
        clear H
        have H := H1
        clear H1
        obtain ⟨ji14, hji14⟩ : ∃ j_ : Int, (mx t268 t269) = j_ := ⟨_, rfl⟩
        replace H : (if (mn t268 t269) = 0 then (none) else (if (IntKind.u64.wrap (wrap64 (Int.tdiv (ji14) (mn t268 t269)))) = 0 then (none) else ((wager_Euclid.f kj6 (wrap64 ((ji14) - (wrap64 ((wrap64 (1 + (wrap64 (Int.tmod a2 (IntKind.u64.wrap (wrap64 (Int.tdiv (ji14) (mn t268 t269)))))))) * (mn t268 t269))))) (mn t268 t269)).bind fun bt274 => (if (wrap64 ((ji14) - (wrap64 ((wrap64 (1 + (wrap64 (Int.tmod a2 (IntKind.u64.wrap (wrap64 (Int.tdiv (ji14) (mn t268 t269)))))))) * (mn t268 t269))))) = 0 then (drovewaylaw07_WagerEuclidean.j1 kj6 t268 t269 t270 t271 t272 ji14 (mn t268 t269) (wrap64 (1 + (wrap64 (Int.tmod a2 (IntKind.u64.wrap (wrap64 (Int.tdiv (ji14) (mn t268 t269)))))))) bt274.2.2 true) else (drovewaylaw07_WagerEuclidean.j1 kj6 t268 t269 t270 t271 t272 ji14 (mn t268 t269) (wrap64 (1 + (wrap64 (Int.tmod a2 (IntKind.u64.wrap (wrap64 (Int.tdiv (ji14) (mn t268 t269)))))))) bt274.2.2 (bt274.2.2 == 10)))))) = some r := by first | (rw [hji14] at H; exact H) | (simp only [hji14] at H ⊢; exact H)
        have hji14_ : (if t268 < t269 then t269 else t268) = ji14 := hji14
        obtain ⟨ji15, hji15⟩ : ∃ j_ : Int, (mn t268 t269) = j_ := ⟨_, rfl⟩
        replace H : (if (ji15) = 0 then (none) else (if (IntKind.u64.wrap (wrap64 (Int.tdiv (ji14) (ji15)))) = 0 then (none) else ((wager_Euclid.f kj6 (wrap64 ((ji14) - (wrap64 ((wrap64 (1 + (wrap64 (Int.tmod a2 (IntKind.u64.wrap (wrap64 (Int.tdiv (ji14) (ji15)))))))) * (ji15))))) (ji15)).bind fun bt274 => (if (wrap64 ((ji14) - (wrap64 ((wrap64 (1 + (wrap64 (Int.tmod a2 (IntKind.u64.wrap (wrap64 (Int.tdiv (ji14) (ji15)))))))) * (ji15))))) = 0 then (drovewaylaw07_WagerEuclidean.j1 kj6 t268 t269 t270 t271 t272 ji14 ji15 (wrap64 (1 + (wrap64 (Int.tmod a2 (IntKind.u64.wrap (wrap64 (Int.tdiv (ji14) (ji15)))))))) bt274.2.2 true) else (drovewaylaw07_WagerEuclidean.j1 kj6 t268 t269 t270 t271 t272 ji14 ji15 (wrap64 (1 + (wrap64 (Int.tmod a2 (IntKind.u64.wrap (wrap64 (Int.tdiv (ji14) (ji15)))))))) bt274.2.2 (bt274.2.2 == 10)))))) = some r := by first | (rw [hji15] at H; exact H) | (simp only [hji15] at H ⊢; exact H)
        have hji15_ : (if t269 < t268 then t269 else t268) = ji15 := hji15
        by_cases c16 : (ji15) = 0
        · rw [if_pos c16] at H
          exact absurd H (by simp)
        · rw [if_neg c16] at H
          have c16b0 : ((ji15) == 0) = false := beq_eq_false_iff_ne.mpr c16
          have c16b1 : ((ji15) != 0) = true := bne_iff_ne.mpr c16
          by_cases c17 : (IntKind.u64.wrap (wrap64 (Int.tdiv (ji14) (ji15)))) = 0
          · rw [if_pos c17] at H
            exact absurd H (by simp)
          · rw [if_neg c17] at H
            have c17b0 : ((IntKind.u64.wrap (wrap64 (Int.tdiv (ji14) (ji15)))) == 0) = false := beq_eq_false_iff_ne.mpr c17
            have c17b1 : ((IntKind.u64.wrap (wrap64 (Int.tdiv (ji14) (ji15)))) != 0) = true := bne_iff_ne.mpr c17
            replace H := Option.bind_eq_some_iff.mp H
            obtain ⟨⟨t274, t275, t276⟩, A180, H⟩ := H
            replace H : (if (wrap64 ((ji14) - (wrap64 ((wrap64 (1 + (wrap64 (Int.tmod a2 (IntKind.u64.wrap (wrap64 (Int.tdiv (ji14) (ji15)))))))) * (ji15))))) = 0 then (drovewaylaw07_WagerEuclidean.j1 kj6 t268 t269 t270 t271 t272 ji14 ji15 (wrap64 (1 + (wrap64 (Int.tmod a2 (IntKind.u64.wrap (wrap64 (Int.tdiv (ji14) (ji15)))))))) t276 true) else (drovewaylaw07_WagerEuclidean.j1 kj6 t268 t269 t270 t271 t272 ji14 ji15 (wrap64 (1 + (wrap64 (Int.tmod a2 (IntKind.u64.wrap (wrap64 (Int.tdiv (ji14) (ji15)))))))) t276 (t276 == 10))) = some r := H
            have A18 := Aside0.mk A180
            clear A180
            have HC19 := Aside0.mk H
            clear H
            go_upto_region 9 with (first | ((with_reducible refine gate_callee (f := 14) rfl ?_); refine goesL_ (some 70) rfl rfl Try.func14 (by kernel_rfl) rfl #[.int .i64 (wrap64 ((ji14) - (wrap64 ((wrap64 (1 + (wrap64 (Int.tmod a2 (IntKind.u64.wrap (wrap64 (Int.tdiv (ji14) (ji15)))))))) * (ji15))))), .int .i64 ji15] rfl (by (try simp only [List.map_toArray, List.map_cons, List.map_nil]); first | done | (simp only [hji14, hji15]; rfl) | rfl | (simp only [List.length_drop, List.length_take]; rfl)) ?_; (with_reducible refine (wager_Euclid.calls kj6 (wrap64 ((ji14) - (wrap64 ((wrap64 (1 + (wrap64 (Int.tmod a2 (IntKind.u64.wrap (wrap64 (Int.tdiv (ji14) (ji15)))))))) * (ji15))))) ji15 t274 t275 t276 _ A18.out).mono ?_); rintro e w20 ⟨rfl, hb⟩; refine ⟨_, rfl, ?_⟩; have n0_ := Aside0.mk (below_step (by repeat (first | (with_reducible first | exact HB.out | apply below_alloc | apply pw_below_drewN | apply below_drew1) | exact HB.out)) hb); clear HB; have HB := n0_; clear n0_; (try clear hb); (try clear hb2); (try clear hk); (try clear hi)))
            (try simp only [Act.put, List.setIfInBounds_toArray, List.set_cons_zero, List.set_cons_succ])
            go_cut [20] (fun v20 wc => ∃ (kq : Nat) (x20_18 : Bool), v20 = .bool x20_18 ∧ Aside0 (drovewaylaw07_WagerEuclidean.j1 kq t268 t269 t270 t271 t272 ji14 ji15 (wrap64 (1 + (wrap64 (Int.tmod a2 (IntKind.u64.wrap (wrap64 (Int.tdiv (ji14) (ji15)))))))) t276 x20_18 = some r) ∧ Aside0 (kq ≤ kj6) ∧ Aside0 (Below w.heap.size w wc))
            case first =>
              have H := HC19.out
              clear HC19
              by_cases c21 : (wrap64 ((ji14) - (wrap64 ((wrap64 (1 + (wrap64 (Int.tmod a2 (IntKind.u64.wrap (wrap64 (Int.tdiv (ji14) (ji15)))))))) * (ji15))))) = 0
              · rw [if_pos c21] at H
                have c21b0 : ((wrap64 ((ji14) - (wrap64 ((wrap64 (1 + (wrap64 (Int.tmod a2 (IntKind.u64.wrap (wrap64 (Int.tdiv (ji14) (ji15)))))))) * (ji15))))) == 0) = true := beq_iff_eq.mpr c21
                have c21b1 : ((wrap64 ((ji14) - (wrap64 ((wrap64 (1 + (wrap64 (Int.tmod a2 (IntKind.u64.wrap (wrap64 (Int.tdiv (ji14) (ji15)))))))) * (ji15))))) != 0) = false := bne_eq_false_iff_eq.mpr c21
                clear c21
                (first | rw [c21b0] | (simp only [i64_w, i32_w]; rw [c21b0]) | skip)
                have H' := Aside0.mk H
                clear H
                go_wp2
                go_meet
                case rel => exact ⟨_, (true), (by first | rfl | (simp; done) | (simp [*]; done)), H', ⟨by have := HJ6.out; first | omega | exact Nat.le_refl _⟩, ⟨by repeat (first | (with_reducible first | exact HB.out | apply below_alloc | apply pw_below_drewN | apply below_drew1) | exact HB.out)⟩⟩
              · rw [if_neg c21] at H
                have c21b0 : ((wrap64 ((ji14) - (wrap64 ((wrap64 (1 + (wrap64 (Int.tmod a2 (IntKind.u64.wrap (wrap64 (Int.tdiv (ji14) (ji15)))))))) * (ji15))))) == 0) = false := beq_eq_false_iff_ne.mpr c21
                have c21b1 : ((wrap64 ((ji14) - (wrap64 ((wrap64 (1 + (wrap64 (Int.tmod a2 (IntKind.u64.wrap (wrap64 (Int.tdiv (ji14) (ji15)))))))) * (ji15))))) != 0) = true := bne_iff_ne.mpr c21
                (first | rw [c21b0] | (simp only [i64_w, i32_w]; rw [c21b0]) | skip)
                have H' := Aside0.mk H
                clear H
                go_wp2
                go_meet
                case rel => exact ⟨_, ((t276 == 10)), (by first | rfl | (simp; done) | (simp [*]; done)), H', ⟨by have := HJ6.out; first | omega | exact Nat.le_refl _⟩, ⟨by repeat (first | (with_reducible first | exact HB.out | apply below_alloc | apply pw_below_drewN | apply below_drew1) | exact HB.out)⟩⟩
            case rest => as_aux_lemma =>
              clear HC19
              try clear c1
              try clear c2
              try clear p2
              try clear p6
              try clear c8
              try clear c9
              try clear c9b0
              try clear c9b1
              try clear c10
              try clear c11
              try clear c11b0
              try clear c11b1
              try clear c14
              try clear c16
              try clear c16b0
              try clear c16b1
              try clear c17
              try clear c17b0
              try clear c17b1
              try clear c21
              try clear c21b0
              try clear c21b1
              try clear p2
              obtain ⟨kq, x20_18, rfl, HA, HJ18, HB⟩ := hcut
              cases kq with
              | zero => exact absurd HA.out (by simp [drovewaylaw07_WagerEuclidean.j1])
              | succ kj18 =>
                have H := HA.out
                clear HA
                simp only [drovewaylaw07_WagerEuclidean.j1] at H
                have HC22 := Aside0.mk H
                clear H
                go_upto_region 10 with (fail)
                go_cut [85] (fun v85 wc => ∃ (kq : Nat) (x85_21 : Bool), v85 = .bool x85_21 ∧ Aside0 (drovewaylaw07_WagerEuclidean.j2 kq t268 t269 t270 t271 t272 ji14 ji15 (wrap64 (1 + (wrap64 (Int.tmod a2 (IntKind.u64.wrap (wrap64 (Int.tdiv (ji14) (ji15)))))))) x20_18 x85_21 = some r) ∧ Aside0 (kq ≤ kj18) ∧ Aside0 (Below w.heap.size w wc))
                case first =>
                  have H := HC22.out
                  clear HC22
                  by_cases c23 : t276 = 0
                  · rw [if_pos c23] at H
                    have c23b0 : (t276 == 0) = true := beq_iff_eq.mpr c23
                    have c23b1 : (t276 != 0) = false := bne_eq_false_iff_eq.mpr c23
                    clear c23
                    (first | rw [c23b0] | (simp only [i64_w, i32_w]; rw [c23b0]) | skip)
                    have H' := Aside0.mk H
                    clear H
                    go_wp2
                    go_meet
                    case rel => exact ⟨_, (false), (by first | rfl | (simp; done) | (simp [*]; done)), H', ⟨by have := HJ6.out; have := HJ18.out; first | omega | exact Nat.le_refl _⟩, ⟨by repeat (first | (with_reducible first | exact HB.out | apply below_alloc | apply pw_below_drewN | apply below_drew1) | exact HB.out)⟩⟩
                  · rw [if_neg c23] at H
                    have c23b0 : (t276 == 0) = false := beq_eq_false_iff_ne.mpr c23
                    have c23b1 : (t276 != 0) = true := bne_iff_ne.mpr c23
                    (first | rw [c23b0] | (simp only [i64_w, i32_w]; rw [c23b0]) | skip)
                    have H' := Aside0.mk H
                    clear H
                    go_wp2
                    go_meet
                    case rel => exact ⟨_, ((t276 != 10)), (by first | rfl | (simp; done) | (simp [*]; done)), H', ⟨by have := HJ6.out; have := HJ18.out; first | omega | exact Nat.le_refl _⟩, ⟨by repeat (first | (with_reducible first | exact HB.out | apply below_alloc | apply pw_below_drewN | apply below_drew1) | exact HB.out)⟩⟩
                case rest => as_aux_lemma =>
                  clear HC22
                  try clear c1
                  try clear c2
                  try clear p2
                  try clear p6
                  try clear c8
                  try clear c9
                  try clear c9b0
                  try clear c9b1
                  try clear c10
                  try clear c11
                  try clear c11b0
                  try clear c11b1
                  try clear c14
                  try clear c16
                  try clear c16b0
                  try clear c16b1
                  try clear c17
                  try clear c17b0
                  try clear c17b1
                  try clear c21
                  try clear c21b0
                  try clear c21b1
                  try clear c23
                  try clear c23b0
                  try clear c23b1
                  try clear p2
                  try clear p6
                  obtain ⟨kq, x85_21, rfl, HA, HJ21, HB⟩ := hcut
                  cases kq with
                  | zero => exact absurd HA.out (by simp [drovewaylaw07_WagerEuclidean.j2])
                  | succ kj21 =>
                    have H := HA.out
                    clear HA
                    simp only [drovewaylaw07_WagerEuclidean.j2] at H
                    by_cases c24 : x85_21 = true
                    · subst c24
                      have H1 : (some false) = some r := by rw [if_pos rfl] at H; exact H
                      clear H
                      have H := H1
                      clear H1
                      obtain rfl := Option.some.inj H
                      go_wp2
                      go_ret
                      exact ⟨by first | rfl | (simp [errW_none, errW_some] <;> rfl) | (simp only [← hji14, ← hji15]; first | rfl | (simp [errW_none, errW_some] <;> rfl)) | (simp [*, errW_none, errW_some] <;> rfl), by repeat (first | (with_reducible first | exact HB.out | apply below_alloc | apply pw_below_drewN | apply below_drew1) | exact HB.out)⟩
                    · replace c24 := Bool.eq_false_iff.mpr c24
                      subst c24
                      have H1 : (if t272 = 0 then (if t268 = t269 then (if t270 = t268 then (if t271 = 0 then ((drovewaylaw07_alive.f).bind fun t278 => (some t278)) else (some false)) else (some false)) else (if t270 < 0 then (drovewaylaw07_WagerEuclidean.j3 kj21 t270 t271 ji15 (wrap64 (1 + (wrap64 (Int.tmod a2 (IntKind.u64.wrap (wrap64 (Int.tdiv (ji14) (ji15)))))))) x20_18 (wrap64 ((wrap64 ((wrap64 (t268 - t270)) + t269)) - t271)) true) else (if t271 < 0 then (drovewaylaw07_WagerEuclidean.j3 kj21 t270 t271 ji15 (wrap64 (1 + (wrap64 (Int.tmod a2 (IntKind.u64.wrap (wrap64 (Int.tdiv (ji14) (ji15)))))))) x20_18 (wrap64 ((wrap64 ((wrap64 (t268 - t270)) + t269)) - t271)) true) else (if t268 > t269 then (if t271 = t269 then (if t268 < t269 then (if t270 = t268 then (if (wrap64 ((wrap64 ((wrap64 (t268 - t270)) + t269)) - t271)) < ji15 then (drovewaylaw07_WagerEuclidean.j3 kj21 t270 t271 ji15 (wrap64 (1 + (wrap64 (Int.tmod a2 (IntKind.u64.wrap (wrap64 (Int.tdiv (ji14) (ji15)))))))) x20_18 (wrap64 ((wrap64 ((wrap64 (t268 - t270)) + t269)) - t271)) true) else (if ji15 = 0 then (none) else (if (Int.tmod (wrap64 ((wrap64 ((wrap64 (t268 - t270)) + t269)) - t271)) ji15) = 0 then (drovewaylaw07_WagerEuclidean.j3 kj21 t270 t271 ji15 (wrap64 (1 + (wrap64 (Int.tmod a2 (IntKind.u64.wrap (wrap64 (Int.tdiv (ji14) (ji15)))))))) x20_18 (wrap64 ((wrap64 ((wrap64 (t268 - t270)) + t269)) - t271)) (decide ((wrap64 ((wrap64 ((wrap64 (t268 - t270)) + t269)) - t271)) > ji14))) else (drovewaylaw07_WagerEuclidean.j3 kj21 t270 t271 ji15 (wrap64 (1 + (wrap64 (Int.tmod a2 (IntKind.u64.wrap (wrap64 (Int.tdiv (ji14) (ji15)))))))) x20_18 (wrap64 ((wrap64 ((wrap64 (t268 - t270)) + t269)) - t271)) true)))) else (drovewaylaw07_WagerEuclidean.j3 kj21 t270 t271 ji15 (wrap64 (1 + (wrap64 (Int.tmod a2 (IntKind.u64.wrap (wrap64 (Int.tdiv (ji14) (ji15)))))))) x20_18 (wrap64 ((wrap64 ((wrap64 (t268 - t270)) + t269)) - t271)) true)) else (if (wrap64 ((wrap64 ((wrap64 (t268 - t270)) + t269)) - t271)) < ji15 then (drovewaylaw07_WagerEuclidean.j3 kj21 t270 t271 ji15 (wrap64 (1 + (wrap64 (Int.tmod a2 (IntKind.u64.wrap (wrap64 (Int.tdiv (ji14) (ji15)))))))) x20_18 (wrap64 ((wrap64 ((wrap64 (t268 - t270)) + t269)) - t271)) true) else (if ji15 = 0 then (none) else (if (Int.tmod (wrap64 ((wrap64 ((wrap64 (t268 - t270)) + t269)) - t271)) ji15) = 0 then (drovewaylaw07_WagerEuclidean.j3 kj21 t270 t271 ji15 (wrap64 (1 + (wrap64 (Int.tmod a2 (IntKind.u64.wrap (wrap64 (Int.tdiv (ji14) (ji15)))))))) x20_18 (wrap64 ((wrap64 ((wrap64 (t268 - t270)) + t269)) - t271)) (decide ((wrap64 ((wrap64 ((wrap64 (t268 - t270)) + t269)) - t271)) > ji14))) else (drovewaylaw07_WagerEuclidean.j3 kj21 t270 t271 ji15 (wrap64 (1 + (wrap64 (Int.tmod a2 (IntKind.u64.wrap (wrap64 (Int.tdiv (ji14) (ji15)))))))) x20_18 (wrap64 ((wrap64 ((wrap64 (t268 - t270)) + t269)) - t271)) true))))) else (drovewaylaw07_WagerEuclidean.j3 kj21 t270 t271 ji15 (wrap64 (1 + (wrap64 (Int.tmod a2 (IntKind.u64.wrap (wrap64 (Int.tdiv (ji14) (ji15)))))))) x20_18 (wrap64 ((wrap64 ((wrap64 (t268 - t270)) + t269)) - t271)) true)) else (if t268 < t269 then (if t270 = t268 then (if (wrap64 ((wrap64 ((wrap64 (t268 - t270)) + t269)) - t271)) < ji15 then (drovewaylaw07_WagerEuclidean.j3 kj21 t270 t271 ji15 (wrap64 (1 + (wrap64 (Int.tmod a2 (IntKind.u64.wrap (wrap64 (Int.tdiv (ji14) (ji15)))))))) x20_18 (wrap64 ((wrap64 ((wrap64 (t268 - t270)) + t269)) - t271)) true) else (if ji15 = 0 then (none) else (if (Int.tmod (wrap64 ((wrap64 ((wrap64 (t268 - t270)) + t269)) - t271)) ji15) = 0 then (drovewaylaw07_WagerEuclidean.j3 kj21 t270 t271 ji15 (wrap64 (1 + (wrap64 (Int.tmod a2 (IntKind.u64.wrap (wrap64 (Int.tdiv (ji14) (ji15)))))))) x20_18 (wrap64 ((wrap64 ((wrap64 (t268 - t270)) + t269)) - t271)) (decide ((wrap64 ((wrap64 ((wrap64 (t268 - t270)) + t269)) - t271)) > ji14))) else (drovewaylaw07_WagerEuclidean.j3 kj21 t270 t271 ji15 (wrap64 (1 + (wrap64 (Int.tmod a2 (IntKind.u64.wrap (wrap64 (Int.tdiv (ji14) (ji15)))))))) x20_18 (wrap64 ((wrap64 ((wrap64 (t268 - t270)) + t269)) - t271)) true)))) else (drovewaylaw07_WagerEuclidean.j3 kj21 t270 t271 ji15 (wrap64 (1 + (wrap64 (Int.tmod a2 (IntKind.u64.wrap (wrap64 (Int.tdiv (ji14) (ji15)))))))) x20_18 (wrap64 ((wrap64 ((wrap64 (t268 - t270)) + t269)) - t271)) true)) else (if (wrap64 ((wrap64 ((wrap64 (t268 - t270)) + t269)) - t271)) < ji15 then (drovewaylaw07_WagerEuclidean.j3 kj21 t270 t271 ji15 (wrap64 (1 + (wrap64 (Int.tmod a2 (IntKind.u64.wrap (wrap64 (Int.tdiv (ji14) (ji15)))))))) x20_18 (wrap64 ((wrap64 ((wrap64 (t268 - t270)) + t269)) - t271)) true) else (if ji15 = 0 then (none) else (if (Int.tmod (wrap64 ((wrap64 ((wrap64 (t268 - t270)) + t269)) - t271)) ji15) = 0 then (drovewaylaw07_WagerEuclidean.j3 kj21 t270 t271 ji15 (wrap64 (1 + (wrap64 (Int.tmod a2 (IntKind.u64.wrap (wrap64 (Int.tdiv (ji14) (ji15)))))))) x20_18 (wrap64 ((wrap64 ((wrap64 (t268 - t270)) + t269)) - t271)) (decide ((wrap64 ((wrap64 ((wrap64 (t268 - t270)) + t269)) - t271)) > ji14))) else (drovewaylaw07_WagerEuclidean.j3 kj21 t270 t271 ji15 (wrap64 (1 + (wrap64 (Int.tmod a2 (IntKind.u64.wrap (wrap64 (Int.tdiv (ji14) (ji15)))))))) x20_18 (wrap64 ((wrap64 ((wrap64 (t268 - t270)) + t269)) - t271)) true))))))))) else (if t272 = 10 then (if t270 = 0 then (if t271 = 0 then (if x20_18 = true then (some false) else ((drovewaylaw07_alive.f).bind fun t277 => (some t277))) else (some false)) else (some false)) else (some false))) = some r := by rw [if_neg (show ¬ (false = true) by decide)] at H; exact H
                      clear H
                      have H := H1
                      clear H1
                      by_cases c25 : t272 = 0
                      · rw [if_pos c25] at H
                        have c25b0 : (t272 == 0) = true := beq_iff_eq.mpr c25
                        have c25b1 : (t272 != 0) = false := bne_eq_false_iff_eq.mpr c25
                        clear c25
                        by_cases c26 : t268 = t269
                        · rw [if_pos c26] at H
                          have c26b0 : (t268 == t269) = true := beq_iff_eq.mpr c26
                          have c26b1 : (t268 != t269) = false := bne_eq_false_iff_eq.mpr c26
                          clear c26
                          by_cases c27 : t270 = t268
                          · rw [if_pos c27] at H
                            have c27b0 : (t270 == t268) = true := beq_iff_eq.mpr c27
                            have c27b1 : (t270 != t268) = false := bne_eq_false_iff_eq.mpr c27
                            clear c27
                            by_cases c28 : t271 = 0
                            · rw [if_pos c28] at H
                              have c28b0 : (t271 == 0) = true := beq_iff_eq.mpr c28
                              have c28b1 : (t271 != 0) = false := bne_eq_false_iff_eq.mpr c28
                              clear c28
                              replace H := Option.bind_eq_some_iff.mp H
                              obtain ⟨t278, A290, H⟩ := H
                              replace H : (some t278) = some r := H
                              have A29 := Aside0.mk A290
                              clear A290
                              obtain rfl := Option.some.inj H
                              go_wp2_with (first | (go_at_call 19; (with_reducible refine (drovewaylaw07_alive.calls  t278 _ A29.out).mono ?_); rintro e w30 ⟨rfl, hb⟩; have n0_ := Aside0.mk (below_step (by repeat (first | (with_reducible first | exact HB.out | apply below_alloc | apply pw_below_drewN | apply below_drew1) | exact HB.out)) hb); clear HB; have HB := n0_; clear n0_; (try clear hb); (try clear hb2); (try clear hk); (try clear hi)))
                              go_ret
                              exact ⟨by first | rfl | (simp [errW_none, errW_some] <;> rfl) | (simp only [← hji14, ← hji15]; first | rfl | (simp [errW_none, errW_some] <;> rfl)) | (simp [*, errW_none, errW_some] <;> rfl), by repeat (first | (with_reducible first | exact HB.out | apply below_alloc | apply pw_below_drewN | apply below_drew1) | exact HB.out)⟩
                            · rw [if_neg c28] at H
                              have c28b0 : (t271 == 0) = false := beq_eq_false_iff_ne.mpr c28
                              have c28b1 : (t271 != 0) = true := bne_iff_ne.mpr c28
                              obtain rfl := Option.some.inj H
                              go_wp2
                              go_ret
                              exact ⟨by first | rfl | (simp [errW_none, errW_some] <;> rfl) | (simp only [← hji14, ← hji15]; first | rfl | (simp [errW_none, errW_some] <;> rfl)) | (simp [*, errW_none, errW_some] <;> rfl), by repeat (first | (with_reducible first | exact HB.out | apply below_alloc | apply pw_below_drewN | apply below_drew1) | exact HB.out)⟩
                          · rw [if_neg c27] at H
                            have c27b0 : (t270 == t268) = false := beq_eq_false_iff_ne.mpr c27
                            have c27b1 : (t270 != t268) = true := bne_iff_ne.mpr c27
                            obtain rfl := Option.some.inj H
                            go_wp2
                            go_ret
                            exact ⟨by first | rfl | (simp [errW_none, errW_some] <;> rfl) | (simp only [← hji14, ← hji15]; first | rfl | (simp [errW_none, errW_some] <;> rfl)) | (simp [*, errW_none, errW_some] <;> rfl), by repeat (first | (with_reducible first | exact HB.out | apply below_alloc | apply pw_below_drewN | apply below_drew1) | exact HB.out)⟩
                        · rw [if_neg c26] at H
                          have c26b0 : (t268 == t269) = false := beq_eq_false_iff_ne.mpr c26
                          have c26b1 : (t268 != t269) = true := bne_iff_ne.mpr c26
                          have HC31 := Aside0.mk H
                          clear H
                          go_upto_region 17 with (fail)
                          go_cut [166] (fun v166 wc => ∃ (kq : Nat) (x166_30 : Bool), v166 = .bool x166_30 ∧ Aside0 (drovewaylaw07_WagerEuclidean.j3 kq t270 t271 ji15 (wrap64 (1 + (wrap64 (Int.tmod a2 (IntKind.u64.wrap (wrap64 (Int.tdiv (ji14) (ji15)))))))) x20_18 (wrap64 ((wrap64 ((wrap64 (t268 - t270)) + t269)) - t271)) x166_30 = some r) ∧ Aside0 (kq ≤ kj21) ∧ Aside0 (Below w.heap.size w wc))
                          case first =>
                            have H := HC31.out
                            clear HC31
                            by_cases c32 : t270 < 0
                            · rw [if_pos c32] at H
                              have c32b0 : decide (t270 < 0) = true := decide_eq_true c32
                              clear c32
                              (first | rw [c32b0] | (simp only [i64_w, i32_w]; rw [c32b0]) | skip)
                              have H' := Aside0.mk H
                              clear H
                              go_wp2
                              go_meet
                              case rel => exact ⟨_, (true), (by first | rfl | (simp; done) | (simp [*]; done)), H', ⟨by have := HJ6.out; have := HJ18.out; have := HJ21.out; first | omega | exact Nat.le_refl _⟩, ⟨by repeat (first | (with_reducible first | exact HB.out | apply below_alloc | apply pw_below_drewN | apply below_drew1) | exact HB.out)⟩⟩
                            · rw [if_neg c32] at H
                              have c32b0 : decide (t270 < 0) = false := decide_eq_false c32
                              clear c32
                              (first | rw [c32b0] | (simp only [i64_w, i32_w]; rw [c32b0]) | skip)
                              by_cases c33 : t271 < 0
                              · rw [if_pos c33] at H
                                have c33b0 : decide (t271 < 0) = true := decide_eq_true c33
                                clear c33
                                have H' := Aside0.mk H
                                clear H
                                go_wp2
                                go_meet
                                case rel => exact ⟨_, (true), (by first | rfl | (simp; done) | (simp [*]; done)), H', ⟨by have := HJ6.out; have := HJ18.out; have := HJ21.out; first | omega | exact Nat.le_refl _⟩, ⟨by repeat (first | (with_reducible first | exact HB.out | apply below_alloc | apply pw_below_drewN | apply below_drew1) | exact HB.out)⟩⟩
                              · rw [if_neg c33] at H
                                have c33b0 : decide (t271 < 0) = false := decide_eq_false c33
                                clear c33
                                by_cases c34 : t268 > t269
                                · rw [if_pos c34] at H
                                  have c34b0 : decide (t269 < t268) = true := decide_eq_true c34
                                  clear c34
                                  by_cases c35 : t271 = t269
                                  · rw [if_pos c35] at H
                                    have c35b0 : (t271 == t269) = true := beq_iff_eq.mpr c35
                                    have c35b1 : (t271 != t269) = false := bne_eq_false_iff_eq.mpr c35
                                    clear c35
                                    by_cases c36 : t268 < t269
                                    · rw [if_pos c36] at H
                                      have c36b0 : decide (t268 < t269) = true := decide_eq_true c36
                                      clear c36
                                      by_cases c37 : t270 = t268
                                      · rw [if_pos c37] at H
                                        have c37b0 : (t270 == t268) = true := beq_iff_eq.mpr c37
                                        have c37b1 : (t270 != t268) = false := bne_eq_false_iff_eq.mpr c37
                                        clear c37
                                        by_cases c38 : (wrap64 ((wrap64 ((wrap64 (t268 - t270)) + t269)) - t271)) < ji15
                                        · rw [if_pos c38] at H
                                          have c38b0 : decide ((wrap64 ((wrap64 ((wrap64 (t268 - t270)) + t269)) - t271)) < ji15) = true := decide_eq_true c38
                                          clear c38
                                          have H' := Aside0.mk H
                                          clear H
                                          go_wp2
                                          go_meet
                                          case rel => exact ⟨_, (true), (by first | rfl | (simp; done) | (simp [*]; done)), H', ⟨by have := HJ6.out; have := HJ18.out; have := HJ21.out; first | omega | exact Nat.le_refl _⟩, ⟨by repeat (first | (with_reducible first | exact HB.out | apply below_alloc | apply pw_below_drewN | apply below_drew1) | exact HB.out)⟩⟩
                                        · rw [if_neg c38] at H
                                          have c38b0 : decide ((wrap64 ((wrap64 ((wrap64 (t268 - t270)) + t269)) - t271)) < ji15) = false := decide_eq_false c38
                                          clear c38
                                          by_cases c39 : ji15 = 0
                                          · rw [if_pos c39] at H
                                            exact absurd H (by simp)
                                          · rw [if_neg c39] at H
                                            have c39b0 : (ji15 == 0) = false := beq_eq_false_iff_ne.mpr c39
                                            have c39b1 : (ji15 != 0) = true := bne_iff_ne.mpr c39
                                            by_cases c40 : (Int.tmod (wrap64 ((wrap64 ((wrap64 (t268 - t270)) + t269)) - t271)) ji15) = 0
                                            · rw [if_pos c40] at H
                                              have c40b0 : ((Int.tmod (wrap64 ((wrap64 ((wrap64 (t268 - t270)) + t269)) - t271)) ji15) == 0) = true := beq_iff_eq.mpr c40
                                              have c40b1 : ((Int.tmod (wrap64 ((wrap64 ((wrap64 (t268 - t270)) + t269)) - t271)) ji15) != 0) = false := bne_eq_false_iff_eq.mpr c40
                                              clear c40
                                              have H' := Aside0.mk H
                                              clear H
                                              go_wp2
                                              go_meet
                                              case rel => exact ⟨_, (decide ((wrap64 ((wrap64 ((wrap64 (t268 - t270)) + t269)) - t271)) > ji14)), (by first | rfl | (simp; done) | (simp only [← hji14] <;> (first | rfl | simp)) | (simp [*]; done)), H', ⟨by have := HJ6.out; have := HJ18.out; have := HJ21.out; first | omega | exact Nat.le_refl _⟩, ⟨by repeat (first | (with_reducible first | exact HB.out | apply below_alloc | apply pw_below_drewN | apply below_drew1) | exact HB.out)⟩⟩
                                            · rw [if_neg c40] at H
                                              have c40b0 : ((Int.tmod (wrap64 ((wrap64 ((wrap64 (t268 - t270)) + t269)) - t271)) ji15) == 0) = false := beq_eq_false_iff_ne.mpr c40
                                              have c40b1 : ((Int.tmod (wrap64 ((wrap64 ((wrap64 (t268 - t270)) + t269)) - t271)) ji15) != 0) = true := bne_iff_ne.mpr c40
                                              have H' := Aside0.mk H
                                              clear H
                                              go_wp2
                                              go_meet
                                              case rel => exact ⟨_, (true), (by first | rfl | (simp; done) | (simp [*]; done)), H', ⟨by have := HJ6.out; have := HJ18.out; have := HJ21.out; first | omega | exact Nat.le_refl _⟩, ⟨by repeat (first | (with_reducible first | exact HB.out | apply below_alloc | apply pw_below_drewN | apply below_drew1) | exact HB.out)⟩⟩
                                      · rw [if_neg c37] at H
                                        have c37b0 : (t270 == t268) = false := beq_eq_false_iff_ne.mpr c37
                                        have c37b1 : (t270 != t268) = true := bne_iff_ne.mpr c37
                                        have H' := Aside0.mk H
                                        clear H
                                        go_wp2
                                        go_meet
                                        case rel => exact ⟨_, (true), (by first | rfl | (simp; done) | (simp [*]; done)), H', ⟨by have := HJ6.out; have := HJ18.out; have := HJ21.out; first | omega | exact Nat.le_refl _⟩, ⟨by repeat (first | (with_reducible first | exact HB.out | apply below_alloc | apply pw_below_drewN | apply below_drew1) | exact HB.out)⟩⟩
                                    · rw [if_neg c36] at H
                                      have c36b0 : decide (t268 < t269) = false := decide_eq_false c36
                                      clear c36
                                      by_cases c41 : (wrap64 ((wrap64 ((wrap64 (t268 - t270)) + t269)) - t271)) < ji15
                                      · rw [if_pos c41] at H
                                        have c41b0 : decide ((wrap64 ((wrap64 ((wrap64 (t268 - t270)) + t269)) - t271)) < ji15) = true := decide_eq_true c41
                                        clear c41
                                        have H' := Aside0.mk H
                                        clear H
                                        go_wp2
                                        go_meet
                                        case rel => exact ⟨_, (true), (by first | rfl | (simp; done) | (simp [*]; done)), H', ⟨by have := HJ6.out; have := HJ18.out; have := HJ21.out; first | omega | exact Nat.le_refl _⟩, ⟨by repeat (first | (with_reducible first | exact HB.out | apply below_alloc | apply pw_below_drewN | apply below_drew1) | exact HB.out)⟩⟩
                                      · rw [if_neg c41] at H
                                        have c41b0 : decide ((wrap64 ((wrap64 ((wrap64 (t268 - t270)) + t269)) - t271)) < ji15) = false := decide_eq_false c41
                                        clear c41
                                        by_cases c42 : ji15 = 0
                                        · rw [if_pos c42] at H
                                          exact absurd H (by simp)
                                        · rw [if_neg c42] at H
                                          have c42b0 : (ji15 == 0) = false := beq_eq_false_iff_ne.mpr c42
                                          have c42b1 : (ji15 != 0) = true := bne_iff_ne.mpr c42
                                          by_cases c43 : (Int.tmod (wrap64 ((wrap64 ((wrap64 (t268 - t270)) + t269)) - t271)) ji15) = 0
                                          · rw [if_pos c43] at H
                                            have c43b0 : ((Int.tmod (wrap64 ((wrap64 ((wrap64 (t268 - t270)) + t269)) - t271)) ji15) == 0) = true := beq_iff_eq.mpr c43
                                            have c43b1 : ((Int.tmod (wrap64 ((wrap64 ((wrap64 (t268 - t270)) + t269)) - t271)) ji15) != 0) = false := bne_eq_false_iff_eq.mpr c43
                                            clear c43
                                            have H' := Aside0.mk H
                                            clear H
                                            go_wp2
                                            go_meet
                                            case rel => exact ⟨_, (decide ((wrap64 ((wrap64 ((wrap64 (t268 - t270)) + t269)) - t271)) > ji14)), (by first | rfl | (simp; done) | (simp only [← hji14] <;> (first | rfl | simp)) | (simp [*]; done)), H', ⟨by have := HJ6.out; have := HJ18.out; have := HJ21.out; first | omega | exact Nat.le_refl _⟩, ⟨by repeat (first | (with_reducible first | exact HB.out | apply below_alloc | apply pw_below_drewN | apply below_drew1) | exact HB.out)⟩⟩
                                          · rw [if_neg c43] at H
                                            have c43b0 : ((Int.tmod (wrap64 ((wrap64 ((wrap64 (t268 - t270)) + t269)) - t271)) ji15) == 0) = false := beq_eq_false_iff_ne.mpr c43
                                            have c43b1 : ((Int.tmod (wrap64 ((wrap64 ((wrap64 (t268 - t270)) + t269)) - t271)) ji15) != 0) = true := bne_iff_ne.mpr c43
                                            have H' := Aside0.mk H
                                            clear H
                                            go_wp2
                                            go_meet
                                            case rel => exact ⟨_, (true), (by first | rfl | (simp; done) | (simp [*]; done)), H', ⟨by have := HJ6.out; have := HJ18.out; have := HJ21.out; first | omega | exact Nat.le_refl _⟩, ⟨by repeat (first | (with_reducible first | exact HB.out | apply below_alloc | apply pw_below_drewN | apply below_drew1) | exact HB.out)⟩⟩
                                  · rw [if_neg c35] at H
                                    have c35b0 : (t271 == t269) = false := beq_eq_false_iff_ne.mpr c35
                                    have c35b1 : (t271 != t269) = true := bne_iff_ne.mpr c35
                                    have H' := Aside0.mk H
                                    clear H
                                    go_wp2
                                    go_meet
                                    case rel => exact ⟨_, (true), (by first | rfl | (simp; done) | (simp [*]; done)), H', ⟨by have := HJ6.out; have := HJ18.out; have := HJ21.out; first | omega | exact Nat.le_refl _⟩, ⟨by repeat (first | (with_reducible first | exact HB.out | apply below_alloc | apply pw_below_drewN | apply below_drew1) | exact HB.out)⟩⟩
                                · rw [if_neg c34] at H
                                  have c34b0 : decide (t269 < t268) = false := decide_eq_false c34
                                  clear c34
                                  by_cases c44 : t268 < t269
                                  · rw [if_pos c44] at H
                                    have c44b0 : decide (t268 < t269) = true := decide_eq_true c44
                                    clear c44
                                    by_cases c45 : t270 = t268
                                    · rw [if_pos c45] at H
                                      have c45b0 : (t270 == t268) = true := beq_iff_eq.mpr c45
                                      have c45b1 : (t270 != t268) = false := bne_eq_false_iff_eq.mpr c45
                                      clear c45
                                      by_cases c46 : (wrap64 ((wrap64 ((wrap64 (t268 - t270)) + t269)) - t271)) < ji15
                                      · rw [if_pos c46] at H
                                        have c46b0 : decide ((wrap64 ((wrap64 ((wrap64 (t268 - t270)) + t269)) - t271)) < ji15) = true := decide_eq_true c46
                                        clear c46
                                        have H' := Aside0.mk H
                                        clear H
                                        go_wp2
                                        go_meet
                                        case rel => exact ⟨_, (true), (by first | rfl | (simp; done) | (simp [*]; done)), H', ⟨by have := HJ6.out; have := HJ18.out; have := HJ21.out; first | omega | exact Nat.le_refl _⟩, ⟨by repeat (first | (with_reducible first | exact HB.out | apply below_alloc | apply pw_below_drewN | apply below_drew1) | exact HB.out)⟩⟩
                                      · rw [if_neg c46] at H
                                        have c46b0 : decide ((wrap64 ((wrap64 ((wrap64 (t268 - t270)) + t269)) - t271)) < ji15) = false := decide_eq_false c46
                                        clear c46
                                        by_cases c47 : ji15 = 0
                                        · rw [if_pos c47] at H
                                          exact absurd H (by simp)
                                        · rw [if_neg c47] at H
                                          have c47b0 : (ji15 == 0) = false := beq_eq_false_iff_ne.mpr c47
                                          have c47b1 : (ji15 != 0) = true := bne_iff_ne.mpr c47
                                          by_cases c48 : (Int.tmod (wrap64 ((wrap64 ((wrap64 (t268 - t270)) + t269)) - t271)) ji15) = 0
                                          · rw [if_pos c48] at H
                                            have c48b0 : ((Int.tmod (wrap64 ((wrap64 ((wrap64 (t268 - t270)) + t269)) - t271)) ji15) == 0) = true := beq_iff_eq.mpr c48
                                            have c48b1 : ((Int.tmod (wrap64 ((wrap64 ((wrap64 (t268 - t270)) + t269)) - t271)) ji15) != 0) = false := bne_eq_false_iff_eq.mpr c48
                                            clear c48
                                            have H' := Aside0.mk H
                                            clear H
                                            go_wp2
                                            go_meet
                                            case rel => exact ⟨_, (decide ((wrap64 ((wrap64 ((wrap64 (t268 - t270)) + t269)) - t271)) > ji14)), (by first | rfl | (simp; done) | (simp only [← hji14] <;> (first | rfl | simp)) | (simp [*]; done)), H', ⟨by have := HJ6.out; have := HJ18.out; have := HJ21.out; first | omega | exact Nat.le_refl _⟩, ⟨by repeat (first | (with_reducible first | exact HB.out | apply below_alloc | apply pw_below_drewN | apply below_drew1) | exact HB.out)⟩⟩
                                          · rw [if_neg c48] at H
                                            have c48b0 : ((Int.tmod (wrap64 ((wrap64 ((wrap64 (t268 - t270)) + t269)) - t271)) ji15) == 0) = false := beq_eq_false_iff_ne.mpr c48
                                            have c48b1 : ((Int.tmod (wrap64 ((wrap64 ((wrap64 (t268 - t270)) + t269)) - t271)) ji15) != 0) = true := bne_iff_ne.mpr c48
                                            have H' := Aside0.mk H
                                            clear H
                                            go_wp2
                                            go_meet
                                            case rel => exact ⟨_, (true), (by first | rfl | (simp; done) | (simp [*]; done)), H', ⟨by have := HJ6.out; have := HJ18.out; have := HJ21.out; first | omega | exact Nat.le_refl _⟩, ⟨by repeat (first | (with_reducible first | exact HB.out | apply below_alloc | apply pw_below_drewN | apply below_drew1) | exact HB.out)⟩⟩
                                    · rw [if_neg c45] at H
                                      have c45b0 : (t270 == t268) = false := beq_eq_false_iff_ne.mpr c45
                                      have c45b1 : (t270 != t268) = true := bne_iff_ne.mpr c45
                                      have H' := Aside0.mk H
                                      clear H
                                      go_wp2
                                      go_meet
                                      case rel => exact ⟨_, (true), (by first | rfl | (simp; done) | (simp [*]; done)), H', ⟨by have := HJ6.out; have := HJ18.out; have := HJ21.out; first | omega | exact Nat.le_refl _⟩, ⟨by repeat (first | (with_reducible first | exact HB.out | apply below_alloc | apply pw_below_drewN | apply below_drew1) | exact HB.out)⟩⟩
                                  · rw [if_neg c44] at H
                                    have c44b0 : decide (t268 < t269) = false := decide_eq_false c44
                                    clear c44
                                    by_cases c49 : (wrap64 ((wrap64 ((wrap64 (t268 - t270)) + t269)) - t271)) < ji15
                                    · rw [if_pos c49] at H
                                      have c49b0 : decide ((wrap64 ((wrap64 ((wrap64 (t268 - t270)) + t269)) - t271)) < ji15) = true := decide_eq_true c49
                                      clear c49
                                      have H' := Aside0.mk H
                                      clear H
                                      go_wp2
                                      go_meet
                                      case rel => exact ⟨_, (true), (by first | rfl | (simp; done) | (simp [*]; done)), H', ⟨by have := HJ6.out; have := HJ18.out; have := HJ21.out; first | omega | exact Nat.le_refl _⟩, ⟨by repeat (first | (with_reducible first | exact HB.out | apply below_alloc | apply pw_below_drewN | apply below_drew1) | exact HB.out)⟩⟩
                                    · rw [if_neg c49] at H
                                      have c49b0 : decide ((wrap64 ((wrap64 ((wrap64 (t268 - t270)) + t269)) - t271)) < ji15) = false := decide_eq_false c49
                                      clear c49
                                      by_cases c50 : ji15 = 0
                                      · rw [if_pos c50] at H
                                        exact absurd H (by simp)
                                      · rw [if_neg c50] at H
                                        have c50b0 : (ji15 == 0) = false := beq_eq_false_iff_ne.mpr c50
                                        have c50b1 : (ji15 != 0) = true := bne_iff_ne.mpr c50
                                        by_cases c51 : (Int.tmod (wrap64 ((wrap64 ((wrap64 (t268 - t270)) + t269)) - t271)) ji15) = 0
                                        · rw [if_pos c51] at H
                                          have c51b0 : ((Int.tmod (wrap64 ((wrap64 ((wrap64 (t268 - t270)) + t269)) - t271)) ji15) == 0) = true := beq_iff_eq.mpr c51
                                          have c51b1 : ((Int.tmod (wrap64 ((wrap64 ((wrap64 (t268 - t270)) + t269)) - t271)) ji15) != 0) = false := bne_eq_false_iff_eq.mpr c51
                                          clear c51
                                          have H' := Aside0.mk H
                                          clear H
                                          go_wp2
                                          go_meet
                                          case rel => exact ⟨_, (decide ((wrap64 ((wrap64 ((wrap64 (t268 - t270)) + t269)) - t271)) > ji14)), (by first | rfl | (simp; done) | (simp only [← hji14] <;> (first | rfl | simp)) | (simp [*]; done)), H', ⟨by have := HJ6.out; have := HJ18.out; have := HJ21.out; first | omega | exact Nat.le_refl _⟩, ⟨by repeat (first | (with_reducible first | exact HB.out | apply below_alloc | apply pw_below_drewN | apply below_drew1) | exact HB.out)⟩⟩
                                        · rw [if_neg c51] at H
                                          have c51b0 : ((Int.tmod (wrap64 ((wrap64 ((wrap64 (t268 - t270)) + t269)) - t271)) ji15) == 0) = false := beq_eq_false_iff_ne.mpr c51
                                          have c51b1 : ((Int.tmod (wrap64 ((wrap64 ((wrap64 (t268 - t270)) + t269)) - t271)) ji15) != 0) = true := bne_iff_ne.mpr c51
                                          have H' := Aside0.mk H
                                          clear H
                                          go_wp2
                                          go_meet
                                          case rel => exact ⟨_, (true), (by first | rfl | (simp; done) | (simp [*]; done)), H', ⟨by have := HJ6.out; have := HJ18.out; have := HJ21.out; first | omega | exact Nat.le_refl _⟩, ⟨by repeat (first | (with_reducible first | exact HB.out | apply below_alloc | apply pw_below_drewN | apply below_drew1) | exact HB.out)⟩⟩
                          case rest => as_aux_lemma =>
                            clear HC31
                            try clear c1
                            try clear c2
                            try clear p2
                            try clear c3
                            try clear c4
                            try clear c5
                            try clear p6
                            try clear c8
                            try clear c9
                            try clear c9b0
                            try clear c9b1
                            try clear c10
                            try clear c11
                            try clear c11b0
                            try clear c11b1
                            try clear c14
                            try clear c16
                            try clear c16b0
                            try clear c16b1
                            try clear c17
                            try clear c17b0
                            try clear c17b1
                            try clear c21
                            try clear c21b0
                            try clear c21b1
                            try clear c23
                            try clear c23b0
                            try clear c23b1
                            try clear c24
                            try clear c25
                            try clear c25b0
                            try clear c25b1
                            try clear c26
                            try clear c26b0
                            try clear c26b1
                            try clear c27
                            try clear c27b0
                            try clear c27b1
                            try clear c28
                            try clear c28b0
                            try clear c28b1
                            try clear c32
                            try clear c32b0
                            try clear c33
                            try clear c33b0
                            try clear c34
                            try clear c34b0
                            try clear c35
                            try clear c35b0
                            try clear c35b1
                            try clear c36
                            try clear c36b0
                            try clear c37
                            try clear c37b0
                            try clear c37b1
                            try clear c38
                            try clear c38b0
                            try clear c39
                            try clear c39b0
                            try clear c39b1
                            try clear c40
                            try clear c40b0
                            try clear c40b1
                            try clear c41
                            try clear c41b0
                            try clear c42
                            try clear c42b0
                            try clear c42b1
                            try clear c43
                            try clear c43b0
                            try clear c43b1
                            try clear c44
                            try clear c44b0
                            try clear c45
                            try clear c45b0
                            try clear c45b1
                            try clear c46
                            try clear c46b0
                            try clear c47
                            try clear c47b0
                            try clear c47b1
                            try clear c48
                            try clear c48b0
                            try clear c48b1
                            try clear c49
                            try clear c49b0
                            try clear c50
                            try clear c50b0
                            try clear c50b1
                            try clear c51
                            try clear c51b0
                            try clear c51b1
                            try clear p2
                            try clear p6
                            obtain ⟨kq, x166_30, rfl, HA, HJ30, HB⟩ := hcut
                            cases kq with
                            | zero => exact absurd HA.out (by simp [drovewaylaw07_WagerEuclidean.j3])
                            | succ kj30 =>
                              have H := HA.out
                              clear HA
                              simp only [drovewaylaw07_WagerEuclidean.j3] at H
                              by_cases c52 : x166_30 = true
                              · subst c52
                                have H1 : (some false) = some r := by rw [if_pos rfl] at H; exact H
                                clear H
                                have H := H1
                                clear H1
                                obtain rfl := Option.some.inj H
                                go_wp2
                                go_ret
                                exact ⟨by first | rfl | (simp [errW_none, errW_some] <;> rfl) | (simp only [← hji14, ← hji15]; first | rfl | (simp [errW_none, errW_some] <;> rfl)) | (simp [*, errW_none, errW_some] <;> rfl), by repeat (first | (with_reducible first | exact HB.out | apply below_alloc | apply pw_below_drewN | apply below_drew1) | exact HB.out)⟩
                              · replace c52 := Bool.eq_false_iff.mpr c52
                                subst c52
                                have H1 : ((wager_Euclid.f kj30 t270 t271).bind fun bt279 => (if bt279.2.2 = 10 then (if x20_18 = true then (if (wrap64 ((wrap64 (1 + (wrap64 (Int.tmod a2 (IntKind.u64.wrap (wrap64 (Int.tdiv (ji14) (ji15)))))))) * ji15)) ≥ (wrap64 ((wrap64 ((wrap64 (t268 - t270)) + t269)) - t271)) then ((drovewaylaw07_alive.f).bind fun t282 => (some t282)) else (some false)) else ((drovewaylaw07_alive.f).bind fun t283 => (some t283))) else (some false))) = some r := by rw [if_neg (show ¬ (false = true) by decide)] at H; exact H
                                clear H
                                have H := H1
                                clear H1
                                replace H := Option.bind_eq_some_iff.mp H
                                obtain ⟨⟨t279, t280, t281⟩, A530, H⟩ := H
                                replace H : (if t281 = 10 then (if x20_18 = true then (if (wrap64 ((wrap64 (1 + (wrap64 (Int.tmod a2 (IntKind.u64.wrap (wrap64 (Int.tdiv (ji14) (ji15)))))))) * ji15)) ≥ (wrap64 ((wrap64 ((wrap64 (t268 - t270)) + t269)) - t271)) then ((drovewaylaw07_alive.f).bind fun t282 => (some t282)) else (some false)) else ((drovewaylaw07_alive.f).bind fun t283 => (some t283))) else (some false)) = some r := H
                                have A53 := Aside0.mk A530
                                clear A530
                                by_cases c54 : t281 = 10
                                · rw [if_pos c54] at H
                                  have c54b0 : (t281 == 10) = true := beq_iff_eq.mpr c54
                                  have c54b1 : (t281 != 10) = false := bne_eq_false_iff_eq.mpr c54
                                  clear c54
                                  by_cases c55 : x20_18 = true
                                  · subst c55
                                    have H1 : (if (wrap64 ((wrap64 (1 + (wrap64 (Int.tmod a2 (IntKind.u64.wrap (wrap64 (Int.tdiv (ji14) (ji15)))))))) * ji15)) ≥ (wrap64 ((wrap64 ((wrap64 (t268 - t270)) + t269)) - t271)) then ((drovewaylaw07_alive.f).bind fun t282 => (some t282)) else (some false)) = some r := by rw [if_pos rfl] at H; exact H
                                    clear H
                                    have H := H1
                                    clear H1
                                    by_cases c56 : (wrap64 ((wrap64 (1 + (wrap64 (Int.tmod a2 (IntKind.u64.wrap (wrap64 (Int.tdiv (ji14) (ji15)))))))) * ji15)) ≥ (wrap64 ((wrap64 ((wrap64 (t268 - t270)) + t269)) - t271))
                                    · rw [if_pos c56] at H
                                      have c56b0 : decide ((wrap64 ((wrap64 ((wrap64 (t268 - t270)) + t269)) - t271)) ≤ (wrap64 ((wrap64 (1 + (wrap64 (Int.tmod a2 (IntKind.u64.wrap (wrap64 (Int.tdiv (ji14) (ji15)))))))) * ji15))) = true := decide_eq_true c56
                                      clear c56
                                      replace H := Option.bind_eq_some_iff.mp H
                                      obtain ⟨t282, A570, H⟩ := H
                                      replace H : (some t282) = some r := H
                                      have A57 := Aside0.mk A570
                                      clear A570
                                      obtain rfl := Option.some.inj H
                                      go_wp2_with (first | ((with_reducible refine gate_callee (f := 14) rfl ?_); refine goesL_ (some 170) rfl rfl Try.func14 (by kernel_rfl) rfl #[.int .i64 t270, .int .i64 t271] rfl (by (try simp only [List.map_toArray, List.map_cons, List.map_nil]); first | done | rfl | (simp only [List.length_drop, List.length_take]; rfl)) ?_; (with_reducible refine (wager_Euclid.calls kj30 t270 t271 t279 t280 t281 _ A53.out).mono ?_); rintro e w58 ⟨rfl, hb⟩; refine ⟨_, rfl, ?_⟩; have n0_ := Aside0.mk (below_step (by repeat (first | (with_reducible first | exact HB.out | apply below_alloc | apply pw_below_drewN | apply below_drew1) | exact HB.out)) hb); clear HB; have HB := n0_; clear n0_; (try clear hb); (try clear hb2); (try clear hk); (try clear hi)) | (go_at_call 19; (with_reducible refine (drovewaylaw07_alive.calls  t282 _ A57.out).mono ?_); rintro e w59 ⟨rfl, hb⟩; have n0_ := Aside0.mk (below_step (by repeat (first | (with_reducible first | exact HB.out | apply below_alloc | apply pw_below_drewN | apply below_drew1) | exact HB.out)) hb); clear HB; have HB := n0_; clear n0_; (try clear hb); (try clear hb2); (try clear hk); (try clear hi)))
                                      go_ret
                                      exact ⟨by first | rfl | (simp [errW_none, errW_some] <;> rfl) | (simp only [← hji14, ← hji15]; first | rfl | (simp [errW_none, errW_some] <;> rfl)) | (simp [*, errW_none, errW_some] <;> rfl), by repeat (first | (with_reducible first | exact HB.out | apply below_alloc | apply pw_below_drewN | apply below_drew1) | exact HB.out)⟩
                                    · rw [if_neg c56] at H
                                      have c56b0 : decide ((wrap64 ((wrap64 ((wrap64 (t268 - t270)) + t269)) - t271)) ≤ (wrap64 ((wrap64 (1 + (wrap64 (Int.tmod a2 (IntKind.u64.wrap (wrap64 (Int.tdiv (ji14) (ji15)))))))) * ji15))) = false := decide_eq_false c56
                                      clear c56
                                      obtain rfl := Option.some.inj H
                                      go_wp2_with (first | ((with_reducible refine gate_callee (f := 14) rfl ?_); refine goesL_ (some 170) rfl rfl Try.func14 (by kernel_rfl) rfl #[.int .i64 t270, .int .i64 t271] rfl (by (try simp only [List.map_toArray, List.map_cons, List.map_nil]); first | done | rfl | (simp only [List.length_drop, List.length_take]; rfl)) ?_; (with_reducible refine (wager_Euclid.calls kj30 t270 t271 t279 t280 t281 _ A53.out).mono ?_); rintro e w60 ⟨rfl, hb⟩; refine ⟨_, rfl, ?_⟩; have n0_ := Aside0.mk (below_step (by repeat (first | (with_reducible first | exact HB.out | apply below_alloc | apply pw_below_drewN | apply below_drew1) | exact HB.out)) hb); clear HB; have HB := n0_; clear n0_; (try clear hb); (try clear hb2); (try clear hk); (try clear hi)))
                                      go_ret
                                      exact ⟨by first | rfl | (simp [errW_none, errW_some] <;> rfl) | (simp only [← hji14, ← hji15]; first | rfl | (simp [errW_none, errW_some] <;> rfl)) | (simp [*, errW_none, errW_some] <;> rfl), by repeat (first | (with_reducible first | exact HB.out | apply below_alloc | apply pw_below_drewN | apply below_drew1) | exact HB.out)⟩
                                  · replace c55 := Bool.eq_false_iff.mpr c55
                                    subst c55
                                    have H1 : ((drovewaylaw07_alive.f).bind fun t283 => (some t283)) = some r := by rw [if_neg (show ¬ (false = true) by decide)] at H; exact H
                                    clear H
                                    have H := H1
                                    clear H1
                                    replace H := Option.bind_eq_some_iff.mp H
                                    obtain ⟨t283, A610, H⟩ := H
                                    replace H : (some t283) = some r := H
                                    have A61 := Aside0.mk A610
                                    clear A610
                                    obtain rfl := Option.some.inj H
                                    go_wp2_with (first | ((with_reducible refine gate_callee (f := 14) rfl ?_); refine goesL_ (some 170) rfl rfl Try.func14 (by kernel_rfl) rfl #[.int .i64 t270, .int .i64 t271] rfl (by (try simp only [List.map_toArray, List.map_cons, List.map_nil]); first | done | rfl | (simp only [List.length_drop, List.length_take]; rfl)) ?_; (with_reducible refine (wager_Euclid.calls kj30 t270 t271 t279 t280 t281 _ A53.out).mono ?_); rintro e w62 ⟨rfl, hb⟩; refine ⟨_, rfl, ?_⟩; have n0_ := Aside0.mk (below_step (by repeat (first | (with_reducible first | exact HB.out | apply below_alloc | apply pw_below_drewN | apply below_drew1) | exact HB.out)) hb); clear HB; have HB := n0_; clear n0_; (try clear hb); (try clear hb2); (try clear hk); (try clear hi)) | (go_at_call 19; (with_reducible refine (drovewaylaw07_alive.calls  t283 _ A61.out).mono ?_); rintro e w63 ⟨rfl, hb⟩; have n0_ := Aside0.mk (below_step (by repeat (first | (with_reducible first | exact HB.out | apply below_alloc | apply pw_below_drewN | apply below_drew1) | exact HB.out)) hb); clear HB; have HB := n0_; clear n0_; (try clear hb); (try clear hb2); (try clear hk); (try clear hi)))
                                    go_ret
                                    exact ⟨by first | rfl | (simp [errW_none, errW_some] <;> rfl) | (simp only [← hji14, ← hji15]; first | rfl | (simp [errW_none, errW_some] <;> rfl)) | (simp [*, errW_none, errW_some] <;> rfl), by repeat (first | (with_reducible first | exact HB.out | apply below_alloc | apply pw_below_drewN | apply below_drew1) | exact HB.out)⟩
                                · rw [if_neg c54] at H
                                  have c54b0 : (t281 == 10) = false := beq_eq_false_iff_ne.mpr c54
                                  have c54b1 : (t281 != 10) = true := bne_iff_ne.mpr c54
                                  obtain rfl := Option.some.inj H
                                  go_wp2_with (first | ((with_reducible refine gate_callee (f := 14) rfl ?_); refine goesL_ (some 170) rfl rfl Try.func14 (by kernel_rfl) rfl #[.int .i64 t270, .int .i64 t271] rfl (by (try simp only [List.map_toArray, List.map_cons, List.map_nil]); first | done | rfl | (simp only [List.length_drop, List.length_take]; rfl)) ?_; (with_reducible refine (wager_Euclid.calls kj30 t270 t271 t279 t280 t281 _ A53.out).mono ?_); rintro e w64 ⟨rfl, hb⟩; refine ⟨_, rfl, ?_⟩; have n0_ := Aside0.mk (below_step (by repeat (first | (with_reducible first | exact HB.out | apply below_alloc | apply pw_below_drewN | apply below_drew1) | exact HB.out)) hb); clear HB; have HB := n0_; clear n0_; (try clear hb); (try clear hb2); (try clear hk); (try clear hi)))
                                  go_ret
                                  exact ⟨by first | rfl | (simp [errW_none, errW_some] <;> rfl) | (simp only [← hji14, ← hji15]; first | rfl | (simp [errW_none, errW_some] <;> rfl)) | (simp [*, errW_none, errW_some] <;> rfl), by repeat (first | (with_reducible first | exact HB.out | apply below_alloc | apply pw_below_drewN | apply below_drew1) | exact HB.out)⟩
                      · rw [if_neg c25] at H
                        have c25b0 : (t272 == 0) = false := beq_eq_false_iff_ne.mpr c25
                        have c25b1 : (t272 != 0) = true := bne_iff_ne.mpr c25
                        by_cases c65 : t272 = 10
                        · rw [if_pos c65] at H
                          have c65b0 : (t272 == 10) = true := beq_iff_eq.mpr c65
                          have c65b1 : (t272 != 10) = false := bne_eq_false_iff_eq.mpr c65
                          clear c65
                          by_cases c66 : t270 = 0
                          · rw [if_pos c66] at H
                            have c66b0 : (t270 == 0) = true := beq_iff_eq.mpr c66
                            have c66b1 : (t270 != 0) = false := bne_eq_false_iff_eq.mpr c66
                            clear c66
                            by_cases c67 : t271 = 0
                            · rw [if_pos c67] at H
                              have c67b0 : (t271 == 0) = true := beq_iff_eq.mpr c67
                              have c67b1 : (t271 != 0) = false := bne_eq_false_iff_eq.mpr c67
                              clear c67
                              by_cases c68 : x20_18 = true
                              · subst c68
                                have H1 : (some false) = some r := by rw [if_pos rfl] at H; exact H
                                clear H
                                have H := H1
                                clear H1
                                obtain rfl := Option.some.inj H
                                go_wp2
                                go_ret
                                exact ⟨by first | rfl | (simp [errW_none, errW_some] <;> rfl) | (simp only [← hji14, ← hji15]; first | rfl | (simp [errW_none, errW_some] <;> rfl)) | (simp [*, errW_none, errW_some] <;> rfl), by repeat (first | (with_reducible first | exact HB.out | apply below_alloc | apply pw_below_drewN | apply below_drew1) | exact HB.out)⟩
                              · replace c68 := Bool.eq_false_iff.mpr c68
                                subst c68
                                have H1 : ((drovewaylaw07_alive.f).bind fun t277 => (some t277)) = some r := by rw [if_neg (show ¬ (false = true) by decide)] at H; exact H
                                clear H
                                have H := H1
                                clear H1
                                replace H := Option.bind_eq_some_iff.mp H
                                obtain ⟨t277, A690, H⟩ := H
                                replace H : (some t277) = some r := H
                                have A69 := Aside0.mk A690
                                clear A690
                                obtain rfl := Option.some.inj H
                                go_wp2_with (first | (go_at_call 19; (with_reducible refine (drovewaylaw07_alive.calls  t277 _ A69.out).mono ?_); rintro e w70 ⟨rfl, hb⟩; have n0_ := Aside0.mk (below_step (by repeat (first | (with_reducible first | exact HB.out | apply below_alloc | apply pw_below_drewN | apply below_drew1) | exact HB.out)) hb); clear HB; have HB := n0_; clear n0_; (try clear hb); (try clear hb2); (try clear hk); (try clear hi)))
                                go_ret
                                exact ⟨by first | rfl | (simp [errW_none, errW_some] <;> rfl) | (simp only [← hji14, ← hji15]; first | rfl | (simp [errW_none, errW_some] <;> rfl)) | (simp [*, errW_none, errW_some] <;> rfl), by repeat (first | (with_reducible first | exact HB.out | apply below_alloc | apply pw_below_drewN | apply below_drew1) | exact HB.out)⟩
                            · rw [if_neg c67] at H
                              have c67b0 : (t271 == 0) = false := beq_eq_false_iff_ne.mpr c67
                              have c67b1 : (t271 != 0) = true := bne_iff_ne.mpr c67
                              obtain rfl := Option.some.inj H
                              go_wp2
                              go_ret
                              exact ⟨by first | rfl | (simp [errW_none, errW_some] <;> rfl) | (simp only [← hji14, ← hji15]; first | rfl | (simp [errW_none, errW_some] <;> rfl)) | (simp [*, errW_none, errW_some] <;> rfl), by repeat (first | (with_reducible first | exact HB.out | apply below_alloc | apply pw_below_drewN | apply below_drew1) | exact HB.out)⟩
                          · rw [if_neg c66] at H
                            have c66b0 : (t270 == 0) = false := beq_eq_false_iff_ne.mpr c66
                            have c66b1 : (t270 != 0) = true := bne_iff_ne.mpr c66
                            obtain rfl := Option.some.inj H
                            go_wp2
                            go_ret
                            exact ⟨by first | rfl | (simp [errW_none, errW_some] <;> rfl) | (simp only [← hji14, ← hji15]; first | rfl | (simp [errW_none, errW_some] <;> rfl)) | (simp [*, errW_none, errW_some] <;> rfl), by repeat (first | (with_reducible first | exact HB.out | apply below_alloc | apply pw_below_drewN | apply below_drew1) | exact HB.out)⟩
                        · rw [if_neg c65] at H
                          have c65b0 : (t272 == 10) = false := beq_eq_false_iff_ne.mpr c65
                          have c65b1 : (t272 != 10) = true := bne_iff_ne.mpr c65
                          obtain rfl := Option.some.inj H
                          go_wp2
                          go_ret
                          exact ⟨by first | rfl | (simp [errW_none, errW_some] <;> rfl) | (simp only [← hji14, ← hji15]; first | rfl | (simp [errW_none, errW_some] <;> rfl)) | (simp [*, errW_none, errW_some] <;> rfl), by repeat (first | (with_reducible first | exact HB.out | apply below_alloc | apply pw_below_drewN | apply below_drew1) | exact HB.out)⟩

/-- THE ONE PURE STATEMENT of drovewaylaw07_WagerEuclidean: yours. -/
def drovewaylaw07_WagerEuclidean.Pure : Prop := ∀ (a0 : Int) (a1 : Int) (a2 : Int), (Lit.int .u64 a0).wf = true → (Lit.int .u64 a1).wf = true → (Lit.int .u64 a2).wf = true → ∃ k, drovewaylaw07_WagerEuclidean.f k a0 a1 a2 = some true
theorem drovewaylaw07_WagerEuclidean.walk (P : drovewaylaw07_WagerEuclidean.Pure) (a0 : Int) (a1 : Int) (a2 : Int) (w : World) (w0 : (Lit.int .u64 a0).wf = true) (w1 : (Lit.int .u64 a1).wf = true) (w2 : (Lit.int .u64 a2).wf = true) :
    Calls Try.prog 8 #[.int .u64 a0, .int .u64 a1, .int .u64 a2] w fun e w' => e = .returned (.bool true) ∧ Below w.heap.size w w' := by
  obtain ⟨k, h⟩ := P a0 a1 a2 w0 w1 w2
  refine (drovewaylaw07_WagerEuclidean.calls k a0 a1 a2 true w h).mono ?_
  rintro e w' ⟨rfl, hd⟩
  exact ⟨rfl, hd⟩

end Go.Proofs.Ytcngcilinlcmeaa.P
