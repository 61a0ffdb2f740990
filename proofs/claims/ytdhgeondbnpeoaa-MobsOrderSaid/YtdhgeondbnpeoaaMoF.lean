/- The theorem of MobsOrder, proved; part 6 of 7: its texts, merged. -/
import Derived.Test.YtdhgeondbnpeoaaMoE
import Derived.Calls
import Derived.Conc.Beside
import Derived.Laws.Sem
import Derived.Conc.CrowdRun
import Derived.Conc.CommBuf
import Derived.Conc.WgGenN3
import Derived.Test.YtdhgeondbnpeoaaProg
import Derived.KernelRfl
import Derived.Below
import Derived.Deep.Draws
import Derived.Deep.AppendLies
import Derived.Maps.AppendAt
import Derived.OwnWalk
import Derived.Laws.BytesArg
import Derived.Laws.MakeOwn
import Derived.Laws.OwnMore
import Derived.Deep.OwnRows
import Derived.Tactics
import Derived.Lib.ConvBytes
import Derived.Laws.Slices
import Derived.WalkKit
import Derived.RowKit3
import Derived.Deep.LoopGhost
import Derived.Deep.QuietTactic
import Derived.BigQuiet
import Derived.WideLaws
import Derived.Deep.DeepCutAuto
import Derived.Deep.CutBlock
import Derived.Deep.RegionHeld3
import Derived.Laws.Rows
import Derived.Lib.AppendStr
import Derived.ArgAppend
import Derived.Laws.IdiomCopy
import Derived.RowKit
import Derived.OrdersHeld
import Derived.Laws.BitsLemmas
import Derived.Laws.StructEq
import Derived.Maps.OwnOps
import Derived.DeepKeys4
import Derived.WalkSpells
import Derived.Maps.Keyed
import Derived.SizedLaws
import Derived.ChangeSlices
set_option linter.unnecessarySimpa false
set_option linter.unusedVariables false
set_option linter.unusedSimpArgs false
namespace Go.Proofs.Ytdhgeondbnpeoaa.P
open Go.RowKit Go.Proofs.YtdhgeondbnpeoaaW.PrintWords Go.Proofs.YtdhgeondbnpeoaaW.PrintLast Go.Proofs.YtdhgeondbnpeoaaW.PrintMore
attribute [local go_sem] max2_int min2_int max_two min_two max_three min_three max_four min_four
mutual
def mobs_finer.l0 : Nat → List Int → List Int → Int → Int → Option (Bool)
 |0, _, _, _, _ => none
 |k + 1, x0, x1, x8, x9 => if x9 < x8 then (mobs_finer.l1 k x0 x1 x9 x8 x9 x9 0) else (some true)
def mobs_finer.l1 : Nat → List Int → List Int → Int → Int → Int → Int → Int → Option (Bool)
 |0, _, _, _, _, _, _, _ => none
 |k + 1, x0, x1, x5, x8, x9, x12, x13 => if x13 < x12 then (if 0 ≤ x5 then (if x5 < (x0.length : Int) then (if 0 ≤ x13 then (if x13 < (x0.length : Int) then (if (rd x0 x5) = (rd x0 x13) then (if x5 < (x1.length : Int) then (if x13 < (x1.length : Int) then (if (rd x1 x5) = (rd x1 x13) then (mobs_finer.l1 k x0 x1 x5 x8 x9 x12 (wrap64 (x13 + 1))) else (some false)) else (none)) else (none)) else (mobs_finer.l1 k x0 x1 x5 x8 x9 x12 (wrap64 (x13 + 1)))) else (none)) else (none)) else (none)) else (none)) else (mobs_finer.l0 k x0 x1 x8 (wrap64 (x9 + 1)))
end
def mobs_finer.f (k : Nat) (l0 : List Int) (l1 : List Int) : Option (Bool) := mobs_finer.l0 k l0 l1 (l0.length : Int) 0
set_option maxHeartbeats 8000000 in
set_option maxRecDepth 100000 in
theorem mobs_finer.calls (k : Nat) (A0 : Option Addr) (c0 : Nat) (l0 : List Int) (A1 : Option Addr) (c1 : Nat) (l1 : List Int) (r : Bool) (w : World) (hr0 : Kd.C (Kd.int .i64) w A0 l0.length l0) (hc0 : l0.length ≤ c0) (hr1 : Kd.C (Kd.int .i64) w A1 l1.length l1) (hc1 : l1.length ≤ c1) (h : mobs_finer.f k l0 l1 = some r) :
  Calls Tra.prog 57 #[.slice A0 l0.length c0, .slice A1 l1.length c1] w fun e w' => e = .returned (.bool r) ∧ Drawn0 w w' := by
 have HR0 := As0.mk hr0
 have HC0 := As0.mk hc0
 clear hr0 hc0
 have HR1 := As0.mk hr1
 have HC1 := As0.mk hc1
 clear hr1 hc1
 have H : (mobs_finer.l0 k l0 l1 (l0.length : Int) 0) = some r := h
 clear h
 have H' := As0.mk H
 clear H
 go_enter Tra.func57, Tra.ntmps57
 go_wp2
 repeat (go_quiet (fail); try go_wp2)
 go_loopg [9] k (fun kq v9 w' => ∃ (x9_1 : Int), v9 = .int .i64 x9_1 ∧ As0 (mobs_finer.l0 kq l0 l1 (l0.length : Int) x9_1 = some r) ∧ As0 (kq ≤ k) ∧ Drawn0 w w')
 case atStart => exact ⟨(0), (by first | rfl | (simp; done) | (simp [*]; done)), H', ⟨Nat.le_refl _⟩, by repeat (first | exact Drawn0.refl _ | apply Drawn0.step)⟩
 case round =>
  clear H'
  try clear c1
  try clear p2
  obtain ⟨x9_1, rfl, HA, HK1, ⟨m1, rfl⟩⟩ := hrel
  cases gk with
  |zero => exact absurd HA.out (by simp [mobs_finer.l0])
  |succ k1 =>
   have H := HA.out
   clear HA
   simp only [mobs_finer.l0] at H
   by_cases c3 : x9_1 < (l0.length : Int)
   ·rw [if_pos c3] at H
    have c3b0 : decide (x9_1 < (l0.length : Int)) = true := decide_eq_true c3
    clear c3
    have H' := As0.mk H
    clear H
    go_wp2
    repeat (go_quiet (fail); try go_wp2)
    go_loopg [13] k1 (fun kq v13 w' => ∃ (x13_2 : Int), v13 = .int .i64 x13_2 ∧ As0 (mobs_finer.l1 kq l0 l1 x9_1 (l0.length : Int) x9_1 x9_1 x13_2 = some r) ∧ As0 (kq ≤ k1) ∧ Drawn0 w w')
    case atStart => exact ⟨(0), (by first | rfl | (simp; done) | (simp [*]; done)), H', ⟨Nat.le_refl _⟩, by repeat (first | exact Drawn0.refl _ | apply Drawn0.step)⟩
    case round =>
     clear H'
     try clear c1
     try clear p2
     try clear c3
     try clear c3b0
     try clear p2
     obtain ⟨x13_2, rfl, HA, HK2, ⟨m2, rfl⟩⟩ := hrel
     cases gk with
     |zero => exact absurd HA.out (by simp [mobs_finer.l1])
     |succ k2 =>
      have H := HA.out
      clear HA
      simp only [mobs_finer.l1] at H
      by_cases c4 : x13_2 < x9_1
      ·rw [if_pos c4] at H
       have c4b0 : decide (x13_2 < x9_1) = true := decide_eq_true c4
       clear c4
       by_cases c5 : 0 ≤ x9_1
       ·rw [if_pos c5] at H
        have c5b0 : decide (0 ≤ x9_1) = true := decide_eq_true c5
        clear c5
        by_cases c6 : x9_1 < (l0.length : Int)
        ·rw [if_pos c6] at H
         have c6b0 : decide (x9_1 < (l0.length : Int)) = true := decide_eq_true c6
         clear c6
         by_cases c7 : 0 ≤ x13_2
         ·rw [if_pos c7] at H
          have c7b0 : decide (0 ≤ x13_2) = true := decide_eq_true c7
          clear c7
          by_cases c8 : x13_2 < (l0.length : Int)
          ·rw [if_pos c8] at H
           have c8b0 : decide (x13_2 < (l0.length : Int)) = true := decide_eq_true c8
           clear c8
           by_cases c9 : (rd l0 x9_1) = (rd l0 x13_2)
           ·rw [if_pos c9] at H
            have c9b0 : ((rd l0 x9_1) == (rd l0 x13_2)) = true := beq_iff_eq.mpr c9
            have c9b1 : ((rd l0 x9_1) != (rd l0 x13_2)) = false := bne_eq_false_iff_eq.mpr c9
            clear c9
            by_cases c10 : x9_1 < (l1.length : Int)
            ·rw [if_pos c10] at H
             have c10b0 : decide (x9_1 < (l1.length : Int)) = true := decide_eq_true c10
             clear c10
             by_cases c11 : x13_2 < (l1.length : Int)
             ·rw [if_pos c11] at H
              have c11b0 : decide (x13_2 < (l1.length : Int)) = true := decide_eq_true c11
              clear c11
              by_cases c12 : (rd l1 x9_1) = (rd l1 x13_2)
              ·rw [if_pos c12] at H
               have c12b0 : ((rd l1 x9_1) == (rd l1 x13_2)) = true := beq_iff_eq.mpr c12
               have c12b1 : ((rd l1 x9_1) != (rd l1 x13_2)) = false := bne_eq_false_iff_eq.mpr c12
               clear c12
               have H' := As0.mk H
               clear H
               have p353 : 0 ≤ (x9_1 : Int) := of_decide_eq_true (by first | (with_reducible assumption) | assumption)
               have q353 : x9_1 < (l0.length : Int) := of_decide_eq_true (by first | (with_reducible assumption) | assumption)
               obtain ⟨ad353, e353, hx353_0⟩ := Kd.at_int HR0.out x9_1 p353 q353
               cases e353
               replace p353 := eq_true p353
               replace q353 := eq_true q353
               have p354 : 0 ≤ (x13_2 : Int) := of_decide_eq_true (by first | (with_reducible assumption) | assumption)
               have q354 : x13_2 < (l0.length : Int) := of_decide_eq_true (by first | (with_reducible assumption) | assumption)
               obtain ⟨ad354, e354, hx354_0⟩ := Kd.at_int HR0.out x13_2 p354 q354
               obtain rfl : ad353 = ad354 := (by injection e354)
               replace p354 := eq_true p354
               replace q354 := eq_true q354
               have p355 : 0 ≤ (x9_1 : Int) := of_decide_eq_true (by first | (with_reducible assumption) | assumption)
               have q355 : x9_1 < (l1.length : Int) := of_decide_eq_true (by first | (with_reducible assumption) | assumption)
               obtain ⟨ad355, e355, hx355_0⟩ := Kd.at_int HR1.out x9_1 p355 q355
               cases e355
               replace p355 := eq_true p355
               replace q355 := eq_true q355
               have p356 : 0 ≤ (x13_2 : Int) := of_decide_eq_true (by first | (with_reducible assumption) | assumption)
               have q356 : x13_2 < (l1.length : Int) := of_decide_eq_true (by first | (with_reducible assumption) | assumption)
               obtain ⟨ad356, e356, hx356_0⟩ := Kd.at_int HR1.out x13_2 p356 q356
               obtain rfl : ad355 = ad356 := (by injection e356)
               replace p356 := eq_true p356
               replace q356 := eq_true q356
               go_wp2
               repeat (go_quiet (fail); try go_wp2)
               go_roundg k2
               case measure => have := HK1.out; have := HK2.out; omega
               case rel => exact ⟨(wrap64 (x13_2 + 1)), (by first | rfl | (simp; done) | (simp [*]; done)), H', ⟨by have := HK1.out; have := HK2.out; omega⟩, by repeat (first | exact Drawn0.refl _ | apply Drawn0.step)⟩
              ·rw [if_neg c12] at H
               have c12b0 : ((rd l1 x9_1) == (rd l1 x13_2)) = false := beq_eq_false_iff_ne.mpr c12
               have c12b1 : ((rd l1 x9_1) != (rd l1 x13_2)) = true := bne_iff_ne.mpr c12
               obtain rfl := Option.some.inj H
               have p353 : 0 ≤ (x9_1 : Int) := of_decide_eq_true (by first | (with_reducible assumption) | assumption)
               have q353 : x9_1 < (l0.length : Int) := of_decide_eq_true (by first | (with_reducible assumption) | assumption)
               obtain ⟨ad353, e353, hx353_0⟩ := Kd.at_int HR0.out x9_1 p353 q353
               cases e353
               replace p353 := eq_true p353
               replace q353 := eq_true q353
               have p354 : 0 ≤ (x13_2 : Int) := of_decide_eq_true (by first | (with_reducible assumption) | assumption)
               have q354 : x13_2 < (l0.length : Int) := of_decide_eq_true (by first | (with_reducible assumption) | assumption)
               obtain ⟨ad354, e354, hx354_0⟩ := Kd.at_int HR0.out x13_2 p354 q354
               obtain rfl : ad353 = ad354 := (by injection e354)
               replace p354 := eq_true p354
               replace q354 := eq_true q354
               have p355 : 0 ≤ (x9_1 : Int) := of_decide_eq_true (by first | (with_reducible assumption) | assumption)
               have q355 : x9_1 < (l1.length : Int) := of_decide_eq_true (by first | (with_reducible assumption) | assumption)
               obtain ⟨ad355, e355, hx355_0⟩ := Kd.at_int HR1.out x9_1 p355 q355
               cases e355
               replace p355 := eq_true p355
               replace q355 := eq_true q355
               have p356 : 0 ≤ (x13_2 : Int) := of_decide_eq_true (by first | (with_reducible assumption) | assumption)
               have q356 : x13_2 < (l1.length : Int) := of_decide_eq_true (by first | (with_reducible assumption) | assumption)
               obtain ⟨ad356, e356, hx356_0⟩ := Kd.at_int HR1.out x13_2 p356 q356
               obtain rfl : ad355 = ad356 := (by injection e356)
               replace p356 := eq_true p356
               replace q356 := eq_true q356
               go_wp2
               repeat (go_quiet (fail); try go_wp2)
               go_ret
               exact ⟨by first | rfl | (simp; done) | (simp [*]; done), by repeat (first | exact Drawn0.refl _ | apply Drawn0.step)⟩
             ·rw [if_neg c11] at H
              exact absurd H (by simp)
            ·rw [if_neg c10] at H
             exact absurd H (by simp)
           ·rw [if_neg c9] at H
            have c9b0 : ((rd l0 x9_1) == (rd l0 x13_2)) = false := beq_eq_false_iff_ne.mpr c9
            have c9b1 : ((rd l0 x9_1) != (rd l0 x13_2)) = true := bne_iff_ne.mpr c9
            have H' := As0.mk H
            clear H
            have p353 : 0 ≤ (x9_1 : Int) := of_decide_eq_true (by first | (with_reducible assumption) | assumption)
            have q353 : x9_1 < (l0.length : Int) := of_decide_eq_true (by first | (with_reducible assumption) | assumption)
            obtain ⟨ad353, e353, hx353_0⟩ := Kd.at_int HR0.out x9_1 p353 q353
            cases e353
            replace p353 := eq_true p353
            replace q353 := eq_true q353
            have p354 : 0 ≤ (x13_2 : Int) := of_decide_eq_true (by first | (with_reducible assumption) | assumption)
            have q354 : x13_2 < (l0.length : Int) := of_decide_eq_true (by first | (with_reducible assumption) | assumption)
            obtain ⟨ad354, e354, hx354_0⟩ := Kd.at_int HR0.out x13_2 p354 q354
            obtain rfl : ad353 = ad354 := (by injection e354)
            replace p354 := eq_true p354
            replace q354 := eq_true q354
            go_wp2
            repeat (go_quiet (fail); try go_wp2)
            go_roundg k2
            case measure => have := HK1.out; have := HK2.out; omega
            case rel => exact ⟨(wrap64 (x13_2 + 1)), (by first | rfl | (simp; done) | (simp [*]; done)), H', ⟨by have := HK1.out; have := HK2.out; omega⟩, by repeat (first | exact Drawn0.refl _ | apply Drawn0.step)⟩
          ·rw [if_neg c8] at H
           exact absurd H (by simp)
         ·rw [if_neg c7] at H
          exact absurd H (by simp)
        ·rw [if_neg c6] at H
         exact absurd H (by simp)
       ·rw [if_neg c5] at H
        exact absurd H (by simp)
      ·rw [if_neg c4] at H
       have c4b0 : decide (x13_2 < x9_1) = false := decide_eq_false c4
       clear c4
       have H' := As0.mk H
       clear H
       go_wp2
       repeat (go_quiet (fail); try go_wp2)
       go_roundg k2
       case measure => have := HK1.out; have := HK2.out; omega
       case rel => exact ⟨(wrap64 (x9_1 + 1)), (by first | rfl | (simp; done) | (simp [*]; done)), H', ⟨by have := HK1.out; have := HK2.out; omega⟩, by repeat (first | exact Drawn0.refl _ | apply Drawn0.step)⟩
   ·rw [if_neg c3] at H
    have c3b0 : decide (x9_1 < (l0.length : Int)) = false := decide_eq_false c3
    clear c3
    obtain rfl := Option.some.inj H
    go_wp2
    repeat (go_quiet (fail); try go_wp2)
    go_ret
    exact ⟨by first | rfl | (simp; done) | (simp [*]; done), by repeat (first | exact Drawn0.refl _ | apply Drawn0.step)⟩
def mobs_Finer.f (k : Nat) (l0 : List Int) (l1 : List Int) : Option (Bool × Int) := (mobs_read.f k (([l0, l1] : List (List Int)))).bind fun t360 => (if t360 = 0 then ((mobs_finer.f k l0 l1).bind fun t361 => (some (t361, 0))) else (some (false, t360)))
set_option maxHeartbeats 8000000 in
set_option maxRecDepth 100000 in
theorem mobs_Finer.calls (k : Nat) (P0_ : Nat → Prop) (A0 : Option Addr) (c0 : Nat) (l0 : List Int) (P1_ : Nat → Prop) (A1 : Option Addr) (c1 : Nat) (l1 : List Int) (r1 : Bool) (r2 : Int) (w : World) (hs0 : Kd.V (Kd.int .i64) 3 w w.heap.size (fun k_ => P0_ k_) (.slice A0 l0.length c0) l0) (hs1 : Kd.V (Kd.int .i64) 3 w w.heap.size (fun k_ => P1_ k_) (.slice A1 l1.length c1) l1) (h : mobs_Finer.f k l0 l1 = some (r1, r2)) :
  Calls Tra.prog 32 #[.slice A0 l0.length c0, .slice A1 l1.length c1] w fun e w' => e = .returned (.tuple #[.bool r1, .int .i64 r2]) ∧ Below w.heap.size w w' := by
 have HO0 := As0.mk (show Kd.V (Kd.int .i64) 3 w w.heap.size (fun k_ => ((P0_ k_ ∨ P1_ k_) ∨ w.heap.size ≤ k_)) (.slice A0 l0.length c0) l0 from Kd.V_mono hs0 (fun k_ hk => .inl (.inl hk)))
 have HO1 := As0.mk (show Kd.V (Kd.int .i64) 3 w w.heap.size (fun k_ => ((P0_ k_ ∨ P1_ k_) ∨ w.heap.size ≤ k_)) (.slice A1 l1.length c1) l1 from Kd.V_mono hs1 (fun k_ hk => .inl (.inr hk)))
 have HB := As0.mk (Below.refl w.heap.size w)
 have H : ((mobs_read.f k (([l0, l1] : List (List Int)))).bind fun t360 => (if t360 = 0 then ((mobs_finer.f k l0 l1).bind fun t361 => (some (t361, 0))) else (some (false, t360)))) = some (r1, r2) := h
 clear h
 obtain ⟨y357, hy357⟩ : ∃ y_ : List (List Int), y_ = (([l0, l1] : List (List Int))) := ⟨_, rfl⟩
 replace H : ((mobs_read.f k y357).bind fun t360 => (if t360 = 0 then ((mobs_finer.f k l0 l1).bind fun t361 => (some (t361, 0))) else (some (false, t360)))) = some (r1, r2) := by first | (rw [hy357]; with_reducible exact H) | (have H2_ := (Option.bind_some _ _).symm.trans H; rw [hy357]; with_reducible exact H2_) | (have H2_ := (Option.bind_some _ _).symm.trans H; with_reducible exact H2_) | with_reducible exact H | (rw [hy357]; exact H) | exact H
 have Ny357 := As0.mk hy357
 clear hy357
 replace H := Option.bind_eq_some_iff.mp H
 obtain ⟨t360, A30, H⟩ := H
 replace H : (if t360 = 0 then ((mobs_finer.f k l0 l1).bind fun t361 => (some (t361, 0))) else (some (false, t360))) = some (r1, r2) := H
 have A3 := As0.mk A30
 clear A30
 by_cases c4 : t360 = 0
 ·rw [if_pos c4] at H
  have c4b0 : (t360 == 0) = true := beq_iff_eq.mpr c4
  have c4b1 : (t360 != 0) = false := bne_eq_false_iff_eq.mpr c4
  clear c4
  replace H := Option.bind_eq_some_iff.mp H
  obtain ⟨t361, A50, H⟩ := H
  replace H : (some (t361, 0)) = some (r1, r2) := H
  have A5 := As0.mk A50
  clear A50
  simp only [Option.some.injEq, Prod.mk.injEq] at H
  obtain ⟨rfl, rfl⟩ := H
  go_enter Tra.func32, Tra.ntmps32
  go_wp2_with (first | ((with_reducible refine gate_dst (N := 9) rfl ?_); refine Kd.N_lit (Kd.slice 3 (Kd.int .i64)) _ 29 ?hg (N' := 9) ?hd (xs := ([l0, l1] : List (List Int))) (inner := [.slice A0 l0.length c0, .slice A1 l1.length c1]) (ok := (fun k_ => ((P0_ k_ ∨ P1_ k_) ∨ w.heap.size ≤ k_))) (okp := (fun k_ => ((P0_ k_ ∨ P1_ k_) ∨ w.heap.size ≤ k_))) ?hr ?hp (fun _ hk => hk) ((show ∀ k_, w.heap.size ≤ k_ → (fun k_ => ((P0_ k_ ∨ P1_ k_) ∨ w.heap.size ≤ k_)) k_ from fun k_ hk => (.inr (Nat.le_trans (below_size (by repeat (first | (with_reducible first | exact HB.out | apply below_alloc | apply pw_below_drewN | apply below_drew1) | exact HB.out))) hk))) _ (Nat.le_refl _)) (Below.refl _ _) (Nat.le_refl _) (by simp) ?_; (case hd => rfl); (case hg => rfl); (case hr => first | (go_simp; done) | (go_simp; rfl)); (case hp => exact (Reps.one (show Kd.FK (Kd.slice 3 (Kd.int .i64)) _ _ l0 [.slice A0 l0.length c0] from (Kd.FK_slice_mk (Kd.V_reads' (Kd.V_mono (ok' := (fun k_ => ((P0_ k_ ∨ P1_ k_) ∨ w.heap.size ≤ k_))) (HO0.out) (fun k_ hk => hk))).2.1 (Kd.V_F (Kd.V_mono (ok' := (fun k_ => ((P0_ k_ ∨ P1_ k_) ∨ w.heap.size ≤ k_))) (HO0.out) (fun k_ hk => hk))))) (Reps.one (show Kd.FK (Kd.slice 3 (Kd.int .i64)) _ _ l1 [.slice A1 l1.length c1] from (Kd.FK_slice_mk (Kd.V_reads' (Kd.V_mono (ok' := (fun k_ => ((P0_ k_ ∨ P1_ k_) ∨ w.heap.size ≤ k_))) (HO1.out) (fun k_ hk => hk))).2.1 (Kd.V_F (Kd.V_mono (ok' := (fun k_ => ((P0_ k_ ∨ P1_ k_) ∨ w.heap.size ≤ k_))) (HO1.out) (fun k_ hk => hk))))) (Reps.none _ _)))); intro v358 w6 ho7 hb hg_ hnew_; clear hg_ hnew_; (first | rw [← Ny357.out] at ho7 | (simp only [Int.reduceToNat] at ho7; rw [← Ny357.out] at ho7)); have n0_ := As0.mk (Kd.V_elder' (by (with_reducible repeat (first | apply Kd.V_alloc | apply Kd.V_drewN | apply Kd.V_drew)); exact HO0.out) (Kd.N_base ho7) hb); have n1_ := As0.mk (Kd.V_elder' (by (with_reducible repeat (first | apply Kd.V_alloc | apply Kd.V_drewN | apply Kd.V_drew)); exact HO1.out) (Kd.N_base ho7) hb); have n2_ := As0.mk (Kd.N_lower ho7 (below_size (by repeat (first | (with_reducible first | exact HB.out | apply below_alloc | apply pw_below_drewN | apply below_drew1) | exact HB.out)))); have n3_ := As0.mk (below_step (by repeat (first | (with_reducible first | exact HB.out | apply below_alloc | apply pw_below_drewN | apply below_drew1) | exact HB.out)) hb); clear HO0; clear HO1; clear HB; have HO0 := n0_; have HO1 := n1_; have HO359 := n2_; have HB := n3_; clear n0_ n1_ n2_ n3_; clear hb ho7; obtain ⟨Ao8, co8, eo8⟩ := Kd.N_slice HO359.out; subst eo8) | ((with_reducible refine gate_callee (f := 49) rfl ?_); refine goesL_ (some 10) rfl rfl Tra.func49 (by kernel_rfl) rfl #[.slice Ao8 y357.length co8] rfl (by (try simp only [List.map_toArray, List.map_cons, List.map_nil]); first | done | rfl | (simp only [List.length_drop, List.length_take]; rfl)) ?_; (with_reducible refine (mobs_read.calls k _ _ y357 t360 _ ?side1 ?side2 A3.out).mono ?_); (case side1 => repeat (first | exact (Kd.N_reads' HO359.out).2.2 | (with_reducible refine Kd.C_alloc ?_ _) | (with_reducible refine Kd.C_drewN ?_ _) | (with_reducible refine Kd.C_drew ?_))); (case side2 => exact (Kd.N_reads' HO359.out).2.1); rintro e w9 ⟨rfl, hb⟩; refine ⟨_, rfl, ?_⟩; have n0_ := As0.mk (Kd.V_below (by (with_reducible repeat (first | apply Kd.V_alloc | apply Kd.V_drewN | apply Kd.V_drew)); exact HO0.out) hb); have n1_ := As0.mk (Kd.V_below (by (with_reducible repeat (first | apply Kd.V_alloc | apply Kd.V_drewN | apply Kd.V_drew)); exact HO1.out) hb); have n2_ := As0.mk (Kd.N_below (by (with_reducible repeat (first | apply Kd.N_alloc | apply Kd.N_drewN | apply Kd.N_drew)); exact HO359.out) hb); have n3_ := As0.mk (below_step (by repeat (first | (with_reducible first | exact HB.out | apply below_alloc | apply pw_below_drewN | apply below_drew1) | exact HB.out)) hb); clear HO0; clear HO1; clear HO359; clear HB; have HO0 := n0_; have HO1 := n1_; have HO359 := n2_; have HB := n3_; clear n0_ n1_ n2_ n3_; (try clear hb); (try clear hb2); (try clear hk); (try clear hi)) | ((with_reducible refine gate_callee (f := 57) rfl ?_); refine goesL_ (some 16) rfl rfl Tra.func57 (by kernel_rfl) rfl #[.slice A0 l0.length c0, .slice A1 l1.length c1] rfl (by (try simp only [List.map_toArray, List.map_cons, List.map_nil]); first | done | rfl | (simp only [List.length_drop, List.length_take]; rfl)) ?_; (with_reducible refine (mobs_finer.calls k _ _ l0 _ _ l1 t361 _ ?side1 ?side2 ?side3 ?side4 A5.out).mono ?_); (case side1 => repeat (first | exact (Kd.V_reads' HO0.out).2.2 | (with_reducible refine Kd.C_alloc ?_ _) | (with_reducible refine Kd.C_drewN ?_ _) | (with_reducible refine Kd.C_drew ?_))); (case side2 => exact (Kd.V_reads' HO0.out).2.1); (case side3 => repeat (first | exact (Kd.V_reads' HO1.out).2.2 | (with_reducible refine Kd.C_alloc ?_ _) | (with_reducible refine Kd.C_drewN ?_ _) | (with_reducible refine Kd.C_drew ?_))); (case side4 => exact (Kd.V_reads' HO1.out).2.1); rintro e w' ⟨rfl, ⟨nd, rfl⟩⟩; refine ⟨_, rfl, ?_⟩))
  go_ret2
  exact ⟨by first | rfl | (simp [errW_none, errW_some] <;> rfl) | (simp [*, errW_none, errW_some] <;> rfl), by repeat (first | (with_reducible first | exact HB.out | apply below_alloc | apply pw_below_drewN | apply below_drew1) | exact HB.out)⟩
 ·rw [if_neg c4] at H
  have c4b0 : (t360 == 0) = false := beq_eq_false_iff_ne.mpr c4
  have c4b1 : (t360 != 0) = true := bne_iff_ne.mpr c4
  simp only [Option.some.injEq, Prod.mk.injEq] at H
  obtain ⟨rfl, rfl⟩ := H
  go_enter Tra.func32, Tra.ntmps32
  go_wp2_with (first | ((with_reducible refine gate_dst (N := 9) rfl ?_); refine Kd.N_lit (Kd.slice 3 (Kd.int .i64)) _ 29 ?hg (N' := 9) ?hd (xs := ([l0, l1] : List (List Int))) (inner := [.slice A0 l0.length c0, .slice A1 l1.length c1]) (ok := (fun k_ => ((P0_ k_ ∨ P1_ k_) ∨ w.heap.size ≤ k_))) (okp := (fun k_ => ((P0_ k_ ∨ P1_ k_) ∨ w.heap.size ≤ k_))) ?hr ?hp (fun _ hk => hk) ((show ∀ k_, w.heap.size ≤ k_ → (fun k_ => ((P0_ k_ ∨ P1_ k_) ∨ w.heap.size ≤ k_)) k_ from fun k_ hk => (.inr (Nat.le_trans (below_size (by repeat (first | (with_reducible first | exact HB.out | apply below_alloc | apply pw_below_drewN | apply below_drew1) | exact HB.out))) hk))) _ (Nat.le_refl _)) (Below.refl _ _) (Nat.le_refl _) (by simp) ?_; (case hd => rfl); (case hg => rfl); (case hr => first | (go_simp; done) | (go_simp; rfl)); (case hp => exact (Reps.one (show Kd.FK (Kd.slice 3 (Kd.int .i64)) _ _ l0 [.slice A0 l0.length c0] from (Kd.FK_slice_mk (Kd.V_reads' (Kd.V_mono (ok' := (fun k_ => ((P0_ k_ ∨ P1_ k_) ∨ w.heap.size ≤ k_))) (HO0.out) (fun k_ hk => hk))).2.1 (Kd.V_F (Kd.V_mono (ok' := (fun k_ => ((P0_ k_ ∨ P1_ k_) ∨ w.heap.size ≤ k_))) (HO0.out) (fun k_ hk => hk))))) (Reps.one (show Kd.FK (Kd.slice 3 (Kd.int .i64)) _ _ l1 [.slice A1 l1.length c1] from (Kd.FK_slice_mk (Kd.V_reads' (Kd.V_mono (ok' := (fun k_ => ((P0_ k_ ∨ P1_ k_) ∨ w.heap.size ≤ k_))) (HO1.out) (fun k_ hk => hk))).2.1 (Kd.V_F (Kd.V_mono (ok' := (fun k_ => ((P0_ k_ ∨ P1_ k_) ∨ w.heap.size ≤ k_))) (HO1.out) (fun k_ hk => hk))))) (Reps.none _ _)))); intro v358 w10 ho11 hb hg_ hnew_; clear hg_ hnew_; (first | rw [← Ny357.out] at ho11 | (simp only [Int.reduceToNat] at ho11; rw [← Ny357.out] at ho11)); have n0_ := As0.mk (Kd.V_elder' (by (with_reducible repeat (first | apply Kd.V_alloc | apply Kd.V_drewN | apply Kd.V_drew)); exact HO0.out) (Kd.N_base ho11) hb); have n1_ := As0.mk (Kd.V_elder' (by (with_reducible repeat (first | apply Kd.V_alloc | apply Kd.V_drewN | apply Kd.V_drew)); exact HO1.out) (Kd.N_base ho11) hb); have n2_ := As0.mk (Kd.N_lower ho11 (below_size (by repeat (first | (with_reducible first | exact HB.out | apply below_alloc | apply pw_below_drewN | apply below_drew1) | exact HB.out)))); have n3_ := As0.mk (below_step (by repeat (first | (with_reducible first | exact HB.out | apply below_alloc | apply pw_below_drewN | apply below_drew1) | exact HB.out)) hb); clear HO0; clear HO1; clear HB; have HO0 := n0_; have HO1 := n1_; have HO359 := n2_; have HB := n3_; clear n0_ n1_ n2_ n3_; clear hb ho11; obtain ⟨Ao12, co12, eo12⟩ := Kd.N_slice HO359.out; subst eo12) | ((with_reducible refine gate_callee (f := 49) rfl ?_); refine goesL_ (some 10) rfl rfl Tra.func49 (by kernel_rfl) rfl #[.slice Ao12 y357.length co12] rfl (by (try simp only [List.map_toArray, List.map_cons, List.map_nil]); first | done | rfl | (simp only [List.length_drop, List.length_take]; rfl)) ?_; (with_reducible refine (mobs_read.calls k _ _ y357 t360 _ ?side1 ?side2 A3.out).mono ?_); (case side1 => repeat (first | exact (Kd.N_reads' HO359.out).2.2 | (with_reducible refine Kd.C_alloc ?_ _) | (with_reducible refine Kd.C_drewN ?_ _) | (with_reducible refine Kd.C_drew ?_))); (case side2 => exact (Kd.N_reads' HO359.out).2.1); rintro e w13 ⟨rfl, hb⟩; refine ⟨_, rfl, ?_⟩; have n0_ := As0.mk (Kd.V_below (by (with_reducible repeat (first | apply Kd.V_alloc | apply Kd.V_drewN | apply Kd.V_drew)); exact HO0.out) hb); have n1_ := As0.mk (Kd.V_below (by (with_reducible repeat (first | apply Kd.V_alloc | apply Kd.V_drewN | apply Kd.V_drew)); exact HO1.out) hb); have n2_ := As0.mk (Kd.N_below (by (with_reducible repeat (first | apply Kd.N_alloc | apply Kd.N_drewN | apply Kd.N_drew)); exact HO359.out) hb); have n3_ := As0.mk (below_step (by repeat (first | (with_reducible first | exact HB.out | apply below_alloc | apply pw_below_drewN | apply below_drew1) | exact HB.out)) hb); clear HO0; clear HO1; clear HO359; clear HB; have HO0 := n0_; have HO1 := n1_; have HO359 := n2_; have HB := n3_; clear n0_ n1_ n2_ n3_; (try clear hb); (try clear hb2); (try clear hk); (try clear hi)))
  go_ret2
  exact ⟨by first | rfl | (simp [errW_none, errW_some] <;> rfl) | (simp [*, errW_none, errW_some] <;> rfl), by repeat (first | (with_reducible first | exact HB.out | apply below_alloc | apply pw_below_drewN | apply below_drew1) | exact HB.out)⟩
mutual
def w6_MobsOrder.j0 : Nat → List Int → List Int → List Int → Bool → Option (Bool)
 |0, _, _, _, _ => none
 |k + 1, x0, x1, x2, x54 => if x54 = true then ((w6_alive.f).bind fun t366 => (some t366)) else ((mobs_Finer.f k x0 x0).bind fun bt367 => ((mobs_Finer.f k x0 x1).bind fun bt369 => ((mobs_Finer.f k x1 x0).bind fun bt371 => ((mobs_Finer.f k x1 x2).bind fun bt373 => ((mobs_Finer.f k x0 x2).bind fun bt375 => (if bt367.2 = 0 then (if bt369.2 = 0 then (if bt371.2 = 0 then (if bt373.2 = 0 then (if bt375.2 = 0 then (w6_MobsOrder.j1 k x0 x1 bt369.1 bt371.1 bt373.1 bt375.1 (!bt367.1)) else (w6_MobsOrder.j1 k x0 x1 bt369.1 bt371.1 bt373.1 bt375.1 true)) else (w6_MobsOrder.j1 k x0 x1 bt369.1 bt371.1 bt373.1 bt375.1 true)) else (w6_MobsOrder.j1 k x0 x1 bt369.1 bt371.1 bt373.1 bt375.1 true)) else (w6_MobsOrder.j1 k x0 x1 bt369.1 bt371.1 bt373.1 bt375.1 true)) else (w6_MobsOrder.j1 k x0 x1 bt369.1 bt371.1 bt373.1 bt375.1 true)))))))
def w6_MobsOrder.j1 : Nat → List Int → List Int → Bool → Bool → Bool → Bool → Bool → Option (Bool)
 |0, _, _, _, _, _, _, _ => none
 |k + 1, x0, x1, x9, x11, x13, x15, x107 => if x107 = true then (some false) else (if x9 = true then ((w6_same.f k x0 x1).bind fun t377 => (if (x11 == t377) = true then (if x13 = true then (if x15 = true then ((w6_alive.f).bind fun t378 => (some t378)) else (some false)) else ((w6_alive.f).bind fun t379 => (some t379))) else (some false))) else ((w6_same.f k x0 x1).bind fun t380 => (if (false == t380) = true then ((w6_alive.f).bind fun t381 => (some t381)) else (some false))))
end
def w6_MobsOrder.f (k : Nat) (l0 : List Int) (l1 : List Int) (l2 : List Int) : Option (Bool) := (w6_few.f l0 l1).bind fun t362 => (if t362 = true then (if (l2.length : Int) > 40 then (w6_MobsOrder.j0 k l0 l1 l2 true) else ((r6_IsParting.f k l0).bind fun t363 => (if t363 = true then ((r6_IsParting.f k l1).bind fun t364 => (if t364 = true then ((r6_IsParting.f k l2).bind fun t365 => (if t365 = true then (if (l0.length : Int) = (l1.length : Int) then (w6_MobsOrder.j0 k l0 l1 l2 ((l1.length : Int) != (l2.length : Int))) else (w6_MobsOrder.j0 k l0 l1 l2 true)) else (w6_MobsOrder.j0 k l0 l1 l2 true))) else (w6_MobsOrder.j0 k l0 l1 l2 true))) else (w6_MobsOrder.j0 k l0 l1 l2 true)))) else (w6_MobsOrder.j0 k l0 l1 l2 true))
set_option maxHeartbeats 8000000 in
set_option maxRecDepth 100000 in
theorem w6_MobsOrder.calls (k : Nat) (A0 : Option Addr) (c0 : Nat) (l0 : List Int) (A1 : Option Addr) (c1 : Nat) (l1 : List Int) (A2 : Option Addr) (c2 : Nat) (l2 : List Int) (r : Bool) (w : World) (hr0 : Kd.C (Kd.int .i64) w A0 l0.length l0) (hc0 : l0.length ≤ c0) (hr1 : Kd.C (Kd.int .i64) w A1 l1.length l1) (hc1 : l1.length ≤ c1) (hr2 : Kd.C (Kd.int .i64) w A2 l2.length l2) (hc2 : l2.length ≤ c2) (h : w6_MobsOrder.f k l0 l1 l2 = some r) :
  Calls Tra.prog 9 #[.slice A0 l0.length c0, .slice A1 l1.length c1, .slice A2 l2.length c2] w fun e w' => e = .returned (.bool r) ∧ Below w.heap.size w w' := by
 have HR0 := As0.mk hr0
 have HC0 := As0.mk hc0
 clear hr0 hc0
 have HR1 := As0.mk hr1
 have HC1 := As0.mk hc1
 clear hr1 hc1
 have HR2 := As0.mk hr2
 have HC2 := As0.mk hc2
 clear hr2 hc2
 have HB := As0.mk (Below.refl w.heap.size w)
 have H : ((w6_few.f l0 l1).bind fun t362 => (if t362 = true then (if (l2.length : Int) > 40 then (w6_MobsOrder.j0 k l0 l1 l2 true) else ((r6_IsParting.f k l0).bind fun t363 => (if t363 = true then ((r6_IsParting.f k l1).bind fun t364 => (if t364 = true then ((r6_IsParting.f k l2).bind fun t365 => (if t365 = true then (if (l0.length : Int) = (l1.length : Int) then (w6_MobsOrder.j0 k l0 l1 l2 ((l1.length : Int) != (l2.length : Int))) else (w6_MobsOrder.j0 k l0 l1 l2 true)) else (w6_MobsOrder.j0 k l0 l1 l2 true))) else (w6_MobsOrder.j0 k l0 l1 l2 true))) else (w6_MobsOrder.j0 k l0 l1 l2 true)))) else (w6_MobsOrder.j0 k l0 l1 l2 true))) = some r := h
 clear h
 have HC4 := As0.mk H
 clear H
 go_enter Tra.func9, Tra.ntmps9
 go_upto_region 1 with (fail)
 go_cut [54] (fun v54 wc => ∃ (kq : Nat) (x54_3 : Bool), v54 = .bool x54_3 ∧ As0 (w6_MobsOrder.j0 kq l0 l1 l2 x54_3 = some r) ∧ As0 (kq ≤ k) ∧ As0 (Below w.heap.size w wc))
 case first =>
  have H := HC4.out
  clear HC4
  replace H := Option.bind_eq_some_iff.mp H
  obtain ⟨t362, A50, H⟩ := H
  replace H : (if t362 = true then (if (l2.length : Int) > 40 then (w6_MobsOrder.j0 k l0 l1 l2 true) else ((r6_IsParting.f k l0).bind fun t363 => (if t363 = true then ((r6_IsParting.f k l1).bind fun t364 => (if t364 = true then ((r6_IsParting.f k l2).bind fun t365 => (if t365 = true then (if (l0.length : Int) = (l1.length : Int) then (w6_MobsOrder.j0 k l0 l1 l2 ((l1.length : Int) != (l2.length : Int))) else (w6_MobsOrder.j0 k l0 l1 l2 true)) else (w6_MobsOrder.j0 k l0 l1 l2 true))) else (w6_MobsOrder.j0 k l0 l1 l2 true))) else (w6_MobsOrder.j0 k l0 l1 l2 true)))) else (w6_MobsOrder.j0 k l0 l1 l2 true)) = some r := H
  have A5 := As0.mk A50
  clear A50
  by_cases c6 : t362 = true
  ·subst c6
   have H1 : (if (l2.length : Int) > 40 then (w6_MobsOrder.j0 k l0 l1 l2 true) else ((r6_IsParting.f k l0).bind fun t363 => (if t363 = true then ((r6_IsParting.f k l1).bind fun t364 => (if t364 = true then ((r6_IsParting.f k l2).bind fun t365 => (if t365 = true then (if (l0.length : Int) = (l1.length : Int) then (w6_MobsOrder.j0 k l0 l1 l2 ((l1.length : Int) != (l2.length : Int))) else (w6_MobsOrder.j0 k l0 l1 l2 true)) else (w6_MobsOrder.j0 k l0 l1 l2 true))) else (w6_MobsOrder.j0 k l0 l1 l2 true))) else (w6_MobsOrder.j0 k l0 l1 l2 true)))) = some r := by rw [if_pos rfl] at H; exact H
   clear H
   have H := H1
   clear H1
   by_cases c7 : (l2.length : Int) > 40
   ·rw [if_pos c7] at H
    have c7b0 : decide (40 < (l2.length : Int)) = true := decide_eq_true c7
    have c7b1 : decide (40 < l2.length) = true := decide_eq_true (by omega)
    clear c7
    (first | rw [c7b0] | (simp only [i64_w, i32_w]; rw [c7b0]) | skip)
    have H' := As0.mk H
    clear H
    go_wp2_with (first | ((with_reducible refine gate_callee (f := 22) rfl ?_); refine goesL_ (some 19) rfl rfl Tra.func22 (by kernel_rfl) rfl #[.slice A0 l0.length c0, .slice A1 l1.length c1] rfl (by (try simp only [List.map_toArray, List.map_cons, List.map_nil]); first | done | rfl | (simp only [List.length_drop, List.length_take]; rfl)) ?_; (with_reducible refine (w6_few.calls _ _ l0 _ _ l1 true _ ?side1 ?side2 ?side3 ?side4 A5.out).mono ?_); (case side1 => repeat (first | exact (Kd.C_below HR0.out HB.out) | (with_reducible refine Kd.C_alloc ?_ _) | (with_reducible refine Kd.C_drewN ?_ _) | (with_reducible refine Kd.C_drew ?_))); (case side2 => exact HC0.out); (case side3 => repeat (first | exact (Kd.C_below HR1.out HB.out) | (with_reducible refine Kd.C_alloc ?_ _) | (with_reducible refine Kd.C_drewN ?_ _) | (with_reducible refine Kd.C_drew ?_))); (case side4 => exact HC1.out); rintro e w' ⟨rfl, ⟨nd, rfl⟩⟩; refine ⟨_, rfl, ?_⟩))
    go_meet
    case rel => exact ⟨_, (true), (by first | rfl | (simp; done) | (simp [*]; done)), H', ⟨by first | omega | exact Nat.le_refl _⟩, ⟨by repeat (first | (with_reducible first | exact HB.out | apply below_alloc | apply pw_below_drewN | apply below_drew1) | exact HB.out)⟩⟩
   ·rw [if_neg c7] at H
    have c7b0 : decide (40 < (l2.length : Int)) = false := decide_eq_false c7
    have c7b1 : decide (40 < l2.length) = false := decide_eq_false (by omega)
    clear c7
    (first | rw [c7b0] | (simp only [i64_w, i32_w]; rw [c7b0]) | skip)
    replace H := Option.bind_eq_some_iff.mp H
    obtain ⟨t363, A80, H⟩ := H
    replace H : (if t363 = true then ((r6_IsParting.f k l1).bind fun t364 => (if t364 = true then ((r6_IsParting.f k l2).bind fun t365 => (if t365 = true then (if (l0.length : Int) = (l1.length : Int) then (w6_MobsOrder.j0 k l0 l1 l2 ((l1.length : Int) != (l2.length : Int))) else (w6_MobsOrder.j0 k l0 l1 l2 true)) else (w6_MobsOrder.j0 k l0 l1 l2 true))) else (w6_MobsOrder.j0 k l0 l1 l2 true))) else (w6_MobsOrder.j0 k l0 l1 l2 true)) = some r := H
    have A8 := As0.mk A80
    clear A80
    by_cases c9 : t363 = true
    ·subst c9
     have H1 : ((r6_IsParting.f k l1).bind fun t364 => (if t364 = true then ((r6_IsParting.f k l2).bind fun t365 => (if t365 = true then (if (l0.length : Int) = (l1.length : Int) then (w6_MobsOrder.j0 k l0 l1 l2 ((l1.length : Int) != (l2.length : Int))) else (w6_MobsOrder.j0 k l0 l1 l2 true)) else (w6_MobsOrder.j0 k l0 l1 l2 true))) else (w6_MobsOrder.j0 k l0 l1 l2 true))) = some r := by rw [if_pos rfl] at H; exact H
     clear H
     have H := H1
     clear H1
     replace H := Option.bind_eq_some_iff.mp H
     obtain ⟨t364, A100, H⟩ := H
     replace H : (if t364 = true then ((r6_IsParting.f k l2).bind fun t365 => (if t365 = true then (if (l0.length : Int) = (l1.length : Int) then (w6_MobsOrder.j0 k l0 l1 l2 ((l1.length : Int) != (l2.length : Int))) else (w6_MobsOrder.j0 k l0 l1 l2 true)) else (w6_MobsOrder.j0 k l0 l1 l2 true))) else (w6_MobsOrder.j0 k l0 l1 l2 true)) = some r := H
     have A10 := As0.mk A100
     clear A100
     by_cases c11 : t364 = true
     ·subst c11
      have H1 : ((r6_IsParting.f k l2).bind fun t365 => (if t365 = true then (if (l0.length : Int) = (l1.length : Int) then (w6_MobsOrder.j0 k l0 l1 l2 ((l1.length : Int) != (l2.length : Int))) else (w6_MobsOrder.j0 k l0 l1 l2 true)) else (w6_MobsOrder.j0 k l0 l1 l2 true))) = some r := by rw [if_pos rfl] at H; exact H
      clear H
      have H := H1
      clear H1
      replace H := Option.bind_eq_some_iff.mp H
      obtain ⟨t365, A120, H⟩ := H
      replace H : (if t365 = true then (if (l0.length : Int) = (l1.length : Int) then (w6_MobsOrder.j0 k l0 l1 l2 ((l1.length : Int) != (l2.length : Int))) else (w6_MobsOrder.j0 k l0 l1 l2 true)) else (w6_MobsOrder.j0 k l0 l1 l2 true)) = some r := H
      have A12 := As0.mk A120
      clear A120
      by_cases c13 : t365 = true
      ·subst c13
       have H1 : (if (l0.length : Int) = (l1.length : Int) then (w6_MobsOrder.j0 k l0 l1 l2 ((l1.length : Int) != (l2.length : Int))) else (w6_MobsOrder.j0 k l0 l1 l2 true)) = some r := by rw [if_pos rfl] at H; exact H
       clear H
       have H := H1
       clear H1
       by_cases c14 : (l0.length : Int) = (l1.length : Int)
       ·rw [if_pos c14] at H
        have c14b0 : ((l0.length : Int) == (l1.length : Int)) = true := beq_iff_eq.mpr c14
        have c14b1 : ((l0.length : Int) != (l1.length : Int)) = false := bne_eq_false_iff_eq.mpr c14
        have c14b2 : (l0.length == l1.length) = true := by first | simpa using c14 | (simp at c14 ⊢; omega)
        clear c14
        have H' := As0.mk H
        clear H
        go_wp2_with (first | ((with_reducible refine gate_callee (f := 22) rfl ?_); refine goesL_ (some 19) rfl rfl Tra.func22 (by kernel_rfl) rfl #[.slice A0 l0.length c0, .slice A1 l1.length c1] rfl (by (try simp only [List.map_toArray, List.map_cons, List.map_nil]); first | done | rfl | (simp only [List.length_drop, List.length_take]; rfl)) ?_; (with_reducible refine (w6_few.calls _ _ l0 _ _ l1 true _ ?side1 ?side2 ?side3 ?side4 A5.out).mono ?_); (case side1 => repeat (first | exact (Kd.C_below HR0.out HB.out) | (with_reducible refine Kd.C_alloc ?_ _) | (with_reducible refine Kd.C_drewN ?_ _) | (with_reducible refine Kd.C_drew ?_))); (case side2 => exact HC0.out); (case side3 => repeat (first | exact (Kd.C_below HR1.out HB.out) | (with_reducible refine Kd.C_alloc ?_ _) | (with_reducible refine Kd.C_drewN ?_ _) | (with_reducible refine Kd.C_drew ?_))); (case side4 => exact HC1.out); rintro e w' ⟨rfl, ⟨nd, rfl⟩⟩; refine ⟨_, rfl, ?_⟩) | (go_at_call 30; (with_reducible refine (r6_IsParting.calls k _ _ l0 true _ ?side1 ?side2 A8.out).mono ?_); (case side1 => repeat (first | exact (Kd.C_below HR0.out (by repeat (first | (with_reducible first | exact HB.out | apply below_alloc | apply pw_below_drewN | apply below_drew1) | exact HB.out))) | (with_reducible refine Kd.C_alloc ?_ _) | (with_reducible refine Kd.C_drewN ?_ _) | (with_reducible refine Kd.C_drew ?_))); (case side2 => exact HC0.out); rintro e w' ⟨rfl, ⟨nd, rfl⟩⟩) | (go_at_call 30; (with_reducible refine (r6_IsParting.calls k _ _ l1 true _ ?side1 ?side2 A10.out).mono ?_); (case side1 => repeat (first | exact (Kd.C_below HR1.out (by repeat (first | (with_reducible first | exact HB.out | apply below_alloc | apply pw_below_drewN | apply below_drew1) | exact HB.out))) | (with_reducible refine Kd.C_alloc ?_ _) | (with_reducible refine Kd.C_drewN ?_ _) | (with_reducible refine Kd.C_drew ?_))); (case side2 => exact HC1.out); rintro e w' ⟨rfl, ⟨nd, rfl⟩⟩) | (go_at_call 30; (with_reducible refine (r6_IsParting.calls k _ _ l2 true _ ?side1 ?side2 A12.out).mono ?_); (case side1 => repeat (first | exact (Kd.C_below HR2.out (by repeat (first | (with_reducible first | exact HB.out | apply below_alloc | apply pw_below_drewN | apply below_drew1) | exact HB.out))) | (with_reducible refine Kd.C_alloc ?_ _) | (with_reducible refine Kd.C_drewN ?_ _) | (with_reducible refine Kd.C_drew ?_))); (case side2 => exact HC2.out); rintro e w' ⟨rfl, ⟨nd, rfl⟩⟩))
        go_meet
        case rel => exact ⟨_, (((l1.length : Int) != (l2.length : Int))), (by first | rfl | (simp; done) | (simp [*]; done)), H', ⟨by first | omega | exact Nat.le_refl _⟩, ⟨by repeat (first | (with_reducible first | exact HB.out | apply below_alloc | apply pw_below_drewN | apply below_drew1) | exact HB.out)⟩⟩
       ·rw [if_neg c14] at H
        have c14b0 : ((l0.length : Int) == (l1.length : Int)) = false := beq_eq_false_iff_ne.mpr c14
        have c14b1 : ((l0.length : Int) != (l1.length : Int)) = true := bne_iff_ne.mpr c14
        have c14b2 : (l0.length == l1.length) = false := by first | simpa using c14 | (simp at c14 ⊢; omega)
        have H' := As0.mk H
        clear H
        go_wp2_with (first | ((with_reducible refine gate_callee (f := 22) rfl ?_); refine goesL_ (some 19) rfl rfl Tra.func22 (by kernel_rfl) rfl #[.slice A0 l0.length c0, .slice A1 l1.length c1] rfl (by (try simp only [List.map_toArray, List.map_cons, List.map_nil]); first | done | rfl | (simp only [List.length_drop, List.length_take]; rfl)) ?_; (with_reducible refine (w6_few.calls _ _ l0 _ _ l1 true _ ?side1 ?side2 ?side3 ?side4 A5.out).mono ?_); (case side1 => repeat (first | exact (Kd.C_below HR0.out HB.out) | (with_reducible refine Kd.C_alloc ?_ _) | (with_reducible refine Kd.C_drewN ?_ _) | (with_reducible refine Kd.C_drew ?_))); (case side2 => exact HC0.out); (case side3 => repeat (first | exact (Kd.C_below HR1.out HB.out) | (with_reducible refine Kd.C_alloc ?_ _) | (with_reducible refine Kd.C_drewN ?_ _) | (with_reducible refine Kd.C_drew ?_))); (case side4 => exact HC1.out); rintro e w' ⟨rfl, ⟨nd, rfl⟩⟩; refine ⟨_, rfl, ?_⟩) | (go_at_call 30; (with_reducible refine (r6_IsParting.calls k _ _ l0 true _ ?side1 ?side2 A8.out).mono ?_); (case side1 => repeat (first | exact (Kd.C_below HR0.out (by repeat (first | (with_reducible first | exact HB.out | apply below_alloc | apply pw_below_drewN | apply below_drew1) | exact HB.out))) | (with_reducible refine Kd.C_alloc ?_ _) | (with_reducible refine Kd.C_drewN ?_ _) | (with_reducible refine Kd.C_drew ?_))); (case side2 => exact HC0.out); rintro e w' ⟨rfl, ⟨nd, rfl⟩⟩) | (go_at_call 30; (with_reducible refine (r6_IsParting.calls k _ _ l1 true _ ?side1 ?side2 A10.out).mono ?_); (case side1 => repeat (first | exact (Kd.C_below HR1.out (by repeat (first | (with_reducible first | exact HB.out | apply below_alloc | apply pw_below_drewN | apply below_drew1) | exact HB.out))) | (with_reducible refine Kd.C_alloc ?_ _) | (with_reducible refine Kd.C_drewN ?_ _) | (with_reducible refine Kd.C_drew ?_))); (case side2 => exact HC1.out); rintro e w' ⟨rfl, ⟨nd, rfl⟩⟩) | (go_at_call 30; (with_reducible refine (r6_IsParting.calls k _ _ l2 true _ ?side1 ?side2 A12.out).mono ?_); (case side1 => repeat (first | exact (Kd.C_below HR2.out (by repeat (first | (with_reducible first | exact HB.out | apply below_alloc | apply pw_below_drewN | apply below_drew1) | exact HB.out))) | (with_reducible refine Kd.C_alloc ?_ _) | (with_reducible refine Kd.C_drewN ?_ _) | (with_reducible refine Kd.C_drew ?_))); (case side2 => exact HC2.out); rintro e w' ⟨rfl, ⟨nd, rfl⟩⟩))
        go_meet
        case rel => exact ⟨_, (true), (by first | rfl | (simp; done) | (simp [*]; done)), H', ⟨by first | omega | exact Nat.le_refl _⟩, ⟨by repeat (first | (with_reducible first | exact HB.out | apply below_alloc | apply pw_below_drewN | apply below_drew1) | exact HB.out)⟩⟩
      ·replace c13 := Bool.eq_false_iff.mpr c13
       subst c13
       have H1 : (w6_MobsOrder.j0 k l0 l1 l2 true) = some r := by rw [if_neg (show ¬ (false = true) by decide)] at H; exact H
       clear H
       have H := H1
       clear H1
       have H' := As0.mk H
       clear H
       go_wp2_with (first | ((with_reducible refine gate_callee (f := 22) rfl ?_); refine goesL_ (some 19) rfl rfl Tra.func22 (by kernel_rfl) rfl #[.slice A0 l0.length c0, .slice A1 l1.length c1] rfl (by (try simp only [List.map_toArray, List.map_cons, List.map_nil]); first | done | rfl | (simp only [List.length_drop, List.length_take]; rfl)) ?_; (with_reducible refine (w6_few.calls _ _ l0 _ _ l1 true _ ?side1 ?side2 ?side3 ?side4 A5.out).mono ?_); (case side1 => repeat (first | exact (Kd.C_below HR0.out HB.out) | (with_reducible refine Kd.C_alloc ?_ _) | (with_reducible refine Kd.C_drewN ?_ _) | (with_reducible refine Kd.C_drew ?_))); (case side2 => exact HC0.out); (case side3 => repeat (first | exact (Kd.C_below HR1.out HB.out) | (with_reducible refine Kd.C_alloc ?_ _) | (with_reducible refine Kd.C_drewN ?_ _) | (with_reducible refine Kd.C_drew ?_))); (case side4 => exact HC1.out); rintro e w' ⟨rfl, ⟨nd, rfl⟩⟩; refine ⟨_, rfl, ?_⟩) | (go_at_call 30; (with_reducible refine (r6_IsParting.calls k _ _ l0 true _ ?side1 ?side2 A8.out).mono ?_); (case side1 => repeat (first | exact (Kd.C_below HR0.out (by repeat (first | (with_reducible first | exact HB.out | apply below_alloc | apply pw_below_drewN | apply below_drew1) | exact HB.out))) | (with_reducible refine Kd.C_alloc ?_ _) | (with_reducible refine Kd.C_drewN ?_ _) | (with_reducible refine Kd.C_drew ?_))); (case side2 => exact HC0.out); rintro e w' ⟨rfl, ⟨nd, rfl⟩⟩) | (go_at_call 30; (with_reducible refine (r6_IsParting.calls k _ _ l1 true _ ?side1 ?side2 A10.out).mono ?_); (case side1 => repeat (first | exact (Kd.C_below HR1.out (by repeat (first | (with_reducible first | exact HB.out | apply below_alloc | apply pw_below_drewN | apply below_drew1) | exact HB.out))) | (with_reducible refine Kd.C_alloc ?_ _) | (with_reducible refine Kd.C_drewN ?_ _) | (with_reducible refine Kd.C_drew ?_))); (case side2 => exact HC1.out); rintro e w' ⟨rfl, ⟨nd, rfl⟩⟩) | (go_at_call 30; (with_reducible refine (r6_IsParting.calls k _ _ l2 false _ ?side1 ?side2 A12.out).mono ?_); (case side1 => repeat (first | exact (Kd.C_below HR2.out (by repeat (first | (with_reducible first | exact HB.out | apply below_alloc | apply pw_below_drewN | apply below_drew1) | exact HB.out))) | (with_reducible refine Kd.C_alloc ?_ _) | (with_reducible refine Kd.C_drewN ?_ _) | (with_reducible refine Kd.C_drew ?_))); (case side2 => exact HC2.out); rintro e w' ⟨rfl, ⟨nd, rfl⟩⟩))
       go_meet
       case rel => exact ⟨_, (true), (by first | rfl | (simp; done) | (simp [*]; done)), H', ⟨by first | omega | exact Nat.le_refl _⟩, ⟨by repeat (first | (with_reducible first | exact HB.out | apply below_alloc | apply pw_below_drewN | apply below_drew1) | exact HB.out)⟩⟩
     ·replace c11 := Bool.eq_false_iff.mpr c11
      subst c11
      have H1 : (w6_MobsOrder.j0 k l0 l1 l2 true) = some r := by rw [if_neg (show ¬ (false = true) by decide)] at H; exact H
      clear H
      have H := H1
      clear H1
      have H' := As0.mk H
      clear H
      go_wp2_with (first | ((with_reducible refine gate_callee (f := 22) rfl ?_); refine goesL_ (some 19) rfl rfl Tra.func22 (by kernel_rfl) rfl #[.slice A0 l0.length c0, .slice A1 l1.length c1] rfl (by (try simp only [List.map_toArray, List.map_cons, List.map_nil]); first | done | rfl | (simp only [List.length_drop, List.length_take]; rfl)) ?_; (with_reducible refine (w6_few.calls _ _ l0 _ _ l1 true _ ?side1 ?side2 ?side3 ?side4 A5.out).mono ?_); (case side1 => repeat (first | exact (Kd.C_below HR0.out HB.out) | (with_reducible refine Kd.C_alloc ?_ _) | (with_reducible refine Kd.C_drewN ?_ _) | (with_reducible refine Kd.C_drew ?_))); (case side2 => exact HC0.out); (case side3 => repeat (first | exact (Kd.C_below HR1.out HB.out) | (with_reducible refine Kd.C_alloc ?_ _) | (with_reducible refine Kd.C_drewN ?_ _) | (with_reducible refine Kd.C_drew ?_))); (case side4 => exact HC1.out); rintro e w' ⟨rfl, ⟨nd, rfl⟩⟩; refine ⟨_, rfl, ?_⟩) | (go_at_call 30; (with_reducible refine (r6_IsParting.calls k _ _ l0 true _ ?side1 ?side2 A8.out).mono ?_); (case side1 => repeat (first | exact (Kd.C_below HR0.out (by repeat (first | (with_reducible first | exact HB.out | apply below_alloc | apply pw_below_drewN | apply below_drew1) | exact HB.out))) | (with_reducible refine Kd.C_alloc ?_ _) | (with_reducible refine Kd.C_drewN ?_ _) | (with_reducible refine Kd.C_drew ?_))); (case side2 => exact HC0.out); rintro e w' ⟨rfl, ⟨nd, rfl⟩⟩) | (go_at_call 30; (with_reducible refine (r6_IsParting.calls k _ _ l1 false _ ?side1 ?side2 A10.out).mono ?_); (case side1 => repeat (first | exact (Kd.C_below HR1.out (by repeat (first | (with_reducible first | exact HB.out | apply below_alloc | apply pw_below_drewN | apply below_drew1) | exact HB.out))) | (with_reducible refine Kd.C_alloc ?_ _) | (with_reducible refine Kd.C_drewN ?_ _) | (with_reducible refine Kd.C_drew ?_))); (case side2 => exact HC1.out); rintro e w' ⟨rfl, ⟨nd, rfl⟩⟩))
      go_meet
      case rel => exact ⟨_, (true), (by first | rfl | (simp; done) | (simp [*]; done)), H', ⟨by first | omega | exact Nat.le_refl _⟩, ⟨by repeat (first | (with_reducible first | exact HB.out | apply below_alloc | apply pw_below_drewN | apply below_drew1) | exact HB.out)⟩⟩
    ·replace c9 := Bool.eq_false_iff.mpr c9
     subst c9
     have H1 : (w6_MobsOrder.j0 k l0 l1 l2 true) = some r := by rw [if_neg (show ¬ (false = true) by decide)] at H; exact H
     clear H
     have H := H1
     clear H1
     have H' := As0.mk H
     clear H
     go_wp2_with (first | ((with_reducible refine gate_callee (f := 22) rfl ?_); refine goesL_ (some 19) rfl rfl Tra.func22 (by kernel_rfl) rfl #[.slice A0 l0.length c0, .slice A1 l1.length c1] rfl (by (try simp only [List.map_toArray, List.map_cons, List.map_nil]); first | done | rfl | (simp only [List.length_drop, List.length_take]; rfl)) ?_; (with_reducible refine (w6_few.calls _ _ l0 _ _ l1 true _ ?side1 ?side2 ?side3 ?side4 A5.out).mono ?_); (case side1 => repeat (first | exact (Kd.C_below HR0.out HB.out) | (with_reducible refine Kd.C_alloc ?_ _) | (with_reducible refine Kd.C_drewN ?_ _) | (with_reducible refine Kd.C_drew ?_))); (case side2 => exact HC0.out); (case side3 => repeat (first | exact (Kd.C_below HR1.out HB.out) | (with_reducible refine Kd.C_alloc ?_ _) | (with_reducible refine Kd.C_drewN ?_ _) | (with_reducible refine Kd.C_drew ?_))); (case side4 => exact HC1.out); rintro e w' ⟨rfl, ⟨nd, rfl⟩⟩; refine ⟨_, rfl, ?_⟩) | (go_at_call 30; (with_reducible refine (r6_IsParting.calls k _ _ l0 false _ ?side1 ?side2 A8.out).mono ?_); (case side1 => repeat (first | exact (Kd.C_below HR0.out (by repeat (first | (with_reducible first | exact HB.out | apply below_alloc | apply pw_below_drewN | apply below_drew1) | exact HB.out))) | (with_reducible refine Kd.C_alloc ?_ _) | (with_reducible refine Kd.C_drewN ?_ _) | (with_reducible refine Kd.C_drew ?_))); (case side2 => exact HC0.out); rintro e w' ⟨rfl, ⟨nd, rfl⟩⟩))
     go_meet
     case rel => exact ⟨_, (true), (by first | rfl | (simp; done) | (simp [*]; done)), H', ⟨by first | omega | exact Nat.le_refl _⟩, ⟨by repeat (first | (with_reducible first | exact HB.out | apply below_alloc | apply pw_below_drewN | apply below_drew1) | exact HB.out)⟩⟩
  ·replace c6 := Bool.eq_false_iff.mpr c6
   subst c6
   have H1 : (w6_MobsOrder.j0 k l0 l1 l2 true) = some r := by rw [if_neg (show ¬ (false = true) by decide)] at H; exact H
   clear H
   have H := H1
   clear H1
   have H' := As0.mk H
   clear H
   go_wp2_with (first | ((with_reducible refine gate_callee (f := 22) rfl ?_); refine goesL_ (some 19) rfl rfl Tra.func22 (by kernel_rfl) rfl #[.slice A0 l0.length c0, .slice A1 l1.length c1] rfl (by (try simp only [List.map_toArray, List.map_cons, List.map_nil]); first | done | rfl | (simp only [List.length_drop, List.length_take]; rfl)) ?_; (with_reducible refine (w6_few.calls _ _ l0 _ _ l1 false _ ?side1 ?side2 ?side3 ?side4 A5.out).mono ?_); (case side1 => repeat (first | exact (Kd.C_below HR0.out HB.out) | (with_reducible refine Kd.C_alloc ?_ _) | (with_reducible refine Kd.C_drewN ?_ _) | (with_reducible refine Kd.C_drew ?_))); (case side2 => exact HC0.out); (case side3 => repeat (first | exact (Kd.C_below HR1.out HB.out) | (with_reducible refine Kd.C_alloc ?_ _) | (with_reducible refine Kd.C_drewN ?_ _) | (with_reducible refine Kd.C_drew ?_))); (case side4 => exact HC1.out); rintro e w' ⟨rfl, ⟨nd, rfl⟩⟩; refine ⟨_, rfl, ?_⟩))
   go_meet
   case rel => exact ⟨_, (true), (by first | rfl | (simp; done) | (simp [*]; done)), H', ⟨by first | omega | exact Nat.le_refl _⟩, ⟨by repeat (first | (with_reducible first | exact HB.out | apply below_alloc | apply pw_below_drewN | apply below_drew1) | exact HB.out)⟩⟩
 case rest =>
  clear HC4
  try clear c1
  try clear c2
  try clear p2
  try clear c6
  try clear c7
  try clear c7b0
  try clear c7b1
  try clear c9
  try clear c11
  try clear c13
  try clear c14
  try clear c14b0
  try clear c14b1
  try clear c14b2
  obtain ⟨kq, x54_3, rfl, HA, HJ3, HB⟩ := hcut
  cases kq with
  |zero => exact absurd HA.out (by simp [w6_MobsOrder.j0])
  |succ kj3 =>
   have H := HA.out
   clear HA
   simp only [w6_MobsOrder.j0] at H
   by_cases c15 : x54_3 = true
   ·subst c15
    have H1 : ((w6_alive.f).bind fun t366 => (some t366)) = some r := by rw [if_pos rfl] at H; exact H
    clear H
    have H := H1
    clear H1
    replace H := Option.bind_eq_some_iff.mp H
    obtain ⟨t366, A160, H⟩ := H
    replace H : (some t366) = some r := H
    have A16 := As0.mk A160
    clear A160
    obtain rfl := Option.some.inj H
    go_wp2_with (first | ((with_reducible refine gate_callee (f := 20) rfl ?_); refine goesL_ (some 55) rfl rfl Tra.func20 (by kernel_rfl) rfl #[] rfl (by (try simp only [List.map_toArray, List.map_cons, List.map_nil]); first | done | rfl | (simp only [List.length_drop, List.length_take]; rfl)) ?_; (with_reducible refine (w6_alive.calls  t366 _ A16.out).mono ?_); rintro e w17 ⟨rfl, hb⟩; refine ⟨_, rfl, ?_⟩; have n0_ := As0.mk (below_step (by repeat (first | (with_reducible first | exact HB.out | apply below_alloc | apply pw_below_drewN | apply below_drew1) | exact HB.out)) hb); clear HB; have HB := n0_; clear n0_; (try clear hb); (try clear hb2); (try clear hk); (try clear hi)))
    go_ret
    exact ⟨by first | rfl | (simp [errW_none, errW_some] <;> rfl) | (simp [*, errW_none, errW_some] <;> rfl), by repeat (first | (with_reducible first | exact HB.out | apply below_alloc | apply pw_below_drewN | apply below_drew1) | exact HB.out)⟩
   ·replace c15 := Bool.eq_false_iff.mpr c15
    subst c15
    have H1 : ((mobs_Finer.f kj3 l0 l0).bind fun bt367 => ((mobs_Finer.f kj3 l0 l1).bind fun bt369 => ((mobs_Finer.f kj3 l1 l0).bind fun bt371 => ((mobs_Finer.f kj3 l1 l2).bind fun bt373 => ((mobs_Finer.f kj3 l0 l2).bind fun bt375 => (if bt367.2 = 0 then (if bt369.2 = 0 then (if bt371.2 = 0 then (if bt373.2 = 0 then (if bt375.2 = 0 then (w6_MobsOrder.j1 kj3 l0 l1 bt369.1 bt371.1 bt373.1 bt375.1 (!bt367.1)) else (w6_MobsOrder.j1 kj3 l0 l1 bt369.1 bt371.1 bt373.1 bt375.1 true)) else (w6_MobsOrder.j1 kj3 l0 l1 bt369.1 bt371.1 bt373.1 bt375.1 true)) else (w6_MobsOrder.j1 kj3 l0 l1 bt369.1 bt371.1 bt373.1 bt375.1 true)) else (w6_MobsOrder.j1 kj3 l0 l1 bt369.1 bt371.1 bt373.1 bt375.1 true)) else (w6_MobsOrder.j1 kj3 l0 l1 bt369.1 bt371.1 bt373.1 bt375.1 true))))))) = some r := by rw [if_neg (show ¬ (false = true) by decide)] at H; exact H
    clear H
    have H := H1
    clear H1
    replace H := Option.bind_eq_some_iff.mp H
    obtain ⟨⟨t367, t368⟩, A180, H⟩ := H
    replace H : ((mobs_Finer.f kj3 l0 l1).bind fun bt369 => ((mobs_Finer.f kj3 l1 l0).bind fun bt371 => ((mobs_Finer.f kj3 l1 l2).bind fun bt373 => ((mobs_Finer.f kj3 l0 l2).bind fun bt375 => (if t368 = 0 then (if bt369.2 = 0 then (if bt371.2 = 0 then (if bt373.2 = 0 then (if bt375.2 = 0 then (w6_MobsOrder.j1 kj3 l0 l1 bt369.1 bt371.1 bt373.1 bt375.1 (!t367)) else (w6_MobsOrder.j1 kj3 l0 l1 bt369.1 bt371.1 bt373.1 bt375.1 true)) else (w6_MobsOrder.j1 kj3 l0 l1 bt369.1 bt371.1 bt373.1 bt375.1 true)) else (w6_MobsOrder.j1 kj3 l0 l1 bt369.1 bt371.1 bt373.1 bt375.1 true)) else (w6_MobsOrder.j1 kj3 l0 l1 bt369.1 bt371.1 bt373.1 bt375.1 true)) else (w6_MobsOrder.j1 kj3 l0 l1 bt369.1 bt371.1 bt373.1 bt375.1 true)))))) = some r := H
    have A18 := As0.mk A180
    clear A180
    replace H := Option.bind_eq_some_iff.mp H
    obtain ⟨⟨t369, t370⟩, A190, H⟩ := H
    replace H : ((mobs_Finer.f kj3 l1 l0).bind fun bt371 => ((mobs_Finer.f kj3 l1 l2).bind fun bt373 => ((mobs_Finer.f kj3 l0 l2).bind fun bt375 => (if t368 = 0 then (if t370 = 0 then (if bt371.2 = 0 then (if bt373.2 = 0 then (if bt375.2 = 0 then (w6_MobsOrder.j1 kj3 l0 l1 t369 bt371.1 bt373.1 bt375.1 (!t367)) else (w6_MobsOrder.j1 kj3 l0 l1 t369 bt371.1 bt373.1 bt375.1 true)) else (w6_MobsOrder.j1 kj3 l0 l1 t369 bt371.1 bt373.1 bt375.1 true)) else (w6_MobsOrder.j1 kj3 l0 l1 t369 bt371.1 bt373.1 bt375.1 true)) else (w6_MobsOrder.j1 kj3 l0 l1 t369 bt371.1 bt373.1 bt375.1 true)) else (w6_MobsOrder.j1 kj3 l0 l1 t369 bt371.1 bt373.1 bt375.1 true))))) = some r := H
    have A19 := As0.mk A190
    clear A190
    replace H := Option.bind_eq_some_iff.mp H
    obtain ⟨⟨t371, t372⟩, A200, H⟩ := H
    replace H : ((mobs_Finer.f kj3 l1 l2).bind fun bt373 => ((mobs_Finer.f kj3 l0 l2).bind fun bt375 => (if t368 = 0 then (if t370 = 0 then (if t372 = 0 then (if bt373.2 = 0 then (if bt375.2 = 0 then (w6_MobsOrder.j1 kj3 l0 l1 t369 t371 bt373.1 bt375.1 (!t367)) else (w6_MobsOrder.j1 kj3 l0 l1 t369 t371 bt373.1 bt375.1 true)) else (w6_MobsOrder.j1 kj3 l0 l1 t369 t371 bt373.1 bt375.1 true)) else (w6_MobsOrder.j1 kj3 l0 l1 t369 t371 bt373.1 bt375.1 true)) else (w6_MobsOrder.j1 kj3 l0 l1 t369 t371 bt373.1 bt375.1 true)) else (w6_MobsOrder.j1 kj3 l0 l1 t369 t371 bt373.1 bt375.1 true)))) = some r := H
    have A20 := As0.mk A200
    clear A200
    replace H := Option.bind_eq_some_iff.mp H
    obtain ⟨⟨t373, t374⟩, A210, H⟩ := H
    replace H : ((mobs_Finer.f kj3 l0 l2).bind fun bt375 => (if t368 = 0 then (if t370 = 0 then (if t372 = 0 then (if t374 = 0 then (if bt375.2 = 0 then (w6_MobsOrder.j1 kj3 l0 l1 t369 t371 t373 bt375.1 (!t367)) else (w6_MobsOrder.j1 kj3 l0 l1 t369 t371 t373 bt375.1 true)) else (w6_MobsOrder.j1 kj3 l0 l1 t369 t371 t373 bt375.1 true)) else (w6_MobsOrder.j1 kj3 l0 l1 t369 t371 t373 bt375.1 true)) else (w6_MobsOrder.j1 kj3 l0 l1 t369 t371 t373 bt375.1 true)) else (w6_MobsOrder.j1 kj3 l0 l1 t369 t371 t373 bt375.1 true))) = some r := H
    have A21 := As0.mk A210
    clear A210
    replace H := Option.bind_eq_some_iff.mp H
    obtain ⟨⟨t375, t376⟩, A220, H⟩ := H
    replace H : (if t368 = 0 then (if t370 = 0 then (if t372 = 0 then (if t374 = 0 then (if t376 = 0 then (w6_MobsOrder.j1 kj3 l0 l1 t369 t371 t373 t375 (!t367)) else (w6_MobsOrder.j1 kj3 l0 l1 t369 t371 t373 t375 true)) else (w6_MobsOrder.j1 kj3 l0 l1 t369 t371 t373 t375 true)) else (w6_MobsOrder.j1 kj3 l0 l1 t369 t371 t373 t375 true)) else (w6_MobsOrder.j1 kj3 l0 l1 t369 t371 t373 t375 true)) else (w6_MobsOrder.j1 kj3 l0 l1 t369 t371 t373 t375 true)) = some r := H
    have A22 := As0.mk A220
    clear A220
    have HC23 := As0.mk H
    clear H
    go_upto_region 8 with (first | ((with_reducible refine gate_callee (f := 32) rfl ?_); refine goesL_ (some 59) rfl rfl Tra.func32 (by kernel_rfl) rfl #[.slice A0 l0.length c0, .slice A0 l0.length c0] rfl (by (try simp only [List.map_toArray, List.map_cons, List.map_nil]); first | done | rfl | (simp only [List.length_drop, List.length_take]; rfl)) ?_; (with_reducible refine (mobs_Finer.calls kj3 (fun k_ => k_ < w.heap.size) _ _ l0 (fun k_ => k_ < w.heap.size) _ _ l0 t367 t368 _ ?side1 ?side2 A18.out).mono ?_); (case side1 => exact Kd.V_mk HC0.out (Kd.F_below (Kd.C_F (Kd.heap_int .i64) HR0.out) (by repeat (first | (with_reducible first | exact HB.out | apply below_alloc | apply pw_below_drewN | apply below_drew1) | exact HB.out)))); (case side2 => exact Kd.V_mk HC0.out (Kd.F_below (Kd.C_F (Kd.heap_int .i64) HR0.out) (by repeat (first | (with_reducible first | exact HB.out | apply below_alloc | apply pw_below_drewN | apply below_drew1) | exact HB.out)))); rintro e w24 ⟨rfl, hb⟩; refine ⟨_, rfl, ?_⟩; have n0_ := As0.mk (below_step (by repeat (first | (with_reducible first | exact HB.out | apply below_alloc | apply pw_below_drewN | apply below_drew1) | exact HB.out)) hb); clear HB; have HB := n0_; clear n0_; (try clear hb); (try clear hb2); (try clear hk); (try clear hi)) | ((with_reducible refine gate_callee (f := 32) rfl ?_); refine goesL_ (some 65) rfl rfl Tra.func32 (by kernel_rfl) rfl #[.slice A0 l0.length c0, .slice A1 l1.length c1] rfl (by (try simp only [List.map_toArray, List.map_cons, List.map_nil]); first | done | rfl | (simp only [List.length_drop, List.length_take]; rfl)) ?_; (with_reducible refine (mobs_Finer.calls kj3 (fun k_ => k_ < w.heap.size) _ _ l0 (fun k_ => k_ < w.heap.size) _ _ l1 t369 t370 _ ?side1 ?side2 A19.out).mono ?_); (case side1 => exact Kd.V_mk HC0.out (Kd.F_below (Kd.C_F (Kd.heap_int .i64) HR0.out) (by repeat (first | (with_reducible first | exact HB.out | apply below_alloc | apply pw_below_drewN | apply below_drew1) | exact HB.out)))); (case side2 => exact Kd.V_mk HC1.out (Kd.F_below (Kd.C_F (Kd.heap_int .i64) HR1.out) (by repeat (first | (with_reducible first | exact HB.out | apply below_alloc | apply pw_below_drewN | apply below_drew1) | exact HB.out)))); rintro e w25 ⟨rfl, hb⟩; refine ⟨_, rfl, ?_⟩; have n0_ := As0.mk (below_step (by repeat (first | (with_reducible first | exact HB.out | apply below_alloc | apply pw_below_drewN | apply below_drew1) | exact HB.out)) hb); clear HB; have HB := n0_; clear n0_; (try clear hb); (try clear hb2); (try clear hk); (try clear hi)) | ((with_reducible refine gate_callee (f := 32) rfl ?_); refine goesL_ (some 71) rfl rfl Tra.func32 (by kernel_rfl) rfl #[.slice A1 l1.length c1, .slice A0 l0.length c0] rfl (by (try simp only [List.map_toArray, List.map_cons, List.map_nil]); first | done | rfl | (simp only [List.length_drop, List.length_take]; rfl)) ?_; (with_reducible refine (mobs_Finer.calls kj3 (fun k_ => k_ < w.heap.size) _ _ l1 (fun k_ => k_ < w.heap.size) _ _ l0 t371 t372 _ ?side1 ?side2 A20.out).mono ?_); (case side1 => exact Kd.V_mk HC1.out (Kd.F_below (Kd.C_F (Kd.heap_int .i64) HR1.out) (by repeat (first | (with_reducible first | exact HB.out | apply below_alloc | apply pw_below_drewN | apply below_drew1) | exact HB.out)))); (case side2 => exact Kd.V_mk HC0.out (Kd.F_below (Kd.C_F (Kd.heap_int .i64) HR0.out) (by repeat (first | (with_reducible first | exact HB.out | apply below_alloc | apply pw_below_drewN | apply below_drew1) | exact HB.out)))); rintro e w26 ⟨rfl, hb⟩; refine ⟨_, rfl, ?_⟩; have n0_ := As0.mk (below_step (by repeat (first | (with_reducible first | exact HB.out | apply below_alloc | apply pw_below_drewN | apply below_drew1) | exact HB.out)) hb); clear HB; have HB := n0_; clear n0_; (try clear hb); (try clear hb2); (try clear hk); (try clear hi)) | ((with_reducible refine gate_callee (f := 32) rfl ?_); refine goesL_ (some 77) rfl rfl Tra.func32 (by kernel_rfl) rfl #[.slice A1 l1.length c1, .slice A2 l2.length c2] rfl (by (try simp only [List.map_toArray, List.map_cons, List.map_nil]); first | done | rfl | (simp only [List.length_drop, List.length_take]; rfl)) ?_; (with_reducible refine (mobs_Finer.calls kj3 (fun k_ => k_ < w.heap.size) _ _ l1 (fun k_ => k_ < w.heap.size) _ _ l2 t373 t374 _ ?side1 ?side2 A21.out).mono ?_); (case side1 => exact Kd.V_mk HC1.out (Kd.F_below (Kd.C_F (Kd.heap_int .i64) HR1.out) (by repeat (first | (with_reducible first | exact HB.out | apply below_alloc | apply pw_below_drewN | apply below_drew1) | exact HB.out)))); (case side2 => exact Kd.V_mk HC2.out (Kd.F_below (Kd.C_F (Kd.heap_int .i64) HR2.out) (by repeat (first | (with_reducible first | exact HB.out | apply below_alloc | apply pw_below_drewN | apply below_drew1) | exact HB.out)))); rintro e w27 ⟨rfl, hb⟩; refine ⟨_, rfl, ?_⟩; have n0_ := As0.mk (below_step (by repeat (first | (with_reducible first | exact HB.out | apply below_alloc | apply pw_below_drewN | apply below_drew1) | exact HB.out)) hb); clear HB; have HB := n0_; clear n0_; (try clear hb); (try clear hb2); (try clear hk); (try clear hi)) | ((with_reducible refine gate_callee (f := 32) rfl ?_); refine goesL_ (some 83) rfl rfl Tra.func32 (by kernel_rfl) rfl #[.slice A0 l0.length c0, .slice A2 l2.length c2] rfl (by (try simp only [List.map_toArray, List.map_cons, List.map_nil]); first | done | rfl | (simp only [List.length_drop, List.length_take]; rfl)) ?_; (with_reducible refine (mobs_Finer.calls kj3 (fun k_ => k_ < w.heap.size) _ _ l0 (fun k_ => k_ < w.heap.size) _ _ l2 t375 t376 _ ?side1 ?side2 A22.out).mono ?_); (case side1 => exact Kd.V_mk HC0.out (Kd.F_below (Kd.C_F (Kd.heap_int .i64) HR0.out) (by repeat (first | (with_reducible first | exact HB.out | apply below_alloc | apply pw_below_drewN | apply below_drew1) | exact HB.out)))); (case side2 => exact Kd.V_mk HC2.out (Kd.F_below (Kd.C_F (Kd.heap_int .i64) HR2.out) (by repeat (first | (with_reducible first | exact HB.out | apply below_alloc | apply pw_below_drewN | apply below_drew1) | exact HB.out)))); rintro e w28 ⟨rfl, hb⟩; refine ⟨_, rfl, ?_⟩; have n0_ := As0.mk (below_step (by repeat (first | (with_reducible first | exact HB.out | apply below_alloc | apply pw_below_drewN | apply below_drew1) | exact HB.out)) hb); clear HB; have HB := n0_; clear n0_; (try clear hb); (try clear hb2); (try clear hk); (try clear hi)))
    (try simp only [Act.put, List.setIfInBounds_toArray, List.set_cons_zero, List.set_cons_succ])
    go_cut [107] (fun v107 wc => ∃ (kq : Nat) (x107_22 : Bool), v107 = .bool x107_22 ∧ As0 (w6_MobsOrder.j1 kq l0 l1 t369 t371 t373 t375 x107_22 = some r) ∧ As0 (kq ≤ kj3) ∧ As0 (Below w.heap.size w wc))
    case first =>
     have H := HC23.out
     clear HC23
     by_cases c29 : t368 = 0
     ·rw [if_pos c29] at H
      have c29b0 : (t368 == 0) = true := beq_iff_eq.mpr c29
      have c29b1 : (t368 != 0) = false := bne_eq_false_iff_eq.mpr c29
      clear c29
      (first | rw [c29b0] | (simp only [i64_w, i32_w]; rw [c29b0]) | skip)
      by_cases c30 : t370 = 0
      ·rw [if_pos c30] at H
       have c30b0 : (t370 == 0) = true := beq_iff_eq.mpr c30
       have c30b1 : (t370 != 0) = false := bne_eq_false_iff_eq.mpr c30
       clear c30
       by_cases c31 : t372 = 0
       ·rw [if_pos c31] at H
        have c31b0 : (t372 == 0) = true := beq_iff_eq.mpr c31
        have c31b1 : (t372 != 0) = false := bne_eq_false_iff_eq.mpr c31
        clear c31
        by_cases c32 : t374 = 0
        ·rw [if_pos c32] at H
         have c32b0 : (t374 == 0) = true := beq_iff_eq.mpr c32
         have c32b1 : (t374 != 0) = false := bne_eq_false_iff_eq.mpr c32
         clear c32
         by_cases c33 : t376 = 0
         ·rw [if_pos c33] at H
          have c33b0 : (t376 == 0) = true := beq_iff_eq.mpr c33
          have c33b1 : (t376 != 0) = false := bne_eq_false_iff_eq.mpr c33
          clear c33
          have H' := As0.mk H
          clear H
          go_wp2
          go_meet
          case rel => exact ⟨_, (!t367), (by first | rfl | (simp; done) | (simp [*]; done)), H', ⟨by have := HJ3.out; first | omega | exact Nat.le_refl _⟩, ⟨by repeat (first | (with_reducible first | exact HB.out | apply below_alloc | apply pw_below_drewN | apply below_drew1) | exact HB.out)⟩⟩
         ·rw [if_neg c33] at H
          have c33b0 : (t376 == 0) = false := beq_eq_false_iff_ne.mpr c33
          have c33b1 : (t376 != 0) = true := bne_iff_ne.mpr c33
          have H' := As0.mk H
          clear H
          go_wp2
          go_meet
          case rel => exact ⟨_, (true), (by first | rfl | (simp; done) | (simp [*]; done)), H', ⟨by have := HJ3.out; first | omega | exact Nat.le_refl _⟩, ⟨by repeat (first | (with_reducible first | exact HB.out | apply below_alloc | apply pw_below_drewN | apply below_drew1) | exact HB.out)⟩⟩
        ·rw [if_neg c32] at H
         have c32b0 : (t374 == 0) = false := beq_eq_false_iff_ne.mpr c32
         have c32b1 : (t374 != 0) = true := bne_iff_ne.mpr c32
         have H' := As0.mk H
         clear H
         go_wp2
         go_meet
         case rel => exact ⟨_, (true), (by first | rfl | (simp; done) | (simp [*]; done)), H', ⟨by have := HJ3.out; first | omega | exact Nat.le_refl _⟩, ⟨by repeat (first | (with_reducible first | exact HB.out | apply below_alloc | apply pw_below_drewN | apply below_drew1) | exact HB.out)⟩⟩
       ·rw [if_neg c31] at H
        have c31b0 : (t372 == 0) = false := beq_eq_false_iff_ne.mpr c31
        have c31b1 : (t372 != 0) = true := bne_iff_ne.mpr c31
        have H' := As0.mk H
        clear H
        go_wp2
        go_meet
        case rel => exact ⟨_, (true), (by first | rfl | (simp; done) | (simp [*]; done)), H', ⟨by have := HJ3.out; first | omega | exact Nat.le_refl _⟩, ⟨by repeat (first | (with_reducible first | exact HB.out | apply below_alloc | apply pw_below_drewN | apply below_drew1) | exact HB.out)⟩⟩
      ·rw [if_neg c30] at H
       have c30b0 : (t370 == 0) = false := beq_eq_false_iff_ne.mpr c30
       have c30b1 : (t370 != 0) = true := bne_iff_ne.mpr c30
       have H' := As0.mk H
       clear H
       go_wp2
       go_meet
       case rel => exact ⟨_, (true), (by first | rfl | (simp; done) | (simp [*]; done)), H', ⟨by have := HJ3.out; first | omega | exact Nat.le_refl _⟩, ⟨by repeat (first | (with_reducible first | exact HB.out | apply below_alloc | apply pw_below_drewN | apply below_drew1) | exact HB.out)⟩⟩
     ·rw [if_neg c29] at H
      have c29b0 : (t368 == 0) = false := beq_eq_false_iff_ne.mpr c29
      have c29b1 : (t368 != 0) = true := bne_iff_ne.mpr c29
      (first | rw [c29b0] | (simp only [i64_w, i32_w]; rw [c29b0]) | skip)
      have H' := As0.mk H
      clear H
      go_wp2
      go_meet
      case rel => exact ⟨_, (true), (by first | rfl | (simp; done) | (simp [*]; done)), H', ⟨by have := HJ3.out; first | omega | exact Nat.le_refl _⟩, ⟨by repeat (first | (with_reducible first | exact HB.out | apply below_alloc | apply pw_below_drewN | apply below_drew1) | exact HB.out)⟩⟩
    case rest =>
     clear HC23
     try clear c1
     try clear c2
     try clear p2
     try clear c3
     try clear c6
     try clear c7
     try clear c7b0
     try clear c7b1
     try clear c9
     try clear c11
     try clear c13
     try clear c14
     try clear c14b0
     try clear c14b1
     try clear c14b2
     try clear c15
     try clear c20
     try clear c22
     try clear c29
     try clear c29b0
     try clear c29b1
     try clear c30
     try clear c30b0
     try clear c30b1
     try clear c31
     try clear c31b0
     try clear c31b1
     try clear c32
     try clear c32b0
     try clear c32b1
     try clear c33
     try clear c33b0
     try clear c33b1
     try clear p2
     obtain ⟨kq, x107_22, rfl, HA, HJ22, HB⟩ := hcut
     cases kq with
     |zero => exact absurd HA.out (by simp [w6_MobsOrder.j1])
     |succ kj22 =>
      have H := HA.out
      clear HA
      simp only [w6_MobsOrder.j1] at H
      by_cases c34 : x107_22 = true
      ·subst c34
       have H1 : (some false) = some r := by rw [if_pos rfl] at H; exact H
       clear H
       have H := H1
       clear H1
       obtain rfl := Option.some.inj H
       go_wp2
       go_ret
       exact ⟨by first | rfl | (simp [errW_none, errW_some] <;> rfl) | (simp [*, errW_none, errW_some] <;> rfl), by repeat (first | (with_reducible first | exact HB.out | apply below_alloc | apply pw_below_drewN | apply below_drew1) | exact HB.out)⟩
      ·replace c34 := Bool.eq_false_iff.mpr c34
       subst c34
       have H1 : (if t369 = true then ((w6_same.f kj22 l0 l1).bind fun t377 => (if (t371 == t377) = true then (if t373 = true then (if t375 = true then ((w6_alive.f).bind fun t378 => (some t378)) else (some false)) else ((w6_alive.f).bind fun t379 => (some t379))) else (some false))) else ((w6_same.f kj22 l0 l1).bind fun t380 => (if (false == t380) = true then ((w6_alive.f).bind fun t381 => (some t381)) else (some false)))) = some r := by rw [if_neg (show ¬ (false = true) by decide)] at H; exact H
       clear H
       have H := H1
       clear H1
       by_cases c35 : t369 = true
       ·subst c35
        have H1 : ((w6_same.f kj22 l0 l1).bind fun t377 => (if (t371 == t377) = true then (if t373 = true then (if t375 = true then ((w6_alive.f).bind fun t378 => (some t378)) else (some false)) else ((w6_alive.f).bind fun t379 => (some t379))) else (some false))) = some r := by rw [if_pos rfl] at H; exact H
        clear H
        have H := H1
        clear H1
        replace H := Option.bind_eq_some_iff.mp H
        obtain ⟨t377, A360, H⟩ := H
        replace H : (if (t371 == t377) = true then (if t373 = true then (if t375 = true then ((w6_alive.f).bind fun t378 => (some t378)) else (some false)) else ((w6_alive.f).bind fun t379 => (some t379))) else (some false)) = some r := H
        have A36 := As0.mk A360
        clear A360
        by_cases c37 : (t371 == t377) = true
        ·rw [if_pos c37] at H
         have c37b0 : (t371 == t377) = true := c37
         (try (have c37b1 : decide (t371 = t377) = true := by simpa using c37))
         (try (have c37b2 : (t371 == t377) = true := by simpa using c37))
         clear c37
         by_cases c38 : t373 = true
         ·subst c38
          have H1 : (if t375 = true then ((w6_alive.f).bind fun t378 => (some t378)) else (some false)) = some r := by rw [if_pos rfl] at H; exact H
          clear H
          have H := H1
          clear H1
          by_cases c39 : t375 = true
          ·subst c39
           have H1 : ((w6_alive.f).bind fun t378 => (some t378)) = some r := by rw [if_pos rfl] at H; exact H
           clear H
           have H := H1
           clear H1
           replace H := Option.bind_eq_some_iff.mp H
           obtain ⟨t378, A400, H⟩ := H
           replace H : (some t378) = some r := H
           have A40 := As0.mk A400
           clear A400
           obtain rfl := Option.some.inj H
           go_wp2_with (first | ((with_reducible refine gate_callee (f := 27) rfl ?_); refine goesL_ (some 114) rfl rfl Tra.func27 (by kernel_rfl) rfl #[.slice A0 l0.length c0, .slice A1 l1.length c1] rfl (by (try simp only [List.map_toArray, List.map_cons, List.map_nil]); first | done | rfl | (simp only [List.length_drop, List.length_take]; rfl)) ?_; (with_reducible refine (w6_same.calls kj22 _ _ l0 _ _ l1 t377 _ ?side1 ?side2 ?side3 ?side4 A36.out).mono ?_); (case side1 => repeat (first | exact (Kd.C_below HR0.out HB.out) | (with_reducible refine Kd.C_alloc ?_ _) | (with_reducible refine Kd.C_drewN ?_ _) | (with_reducible refine Kd.C_drew ?_))); (case side2 => exact HC0.out); (case side3 => repeat (first | exact (Kd.C_below HR1.out HB.out) | (with_reducible refine Kd.C_alloc ?_ _) | (with_reducible refine Kd.C_drewN ?_ _) | (with_reducible refine Kd.C_drew ?_))); (case side4 => exact HC1.out); rintro e w' ⟨rfl, ⟨nd, rfl⟩⟩; refine ⟨_, rfl, ?_⟩) | (go_at_call 20; (with_reducible refine (w6_alive.calls  t378 _ A40.out).mono ?_); rintro e w41 ⟨rfl, hb⟩; have n0_ := As0.mk (below_step (by repeat (first | (with_reducible first | exact HB.out | apply below_alloc | apply pw_below_drewN | apply below_drew1) | exact HB.out)) hb); clear HB; have HB := n0_; clear n0_; (try clear hb); (try clear hb2); (try clear hk); (try clear hi)))
           go_ret
           exact ⟨by first | rfl | (simp [errW_none, errW_some] <;> rfl) | (simp [*, errW_none, errW_some] <;> rfl), by repeat (first | (with_reducible first | exact HB.out | apply below_alloc | apply pw_below_drewN | apply below_drew1) | exact HB.out)⟩
          ·replace c39 := Bool.eq_false_iff.mpr c39
           subst c39
           have H1 : (some false) = some r := by rw [if_neg (show ¬ (false = true) by decide)] at H; exact H
           clear H
           have H := H1
           clear H1
           obtain rfl := Option.some.inj H
           go_wp2_with (first | ((with_reducible refine gate_callee (f := 27) rfl ?_); refine goesL_ (some 114) rfl rfl Tra.func27 (by kernel_rfl) rfl #[.slice A0 l0.length c0, .slice A1 l1.length c1] rfl (by (try simp only [List.map_toArray, List.map_cons, List.map_nil]); first | done | rfl | (simp only [List.length_drop, List.length_take]; rfl)) ?_; (with_reducible refine (w6_same.calls kj22 _ _ l0 _ _ l1 t377 _ ?side1 ?side2 ?side3 ?side4 A36.out).mono ?_); (case side1 => repeat (first | exact (Kd.C_below HR0.out HB.out) | (with_reducible refine Kd.C_alloc ?_ _) | (with_reducible refine Kd.C_drewN ?_ _) | (with_reducible refine Kd.C_drew ?_))); (case side2 => exact HC0.out); (case side3 => repeat (first | exact (Kd.C_below HR1.out HB.out) | (with_reducible refine Kd.C_alloc ?_ _) | (with_reducible refine Kd.C_drewN ?_ _) | (with_reducible refine Kd.C_drew ?_))); (case side4 => exact HC1.out); rintro e w' ⟨rfl, ⟨nd, rfl⟩⟩; refine ⟨_, rfl, ?_⟩))
           go_ret
           exact ⟨by first | rfl | (simp [errW_none, errW_some] <;> rfl) | (simp [*, errW_none, errW_some] <;> rfl), by repeat (first | (with_reducible first | exact HB.out | apply below_alloc | apply pw_below_drewN | apply below_drew1) | exact HB.out)⟩
         ·replace c38 := Bool.eq_false_iff.mpr c38
          subst c38
          have H1 : ((w6_alive.f).bind fun t379 => (some t379)) = some r := by rw [if_neg (show ¬ (false = true) by decide)] at H; exact H
          clear H
          have H := H1
          clear H1
          replace H := Option.bind_eq_some_iff.mp H
          obtain ⟨t379, A420, H⟩ := H
          replace H : (some t379) = some r := H
          have A42 := As0.mk A420
          clear A420
          obtain rfl := Option.some.inj H
          go_wp2_with (first | ((with_reducible refine gate_callee (f := 27) rfl ?_); refine goesL_ (some 114) rfl rfl Tra.func27 (by kernel_rfl) rfl #[.slice A0 l0.length c0, .slice A1 l1.length c1] rfl (by (try simp only [List.map_toArray, List.map_cons, List.map_nil]); first | done | rfl | (simp only [List.length_drop, List.length_take]; rfl)) ?_; (with_reducible refine (w6_same.calls kj22 _ _ l0 _ _ l1 t377 _ ?side1 ?side2 ?side3 ?side4 A36.out).mono ?_); (case side1 => repeat (first | exact (Kd.C_below HR0.out HB.out) | (with_reducible refine Kd.C_alloc ?_ _) | (with_reducible refine Kd.C_drewN ?_ _) | (with_reducible refine Kd.C_drew ?_))); (case side2 => exact HC0.out); (case side3 => repeat (first | exact (Kd.C_below HR1.out HB.out) | (with_reducible refine Kd.C_alloc ?_ _) | (with_reducible refine Kd.C_drewN ?_ _) | (with_reducible refine Kd.C_drew ?_))); (case side4 => exact HC1.out); rintro e w' ⟨rfl, ⟨nd, rfl⟩⟩; refine ⟨_, rfl, ?_⟩) | (go_at_call 20; (with_reducible refine (w6_alive.calls  t379 _ A42.out).mono ?_); rintro e w43 ⟨rfl, hb⟩; have n0_ := As0.mk (below_step (by repeat (first | (with_reducible first | exact HB.out | apply below_alloc | apply pw_below_drewN | apply below_drew1) | exact HB.out)) hb); clear HB; have HB := n0_; clear n0_; (try clear hb); (try clear hb2); (try clear hk); (try clear hi)))
          go_ret
          exact ⟨by first | rfl | (simp [errW_none, errW_some] <;> rfl) | (simp [*, errW_none, errW_some] <;> rfl), by repeat (first | (with_reducible first | exact HB.out | apply below_alloc | apply pw_below_drewN | apply below_drew1) | exact HB.out)⟩
        ·rw [if_neg c37] at H
         have c37b0 : (t371 == t377) = false := by simpa using c37
         (try (have c37b1 : decide (t371 = t377) = false := by simpa using c37))
         (try (have c37b2 : (t371 == t377) = false := by simpa using c37))
         (try (have c37b3 : ¬ (t371 = t377) := by simpa using c37))
         clear c37
         obtain rfl := Option.some.inj H
         go_wp2_with (first | ((with_reducible refine gate_callee (f := 27) rfl ?_); refine goesL_ (some 114) rfl rfl Tra.func27 (by kernel_rfl) rfl #[.slice A0 l0.length c0, .slice A1 l1.length c1] rfl (by (try simp only [List.map_toArray, List.map_cons, List.map_nil]); first | done | rfl | (simp only [List.length_drop, List.length_take]; rfl)) ?_; (with_reducible refine (w6_same.calls kj22 _ _ l0 _ _ l1 t377 _ ?side1 ?side2 ?side3 ?side4 A36.out).mono ?_); (case side1 => repeat (first | exact (Kd.C_below HR0.out HB.out) | (with_reducible refine Kd.C_alloc ?_ _) | (with_reducible refine Kd.C_drewN ?_ _) | (with_reducible refine Kd.C_drew ?_))); (case side2 => exact HC0.out); (case side3 => repeat (first | exact (Kd.C_below HR1.out HB.out) | (with_reducible refine Kd.C_alloc ?_ _) | (with_reducible refine Kd.C_drewN ?_ _) | (with_reducible refine Kd.C_drew ?_))); (case side4 => exact HC1.out); rintro e w' ⟨rfl, ⟨nd, rfl⟩⟩; refine ⟨_, rfl, ?_⟩))
         go_ret
         exact ⟨by first | rfl | (simp [errW_none, errW_some] <;> rfl) | (simp [*, errW_none, errW_some] <;> rfl), by repeat (first | (with_reducible first | exact HB.out | apply below_alloc | apply pw_below_drewN | apply below_drew1) | exact HB.out)⟩
       ·replace c35 := Bool.eq_false_iff.mpr c35
        subst c35
        have H1 : ((w6_same.f kj22 l0 l1).bind fun t380 => (if (false == t380) = true then ((w6_alive.f).bind fun t381 => (some t381)) else (some false))) = some r := by rw [if_neg (show ¬ (false = true) by decide)] at H; exact H
        clear H
        have H := H1
        clear H1
        replace H := Option.bind_eq_some_iff.mp H
        obtain ⟨t380, A440, H⟩ := H
        replace H : (if (false == t380) = true then ((w6_alive.f).bind fun t381 => (some t381)) else (some false)) = some r := H
        have A44 := As0.mk A440
        clear A440
        by_cases c45 : (false == t380) = true
        ·rw [if_pos c45] at H
         have c45b0 : (false == t380) = true := c45
         (try (have c45b1 : decide (false = t380) = true := by simpa using c45))
         (try (have c45b2 : (false == t380) = true := by simpa using c45))
         clear c45
         replace H := Option.bind_eq_some_iff.mp H
         obtain ⟨t381, A460, H⟩ := H
         replace H : (some t381) = some r := H
         have A46 := As0.mk A460
         clear A460
         obtain rfl := Option.some.inj H
         go_wp2_with (first | ((with_reducible refine gate_callee (f := 27) rfl ?_); refine goesL_ (some 114) rfl rfl Tra.func27 (by kernel_rfl) rfl #[.slice A0 l0.length c0, .slice A1 l1.length c1] rfl (by (try simp only [List.map_toArray, List.map_cons, List.map_nil]); first | done | rfl | (simp only [List.length_drop, List.length_take]; rfl)) ?_; (with_reducible refine (w6_same.calls kj22 _ _ l0 _ _ l1 t380 _ ?side1 ?side2 ?side3 ?side4 A44.out).mono ?_); (case side1 => repeat (first | exact (Kd.C_below HR0.out HB.out) | (with_reducible refine Kd.C_alloc ?_ _) | (with_reducible refine Kd.C_drewN ?_ _) | (with_reducible refine Kd.C_drew ?_))); (case side2 => exact HC0.out); (case side3 => repeat (first | exact (Kd.C_below HR1.out HB.out) | (with_reducible refine Kd.C_alloc ?_ _) | (with_reducible refine Kd.C_drewN ?_ _) | (with_reducible refine Kd.C_drew ?_))); (case side4 => exact HC1.out); rintro e w' ⟨rfl, ⟨nd, rfl⟩⟩; refine ⟨_, rfl, ?_⟩) | (go_at_call 20; (with_reducible refine (w6_alive.calls  t381 _ A46.out).mono ?_); rintro e w47 ⟨rfl, hb⟩; have n0_ := As0.mk (below_step (by repeat (first | (with_reducible first | exact HB.out | apply below_alloc | apply pw_below_drewN | apply below_drew1) | exact HB.out)) hb); clear HB; have HB := n0_; clear n0_; (try clear hb); (try clear hb2); (try clear hk); (try clear hi)))
         go_ret
         exact ⟨by first | rfl | (simp [errW_none, errW_some] <;> rfl) | (simp [*, errW_none, errW_some] <;> rfl), by repeat (first | (with_reducible first | exact HB.out | apply below_alloc | apply pw_below_drewN | apply below_drew1) | exact HB.out)⟩
        ·rw [if_neg c45] at H
         have c45b0 : (false == t380) = false := by simpa using c45
         (try (have c45b1 : decide (false = t380) = false := by simpa using c45))
         (try (have c45b2 : (false == t380) = false := by simpa using c45))
         (try (have c45b3 : ¬ (false = t380) := by simpa using c45))
         clear c45
         obtain rfl := Option.some.inj H
         go_wp2_with (first | ((with_reducible refine gate_callee (f := 27) rfl ?_); refine goesL_ (some 114) rfl rfl Tra.func27 (by kernel_rfl) rfl #[.slice A0 l0.length c0, .slice A1 l1.length c1] rfl (by (try simp only [List.map_toArray, List.map_cons, List.map_nil]); first | done | rfl | (simp only [List.length_drop, List.length_take]; rfl)) ?_; (with_reducible refine (w6_same.calls kj22 _ _ l0 _ _ l1 t380 _ ?side1 ?side2 ?side3 ?side4 A44.out).mono ?_); (case side1 => repeat (first | exact (Kd.C_below HR0.out HB.out) | (with_reducible refine Kd.C_alloc ?_ _) | (with_reducible refine Kd.C_drewN ?_ _) | (with_reducible refine Kd.C_drew ?_))); (case side2 => exact HC0.out); (case side3 => repeat (first | exact (Kd.C_below HR1.out HB.out) | (with_reducible refine Kd.C_alloc ?_ _) | (with_reducible refine Kd.C_drewN ?_ _) | (with_reducible refine Kd.C_drew ?_))); (case side4 => exact HC1.out); rintro e w' ⟨rfl, ⟨nd, rfl⟩⟩; refine ⟨_, rfl, ?_⟩))
         go_ret
         exact ⟨by first | rfl | (simp [errW_none, errW_some] <;> rfl) | (simp [*, errW_none, errW_some] <;> rfl), by repeat (first | (with_reducible first | exact HB.out | apply below_alloc | apply pw_below_drewN | apply below_drew1) | exact HB.out)⟩
def w6_MobsOrder.Pure : Prop := ∀ (l0 : List Int) (l1 : List Int) (l2 : List Int), l0.length ≤ maxLen → l0.length * 8 ≤ 140737488351232 → (∀ x ∈ l0, (Lit.int .i64 x).wf = true) → l1.length ≤ maxLen → l1.length * 8 ≤ 140737488351232 → (∀ x ∈ l1, (Lit.int .i64 x).wf = true) → l2.length ≤ maxLen → l2.length * 8 ≤ 140737488351232 → (∀ x ∈ l2, (Lit.int .i64 x).wf = true) → ∃ k, w6_MobsOrder.f k l0 l1 l2 = some true
theorem w6_MobsOrder.walk (P : w6_MobsOrder.Pure) (a0 : Option Addr) (len0 cap0 : Nat) (z0 : List Int) (a1 : Option Addr) (len1 cap1 : Nat) (z1 : List Int) (a2 : Option Addr) (len2 cap2 : Nat) (z2 : List Int) (w : World) (w0 : (a0 = none ∧ len0 = 0 ∧ cap0 = 0 ∧ z0 = []) ∨ ∃ x, a0 = some x ∧ len0 ≤ cap0 ∧ cap0 ≤ maxLen ∧ z0.length = cap0 ∧ (∀ i, i < z0.length → w.cell? (x.add i) = some (.int .i64 (z0.getD i 0))) ∧ ∀ n ∈ z0, (Lit.int .i64 n).wf = true) (y0 : len0 * 8 ≤ 140737488351232) (w1 : (a1 = none ∧ len1 = 0 ∧ cap1 = 0 ∧ z1 = []) ∨ ∃ x, a1 = some x ∧ len1 ≤ cap1 ∧ cap1 ≤ maxLen ∧ z1.length = cap1 ∧ (∀ i, i < z1.length → w.cell? (x.add i) = some (.int .i64 (z1.getD i 0))) ∧ ∀ n ∈ z1, (Lit.int .i64 n).wf = true) (y1 : len1 * 8 ≤ 140737488351232) (w2 : (a2 = none ∧ len2 = 0 ∧ cap2 = 0 ∧ z2 = []) ∨ ∃ x, a2 = some x ∧ len2 ≤ cap2 ∧ cap2 ≤ maxLen ∧ z2.length = cap2 ∧ (∀ i, i < z2.length → w.cell? (x.add i) = some (.int .i64 (z2.getD i 0))) ∧ ∀ n ∈ z2, (Lit.int .i64 n).wf = true) (y2 : len2 * 8 ≤ 140737488351232) :
  Calls Tra.prog 9 #[.slice a0 len0 cap0, .slice a1 len1 cap1, .slice a2 len2 cap2] w fun e w' => e = .returned (.bool true) ∧ Below w.heap.size w w' := by
 obtain ⟨l0, rfl, hr0, hm0, hw0, hc0⟩ := ReadsInt.ofRowC w0
 obtain ⟨l1, rfl, hr1, hm1, hw1, hc1⟩ := ReadsInt.ofRowC w1
 obtain ⟨l2, rfl, hr2, hm2, hw2, hc2⟩ := ReadsInt.ofRowC w2
 obtain ⟨k, h⟩ := P l0 l1 l2 hm0 y0 hw0 hm1 y1 hw1 hm2 y2 hw2
 refine (w6_MobsOrder.calls k _ _ l0 _ _ l1 _ _ l2 true w (Kd.C_of_reads (d := (0 : Int)) (h1 := fun _ => rfl) hr0) hc0 (Kd.C_of_reads (d := (0 : Int)) (h1 := fun _ => rfl) hr1) hc1 (Kd.C_of_reads (d := (0 : Int)) (h1 := fun _ => rfl) hr2) hc2 h).mono ?_
 rintro e w' ⟨rfl, hd⟩
 exact ⟨rfl, hd⟩
end Go.Proofs.Ytdhgeondbnpeoaa.P
namespace Go.Proofs.Ytdhgeondbnpeoaa.P
open Go.RowKit Go.Proofs.YtdhgeondbnpeoaaW.PrintWords Go.Proofs.YtdhgeondbnpeoaaW.PrintLast Go.Proofs.YtdhgeondbnpeoaaW.PrintMore
attribute [local go_sem] max2_int min2_int max_two min_two max_three min_three max_four min_four
def mobs_number_2_int.f (l0 : List S89) : Option (List Int) := if (∀ p ∈ l0, Ext.In64 p.f0 ∧ Ext.In64 p.f1) ∧ l0.length < 17592186044416 then some (Ext.numL (l0.map fun p => (p.f0, p.f1))) else none
theorem reads2_of {w : World} {A : Option Addr} {l : List S89} (h : Kd.C k89 w A l.length l) : Ext.Reads2 w A (l.map fun p => (p.f0, p.f1)) := by
 intro hn
 rw [List.length_map] at hn
 obtain ⟨ad, hA, hc⟩ := h.2.2 hn
 refine ⟨ad, hA, fun j p hj => ?_⟩
 rw [List.getElem?_map] at hj
 obtain ⟨q, hq, rfl⟩ := Option.map_eq_some_iff.1 hj
 obtain ⟨c, hs, hr, hcell⟩ := hc j q hq
 obtain rfl := k89_open hr
 have e : k89.sz = 2 := rfl
 rw [e] at hcell
 exact ⟨hcell 0 _ rfl, hcell 1 _ rfl⟩
theorem mobs_number_2_int.own (A0 : Option Addr) (c0 : Nat) (l0 : List S89) (r1 : List Int) (w : World) (hr0 : Kd.C k89 w A0 l0.length l0) (hc0 : l0.length ≤ c0) (h : mobs_number_2_int.f l0 = some r1) :
  Calls Tra.prog 84 #[.slice A0 l0.length c0] w fun e w' => ∃ v0_ : Value, e = .returned v0_ ∧ Ext.OwnI w' w.heap.size v0_ r1 ∧ Below w.heap.size w w' := by
 unfold mobs_number_2_int.f at h
 split at h
 ·rename_i hL
  obtain rfl := Option.some.inj h
  exact (by have := Ext.num2_all A0 c0 (l0.map fun p => (p.f0, p.f1)) w (reads2_of hr0) (by simpa using hL.1) (by simpa using hL.2); rwa [List.length_map] at this)
 ·cases h
end Go.Proofs.Ytdhgeondbnpeoaa.P
namespace Go.Proofs.Ytdhgeondbnpeoaa.P
open Go.RowKit Go.Proofs.YtdhgeondbnpeoaaW.PrintWords Go.Proofs.YtdhgeondbnpeoaaW.PrintLast Go.Proofs.YtdhgeondbnpeoaaW.PrintMore
attribute [local go_sem] max2_int min2_int max_two min_two max_three min_three max_four min_four
def mobs_below.l0 : Nat → List Int → List Int → List (S89) → Int → Int → Option (List Int)
 |0, _, _, _, _, _ => none
 |k + 1, x0, x1, x5, x8, x9 => if x9 < x8 then (if 0 ≤ x9 then (if x9 < (x0.length : Int) then (if x9 < (x1.length : Int) then (if x5.length < 8796093022208 then (mobs_below.l0 k x0 x1 (x5 ++ [(⟨rd x0 x9, rd x1 x9⟩ : S89)]) x8 (wrap64 (x9 + 1))) else (none)) else (none)) else (none)) else (none)) else ((mobs_number_2_int.f x5).bind fun t605 => (some t605))
def mobs_below.f (k : Nat) (l0 : List Int) (l1 : List Int) : Option (List Int) := mobs_below.l0 k l0 l1 ([] : List (S89)) (l0.length : Int) 0
def mobs_below.T5 : Bool × List (List Nat × List Nat) := (true, [([], []), ([], []), ([], []), ([1, 2], [1, 2]), ([3], [3]), ([], []), ([], []), ([5, 6], [5, 6]), ([7], [7]), ([4, 8], [4, 8]), ([9], [9]), ([0, 10], [0, 10]), ([11, 11, 0, 1, 2, 3, 4, 5, 6, 7, 8, 9, 10, 11], [0, 11])])
def mobs_below.B5 : List Nat := [0, 0, 0, 6, 14, 0, 0, 96, 224, 510, 1022, 2047, 4095]
theorem mobs_below.tab5 : rtab .any (opsOf Tra.f63 5) = mobs_below.T5 := by kernel_rfl
theorem mobs_below.bits5 : waitsOk mobs_below.T5.2 mobs_below.B5 = true := by kernel_rfl
set_option maxHeartbeats 8000000 in
set_option maxRecDepth 100000 in
theorem mobs_below.flat (k : Nat) (A0 : Option Addr) (c0 : Nat) (l0 : List Int) (A1 : Option Addr) (c1 : Nat) (l1 : List Int) (r : List Int) (w : World) (hr0 : Kd.C (Kd.int .i64) w A0 l0.length l0) (hc0 : l0.length ≤ c0) (hr1 : Kd.C (Kd.int .i64) w A1 l1.length l1) (hc1 : l1.length ≤ c1) (h : mobs_below.f k l0 l1 = some r) :
  Calls Tra.prog 63 #[.slice A0 l0.length c0, .slice A1 l1.length c1] w fun e w' => ∃ v0_ : Value, e = .returned (v0_) ∧ Ext.OwnI w' w.heap.size v0_ r ∧ Below w.heap.size w w' := by
 have hu89 := Tra.underlying89
 have HR0 := As0.mk hr0
 have HC0 := As0.mk hc0
 clear hr0 hc0
 have HR1 := As0.mk hr1
 have HC1 := As0.mk hc1
 clear hr1 hc1
 have HB := As0.mk (Below.refl w.heap.size w)
 have H : (mobs_below.l0 k l0 l1 ([] : List (S89)) (l0.length : Int) 0) = some r := h
 clear h
 have H' := As0.mk H
 clear H
 go_enter Tra.func63, Tra.ntmps63
 go_wp2
 go_loopg [5, 9] k (fun kq v5 v9 w' => ∃ (x5_1 : List (S89)) (x9_1 : Int), v9 = .int .i64 x9_1 ∧ As0 (mobs_below.l0 kq l0 l1 x5_1 (l0.length : Int) x9_1 = some r) ∧ As0 (kq ≤ k) ∧ As0 (Kd.R k89 89 w' w.heap.size (fun _ => True) v5 x5_1) ∧ As0 (Below w.heap.size w w'))
 case atStart => exact ⟨(([] : List (S89))), (0), (by first | rfl | (simp; done) | (simp [*]; done)), H', ⟨Nat.le_refl _⟩, ⟨by first | exact Kd.R_nil _ _ _ _ _ | exact Kd.N_nil _ _ _ _ _ | exact Kd.V_nil _ _ _ _ _ | exact Kd.Q_nil _ _ _ _ _ | exact Kd.S_nil _ _ _ _ _⟩, ⟨by repeat (first | (with_reducible first | exact HB.out | apply below_alloc | apply pw_below_drewN | apply below_drew1) | exact HB.out)⟩⟩
 case round =>
  clear H'
  try clear c1
  try clear p2
  obtain ⟨x5_1, x9_1, rfl, HA, HK1, HO_5, HB⟩ := hrel
  cases gk with
  |zero => exact absurd HA.out (by simp [mobs_below.l0])
  |succ k1 =>
   have H := HA.out
   clear HA
   simp only [mobs_below.l0] at H
   by_cases c3 : x9_1 < (l0.length : Int)
   ·rw [if_pos c3] at H
    have c3b0 : decide (x9_1 < (l0.length : Int)) = true := decide_eq_true c3
    clear c3
    by_cases c4 : 0 ≤ x9_1
    ·rw [if_pos c4] at H
     have c4b0 : decide (0 ≤ x9_1) = true := decide_eq_true c4
     clear c4
     by_cases c5 : x9_1 < (l0.length : Int)
     ·rw [if_pos c5] at H
      have c5b0 : decide (x9_1 < (l0.length : Int)) = true := decide_eq_true c5
      clear c5
      by_cases c6 : x9_1 < (l1.length : Int)
      ·rw [if_pos c6] at H
       have c6b0 : decide (x9_1 < (l1.length : Int)) = true := decide_eq_true c6
       clear c6
       by_cases c7 : x5_1.length < 8796093022208
       ·rw [if_pos c7] at H
        have LMc7 := As0.mk c7
        clear c7
        obtain ⟨y602, hy602⟩ : ∃ y_ : List (S89), y_ = (x5_1 ++ [(⟨rd l0 x9_1, rd l1 x9_1⟩ : S89)]) := ⟨_, rfl⟩
        replace H : (mobs_below.l0 k1 l0 l1 y602 (l0.length : Int) (wrap64 (x9_1 + 1))) = some r := by first | (rw [hy602]; with_reducible exact H) | (have H2_ := (Option.bind_some _ _).symm.trans H; rw [hy602]; with_reducible exact H2_) | (have H2_ := (Option.bind_some _ _).symm.trans H; with_reducible exact H2_) | with_reducible exact H | (rw [hy602]; exact H) | exact H
        have Ny602 := As0.mk hy602
        clear hy602
        have H' := As0.mk H
        clear H
        try go_wp2
        have n0_ := As0.mk (Kd.R_drew HO_5.out)
        have n1_ := As0.mk (below_drew1 HB.out)
        clear HO_5
        clear HB
        have HO_5 := n0_
        have HB := n1_
        clear n0_ n1_
        have p600 : 0 ≤ (x9_1 : Int) := of_decide_eq_true (by first | (with_reducible assumption) | assumption)
        have q600 : x9_1 < (l0.length : Int) := of_decide_eq_true (by first | (with_reducible assumption) | assumption)
        obtain ⟨ad600, e600, hx600_0⟩ := Kd.at_int HR0.out x9_1 p600 q600
        have hw600_0 := hx600_0
        cases e600
        replace hx600_0 := (HB.out.cell (World.block_lt_of_cell? w _ hx600_0)).trans hx600_0
        replace p600 := eq_true p600
        replace q600 := eq_true q600
        have p601 : 0 ≤ (x9_1 : Int) := of_decide_eq_true (by first | (with_reducible assumption) | assumption)
        have q601 : x9_1 < (l1.length : Int) := of_decide_eq_true (by first | (with_reducible assumption) | assumption)
        obtain ⟨ad601, e601, hx601_0⟩ := Kd.at_int HR1.out x9_1 p601 q601
        have hw601_0 := hx601_0
        cases e601
        replace hx601_0 := (HB.out.cell (World.block_lt_of_cell? w _ hx601_0)).trans hx601_0
        replace p601 := eq_true p601
        replace q601 := eq_true q601
        refine start_ (n := 13) (S := fun w' => w'.cell? (ad600.add (x9_1).toNat) = some (.int .i64 (rd l0 x9_1)) ∧ w'.cell? (ad601.add (x9_1).toNat) = some (.int .i64 (rd l1 x9_1))) (ds := []) #[false, false, false, false, false, false, false, false, false, false, false, false, false] (by kernel_rfl) rfl rfl ⟨((HB.out.cell (World.block_lt_of_cell? w _ hw600_0)).trans hw600_0), ((HB.out.cell (World.block_lt_of_cell? w _ hw601_0)).trans hw601_0)⟩ (fun hHeld => ?_); refine with_tabW mobs_below.tab5 mobs_below.bits5 (fun HT_ HW_ => ?_)
        generalize wr.drew = w8 at HO_5 HB hx600_0 hx601_0 hHeld ⊢
        refine pure_ (i := 0) (N := some 12) (v := ?_) (a' := ?_) #[true, false, false, false, false, false, false, false, false, false, false, false, false] rfl rfl (any_of HT_.out (by kernel_rfl)) (fun _ _ _ h => h) (Or.inl ⟨by rfl, ?_⟩) ?_ ?_
        rotate_left
        ·intro w'
         go_simp
         with_reducible rfl
        rotate_left
        ·simp only [Act.put, List.setIfInBounds_toArray, List.set_cons_zero, List.set_cons_succ, i64_w, i32_w]
         rfl
        refine pure_ (i := 1) (N := some 13) (v := ?_) (a' := ?_) #[true, true, false, false, false, false, false, false, false, false, false, false, false] rfl rfl (any_of HT_.out (by kernel_rfl)) (fun _ _ _ h => h) (Or.inl ⟨by rfl, ?_⟩) ?_ ?_
        rotate_left
        ·intro w'
         go_simp
         with_reducible rfl
        rotate_left
        ·simp only [Act.put, List.setIfInBounds_toArray, List.set_cons_zero, List.set_cons_succ, i64_w, i32_w]
         rfl
        refine pure_ (i := 2) (N := some 14) (v := ?_) (a' := ?_) #[true, true, true, false, false, false, false, false, false, false, false, false, false] rfl rfl (any_of HT_.out (by kernel_rfl)) (fun _ _ _ h => h) (Or.inl ⟨by rfl, ?_⟩) ?_ ?_
        rotate_left
        ·intro w'
         go_simp
         with_reducible rfl
        rotate_left
        ·simp only [Act.put, List.setIfInBounds_toArray, List.set_cons_zero, List.set_cons_succ, i64_w, i32_w]
         rfl
        refine pure_ (i := 3) (N := some 15) (v := ?_) (a' := ?_) #[true, true, true, true, false, false, false, false, false, false, false, false, false] rfl rfl (any_of HT_.out (by kernel_rfl)) (fun _ _ _ h => h) (Or.inl ⟨by rfl, ?_⟩) ?_ ?_
        rotate_left
        ·intro w'
         go_simp
         with_reducible rfl
        rotate_left
        ·simp only [Act.put, List.setIfInBounds_toArray, List.set_cons_zero, List.set_cons_succ, i64_w, i32_w]
         rfl
        refine pure_ (i := 5) (N := some 17) (v := ?_) (a' := ?_) #[true, true, true, true, false, true, false, false, false, false, false, false, false] rfl rfl (any_of HT_.out (by kernel_rfl)) (fun _ _ _ h => h) (Or.inl ⟨by rfl, ?_⟩) ?_ ?_
        rotate_left
        ·intro w'
         go_simp
         with_reducible rfl
        rotate_left
        ·simp only [Act.put, List.setIfInBounds_toArray, List.set_cons_zero, List.set_cons_succ, i64_w, i32_w]
         rfl
        refine pure_ (i := 6) (N := some 18) (v := ?_) (a' := ?_) #[true, true, true, true, false, true, true, false, false, false, false, false, false] rfl rfl (any_of HT_.out (by kernel_rfl)) (fun _ _ _ h => h) (Or.inl ⟨by rfl, ?_⟩) ?_ ?_
        rotate_left
        ·intro w'
         go_simp
         with_reducible rfl
        rotate_left
        ·simp only [Act.put, List.setIfInBounds_toArray, List.set_cons_zero, List.set_cons_succ, i64_w, i32_w]
         rfl
        refine pure_ (i := 7) (N := some 19) (v := ?_) (a' := ?_) #[true, true, true, true, false, true, true, true, false, false, false, false, false] rfl rfl (any_of HT_.out (by kernel_rfl)) (fun _ _ _ h => h) (Or.inl ⟨by rfl, ?_⟩) ?_ ?_
        rotate_left
        ·intro w'
         go_simp
         with_reducible rfl
        rotate_left
        ·simp only [Act.put, List.setIfInBounds_toArray, List.set_cons_zero, List.set_cons_succ, i64_w, i32_w]
         rfl
        refine take_ (i := 4) (N := some 16) (v := ?_) (a' := ?_) #[true, true, true, true, true, true, true, true, false, false, false, false, false] rfl rfl (take_ofW HT_.out HW_.out (by kernel_rfl)) (fun _ _ _ h => h) (Or.inl ⟨by rfl, ?_⟩) hHeld ?_ ?_
        rotate_left
        ·rintro w' ⟨s0, s1⟩
         go_simp
         with_reducible rfl
        rotate_left
        ·simp only [Act.put, List.setIfInBounds_toArray, List.set_cons_zero, List.set_cons_succ, i64_w, i32_w]
         rfl
        refine take_ (i := 8) (N := some 20) (v := ?_) (a' := ?_) #[true, true, true, true, true, true, true, true, true, false, false, false, false] rfl rfl (take_ofW HT_.out HW_.out (by kernel_rfl)) (fun _ _ _ h => h) (Or.inl ⟨by rfl, ?_⟩) hHeld ?_ ?_
        rotate_left
        ·rintro w' ⟨s0, s1⟩
         go_simp
         with_reducible rfl
        rotate_left
        ·simp only [Act.put, List.setIfInBounds_toArray, List.set_cons_zero, List.set_cons_succ, i64_w, i32_w]
         rfl
        refine pure_ (i := 9) (N := some 21) (v := ?_) (a' := ?_) #[true, true, true, true, true, true, true, true, true, true, false, false, false] rfl rfl (any_of HT_.out (by kernel_rfl)) (fun _ _ _ h => h) (Or.inl ⟨by rfl, ?_⟩) ?_ ?_
        rotate_left
        ·intro w'
         go_simp
         with_reducible rfl
        rotate_left
        ·simp only [Act.put, List.setIfInBounds_toArray, List.set_cons_zero, List.set_cons_succ, i64_w, i32_w]
         rfl
        refine one_ (i := 10) (N := some 22) #[true, true, true, true, true, true, true, true, true, true, true, false, false] rfl rfl (one_of HT_.out (by kernel_rfl)) (by decide) (fun K hK => ?_)
        refine value_ (w1 := ?_) (v := ?_) (by rfl) rfl ?_ ?_
        rotate_left 2
        ·go_simp
         constructor
         ·rfl
         ·rfl
        refine hK.out _ _ ⟨(World.cell?_alloc_lt _ _ _ (World.block_lt_of_cell? _ _ (((HB.out.cell (World.block_lt_of_cell? w _ hw600_0)).trans hw600_0)))).trans (((HB.out.cell (World.block_lt_of_cell? w _ hw600_0)).trans hw600_0)), (World.cell?_alloc_lt _ _ _ (World.block_lt_of_cell? _ _ (((HB.out.cell (World.block_lt_of_cell? w _ hw601_0)).trans hw601_0)))).trans (((HB.out.cell (World.block_lt_of_cell? w _ hw601_0)).trans hw601_0))⟩ (fun hHeld => ?_)
        clear hK K
        refine norm_ (a' := ?_) ?_ ?_
        rotate_left
        ·show Act.put _ (some 22) _ = _
         simp only [Act.put, List.setIfInBounds_toArray, List.set_cons_zero, List.set_cons_succ, i64_w, i32_w]
         rfl
        refine one_ (i := 11) (N := some 23) #[true, true, true, true, true, true, true, true, true, true, true, true, false] rfl rfl (one_of HT_.out (by kernel_rfl)) (by decide) (fun K hK => ?_)
        refine Kd.R_append_step k89 (w0 := w) w.heap.size (by rfl) (.tmp 12) (.tmp 22) 88 89 (.agg #[(.int .i64 0), (.int .i64 0)]) 16 rfl Tra.underlying88 info89 rfl (by decide) (by omega) u5 x5_1 (⟨rd l0 x9_1, rd l1 x9_1⟩ : S89) [.int .i64 (rd l0 x9_1), .int .i64 (rd l1 x9_1)] (fun _ => True) (fun _ => False) rfl rfl ?aP (fun _ hk => hk.elim) ?aF ?aO ?aB ?aS ?aL ?_
        (case aP => exact k89_mkM _ _ _ (⟨rd l0 x9_1, rd l1 x9_1⟩ : S89))
        (case aB => exact (by repeat (first | (with_reducible first | exact HB.out | apply below_alloc | apply pw_below_drewN | apply below_drew1) | exact HB.out)))
        (case aF => exact (fun _ _ => trivial))
        (case aO => exact (by (with_reducible repeat (first | apply Kd.R_alloc | apply Kd.R_drewN | apply Kd.R_drew)); exact HO_5.out))
        (case aS => exact (below_size (by repeat (first | (with_reducible first | exact HB.out | apply below_alloc | apply pw_below_drewN | apply below_drew1) | exact HB.out))))
        (case aL => have := LMc7.out; omega)
        intro v603 w9 ho hb hg hat
        rw [← Ny602.out] at ho
        have n0_ := As0.mk (hb)
        have n1_ := As0.mk (ho)
        clear HB
        clear HO_5
        have HB := n0_
        have HO604 := n1_
        clear n0_ n1_
        clear ho hb hg hat
        refine hK.out _ _ ⟨((HB.out.cell (World.block_lt_of_cell? w _ hw600_0)).trans hw600_0), ((HB.out.cell (World.block_lt_of_cell? w _ hw601_0)).trans hw601_0)⟩ (fun hHeld => ?_)
        clear hK K
        refine norm_ (a' := ?_) ?_ ?_
        rotate_left
        ·show Act.put _ (some 23) _ = _
         simp only [Act.put, List.setIfInBounds_toArray, List.set_cons_zero, List.set_cons_succ, i64_w, i32_w]
         rfl
        refine pure_ (i := 12) (N := some 5) (v := ?_) (a' := ?_) #[true, true, true, true, true, true, true, true, true, true, true, true, true] rfl rfl (any_of HT_.out (by kernel_rfl)) (fun _ _ _ h => h) (Or.inl ⟨by rfl, ?_⟩) ?_ ?_
        rotate_left
        ·intro w'
         go_simp
         with_reducible rfl
        rotate_left
        ·simp only [Act.put, List.setIfInBounds_toArray, List.set_cons_zero, List.set_cons_succ, i64_w, i32_w]
         rfl
        refine done_ (done_of HT_.out (by kernel_rfl)) ?_
        try go_wp2
        go_roundg k1
        case measure => have := HK1.out; omega
        case rel => exact ⟨(y602), (wrap64 (x9_1 + 1)), (by first | rfl | (simp; done) | (simp [*]; done)), H', ⟨by have := HK1.out; omega⟩, ⟨by (with_reducible repeat (first | apply Kd.R_alloc | apply Kd.R_drewN | apply Kd.R_drew)); exact HO604.out⟩, ⟨by repeat (first | (with_reducible first | exact HB.out | apply below_alloc | apply pw_below_drewN | apply below_drew1) | exact HB.out)⟩⟩
       ·rw [if_neg c7] at H
        exact absurd H (by simp)
      ·rw [if_neg c6] at H
       exact absurd H (by simp)
     ·rw [if_neg c5] at H
      exact absurd H (by simp)
    ·rw [if_neg c4] at H
     exact absurd H (by simp)
   ·rw [if_neg c3] at H
    have c3b0 : decide (x9_1 < (l0.length : Int)) = false := decide_eq_false c3
    clear c3
    replace H := Option.bind_eq_some_iff.mp H
    obtain ⟨t605, A100, H⟩ := H
    replace H : (some t605) = some r := H
    have A10 := As0.mk A100
    clear A100
    obtain rfl := Option.some.inj H
    obtain ⟨Ao11, co11, eo11⟩ := Kd.R_slice HO_5.out
    subst eo11
    go_wp2_with (first | ((with_reducible refine gate_callee (f := 84) rfl ?_); refine goesL_ (some 26) rfl rfl Tra.func84 (by kernel_rfl) rfl #[.slice Ao11 x5_1.length co11] rfl (by (try simp only [List.map_toArray, List.map_cons, List.map_nil]); first | done | rfl | (simp only [List.length_drop, List.length_take]; rfl)) ?_; (with_reducible refine (mobs_number_2_int.own _ _ x5_1 t605 _ ?side1 ?side2 A10.out).mono ?_); (case side1 => repeat (first | exact (Kd.R_reads' HO_5.out).2.2 | (with_reducible refine Kd.C_alloc ?_ _) | (with_reducible refine Kd.C_drewN ?_ _) | (with_reducible refine Kd.C_drew ?_))); (case side2 => exact (Kd.R_reads' HO_5.out).2.1); rintro e w12 ⟨v606, rfl, hoI_, hb⟩; have HOI_ := As0.mk (hoI_.lower (below_size (by repeat (first | (with_reducible first | exact HB.out | apply below_alloc | apply pw_below_drewN | apply below_drew1) | exact HB.out)))); have ho0 := hoI_.toR; clear hoI_; refine ⟨_, rfl, ?_⟩; have n0_ := As0.mk (Kd.R_below (by (with_reducible repeat (first | apply Kd.R_alloc | apply Kd.R_drewN | apply Kd.R_drew)); exact HO_5.out) hb); have n1_ := As0.mk (Kd.R_lower ho0 (below_size (by repeat (first | (with_reducible first | exact HB.out | apply below_alloc | apply pw_below_drewN | apply below_drew1) | exact HB.out)))); have n2_ := As0.mk (below_step (by repeat (first | (with_reducible first | exact HB.out | apply below_alloc | apply pw_below_drewN | apply below_drew1) | exact HB.out)) hb); clear HO_5; clear HB; have HO_5 := n0_; have HO607 := n1_; have HB := n2_; clear n0_ n1_ n2_; (try clear hb); (try clear hb2); (try clear hk); (try clear hi); (try clear ho0)))
    go_ret
    exact ⟨_, by first | rfl | (simp [errW_none, errW_some] <;> rfl) | (simp [*, errW_none, errW_some] <;> rfl), HOI_.out, by repeat (first | (with_reducible first | exact HB.out | apply below_alloc | apply pw_below_drewN | apply below_drew1) | exact HB.out)⟩
end Go.Proofs.Ytdhgeondbnpeoaa.P
namespace Go.Proofs.Ytdhgeondbnpeoaa.Ext
open Go.RowKit Go.Proofs.YtdhgeondbnpeoaaW.PrintWords Go.Proofs.YtdhgeondbnpeoaaW.PrintLast Go.Proofs.YtdhgeondbnpeoaaW.PrintMore
attribute [local go_sem] max2_int min2_int max_two min_two max_three min_three max_four min_four
def swapL (x y : Int) (out : List Int) : List Int := out.map fun z => if z = x then y else z
def swapTo (x y : Int) (out : List Int) (j : Nat) : List Int := swapL x y (out.take j) ++ out.drop j
def joinStep (b : List Int) (i k : Nat) (out : List Int) : List Int := if b.getD i 0 ≠ b.getD k 0 ∨ out.getD i 0 = out.getD k 0 then out else swapL (out.getD i 0) (out.getD k 0) out
def joinIn (b : List Int) (i : Nat) : Nat → List Int → List Int
 |0, o => o
 |k + 1, o => joinStep b i k (joinIn b i k o)
def joinAll (b : List Int) : Nat → List Int → List Int
 |0, o => o
 |i + 1, o => joinIn b i i (joinAll b i o)
def aboveL (a b : List Int) : List Int := numL (joinAll b b.length a)
theorem swapL_len (x y : Int) (o : List Int) : (swapL x y o).length = o.length := by simp [swapL]
theorem swapTo_len (x y : Int) (o : List Int) (j : Nat) : (swapTo x y o j).length = o.length := by simp [swapTo, swapL_len]; omega
theorem joinStep_len (b : List Int) (i k : Nat) (o : List Int) : (joinStep b i k o).length = o.length := by unfold joinStep; split <;> simp [swapL_len]
theorem joinIn_len (b : List Int) (i : Nat) : ∀ (k : Nat) (o : List Int), (joinIn b i k o).length = o.length
 |0, _ => rfl
 |k + 1, o => (joinStep_len b i k _).trans (joinIn_len b i k o)
theorem joinAll_len (b : List Int) : ∀ (i : Nat) (o : List Int), (joinAll b i o).length = o.length
 |0, _ => rfl
 |i + 1, o => (joinIn_len b i i _).trans (joinAll_len b i o)
theorem swapTo_zero (x y : Int) (o : List Int) : swapTo x y o 0 = o := by simp [swapTo, swapL]
theorem swapTo_all (x y : Int) (o : List Int) : swapTo x y o o.length = swapL x y o := by simp [swapTo]
theorem swapTo_at (x y : Int) {o : List Int} {j : Nat} (h : j < o.length) : (swapTo x y o j).getD j 0 = o.getD j 0 := by
 have h1 : (swapL x y (o.take j)).length = j := by rw [swapL_len, List.length_take]; omega
 unfold swapTo
 rw [List.getD_eq_getElem?_getD, List.getElem?_append_right (by omega), h1, Nat.sub_self, List.getElem?_drop, List.getD_eq_getElem?_getD, Nat.add_zero]
theorem swapTo_succ (x y : Int) {o : List Int} {j : Nat} (h : j < o.length) : swapTo x y o (j + 1) = (swapTo x y o j).set j (if o.getD j 0 = x then y else o.getD j 0) := by
 have h1 : (swapL x y (o.take j)).length = j := by rw [swapL_len, List.length_take]; omega
 unfold swapTo
 rw [List.set_append, if_neg (by omega), h1, Nat.sub_self, List.drop_eq_getElem_cons h, List.set_cons_zero, List.take_succ_eq_append_getElem h]
 rw [List.getD_eq_getElem?_getD, List.getElem?_eq_getElem h]
 unfold swapL
 rw [List.map_append, List.append_assoc]
 rfl
theorem swapTo_same (x y : Int) {o : List Int} {j : Nat} (h : j < o.length) (hne : o.getD j 0 ≠ x) : swapTo x y o (j + 1) = swapTo x y o j := by
 rw [swapTo_succ x y h, if_neg hne, ← swapTo_at x y h]
 have hl : j < (swapTo x y o j).length := by rw [swapTo_len]; exact h
 rw [List.getD_eq_getElem?_getD, List.getElem?_eq_getElem hl, Option.getD_some, List.set_getElem_self]
theorem mem_join {b : List Int} {p : Int → Prop} : ∀ {i : Nat} {o : List Int}, (∀ x ∈ o, p x) → p 0 → ∀ x ∈ joinAll b i o, p x := by
 have hg : ∀ {o : List Int} (i : Nat), (∀ x ∈ o, p x) → p 0 → p (o.getD i 0) := by
  intro o i h h0
  rw [List.getD_eq_getElem?_getD]
  cases hi : o[i]? with
  |none => exact h0
  |some v => exact h v (List.mem_of_getElem? hi)
 have hs : ∀ {i k : Nat} {o : List Int}, (∀ x ∈ o, p x) → p 0 → ∀ x ∈ joinStep b i k o, p x := by
  intro i k o h h0 x hx
  unfold joinStep at hx
  split at hx
  ·exact h x hx
  ·simp only [swapL, List.mem_map] at hx
   obtain ⟨z, hz, rfl⟩ := hx
   split
   ·exact hg k h h0
   ·exact h z hz
 have hi : ∀ {i : Nat} (k : Nat) {o : List Int}, (∀ x ∈ o, p x) → p 0 → ∀ x ∈ joinIn b i k o, p x := by
  intro i k
  induction k with
  |zero => intro o h _; exact h
  |succ k ih => intro o h h0; exact hs (ih h h0) h0
 intro i
 induction i with
 |zero => intro o h _; exact h
 |succ i ih => intro o h h0; exact hi i (ih h h0) h0
set_option maxHeartbeats 8000000 in
set_option maxRecDepth 100000 in
theorem above_all (A : Option Addr) (c : Nat) (la : List Int) (B : Option Addr) (cb : Nat) (lb : List Int) (w : World) (hra : Kd.C (Kd.int .i64) w A la.length la) (hrb : Kd.C (Kd.int .i64) w B lb.length lb) (hab : la.length = lb.length) (hok : ∀ x ∈ la, In64 x) (hL : la.length < 17592186044416) :
  Calls Tra.prog 65 #[.slice A la.length c, .slice B lb.length cb] w fun e w' => ∃ v, e = .returned v ∧ OwnI w' w.heap.size v (aboveL la lb) ∧ Below w.heap.size w w' := by
 have HRB := As0.mk hrb
 have HL := As0.mk hL
 have HAB := As0.mk hab
 have HOK := As0.mk (mem_join (b := lb) (i := lb.length) hok (by unfold In64; omega))
 have HA := As0.mk (clone_calls A c la w hra hL)
 clear hra hrb hL hab hok
 go_enter Tra.func65, Tra.ntmps65
 go_wp2_with fail
 refine HA.out.mono ?_
 rintro e w1 ⟨v5, rfl, hR5, hB1⟩
 have HR1 := As0.mk hR5
 have HB1 := As0.mk hB1
 clear hR5 hB1 HA
 go_wp2_with fail
 go_loopw [16] (fun v16 W => ∃ i : Nat, v16 = .int .i64 i ∧ As0 (i ≤ lb.length) ∧ As0 (Kd.R (Kd.int .i64) 3 W w.heap.size (fun _ => True) v5 (joinAll lb i la)) ∧ As0 (Below w.heap.size w W)) (fun v16 _ => (lb.length - intOf v16).toNat)
 case atStart => exact ⟨0, rfl, ⟨Nat.zero_le _⟩, HR1, HB1⟩
 case round =>
  obtain ⟨i, rfl, hi, hR, hB⟩ := hrel
  have hi' := hi.out
  have hab := HAB.out
  have hLo : lb.length < 17592186044416 := by have := HL.out; omega
  by_cases hlt : i < lb.length
  ·obtain ⟨g, cap, hv, hbg, hgl, _⟩ := Kd.R_form hR.out (by rw [joinAll_len]; omega)
   rw [joinAll_len, hab] at hv
   subst hv
   have HLEN := As0.mk (joinAll_len lb i la)
   have HI := As0.mk hlt
   clear hab
   go_wp2_with fail
   go_loopw [20] (fun v20 W => ∃ k : Nat, v20 = .int .i64 k ∧ As0 (k ≤ i) ∧ As0 (Kd.R (Kd.int .i64) 3 W w.heap.size (fun _ => True) (.slice (some ⟨g, 0, none⟩) lb.length cap) (joinIn lb i k (joinAll lb i la))) ∧ As0 (Below w.heap.size w W)) (fun v20 _ => (i - intOf v20).toNat)
   case atStart => exact ⟨0, rfl, ⟨Nat.zero_le _⟩, hR, hB⟩
   case round =>
    clear hR hB
    obtain ⟨k, rfl, hk, hR, hB⟩ := hrel
    have hk' := hk.out
    by_cases hki : k < i
    ·have hkl : k < lb.length := by omega
     have hln := joinIn_len lb i k (joinAll lb i la)
     have hln2 := HLEN.out
     have hab := HAB.out
     obtain ⟨o, ho⟩ : ∃ o, o = joinIn lb i k (joinAll lb i la) := ⟨_, rfl⟩
     rw [← ho] at hR hln
     have HOE := As0.mk ho
     clear ho
     obtain ⟨hci, hfi⟩ := Kd.R_celln 0 hR.out (i : Int) (by omega) (by omega)
     obtain ⟨hck, hfk⟩ := Kd.R_celln 0 hR.out (k : Int) (by omega) (by omega)
     obtain ⟨bd, rfl, hbi⟩ := Kd.at_int (Kd.C_below HRB.out hB.out) (i : Int) (by omega) (by omega)
     obtain ⟨bd', hbe, hbk⟩ := Kd.at_int (Kd.C_below HRB.out hB.out) (k : Int) (by omega) (by omega)
     injection hbe with hbe
     subst hbe
     simp only [Int.toNat_natCast, rdOf, rd] at hci hck hbi hbk
     obtain ⟨oi, hoi⟩ : ∃ x, x = o.getD i 0 := ⟨_, rfl⟩
     obtain ⟨ok, hok⟩ : ∃ x, x = o.getD k 0 := ⟨_, rfl⟩
     obtain ⟨bi, hbi'⟩ : ∃ x, x = lb.getD i 0 := ⟨_, rfl⟩
     obtain ⟨bk, hbk'⟩ : ∃ x, x = lb.getD k 0 := ⟨_, rfl⟩
     replace hci : wr.cell? ⟨g, i, none⟩ = some (.int .i64 oi) := by rw [hoi]; exact hci
     replace hck : wr.cell? ⟨g, k, none⟩ = some (.int .i64 ok) := by rw [hok]; exact hck
     rw [← hbi'] at hbi
     rw [← hbk'] at hbk
     have HST := As0.mk (show joinIn lb i (k + 1) (joinAll lb i la) = if bi ≠ bk ∨ oi = ok then o else swapL oi ok o from by rw [hbi', hbk', hoi, hok, HOE.out]; rfl)
     have HOI := As0.mk hoi
     have HOK2 := As0.mk hok
     have HLN := As0.mk (hln.trans hln2)
     clear hoi hok hbi' hbk' hfi hfk hln hln2
     by_cases hbb : bi = bk
     ·by_cases hoo : oi = ok
      ·subst hbb hoo
       have HST2 := As0.mk (HST.out.trans (if_pos (.inr rfl)))
       clear HST
       go_wp2_with fail
       go_quiet (fail)
       go_wp2_with fail
       go_roundw
       case rel => exact ⟨k + 1, by go_num, ⟨by omega⟩, ⟨by rw [HST2.out]; exact Kd.R_drewN hR.out _⟩, ⟨pw_below_drewN hB.out _⟩⟩
       case measure => simp [intOf]; omega
      ·subst hbb
       have HST2 := As0.mk (HST.out.trans (if_neg (by rintro (h | h); exact h rfl; exact hoo h)))
       have hoo1 : (oi == ok) = false := beq_eq_false_iff_ne.mpr hoo
       clear HST
       go_wp2_with fail
       go_quiet (fail)
       have HRq := As0.mk (Kd.R_drewN hR.out nq)
       have HBq := As0.mk (pw_below_drewN hB.out nq)
       go_wp2_with fail
       go_quiet (fail)
       have HR0 := As0.mk (show Kd.R (Kd.int .i64) 3 _ w.heap.size (fun _ => True) (.slice (some ⟨g, 0, none⟩) lb.length cap) (swapTo oi ok o 0) from by rw [swapTo_zero]; exact Kd.R_drewN HRq.out nq)
       have HB0 := As0.mk (pw_below_drewN HBq.out nq)
       clear hci hck hbi hbk hR hB HRq HBq
       go_wp2_with fail
       go_loopw [53] (fun v53 W => ∃ j : Nat, v53 = .int .i64 j ∧ As0 (j ≤ lb.length) ∧ As0 (Kd.R (Kd.int .i64) 3 W w.heap.size (fun _ => True) (.slice (some ⟨g, 0, none⟩) lb.length cap) (swapTo oi ok o j)) ∧ As0 (Below w.heap.size w W)) (fun v53 _ => (lb.length - intOf v53).toNat)
       case atStart => exact ⟨0, rfl, ⟨Nat.zero_le _⟩, ⟨by first | exact HR0.out | (have h := HR0.out; rwa [World.drewN_drewN] at h)⟩, ⟨by first | exact HB0.out | (have h := HB0.out; rwa [World.drewN_drewN] at h)⟩⟩
       case round =>
        clear HR0 HB0
        obtain ⟨j, rfl, hj, hR, hB⟩ := hrel
        have hj' := hj.out
        by_cases hjl : j < lb.length
        ·have hol : j < o.length := by have := HLN.out; have := HAB.out; omega
         obtain ⟨hcj, hfj⟩ := Kd.R_celln 0 hR.out (j : Int) (by omega) (by omega)
         simp only [Int.toNat_natCast] at hcj hfj
         obtain ⟨oj, hoj⟩ : ∃ x, x = o.getD j 0 := ⟨_, rfl⟩
         replace hcj : wr.cell? ⟨g, j, none⟩ = some (.int .i64 oj) := by rw [hoj, ← swapTo_at oi ok hol]; exact hcj
         by_cases hjo : oj = oi
         ·have HP := Kd.R_putn hR.out (j : Int) ok
          rw [Int.toNat_natCast, show (swapTo oi ok o j).set j ok = swapTo oi ok o (j + 1) from by rw [swapTo_succ oi ok hol, ← hoj, if_pos hjo]] at HP
          have HP2 := As0.mk HP
          have HB2 := As0.mk (hB.out.setCell (p := ⟨g, j, none⟩) hbg (.int .i64 ok))
          subst hjo
          clear HP hoj hol
          go_wp2_with fail
          go_roundw
          case rel => exact ⟨j + 1, by go_num, ⟨by omega⟩, HP2, HB2⟩
          case measure => simp [intOf]; omega
         ·have HP2 := As0.mk (show Kd.R (Kd.int .i64) 3 wr w.heap.size (fun _ => True) (.slice (some ⟨g, 0, none⟩) lb.length cap) (swapTo oi ok o (j + 1)) from by rw [swapTo_same oi ok hol (by rw [← hoj]; exact hjo)]; exact hR.out)
          have hjo1 : (oj == oi) = false := beq_eq_false_iff_ne.mpr hjo
          clear hoj hol
          go_wp2_with fail
          go_roundw
          case rel => exact ⟨j + 1, by go_num, ⟨by omega⟩, HP2, hB⟩
          case measure => simp [intOf]; omega
        ·have hje : j = lb.length := by omega
         have HRn := As0.mk (show Kd.R (Kd.int .i64) 3 wr w.heap.size (fun _ => True) (.slice (some ⟨g, 0, none⟩) lb.length cap) (joinIn lb i (k + 1) (joinAll lb i la)) from by
          rw [HST2.out, ← swapTo_all, HLN.out, HAB.out]; have h := hR.out; rw [hje] at h; exact h)
         clear hje
         go_wp2_with fail
         go_roundw
         case rel => exact ⟨k + 1, by go_num, ⟨by omega⟩, HRn, hB⟩
         case measure => simp [intOf]; omega
     ·have HST2 := As0.mk (HST.out.trans (if_pos (.inl hbb)))
      have hbb1 : (bi == bk) = false := beq_eq_false_iff_ne.mpr hbb
      have hbb2 : (bi != bk) = true := bne_iff_ne.mpr hbb
      clear HST
      go_wp2_with fail
      go_quiet (fail)
      go_wp2_with fail
      go_roundw
      case rel => exact ⟨k + 1, by go_num, ⟨by omega⟩, ⟨by rw [HST2.out]; exact Kd.R_drewN hR.out _⟩, ⟨pw_below_drewN hB.out _⟩⟩
      case measure => simp [intOf]; omega
    ·have hke : k = i := by omega
     have HRn := As0.mk (show Kd.R (Kd.int .i64) 3 wr w.heap.size (fun _ => True) (.slice (some ⟨g, 0, none⟩) lb.length cap) (joinAll lb (i + 1) la) from by have := hR.out; rw [hke] at this; exact this)
     clear hke
     go_wp2_with fail
     have hii := HI.out
     go_roundw
     case rel => exact ⟨i + 1, by go_num, ⟨by have := HI.out; omega⟩, HRn, hB⟩
     case measure => have := HI.out; simp [intOf]; omega
  ·have hke : i = lb.length := by omega
   have HR := As0.mk (show Kd.R (Kd.int .i64) 3 wr w.heap.size (fun _ => True) v5 (joinAll lb lb.length la) from hke ▸ hR.out)
   clear hke
   obtain ⟨Ao, co, rfl, hco, hC⟩ := Kd.R_reads HR.out
   have HN := As0.mk (num_all Ao co _ wr hC HOK.out (by rw [joinAll_len]; exact HL.out))
   clear hC
   go_wp2_with fail
   refine HN.out.mono ?_
   rintro e w2 ⟨v, rfl, hO, hb⟩
   have HO := As0.mk (hO.lower hB.out.size)
   have HB2 := As0.mk (below_step hB.out hb)
   clear hO hb HN
   go_wp2_with fail
   go_ret
   exact ⟨_, rfl, HO.out, HB2.out⟩
end Go.Proofs.Ytdhgeondbnpeoaa.Ext
namespace Go.Proofs.Ytdhgeondbnpeoaa.Ca
open Go.RowKit Go.Mt Go.Proofs.Ytdhgeondbnpeoaa.P Go.Proofs.YtdhgeondbnpeoaaW.PrintWords Go.Proofs.YtdhgeondbnpeoaaW.PrintLast Go.Proofs.YtdhgeondbnpeoaaW.PrintMore
theorem blk_C {w : World} {b : Nat} {xs : List Int} (h : IntBlk w b xs) (hn : xs.length ≤ 9223372036854775807) : Kd.C (Kd.int .i64) w (some ⟨b, 0, none⟩) xs.length xs := by
 obtain ⟨cs, fr, h1, h2, h3⟩ := h
 refine Kd.C_of_reads (d := (0 : Int)) (h1 := fun _ => rfl) ⟨rfl, hn, fun _ => ⟨_, rfl, fun j hj => ?_⟩⟩
 rw [add_plain, cell_of_row w b j cs 3 fr h1]
 refine h3 j _ ?_
 rw [List.getD_eq_getElem?_getD, List.getElem?_eq_getElem hj]
 rfl
theorem blk_V {w : World} {b c e N : Nat} {xs : List Int} (h : IntBlk w b xs) (hn : xs.length ≤ 9223372036854775807) (hc : xs.length ≤ c) : Kd.V (Kd.int .i64) e w N (fun _ => True) (.slice (some ⟨b, 0, none⟩) xs.length c) xs :=
 Kd.V_mk hc fun W' hW => blk_C (h.of_get (hW b trivial h.lt)) hn
theorem resI_of {w : World} {N : Nat} {v : Value} {xs : List Int} (h : Ext.OwnI w N v xs) (hx : 0 < xs.length) : ResI N w v xs := by
 obtain ⟨⟨h1, h2⟩, h3⟩ := h
 rcases h2 with ⟨_, h0⟩ | ⟨g, cap, cur, rfl, hb, hg, hn, hm, hs, ht⟩
 ·omega
 ·refine ⟨g, cap, rfl, hb, cur, (0, 0), hg, fun c hc => ?_, fun i x hi => ?_⟩
  ·obtain ⟨y, rfl⟩ := h3 g cur _ rfl hg c hc
   rfl
  ·have hlt : i < xs.length := (List.getElem?_eq_some_iff.1 hi).1
   have e : (nums IntKind.i64 xs)[i]? = some (Value.int .i64 x) := by simp [nums, hi]
   rw [← ht, List.getElem?_take, if_pos (by omega)] at e
   simpa using e
theorem same_l (xs : List Int) (hn : xs.length ≤ 4) : ∀ (n k i : Nat), n = xs.length - i → n < k → w6_same.l0 k xs xs (i : Int) = some true
 |n, 0, i, _, h => absurd h (by omega)
 |n, k + 1, i, h, hk => by
  unfold w6_same.l0
  by_cases hi : (i : Int) < (xs.length : Int)
  ·rw [if_pos hi, if_pos (by omega), if_pos hi, if_pos rfl, show wrap64 ((i : Int) + 1) = ((i + 1 : Nat) : Int) by unfold wrap64; omega]
   exact same_l xs hn (n - 1) k (i + 1) (by omega) (by omega)
  ·rw [if_neg hi]
theorem same_self (xs : List Int) (hn : xs.length ≤ 4) : w6_same.f 60 xs xs = some true := by
 unfold w6_same.f
 rw [if_pos rfl]
 exact same_l xs hn _ 60 0 rfl (by omega)
theorem two_C {u : World} {b b1 b2 : Nat} {xs ys : List Int} (h1 : IntBlk u b1 xs) (h2 : IntBlk u b2 ys) (hx : xs.length = 4) (hy : ys.length = 4) (hb : u.heap[b]? = some (.cells #[.slice (some ⟨b1, 0, none⟩) 4 4, .slice (some ⟨b2, 0, none⟩) 4 4] 29 (0, 2))) : Kd.C (Kd.slice 3 (Kd.int .i64)) u (some ⟨b, 0, none⟩) 2 [xs, ys] := by
 refine ⟨rfl, by decide, fun _ => ⟨_, rfl, fun j p hj => ?_⟩⟩
 have e : (Kd.slice 3 (Kd.int .i64)).sz = 1 := rfl
 have key : ∀ (c : Nat) (zs : List Int) (j : Nat), IntBlk u c zs → zs.length = 4 → (#[Value.slice (some ⟨b1, 0, none⟩) 4 4, .slice (some ⟨b2, 0, none⟩) 4 4] : Array Value)[j]? = some (.slice (some ⟨c, 0, none⟩) 4 4) → ∃ c, c.length = 1 ∧ (Kd.slice 3 (Kd.int .i64)).K u zs c ∧ ∀ i v, c[i]? = some v → u.cell? ((⟨b, 0, none⟩ : Addr).add (j * 1 + i)) = some v := by
  intro c zs j hc hz hj
  refine ⟨[.slice (some ⟨c, 0, none⟩) 4 4], rfl, ⟨some ⟨c, 0, none⟩, 4, by rw [hz], by omega, blk_C hc (by omega)⟩, fun i v hi => ?_⟩
  have hi0 : i = 0 := by
   have := (List.getElem?_eq_some_iff.1 hi).1
   simp at this
   omega
  subst hi0
  rw [add_plain, cell_of_row u b _ _ 29 _ hb, Nat.mul_one, Nat.add_zero, hj]
  simpa using hi
 rcases j with _ | _ | j
 ·injection hj with hj
  subst hj
  exact key b1 _ 0 h1 hx rfl
 ·have hj' : ys = p := by simpa using hj
  subst hj'
  exact key b2 _ 1 h2 hy rfl
 ·simp at hj
theorem alK : AlK Tra.prog where
 c36 u b h := (mobs_Rank.calls 60 (fun _ => True) (some ⟨b, 0, none⟩) 3 [0, 1, 1] 3 0 u (blk_V h (by decide) (by decide)) (by decide +kernel)).mono fun e w' hp => hp.1
 c25 u b h := (mobs_Between.flat 60 (fun _ => True) (some ⟨b, 0, none⟩) 3 [0, 0, 1] [0, 1, 1] 0 u (blk_V h (by decide) (by decide)) (by decide +kernel)).mono fun e w' ⟨v, he, hO, _⟩ => ⟨v, he, resI_of hO (by decide)⟩
 c16 u := (mobs_Count.calls 60 4 2 7 0 u (by decide +kernel)).mono fun e w' hp => hp.1
 c18 u := (mobs_Plain.calls 60 4 2 6 0 u (by decide +kernel)).mono fun e w' hp => hp.1
 c23 u b h := (mobs_Crossed.calls 60 (fun _ => True) (some ⟨b, 0, none⟩) 4 [0, 1, 0, 1] 0 1 2 3 true 0 u (blk_V h (by decide) (by decide)) (by decide +kernel)).mono fun e w' hp => hp.1
 c27 u b1 b2 c1 c2 xs h1 h2 hn := (w6_same.nocap 60 (some ⟨b1, 0, none⟩) c1 xs (some ⟨b2, 0, none⟩) c2 xs true u (blk_C h1 (by omega)) (blk_C h2 (by omega)) (same_self xs hn)).mono fun e w' hp => hp.1
 c49 u b b1 b2 h1 h2 hb := (mobs_read.calls 60 (some ⟨b, 0, none⟩) 2 [[0, 0, 1, 1], [0, 1, 1, 0]] 0 u (two_C h1 h2 rfl rfl hb) (by decide) (by decide +kernel)).mono fun e w' hp => hp.1
 c63 u b1 b2 h1 h2 := (mobs_below.flat 60 (some ⟨b1, 0, none⟩) 4 [0, 0, 1, 1] (some ⟨b2, 0, none⟩) 4 [0, 1, 1, 0] [0, 1, 2, 3] u (blk_C h1 (by decide)) (by decide) (blk_C h2 (by decide)) (by decide) (by decide +kernel)).mono fun e w' ⟨v, he, hO, _⟩ => ⟨v, he, resI_of hO (by decide)⟩
 c65 u b1 b2 h1 h2 := by
  refine (Ext.above_all (some ⟨b1, 0, none⟩) 4 [0, 0, 1, 1] (some ⟨b2, 0, none⟩) 4 [0, 1, 1, 0] u (blk_C h1 (by decide)) (blk_C h2 (by decide)) rfl (by decide) (by decide)).mono fun e w' ⟨v, he, hO, _⟩ => ⟨v, he, ?_⟩
  have e1 : Ext.aboveL [0, 0, 1, 1] [0, 1, 1, 0] = [0, 0, 0, 0] := by decide +kernel
  rw [e1] at hO
  exact resI_of hO (by decide)
end Go.Proofs.Ytdhgeondbnpeoaa.Ca
namespace Go.Proofs.Ytdhgeondbnpeoaa.Ca
open Go.RowKit Go.Mt Go.Tr Go.Conc Go.ConcN
theorem below_of {W w : World} (h : Kept W.heap.size W w) : Below W.heap.size W w := ⟨h.os, h.tape, h.output, h.size, h.old⟩
end Go.Proofs.Ytdhgeondbnpeoaa.Ca
namespace Go.Proofs.Ytdhgeondbnpeoaa.Ca
open Go.RowKit Go.Mt Go.Tr Go.Conc Go.ConcN
structure SlD where
 a : Option Addr
 len : Nat
 cap : Nat
 zs : List Int
def SlD.val (d : SlD) : Value := .slice d.a d.len d.cap
def SlD.ok (W : World) (d : SlD) : Prop :=
 (d.a = none ∧ d.len = 0 ∧ d.cap = 0 ∧ d.zs = []) ∨ ∃ x, d.a = some x ∧ x.spot = none ∧ (∃ cs e fr, W.heap[x.block]? = some (.cells cs e fr)) ∧ d.len ≤ d.cap ∧ d.cap ≤ maxLen ∧ d.zs.length = d.cap ∧
  (∀ i, i < d.zs.length → W.cell? (x.add i) = some (.int .i64 (d.zs.getD i 0))) ∧ ∀ n ∈ d.zs, (Lit.int .i64 n).wf = true
def SlD.ints (d : SlD) : Array Value := (d.zs.map (Value.int .i64)).toArray
def lone (N : Nat) : Nat → List SlD → List SlD
 |_, [] => []
 |j, d :: ds => match d.a with
  |none => d :: lone N j ds
  |some _ => { d with a := some ⟨N + j, 0, none⟩ } :: lone N (j + 1) ds
def als : List SlD → List (Nat × Nat)
 |[] => []
 |d :: ds => match d.a with
  |none => als ds
  |some x => (x.block, x.off) :: als ds
def blks : List SlD → List Obj
 |[] => []
 |d :: ds => match d.a with
  |none => blks ds
  |some _ => .cells d.ints 3 (0, d.ints.size) :: blks ds
theorem blks_len : ∀ ds : List SlD, (blks ds).length = (als ds).length
 |[] => rfl
 |d :: ds => by
  unfold blks als
  cases d.a <;> simp [blks_len ds]
theorem lone_len (N : Nat) : ∀ (j : Nat) (ds : List SlD), (lone N j ds).length = ds.length
 |_, [] => rfl
 |j, d :: ds => by
  unfold lone
  cases d.a <;> simp [lone_len]
theorem lone_at (N : Nat) : ∀ (ds : List SlD) (j k : Nat) (d d' : SlD), ds[k]? = some d → (lone N j ds)[k]? = some d' →
  d'.len = d.len ∧ d'.cap = d.cap ∧ d'.zs = d.zs ∧ ((d.a = none ∧ d'.a = none) ∨ ∃ x i, d.a = some x ∧ d'.a = some ⟨N + (j + i), 0, none⟩ ∧ (als ds)[i]? = some (x.block, x.off) ∧ (blks ds)[i]? = some (.cells d.ints 3 (0, d.ints.size)))
 |[], j, k, d, d', h, _ => by simp at h
 |c :: ds, j, k, d, d', h, h' => by
  unfold lone at h'
  unfold als blks
  cases hc : c.a with
  |none =>
   rw [hc] at h'
   simp only at h' ⊢
   cases k with
   |zero =>
    simp only [List.getElem?_cons_zero, Option.some.injEq] at h h'
    subst h h'
    exact ⟨rfl, rfl, rfl, .inl ⟨hc, hc⟩⟩
   |succ k =>
    simp only [List.getElem?_cons_succ] at h h'
    exact lone_at N ds j k d d' h h'
  |some x =>
   rw [hc] at h'
   simp only at h' ⊢
   cases k with
   |zero =>
    simp only [List.getElem?_cons_zero, Option.some.injEq] at h h'
    subst h h'
    exact ⟨rfl, rfl, rfl, .inr ⟨x, 0, hc, rfl, rfl, rfl⟩⟩
   |succ k =>
    simp only [List.getElem?_cons_succ] at h h'
    obtain ⟨h1, h2, h3, h4⟩ := lone_at N ds (j + 1) k d d' h h'
    refine ⟨h1, h2, h3, h4.imp id ?_⟩
    rintro ⟨y, i, e1, e2, e3, e4⟩
    exact ⟨y, i + 1, e1, by rw [e2]; congr 2; omega, by simpa using e3, by simpa using e4⟩
theorem als_at : ∀ (ds : List SlD) (i b s : Nat), (als ds)[i]? = some (b, s) → ∃ d x, d ∈ ds ∧ d.a = some x ∧ x.block = b ∧ x.off = s ∧ (blks ds)[i]? = some (.cells d.ints 3 (0, d.ints.size))
 |[], i, b, s, h => by simp [als] at h
 |c :: ds, i, b, s, h => by
  unfold als at h
  unfold blks
  cases hc : c.a with
  |none =>
   rw [hc] at h
   obtain ⟨d, x, h1, h2⟩ := als_at ds i b s h
   exact ⟨d, x, List.mem_cons_of_mem _ h1, h2⟩
  |some y =>
   rw [hc] at h
   simp only at h
   cases i with
   |zero =>
    simp only [List.getElem?_cons_zero, Option.some.injEq, Prod.mk.injEq] at h
    exact ⟨c, y, List.mem_cons_self, hc, h.1, h.2, rfl⟩
   |succ i =>
    simp only [List.getElem?_cons_succ] at h
    obtain ⟨d, x, h1, h2, h3, h4, h5⟩ := als_at ds i b s h
    exact ⟨d, x, List.mem_cons_of_mem _ h1, h2, h3, h4, by simpa using h5⟩
def loneW (W : World) (ds : List SlD) : World := { W with heap := Array.replicate W.heap.size (.map #[] 0) ++ (blks ds).toArray }
def KA (W : World) (ds : List SlD) : Cfg := ⟨W.heap.size, fun _ => False, fun _ => False, als ds⟩
theorem loneW_get (W : World) (ds : List SlD) (j : Nat) : (loneW W ds).heap[W.heap.size + j]? = (blks ds)[j]? := by
 unfold loneW
 simp only
 rw [Array.getElem?_append_right (by simp)]
 simp
theorem lone_rel {W : World} {ds : List SlD} (hok : ∀ d ∈ ds, d.ok W) : WRel (KA W ds) ((als ds).map Prod.fst) (loneW W ds) W := by
 have hlt : ∀ (j b s : Nat), (als ds)[j]? = some (b, s) → b < W.heap.size := by
  intro j b s hj
  obtain ⟨d, x, h1, h2, h3, _⟩ := als_at ds j b s hj
  rcases hok d h1 with ⟨h4, _⟩ | ⟨y, h4, _, ⟨cs, e, fr, h5⟩, _⟩
  ·rw [h2] at h4; cases h4
  ·obtain rfl := Option.some.inj (h2.symm.trans h4)
   rw [← h3]
   exact (Array.getElem?_eq_some_iff.1 h5).1
 have hL : ∀ (j b : Nat), ((als ds).map Prod.fst)[j]? = some b → b < W.heap.size := by
  intro j b hj
  rw [List.getElem?_map] at hj
  obtain ⟨⟨b', s⟩, h1, h2⟩ := Option.map_eq_some_iff.1 hj
  subst h2
  exact hlt j b' s h1
 refine ⟨?_, Nat.le_refl _, rfl, rfl, hL, fun j b hj hn => ?_, fun i j b hi hj hn => ?_, fun b hb => hb.elim, fun b hb => hb.elim, fun j b s hj => ?_⟩
 ·show (Array.replicate W.heap.size _ ++ (blks ds).toArray).size = _
  simp [KA, blks_len]
 ·have := hL j b hj
  exact absurd hn (Nat.not_le_of_lt this)
 ·have := hL i b hi
  exact absurd hn (Nat.not_le_of_lt this)
 ·replace hj : (als ds)[j]? = some (b, s) := hj
  obtain ⟨d, x, h1, h2, h3, h4, h5⟩ := als_at ds j b s hj
  rcases hok d h1 with ⟨h6, _⟩ | ⟨y, h6, hsp, ⟨cs, e, fr, h7⟩, _, _, hzl, hcell, _⟩
  ·rw [h2] at h6; cases h6
  ·obtain rfl := Option.some.inj (h2.symm.trans h6)
   subst h3 h4
   refine ⟨(Array.getElem?_eq_some_iff.1 h7).1, fun h => h, ⟨x.block, by rw [List.getElem?_map, hj]; rfl, (Array.getElem?_eq_some_iff.1 h7).1⟩, d.ints, cs, 3, e, fr, ?_, h7, fun i v hv => ?_⟩
   ·show (loneW W ds).heap[W.heap.size + j]? = _
    rw [loneW_get, h5]
   ·have hi : i < d.zs.length := by
     have := (Array.getElem?_eq_some_iff.1 hv).1
     simpa [SlD.ints] using this
    have e1 : v = .int .i64 (d.zs.getD i 0) := by
     have : d.ints[i]? = some (.int .i64 (d.zs.getD i 0)) := by simp [SlD.ints, List.getElem?_eq_getElem hi, List.getD_eq_getElem?_getD]
     exact Option.some.inj (hv.symm.trans this)
    have e2 := hcell i hi
    obtain ⟨xb, xo, xs⟩ := x
    simp only at hsp h7
    subst hsp
    have e3 : (⟨xb, xo, none⟩ : Addr).add i = ⟨xb, xo + i, none⟩ := by unfold Addr.add; split <;> simp_all
    rw [e3, cell_of_row W xb (xo + i) cs e fr h7] at e2
    exact ⟨v, by rw [Nat.add_comm, e2, e1], by rw [e1]; exact .flat rfl⟩
theorem lone_val {W : World} {ds : List SlD} (hok : ∀ d ∈ ds, d.ok W) {k : Nat} {d d' : SlD} (h : ds[k]? = some d) (h' : (lone W.heap.size 0 ds)[k]? = some d') :
  d'.len = d.len ∧ d'.cap = d.cap ∧ d'.zs = d.zs ∧ RelC (KA W ds) ((als ds).map Prod.fst) d'.val d.val ∧ ∀ u : World, u.heap = (loneW W ds).heap → d'.ok u := by
 obtain ⟨h1, h2, h3, h4⟩ := lone_at W.heap.size ds 0 k d d' h h'
 refine ⟨h1, h2, h3, ?_, fun u hu => ?_⟩
 ·rcases h4 with ⟨e1, e2⟩ | ⟨x, i, e1, e2, e3, _⟩
  ·unfold SlD.val
   rw [e1, e2, h1, h2]
   exact .flat rfl
  ·unfold SlD.val
   rw [e1, e2, h1, h2]
   have hsp : x.spot = none := by
    rcases hok d (List.mem_of_getElem? h) with ⟨h6, _⟩ | ⟨y, h6, hsp, _⟩
    ·rw [e1] at h6; cases h6
    ·obtain rfl := Option.some.inj (e1.symm.trans h6)
     exact hsp
   exact .slice (s := x.off) (.inr ⟨i, by simp [KA], e3⟩) (by simp) (by simp [hsp])
 ·rcases hok d (List.mem_of_getElem? h) with ⟨g1, g2, g3, g4⟩ | ⟨y, g1, _, _, g2, g3, g4, g5, g6⟩
  ·rcases h4 with ⟨e1, e2⟩ | ⟨x, i, e1, _⟩
   ·exact .inl ⟨e2, by rw [h1, g2], by rw [h2, g3], by rw [h3, g4]⟩
   ·rw [g1] at e1; cases e1
  ·rcases h4 with ⟨e1, e2⟩ | ⟨x, i, e1, e2, _, e4⟩
   ·rw [g1] at e1; cases e1
   ·have hb : u.heap[W.heap.size + (0 + i)]? = some (.cells d.ints 3 (0, d.ints.size)) := by rw [hu, Nat.zero_add, loneW_get, e4]
    refine .inr ⟨_, e2, rfl, ⟨_, _, _, hb⟩, by rw [h1, h2]; exact g2, by rw [h2]; exact g3, by rw [h2, h3]; exact g4, fun j hj => ?_, by rw [h3]; exact g6⟩
    rw [h3] at hj ⊢
    have e3 : (⟨W.heap.size + (0 + i), 0, none⟩ : Addr).add j = ⟨W.heap.size + (0 + i), j, none⟩ := by unfold Addr.add; split <;> simp_all
    rw [e3, cell_of_row u _ j d.ints 3 _ hb]
    simp [SlD.ints, List.getElem?_eq_getElem hj, List.getD_eq_getElem?_getD]
theorem relPs_nil (K : Cfg) (L : List Nat) : RelPs K L #[] #[] := ⟨rfl, fun i v v' h => by simp at h⟩
theorem relPs_push {K : Cfg} {L : List Nat} {cs cs' : Array Value} (h : RelPs K L cs cs') {v v' : Value} (hv : RelC K L v v') : RelPs K L (cs.push v) (cs'.push v') := by
 refine ⟨by simp [h.1], fun i a b ha hb => ?_⟩
 rw [Array.getElem?_push] at ha hb
 by_cases hi : i = cs.size
 ·rw [if_pos hi] at ha
  rw [if_pos (by rw [h.1]; exact hi)] at hb
  obtain rfl := Option.some.inj ha
  obtain rfl := Option.some.inj hb
  exact .cell hv
 ·rw [if_neg hi] at ha
  rw [if_neg (by rw [h.1]; exact hi)] at hb
  exact h.2 i a b ha hb
theorem law_runS {f : FuncId} {fn : Func} {W : World} (ds : List SlD) (hok : ∀ d ∈ ds, d.ok W) (mk : List SlD → Array Value) (hi : Try.prog.inits.idxOf? f = none) (hf : Tra.prog.funcs[f]? = some fn) (hS : S1 f = true) (hT : T1 f = true) (hres : tmpRes fn = true)
  (hmk : ∀ (K : Cfg) (L : List Nat) (ds' : List SlD), ds'.length = ds.length → (∀ (k : Nat) (d d' : SlD), ds[k]? = some d → ds'[k]? = some d' → RelC K L d'.val d.val) → RelPs K L (mk ds') (mk ds))
  (hc : ∀ (u : World) (ds' : List SlD), ds'.length = ds.length → (∀ (k : Nat) (d d' : SlD), ds[k]? = some d → ds'[k]? = some d' → d'.len = d.len ∧ d'.cap = d.cap ∧ d'.zs = d.zs ∧ d'.ok u) → Calls Tra.prog f (mk ds') u fun e _ => e = .returned (.bool true)) :
  ∃ M last o w' t', runNT Try.prog (M + 1) (solo (G (Frame.enter Try.prog f (mk ds) .normal) []) W) #[] = (.ended o w', t') ∧ runN Try.prog M (solo (G (Frame.enter Try.prog f (mk ds) .normal) []) W) = .next last ∧ step Try.prog last = .ended o w' ∧
   Go.Conc.Good Try.prog (fun v' w' => v' = .bool true ∧ Below W.heap.size W w') last o w' t' := by
 obtain ⟨M, last, o, w', t', h1, h2, h3, v', e0, ⟨L, v, u, hv, _, hk, rfl⟩, r0⟩ := hyb_run (Rd := fun _ => False) (al := als ds) (L0 := (als ds).map Prod.fst) (W := W) (u0 := loneW W ds) (args := mk (lone W.heap.size 0 ds)) (args' := mk ds) Tra.same Tra.calm1 Tra.calmT
  (special_alive Tra.duo Tra.calm1 alK Tra.als res23 Tra.stand Tra.t20 (fun b h => h.elim)) hi hf hS hT hres
  (hmk _ _ _ (lone_len _ _ _) fun k d d' hd hd' => (lone_val hok hd hd').2.2.2.1) (lone_rel hok) (Post := fun v _ => v = .bool true) (fun _ _ _ h => h)
  (fun τ => (hc (retape (loneW W ds) τ) (lone W.heap.size 0 ds) (lone_len _ _ _) fun k d d' hd hd' => let ⟨q1, q2, q3, _, q5⟩ := lone_val hok hd hd'; ⟨q1, q2, q3, q5 _ rfl⟩).mono fun e _ h => ⟨_, h, rfl⟩)
 refine ⟨M, last, o, w', t', h1, h2, h3, v', e0, ⟨?_, below_of hk⟩, r0⟩
 split at hv
 ·exact relP_flat hv rfl
 ·exact relV_flat hv rfl
theorem SlD.row {u : World} {d : SlD} (h : d.ok u) : (d.a = none ∧ d.len = 0 ∧ d.cap = 0 ∧ d.zs = []) ∨ ∃ x, d.a = some x ∧ d.len ≤ d.cap ∧ d.cap ≤ maxLen ∧ d.zs.length = d.cap ∧ (∀ i, i < d.zs.length → u.cell? (x.add i) = some (.int .i64 (d.zs.getD i 0))) ∧ ∀ n ∈ d.zs, (Lit.int .i64 n).wf = true := by
 rcases h with h | ⟨x, h1, _, _, h2⟩
 ·exact .inl h
 ·exact .inr ⟨x, h1, h2⟩
theorem has_of {P : Program} {W : World} {base : Nat} {t e : TypeId} {x : Addr} {len cap : Nat} (hu : P.underlying t = some (.slice e)) (hv : Value.okWide P W .any base t (.slice (some x) len cap)) : W.has P .any base x e cap := by
 simp only [Value.okWide, hu, Cell.okWide, Cell.ok] at hv
 exact hv.2.2
theorem sl_ok {W : World} {base : Nat} {a : Option Addr} {len cap : Nat} {zs : List Int} (hv : Value.okWide Try.prog W .any base 29 (.slice a len cap))
  (hr : (a = none ∧ len = 0 ∧ cap = 0 ∧ zs = []) ∨ ∃ x, a = some x ∧ len ≤ cap ∧ cap ≤ maxLen ∧ zs.length = cap ∧ (∀ i, i < zs.length → W.cell? (x.add i) = some (.int .i64 (zs.getD i 0))) ∧ ∀ n ∈ zs, (Lit.int .i64 n).wf = true) : (⟨a, len, cap, zs⟩ : SlD).ok W := by
 rcases hr with hr | ⟨x, rfl, h2⟩
 ·exact .inl hr
 ·obtain ⟨_, hsp, row, cells, hs, _⟩ := has_of Try.underlying29 hv
  refine .inr ⟨x, rfl, hsp, ?_, h2⟩
  unfold World.shape? at hs
  cases hb : W.heap[x.block]? with
  |none => rw [hb] at hs; simp at hs
  |some o =>
   rw [hb] at hs
   cases o with
   |cells cs e fr => exact ⟨cs, e, fr, rfl⟩
   |_ => simp at hs
end Go.Proofs.Ytdhgeondbnpeoaa.Ca
namespace Go.Proofs.Ytdhgeondbnpeoaa.Pl
open Go.RowKit Go.Proofs.Ytdhgeondbnpeoaa.P Go.Proofs.YtdhgeondbnpeoaaW.PrintWords Go.Proofs.YtdhgeondbnpeoaaW.PrintLast
def rgs : Int → List Int → Bool
 |_, [] => true
 |m, x :: l => decide (0 ≤ x) && (decide (x ≤ m) && rgs (if x = m then m + 1 else m) l)
def isP (l : List Int) : Bool := decide (l.length ≤ 12) && rgs 0 l
theorem w64 {x : Int} (h0 : -1000000000 ≤ x) (h1 : x ≤ 1000000000) : wrap64 x = x := by unfold wrap64; omega
theorem rd_at {l : List Int} {i : Nat} (h : i < l.length) : rd l (i : Int) = l[i] := by simp [rd, List.getD_eq_getElem?_getD, List.getElem?_eq_getElem h]
theorem ref_l (l : List Int) (hn : l.length ≤ 12) : ∀ (j i k : Nat) (m : Int), i + j = l.length → 2 * j + 2 ≤ k → 0 ≤ m → m ≤ i → r6_IsParting.l0 k l m (i : Int) = some (rgs m (l.drop i))
 |0, i, k + 1, m, hi, hk, h0, h1 => by
  unfold r6_IsParting.l0
  rw [if_neg (by omega), List.drop_of_length_le (by omega)]
  rfl
 |j + 1, i, k + 2, m, hi, hk, h0, h1 => by
  have hlt : i < l.length := by omega
  unfold r6_IsParting.l0
  rw [if_pos (by omega), if_pos (by omega), rd_at hlt, List.drop_eq_getElem_cons hlt]
  unfold rgs r6_IsParting.j1
  by_cases hx : l[i] < 0
  ·rw [if_pos hx, if_pos rfl, decide_eq_false (by omega)]
   rfl
  ·rw [if_neg hx, decide_eq_true (show 0 ≤ l[i] by omega)]
   by_cases hm : l[i] > m
   ·rw [decide_eq_true hm, if_pos rfl, decide_eq_false (by omega)]
    rfl
   ·rw [decide_eq_false hm, if_neg (by decide), if_pos (by omega), if_pos (by omega), rd_at hlt, decide_eq_true (show l[i] ≤ m by omega)]
    simp only [Bool.true_and]
    by_cases he : l[i] = m
    ·rw [if_pos he, if_pos he, w64 (by omega) (by omega), w64 (by omega) (by omega)]
     exact ref_l l hn j (i + 1) k (m + 1) (by omega) (by omega) (by omega) (by omega)
    ·rw [if_neg he, if_neg he, w64 (x := (i : Int) + 1) (by omega) (by omega)]
     exact ref_l l hn j (i + 1) k m (by omega) (by omega) (by omega) (by omega)
theorem ref_isP (l : List Int) {k : Nat} (hk : 30 ≤ k) : r6_IsParting.f k l = some (isP l) := by
 unfold r6_IsParting.f isP
 by_cases h : l.length ≤ 12
 ·have h1 : r6_IsParting.l0 k l 0 0 = _ := ref_l l h l.length 0 k 0 (by omega) (by omega) (by omega) (by omega)
  rw [if_neg (by omega), decide_eq_true h, h1]
  rfl
 ·rw [if_pos (by omega), decide_eq_false h]
  rfl
theorem mobs_l (l : List Int) (hn : l.length ≤ 12) : ∀ (j i k : Nat) (m : Int), i + j = l.length → j + 1 ≤ k → 0 ≤ m → m ≤ i → mobs_IsParting.l0 k m l (l.length : Int) (i : Int) = some (rgs m (l.drop i))
 |0, i, k + 1, m, hi, hk, h0, h1 => by
  unfold mobs_IsParting.l0
  rw [if_neg (by omega), List.drop_of_length_le (by omega)]
  rfl
 |j + 1, i, k + 1, m, hi, hk, h0, h1 => by
  have hlt : i < l.length := by omega
  unfold mobs_IsParting.l0
  rw [if_pos (by omega), if_pos (by omega), if_pos (by omega), rd_at hlt, List.drop_eq_getElem_cons hlt]
  unfold rgs
  by_cases hx : l[i] < 0
  ·rw [if_pos hx, decide_eq_false (by omega)]
   rfl
  ·rw [if_neg hx, decide_eq_true (show 0 ≤ l[i] by omega)]
   by_cases hm : l[i] > m
   ·rw [if_pos hm, decide_eq_false (by omega)]
    rfl
   ·rw [if_neg hm, decide_eq_true (show l[i] ≤ m by omega), w64 (x := l[i] + 1) (by omega) (by omega), w64 (x := (i : Int) + 1) (by omega) (by omega)]
    simp only [Bool.true_and]
    have e : mx m (l[i] + 1) = if l[i] = m then m + 1 else m := by
     unfold mx
     split <;> split <;> omega
    rw [e]
    split
    ·exact mobs_l l hn j (i + 1) k (m + 1) (by omega) (by omega) (by omega) (by omega)
    ·exact mobs_l l hn j (i + 1) k m (by omega) (by omega) (by omega) (by omega)
theorem mobs_isP (l : List Int) {k : Nat} (hk : 20 ≤ k) : mobs_IsParting.f k l = some (isP l) := by
 unfold mobs_IsParting.f isP
 by_cases h : l.length ≤ 12
 ·have h1 : mobs_IsParting.l0 k 0 l (l.length : Int) 0 = _ := mobs_l l h l.length 0 k 0 (by omega) (by omega) (by omega) (by omega)
  rw [if_neg (by omega), decide_eq_true h, h1]
  rfl
 ·rw [if_pos (by omega), decide_eq_false h]
  rfl
theorem isP_len {l : List Int} (h : isP l = true) : l.length ≤ 12 := by
 simp only [isP, Bool.and_eq_true, decide_eq_true_eq] at h
 exact h.1
theorem read_two {a b : List Int} (ha : isP a = true) (hb : isP b = true) (hl : a.length = b.length) {k : Nat} (hk : 30 ≤ k) : mobs_read.f k [a, b] = some 0 := by
 have la := isP_len ha
 have lb := isP_len hb
 obtain ⟨k, rfl⟩ : ∃ j, k = j + 3 := ⟨k - 3, by omega⟩
 have e0 : rd_L1 [a, b] 0 = a := rfl
 have e1 : rd_L1 [a, b] 1 = b := rfl
 have w1 : wrap64 (0 + 1) = 1 := by rw [w64 (by omega) (by omega)]; rfl
 have w2 : wrap64 (1 + 1) = 2 := by rw [w64 (by omega) (by omega)]; rfl
 unfold mobs_read.f
 simp only [List.length_cons, List.length_nil]
 unfold mobs_read.l0
 rw [if_pos (by decide), if_pos (by decide), if_pos (by simp), e0, if_neg (by omega), mobs_isP a (by omega), ha]
 simp only [Option.bind_some, if_true, w1]
 unfold mobs_read.l0
 rw [if_pos (by decide), if_pos (by decide), if_pos (by simp), e1, if_neg (by omega), mobs_isP b (by omega), hb]
 simp only [Option.bind_some, if_true, w2]
 unfold mobs_read.l0
 rw [if_neg (by decide), if_pos (by simp), if_pos (by simp), if_pos (by simp), e0, e1, if_pos (by omega)]
def Fin (a b : List Int) : Prop := ∀ (i j : Nat), j < i → i < a.length → a.getD i 0 = a.getD j 0 → b.getD i 0 = b.getD j 0
theorem rd_nat (l : List Int) (i : Nat) : rd l (i : Int) = l.getD i 0 := rfl
theorem ite_iff {α : Type} {p q : Prop} [Decidable p] [Decidable q] (h : p ↔ q) (x y : α) : (if p then x else y) = if q then x else y := by
 by_cases hp : p
 ·rw [if_pos hp, if_pos (h.1 hp)]
 ·rw [if_neg hp, if_neg (fun hq => hp (h.2 hq))]
open Classical in
theorem finer_l1 (a b : List Int) (hl : a.length = b.length) (hn : a.length ≤ 12) (i : Nat) (hi : i < a.length) : ∀ (d j k : Nat), j + d = i → d + 1 ≤ k →
  mobs_finer.l1 k a b (i : Int) (a.length : Int) (i : Int) (i : Int) (j : Int) = (if ∀ q, j ≤ q → q < i → a.getD i 0 = a.getD q 0 → b.getD i 0 = b.getD q 0 then mobs_finer.l0 (k - d - 1) a b (a.length : Int) ((i : Int) + 1) else some false)
 |0, j, k + 1, hj, hk => by
  unfold mobs_finer.l1
  rw [if_neg (by omega), if_pos (fun q h1 h2 => by omega), w64 (x := (i : Int) + 1) (by omega) (by omega)]
  rfl
 |d + 1, j, k + 1, hj, hk => by
  have hjl : j < a.length := by omega
  unfold mobs_finer.l1
  rw [if_pos (by omega), if_pos (by omega), if_pos (by omega), if_pos (by omega), if_pos (by omega), rd_nat, rd_nat, rd_nat, rd_nat, w64 (x := (j : Int) + 1) (by omega) (by omega)]
  have ih := finer_l1 a b hl hn i hi d (j + 1) k (by omega) (by omega)
  have ek : k + 1 - (d + 1) - 1 = k - d - 1 := by omega
  rw [show ((j + 1 : Nat) : Int) = (j : Int) + 1 by omega] at ih
  rw [ek]
  by_cases h1 : a.getD i 0 = a.getD j 0
  ·rw [if_pos h1, if_pos (by omega), if_pos (by omega)]
   by_cases h2 : b.getD i 0 = b.getD j 0
   ·rw [if_pos h2, ih]
    refine ite_iff ⟨fun h q q1 q2 q3 => ?_, fun h q q1 q2 q3 => h q (by omega) q2 q3⟩ _ _
    rcases (show q = j ∨ j + 1 ≤ q by omega) with rfl | q4
    ·exact h2
    ·exact h q q4 q2 q3
   ·rw [if_neg h2, if_neg (fun h => h2 (h j (Nat.le_refl _) (by omega) h1))]
  ·rw [if_neg h1, ih]
   refine ite_iff ⟨fun h q q1 q2 q3 => ?_, fun h q q1 q2 q3 => h q (by omega) q2 q3⟩ _ _
   rcases (show q = j ∨ j + 1 ≤ q by omega) with rfl | q4
   ·exact absurd q3 h1
   ·exact h q q4 q2 q3
open Classical in
theorem finer_l0 (a b : List Int) (hl : a.length = b.length) (hn : a.length ≤ 12) : ∀ (d i k : Nat), i + d = a.length → 15 * d + 1 ≤ k →
  mobs_finer.l0 k a b (a.length : Int) (i : Int) = some (decide (∀ p, i ≤ p → p < a.length → ∀ q, q < p → a.getD p 0 = a.getD q 0 → b.getD p 0 = b.getD q 0))
 |0, i, k + 1, hi, hk => by
  unfold mobs_finer.l0
  rw [if_neg (by omega), decide_eq_true (fun p h1 h2 => by omega)]
 |d + 1, i, k + 1, hi, hk => by
  unfold mobs_finer.l0
  have h1 := finer_l1 a b hl hn i (by omega) i 0 k (by omega) (by omega)
  have h2 := finer_l0 a b hl hn d (i + 1) (k - i - 1) (by omega) (by omega)
  rw [show ((i + 1 : Nat) : Int) = (i : Int) + 1 by omega] at h2
  rw [show ((0 : Nat) : Int) = 0 from rfl] at h1
  rw [if_pos (by omega), h1, h2]
  by_cases hq : ∀ q, 0 ≤ q → q < i → a.getD i 0 = a.getD q 0 → b.getD i 0 = b.getD q 0
  ·rw [if_pos hq]
   congr 1
   rw [Bool.eq_iff_iff, decide_eq_true_iff, decide_eq_true_iff]
   refine ⟨fun h p p1 p2 q q1 => ?_, fun h p p1 p2 => h p (by omega) p2⟩
   rcases (show p = i ∨ i + 1 ≤ p by omega) with rfl | p3
   ·exact hq q (Nat.zero_le _) q1
   ·exact h p p3 p2 q q1
  ·rw [if_neg hq]
   congr 1
   rw [eq_comm, decide_eq_false_iff_not]
   exact fun h => hq (fun q _ q2 => h i (Nat.le_refl _) (by omega) q q2)
open Classical in
theorem finer_f {a b : List Int} (hl : a.length = b.length) (hn : a.length ≤ 12) {k : Nat} (hk : 200 ≤ k) : mobs_finer.f k a b = some (decide (Fin a b)) := by
 unfold mobs_finer.f
 have h := finer_l0 a b hl hn a.length 0 k (by omega) (by omega)
 rw [show ((0 : Nat) : Int) = 0 from rfl] at h
 rw [h]
 congr 1
 rw [Bool.eq_iff_iff, decide_eq_true_iff, decide_eq_true_iff]
 exact ⟨fun h i j h1 h2 => h i (Nat.zero_le _) h2 j h1, fun h p _ h2 q h1 => h p q h1 h2⟩
open Classical in
theorem Finer_f {a b : List Int} (ha : isP a = true) (hb : isP b = true) (hl : a.length = b.length) {k : Nat} (hk : 200 ≤ k) : mobs_Finer.f k a b = some (decide (Fin a b), 0) := by
 unfold mobs_Finer.f
 rw [read_two ha hb hl (by omega), finer_f hl (isP_len ha) hk]
 rfl
theorem same_l (a b : List Int) (hl : a.length = b.length) (hn : a.length ≤ 40) : ∀ (d i k : Nat), i + d = a.length → d + 1 ≤ k → w6_same.l0 k a b (i : Int) = some (decide (a.drop i = b.drop i))
 |0, i, k + 1, hi, hk => by
  unfold w6_same.l0
  rw [if_neg (by omega), List.drop_of_length_le (by omega), List.drop_of_length_le (by omega), decide_eq_true rfl]
 |d + 1, i, k + 1, hi, hk => by
  have h1 : i < a.length := by omega
  have h2 : i < b.length := by omega
  unfold w6_same.l0
  rw [if_pos (by omega), if_pos (by omega), if_pos (by omega), rd_at h1, rd_at h2, List.drop_eq_getElem_cons h1, List.drop_eq_getElem_cons h2, w64 (x := (i : Int) + 1) (by omega) (by omega)]
  by_cases he : a[i] = b[i]
  ·rw [if_pos he]
   have ih := same_l a b hl hn d (i + 1) k (by omega) (by omega)
   rw [show ((i + 1 : Nat) : Int) = (i : Int) + 1 by omega] at ih
   rw [ih]
   congr 1
   rw [Bool.eq_iff_iff, decide_eq_true_iff, decide_eq_true_iff, List.cons.injEq]
   exact ⟨fun h => ⟨he, h⟩, fun h => h.2⟩
  ·rw [if_neg he]
   congr 1
   rw [eq_comm, decide_eq_false_iff_not, List.cons.injEq]
   exact fun h => he h.1
theorem same_f {a b : List Int} (hn : a.length ≤ 40) {k : Nat} (hk : 50 ≤ k) : w6_same.f k a b = some (decide (a = b)) := by
 unfold w6_same.f
 by_cases hl : a.length = b.length
 ·rw [if_pos (by omega)]
  have h := same_l a b hl hn a.length 0 k (by omega) (by omega)
  simpa using h
 ·rw [if_neg (by omega)]
  congr 1
  rw [eq_comm, decide_eq_false_iff_not]
  exact fun h => hl (congrArg _ h)
end Go.Proofs.Ytdhgeondbnpeoaa.Pl
namespace Go.Proofs.Ytdhgeondbnpeoaa.Pure
open Go.RowKit Go.Proofs.Ytdhgeondbnpeoaa.P Go.Proofs.YtdhgeondbnpeoaaW.PrintWords Go.Proofs.YtdhgeondbnpeoaaW.PrintLast
open Go.Proofs.Ytdhgeondbnpeoaa.Pl
theorem app_at (p : List Int) (x : Int) (a : List Int) : (p ++ x :: a).getD p.length 0 = x := by simp [List.getD_eq_getElem?_getD]
theorem app_lt (p a : List Int) {q : Nat} (h : q < p.length) : (p ++ a).getD q 0 = p[q] := by
 rw [List.getD_eq_getElem?_getD, List.getElem?_append_left h, List.getElem?_eq_getElem h]
 rfl
theorem uniq : ∀ (a b p : List Int) (m : Int), a.length = b.length → rgs m a = true → rgs m b = true → (∀ v, 0 ≤ v → v < m → v ∈ p) → (∀ v ∈ p, v < m) →
  (∀ i j, i < (p ++ a).length → j < (p ++ a).length → ((p ++ a).getD i 0 = (p ++ a).getD j 0 ↔ (p ++ b).getD i 0 = (p ++ b).getD j 0)) → a = b
 |[], [], _, _, _, _, _, _, _, _ => rfl
 |[], _ :: _, _, _, h, _, _, _, _, _ => by simp at h
 |_ :: _, [], _, _, h, _, _, _, _, _ => by simp at h
 |x :: a, y :: b, p, m, hl, ha, hb, hp, hq, H => by
  simp only [rgs, Bool.and_eq_true, decide_eq_true_eq] at ha hb
  obtain ⟨x0, x1, xr⟩ := ha
  obtain ⟨y0, y1, yr⟩ := hb
  have old : ∀ {u v : Int}, ((∃ q, ∃ h : q < p.length, p[q] = u) → u = v) → u < m → 0 ≤ u → u = v := fun h h1 h2 => by
   obtain ⟨q, hq, e⟩ := List.mem_iff_getElem.1 (hp _ h2 h1)
   exact h ⟨q, hq, e⟩
  have e1 : x < m → x = y := fun h => old (fun ⟨q, hq2, e⟩ => by
   have h3 := (H p.length q (by simp) (by simp; omega)).1 (by rw [app_at, app_lt p _ hq2, e])
   rw [app_at, app_lt p _ hq2] at h3
   rw [h3, ← e]) h x0
  have e2 : y < m → x = y := fun h => (old (u := y) (v := x) (fun ⟨q, hq2, e⟩ => by
   have h3 := (H p.length q (by simp) (by simp; omega)).2 (by rw [app_at, app_lt p _ hq2, e])
   rw [app_at, app_lt p _ hq2] at h3
   rw [h3, ← e]) h y0).symm
  have e : x = y := by
   rcases Int.lt_or_le x m with h | h
   ·exact e1 h
   ·rcases Int.lt_or_le y m with h2 | h2
    ·exact e2 h2
    ·omega
  subst e
  have hrest : a = b := by
   refine uniq a b (p ++ [x]) (if x = m then m + 1 else m) (by simpa using hl) xr yr (fun v v0 v1 => ?_) (fun v hv => ?_) ?_
   ·rw [List.mem_append, List.mem_singleton]
    by_cases hvm : v < m
    ·exact .inl (hp v v0 hvm)
    ·split at v1
     ·exact .inr (by omega)
     ·omega
   ·rw [List.mem_append, List.mem_singleton] at hv
    rcases hv with hv | rfl
    ·have := hq v hv
     split <;> omega
    ·split <;> omega
   ·simp only [List.append_assoc, List.singleton_append]
    exact H
  rw [hrest]
theorem fin_both {a b : List Int} (ha : isP a = true) (hb : isP b = true) (hl : a.length = b.length) (h1 : Fin a b) (h2 : Fin b a) : a = b := by
 simp only [isP, Bool.and_eq_true] at ha hb
 have key : ∀ i j, j < i → i < a.length → (a.getD i 0 = a.getD j 0 ↔ b.getD i 0 = b.getD j 0) := fun i j hj hi => ⟨h1 i j hj hi, h2 i j hj (by omega)⟩
 refine uniq a b [] 0 hl ha.2 hb.2 (fun v h h' => by omega) (fun v h => by simp at h) (fun i j hi hj => ?_)
 simp only [List.nil_append] at hi hj ⊢
 rcases Nat.lt_trichotomy i j with h | rfl | h
 ·rw [eq_comm, key j i h hj, eq_comm]
 ·exact ⟨fun _ => rfl, fun _ => rfl⟩
 ·exact key i j h hi
theorem fin_refl (a : List Int) : Fin a a := fun _ _ _ _ h => h
theorem fin_trans {a b c : List Int} (hl : a.length = b.length) (h1 : Fin a b) (h2 : Fin b c) : Fin a c := fun i j hj hi h => h2 i j hj (by omega) (h1 i j hj hi h)
theorem order_alive (k : Nat) (a b c : List Int) : w6_MobsOrder.j0 (k + 1) a b c true = some true := rfl
open Classical in
theorem order_in {a b c : List Int} {k : Nat} (hk : 300 ≤ k) (ha : isP a = true) (hb : isP b = true) (hc : isP c = true) (h1 : a.length = b.length) (h2 : b.length = c.length) : w6_MobsOrder.j0 (k + 2) a b c false = some true := by
 rw [show k + 2 = (k + 1) + 1 from rfl, w6_MobsOrder.j0, if_neg (by decide), Finer_f ha ha rfl (by omega), Finer_f ha hb h1 (by omega), Finer_f hb ha h1.symm (by omega), Finer_f hb hc h2 (by omega), Finer_f ha hc (h1.trans h2) (by omega)]
 simp only [Option.bind_some, if_true]
 rw [decide_eq_true (fin_refl a)]
 rw [w6_MobsOrder.j1, if_neg (by decide), same_f (by have := isP_len ha; omega) (by omega)]
 simp only [Option.bind_some]
 by_cases hab : Fin a b
 ·rw [decide_eq_true hab, if_pos rfl]
  by_cases hba : Fin b a
  ·have e := fin_both ha hb h1 hab hba
   rw [decide_eq_true hba, decide_eq_true e]
   by_cases hbc : Fin b c
   ·rw [decide_eq_true hbc, decide_eq_true (fin_trans h1 hab hbc)]
    rfl
   ·rw [decide_eq_false hbc]
    rfl
  ·have e : ¬ a = b := fun e => hba (by rw [e]; exact fin_refl b)
   rw [decide_eq_false hba, decide_eq_false e]
   by_cases hbc : Fin b c
   ·rw [decide_eq_true hbc, decide_eq_true (fin_trans h1 hab hbc)]
    rfl
   ·rw [decide_eq_false hbc]
    rfl
 ·have e : ¬ a = b := fun e => hab (by rw [e]; exact fin_refl b)
  rw [decide_eq_false hab, if_neg (by decide), decide_eq_false e]
  rfl
theorem MobsOrder : w6_MobsOrder.Pure := by
 intro a b c _ _ _ _ _ _ _ _ _
 refine ⟨300 + 2, ?_⟩
 unfold w6_MobsOrder.f w6_few.f
 by_cases g0 : (a.length : Int) ≤ 40
 ·rw [if_pos g0]
  simp only [Option.bind_some]
  by_cases g1 : (b.length : Int) ≤ 40
  ·rw [decide_eq_true g1, if_pos rfl]
   by_cases g2 : (c.length : Int) > 40
   ·rw [if_pos g2]; exact order_alive _ _ _ _
   ·rw [if_neg g2, ref_isP a (by omega), ref_isP b (by omega), ref_isP c (by omega)]
    simp only [Option.bind_some]
    by_cases ha : isP a = true
    ·rw [if_pos ha]
     by_cases hb : isP b = true
     ·rw [if_pos hb]
      by_cases hc : isP c = true
      ·rw [if_pos hc]
       by_cases h1 : (a.length : Int) = (b.length : Int)
       ·rw [if_pos h1]
        by_cases h2 : b.length = c.length
        ·have e : ((b.length : Int) != (c.length : Int)) = false := by rw [h2]; simp
         rw [e]
         exact order_in (k := 300) (Nat.le_refl _) ha hb hc (by omega) h2
        ·have e : ((b.length : Int) != (c.length : Int)) = true := bne_iff_ne.mpr (by omega)
         rw [e]
         exact order_alive _ _ _ _
       ·rw [if_neg h1]; exact order_alive _ _ _ _
      ·rw [if_neg hc]; exact order_alive _ _ _ _
     ·rw [if_neg hb]; exact order_alive _ _ _ _
    ·rw [if_neg ha]; exact order_alive _ _ _ _
  ·rw [decide_eq_false g1, if_neg (by decide)]; exact order_alive _ _ _ _
 ·rw [if_neg g0]
  simp only [Option.bind_some]
  rw [if_neg (by decide)]; exact order_alive _ _ _ _
end Go.Proofs.Ytdhgeondbnpeoaa.Pure
namespace Go.Proofs.YtdhgeondbnpeoaaW.PrintWords
open Go.ChangeShapes Go.WideShapes
theorem sized_ints {H : Type} {enc : TypeId × Value → H} {P : Program} {W : World} {base : Nat} {spare : Nat → Bool} {held : Bool} {t e : TypeId} {k : IntKind} {a : Option Addr} {len cap : Nat} {d : DataW H} {ps : List MemPlace} {ts : List TypeId} {ds : List (DataW H)} {j : Nat}
  (hsz : (DataW.weightsEach P ts ds).all (· ≤ reachBytes) = true) (ht : ts[j]? = some t) (hd : ds[j]? = some d) (hu : P.underlying t = some (.slice e)) (he : P.underlying e = some (.int k)) (hc : P.cellsOf e = 1) {B : Nat} (hB : P.bytesOf e = B)
  (h : DataW.Trod enc P W base spare held t (.slice a len cap) d ps) : len * B ≤ 140737488351232 := by
 obtain ⟨fuel, hf⟩ := h
 rcases open_ints hu he hc hf with ⟨hcs, _⟩ | ⟨x, l, c, zs, hcs, _, hl, _, hz, hx, _, _⟩
 ·simp [Value.cells] at hcs
  obtain ⟨rfl, rfl, rfl⟩ := hcs
  simp
 ·simp [Value.cells] at hcs
  obtain ⟨rfl, rfl, rfl⟩ := hcs
  obtain ⟨hx, _⟩ := Prod.mk.inj hx
  subst hx
  have z := sized_slice hsz ht hd hu
  rw [hB] at z
  have hl2 : len ≤ zs.length := by
   rw [hz]
   split
   ·exact hl
   ·exact Nat.le_refl _
  have h1 : (lits (H := H) k (zs.take len)).length + (lits (H := H) k (zs.drop len)).length = zs.length := by
   simp [lits]
   omega
  rw [h1] at z
  exact Nat.le_trans (Nat.mul_le_mul_right _ hl2) z
end Go.Proofs.YtdhgeondbnpeoaaW.PrintWords
