/- least over Other's closure. -/
import Derived.Test.YtldakfaolagoiaaProg
import Derived.Below
import Derived.Deep.Draws
import Derived.Deep.AppendLies
import Derived.Maps.AppendAt
import Derived.OwnWalk
import Derived.Laws.BytesArg
import Derived.Laws.MakeOwn
import Derived.Laws.OwnMore
import Derived.Deep.OwnRows
import Derived.Tactics
import Derived.Lib.ConvBytes
import Derived.Laws.Slices
import Derived.WalkKit
import Derived.KernelRfl
import Derived.RowKit3
import Derived.Deep.LoopGhost
import Derived.Deep.QuietTactic
import Derived.BigQuiet
import Derived.WideLaws
import Derived.Deep.DeepCutAuto
import Derived.Deep.CutBlock
import Derived.Deep.RegionHeld3
import Derived.Laws.Rows
import Derived.Lib.AppendStr
import Derived.ArgAppend
import Derived.Laws.IdiomCopy
import Derived.OrdersHeld
import Derived.Laws.BitsLemmas
import Derived.RowKit
import Derived.Test.YtldakfaolagoiaaWWords
import Derived.Test.YtldakfaolagoiaaWLast
import Derived.Test.YtldakfaolagoiaaWTab
import Derived.Test.YtldakfaolagoiaaWFour
import Derived.Test.YtldakfaolagoiaaWQPut
import Derived.Test.YtldakfaolagoiaaWApart
import Derived.Test.YtldakfaolagoiaaWArr
import Derived.Test.YtldakfaolagoiaaWZeros
import Derived.Test.YtldakfaolagoiaaWFoot
import Derived.Test.YtldakfaolagoiaaWKept
import Derived.Test.YtldakfaolagoiaaWShare
import Derived.Test.YtldakfaolagoiaaWN
import Derived.Test.YtldakfaolagoiaaWFootNe
import Derived.Test.YtldakfaolagoiaaWAt
import Derived.Test.YtldakfaolagoiaaWEqStruct
import Derived.Test.YtldakfaolagoiaaWRepsOne
import Derived.Test.YtldakfaolagoiaaWInv
import Derived.Test.YtldakfaolagoiaaWInvWords
import Derived.Test.YtldakfaolagoiaaWGuard
import Derived.Test.YtldakfaolagoiaaWNEv
import Derived.Test.YtldakfaolagoiaaWMore
import Derived.Maps.OwnOps
import Derived.DeepKeys4
import Derived.WalkSpells
import Derived.Laws.EntriesVeiled
import Derived.Deep.RegionLawGrows
import Derived.ArgAppend
import Derived.Test.YtldakfaolagoiaaTbC
namespace Go.Proofs.Ytldakfaolagoiaa.Tb
open Go.RowKit Go.Proofs.YtldakfaolagoiaaW.PrintWords Go.Proofs.YtldakfaolagoiaaW.PrintLast Go.Proofs.YtldakfaolagoiaaW.PrintMore
attribute [local go_sem] max2_int min2_int max_two min_two max_three min_three max_four min_four
set_option linter.unusedVariables false
set_option linter.unusedSimpArgs false

/-- can a drover leave a set, or is he not in it? -/
def stay (p : Int → Bool) (s : Int) (i : Nat) : Bool := (land (s / 2 ^ i) 1 == 0) || !(p (landNot s (wrap64 (2 ^ i))))
def leastL (n : Int) (p : Int → Bool) : List Int := ((List.range (2 ^ n.toNat)).map fun (x : Nat) => (x : Int)).filter fun s => p s && (List.range n.toNat).all (stay p s)
def leastTo (n : Int) (p : Int → Bool) (k : Nat) : List Int := ((List.range k).map fun (x : Nat) => (x : Int)).filter fun s => p s && (List.range n.toNat).all (stay p s)
theorem leastTo_succ (n : Int) (p : Int → Bool) (k : Nat) : leastTo n p (k + 1) = leastTo n p k ++ (if p k && (List.range n.toNat).all (stay p k) then [(k : Int)] else []) := by
  unfold leastTo
  rw [List.range_succ, List.map_append, List.filter_append]
  simp only [List.map_cons, List.map_nil, List.filter_cons, List.filter_nil]
theorem leastTo_len (n : Int) (p : Int → Bool) (k : Nat) : (leastTo n p k).length ≤ k := by
  unfold leastTo
  exact Nat.le_trans (List.length_filter_le _ _) (by rw [List.length_map, List.length_range]; exact Nat.le_refl _)
theorem pw_eq {n : Int} (h1 : 1 ≤ n) (h5 : n ≤ 5) : pw n = ((2 ^ n.toNat : Nat) : Int) ∧ 2 ^ n.toNat ≤ 32 := by
  rcases (show n = 1 ∨ n = 2 ∨ n = 3 ∨ n = 4 ∨ n = 5 by omega) with rfl | rfl | rfl | rfl | rfl <;> decide +kernel
theorem drop_in : ∀ (k : Fin 32) (i : Fin 5), 0 ≤ landNot (k.val : Int) (wrap64 (2 ^ i.val)) ∧ landNot (k.val : Int) (wrap64 (2 ^ i.val)) < 32 := by decide +kernel
theorem drop_dom {k i : Nat} (hk : k < 32) (hi : i < 5) : 0 ≤ landNot (k : Int) (wrap64 (2 ^ i)) ∧ landNot (k : Int) (wrap64 (2 ^ i)) < 32 := drop_in ⟨k, hk⟩ ⟨i, hi⟩
theorem info3 : (Try.prog.info? 3).map (fun i => (i.zero, i.size, i.bytes)) = some (some (.int .i64 0), 1, 8) := by kernel_rfl

set_option maxHeartbeats 800000 in
set_option maxRecDepth 100000 in
theorem least_calls (n : Int) (hn : 1 ≤ n ∧ n ≤ 5) (p : Int → Bool) (bw bn : Nat) (w : World)
    (hp : ∀ s : Int, 0 ≤ s ∧ s < 32 → ∀ W, Below w.heap.size w W → Calls Try.prog 12 #[.int .i64 s, .pointer (some ⟨bw, 0, none⟩), .pointer (some ⟨bn, 0, none⟩)] W fun e W' => e = .returned (.bool (p s)) ∧ Below W.heap.size W W') :
    Calls Try.prog 11 #[.int .i64 n, .func (.func 12) #[] #[.pointer (some ⟨bw, 0, none⟩), .pointer (some ⟨bn, 0, none⟩)]] w fun e w' => ∃ v, e = .returned v ∧ Kd.R (Kd.int .i64) 3 w' w.heap.size (fun _ => True) v (leastL n p) ∧ Below w.heap.size w w' := by
  obtain ⟨hn1, hn5⟩ := hn
  obtain ⟨hpw, hpw32⟩ := pw_eq hn1 hn5
  have HP := Aside0.mk hp
  obtain ⟨M, hM⟩ : ∃ M : Nat, 2 ^ n.toNat = M := ⟨_, rfl⟩
  rw [hM] at hpw hpw32
  have HMM := Aside0.mk hM
  have hpw' : wrap64 (2 ^ n.toNat) = (M : Int) := hpw
  clear hp hM hpw
  go_enter Try.func11, Try.ntmps11
  go_wp2_with fail
  simp only [hpw']
  go_loopw [5, 11] (fun v5 v11 W => ∃ (k : Nat), v11 = .int .i64 k ∧ Aside0 (k ≤ M) ∧ Aside0 (Kd.R (Kd.int .i64) 3 W w.heap.size (fun _ => True) v5 (leastTo n p k)) ∧ Aside0 (Below w.heap.size w W)) (fun _ v11 _ => ((M : Int) - intOf v11).toNat)
  case atStart => exact ⟨0, rfl, ⟨Nat.zero_le _⟩, ⟨Kd.R_nil _ _ _ _ _⟩, ⟨Below.refl _ _⟩⟩
  case round =>
    obtain ⟨k, rfl, hk, HL, HB⟩ := hrel
    have hk' := hk.out
    by_cases hlt : k < M
    · have hlti : (k : Int) < (M : Int) := by omega
      have HC := Aside0.mk (HP.out (k : Int) ⟨by omega, by omega⟩ wr HB.out)
      cases hq : p k with
      | false =>
        rw [hq] at HC
        have HQ := Aside0.mk hq
        clear hq
        go_wp2_with fail
        refine HC.out.mono ?_
        rintro e w1 ⟨rfl, hb1⟩
        have HB1 := Aside0.mk (below_step HB.out hb1)
        have HL1 := Aside0.mk (Kd.R_below HL.out hb1)
        clear hb1
        go_wp2_with fail
        refine ⟨⟨k + 1, by go_num, ⟨by omega⟩, ⟨?_⟩, HB1⟩, by simp [intOf]; omega⟩
        rw [leastTo_succ, HQ.out]
        simpa using HL1.out
      | true =>
        rw [hq] at HC
        have HQ := Aside0.mk hq
        clear hq
        go_wp2_with fail
        refine HC.out.mono ?_
        rintro e w1 ⟨rfl, hb1⟩
        have HB1 := Aside0.mk (below_step HB.out hb1)
        have HL1 := Aside0.mk (Kd.R_below HL.out hb1)
        clear hb1
        go_wp2_with fail
        clear HB HL HC
        obtain ⟨wo, rfl⟩ : ∃ wo : World, wo = w1 := ⟨_, rfl⟩
        go_loopw [7, 19] (fun v7 v19 W => ∃ (i : Nat), v19 = .int .i64 i ∧ v7 = .bool ((List.range i).all (stay p k)) ∧ Aside0 ((i : Int) ≤ n) ∧ Aside0 (Below wo.heap.size wo W)) (fun _ v19 _ => (n - intOf v19).toNat)
        case atStart => exact ⟨0, rfl, rfl, ⟨by omega⟩, ⟨Below.refl _ _⟩⟩
        case round =>
          obtain ⟨i, rfl, rfl, hi, HBi⟩ := hrel
          have hi' := hi.out
          by_cases hin : (i : Int) < n
          · have HS := Aside0.mk (show (List.range (i + 1)).all (stay p k) = ((List.range i).all (stay p k) && stay p k i) from by rw [List.range_succ, List.all_append]; simp)
            cases ha : (List.range i).all (stay p k) with
            | false =>
              have HA := Aside0.mk ha
              clear ha
              go_wp2_with fail
              go_roundw
              case rel => exact ⟨i + 1, by go_num, by rw [HS.out, HA.out]; rfl, ⟨by omega⟩, HBi⟩
              case measure => simp [intOf]; omega
            | true =>
              have HA := Aside0.mk ha
              clear ha
              cases hbit : (Go.bits .and .i64 ((k : Int) / 2 ^ i) 1 == 0) with
              | true =>
                have HS2 := Aside0.mk (show stay p k i = true from by unfold stay; show ((Go.bits .and .i64 ((k : Int) / 2 ^ i) 1 == 0) || _) = true; rw [hbit]; rfl)
                go_wp2_with fail
                go_roundw
                case rel => exact ⟨i + 1, by go_num, by rw [HS.out, HA.out, HS2.out]; rfl, ⟨by omega⟩, HBi⟩
                case measure => simp [intOf]; omega
              | false =>
                have hdom := drop_dom (k := k) (i := i) (by omega) (by omega)
                have HC2 := Aside0.mk (HP.out (landNot (k : Int) (wrap64 (2 ^ i))) hdom wr (below_step HB1.out HBi.out))
                have HS2 := Aside0.mk (show stay p k i = !(p (landNot (k : Int) (wrap64 (2 ^ i)))) from by unfold stay; show ((Go.bits .and .i64 ((k : Int) / 2 ^ i) 1 == 0) || _) = _; rw [hbit]; rfl)
                clear hdom
                go_wp2_with fail
                refine HC2.out.mono ?_
                rintro e w5 ⟨rfl, hb5⟩
                have HB5 := Aside0.mk (below_step HBi.out hb5)
                clear hb5
                go_wp2_with fail
                go_roundw
                case rel => exact ⟨i + 1, by go_num, by rw [HS.out, HA.out, HS2.out]; rfl, ⟨by omega⟩, HB5⟩
                case measure => simp [intOf]; omega
          · have hie := Aside0.mk (show i = n.toNat from by omega)
            have HL2 := Aside0.mk (Kd.R_below HL1.out HBi.out)
            have HB2 := Aside0.mk (below_step HB1.out HBi.out)
            cases ha : (List.range i).all (stay p k) with
            | false =>
              have HA := Aside0.mk ha
              clear ha
              go_wp2_with fail
              refine ⟨⟨k + 1, by go_num, ⟨by omega⟩, ⟨?_⟩, HB2⟩, by simp [intOf]; omega⟩
              rw [leastTo_succ, HQ.out, ← hie.out, HA.out]
              simpa using HL2.out
            | true =>
              have HA := Aside0.mk ha
              clear ha
              have hll := leastTo_len n p k
              go_wp2_with (first | ((with_reducible refine gate_builtin (b := .append) (xs := #[.tmp 41, .tmp 43]) rfl ?_); at_builtin; refine Kd.R_append (Kd.int .i64) (w0 := w) w.heap.size rfl (.tmp 41) (.tmp 43) 22 3 (.int .i64 0) 8 rfl Try.underlying22 info3 rfl (by decide) (by omega) u5 (leastTo n p k) (k : Int) [.int .i64 (k : Int)] (fun _ => True) (fun _ => False) rfl rfl rfl (fun _ hk => hk.elim) (fun _ _ => trivial) HL2.out HB2.out (below_size HB2.out) (by omega) ?_) | fail)
              intro v6 w6 hR6 hB6 hg6 hat6
              have HL6 := Aside0.mk hR6
              have HB6 := Aside0.mk hB6
              clear hR6 hB6 hg6 hat6
              go_wp2_with fail
              refine ⟨⟨k + 1, by go_num, ⟨by omega⟩, ⟨?_⟩, HB6⟩, by simp [intOf]; omega⟩
              rw [leastTo_succ, HQ.out, ← hie.out, HA.out]
              simpa using HL6.out
    · have hke : k = M := by omega
      have hlti : ¬ (k : Int) < (M : Int) := by omega
      go_wp2
      go_ret
      trace_state
      exact ⟨_, rfl, by unfold leastL; rw [HMM.out, ← hke]; exact HL.out, HB.out⟩
end Go.Proofs.Ytldakfaolagoiaa.Tb
