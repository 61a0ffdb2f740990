/- ruled, where the rule is one; least, Other and Rules. -/
import Derived.Test.YtldakfaolagoiaaProg
import Derived.Below
import Derived.Deep.Draws
import Derived.Deep.AppendLies
import Derived.Maps.AppendAt
import Derived.OwnWalk
import Derived.Laws.BytesArg
import Derived.Laws.MakeOwn
import Derived.Laws.OwnMore
import Derived.Deep.OwnRows
import Derived.Tactics
import Derived.Lib.ConvBytes
import Derived.Laws.Slices
import Derived.WalkKit
import Derived.KernelRfl
import Derived.RowKit3
import Derived.Deep.LoopGhost
import Derived.Deep.QuietTactic
import Derived.BigQuiet
import Derived.WideLaws
import Derived.Deep.DeepCutAuto
import Derived.Deep.CutBlock
import Derived.Deep.RegionHeld3
import Derived.Laws.Rows
import Derived.Lib.AppendStr
import Derived.ArgAppend
import Derived.Laws.IdiomCopy
import Derived.OrdersHeld
import Derived.Laws.BitsLemmas
import Derived.RowKit
import Derived.Test.YtldakfaolagoiaaWWords
import Derived.Test.YtldakfaolagoiaaWLast
import Derived.Test.YtldakfaolagoiaaWTab
import Derived.Test.YtldakfaolagoiaaWFour
import Derived.Test.YtldakfaolagoiaaWQPut
import Derived.Test.YtldakfaolagoiaaWApart
import Derived.Test.YtldakfaolagoiaaWArr
import Derived.Test.YtldakfaolagoiaaWZeros
import Derived.Test.YtldakfaolagoiaaWFoot
import Derived.Test.YtldakfaolagoiaaWKept
import Derived.Test.YtldakfaolagoiaaWShare
import Derived.Test.YtldakfaolagoiaaWN
import Derived.Test.YtldakfaolagoiaaWFootNe
import Derived.Test.YtldakfaolagoiaaWAt
import Derived.Test.YtldakfaolagoiaaWEqStruct
import Derived.Test.YtldakfaolagoiaaWRepsOne
import Derived.Test.YtldakfaolagoiaaWInv
import Derived.Test.YtldakfaolagoiaaWInvWords
import Derived.Test.YtldakfaolagoiaaWGuard
import Derived.Test.YtldakfaolagoiaaWNEv
import Derived.Test.YtldakfaolagoiaaWMore
import Derived.Maps.OwnOps
import Derived.DeepKeys4
import Derived.WalkSpells
import Derived.Laws.EntriesVeiled
import Derived.Deep.RegionLawGrows
import Derived.ArgAppend
import Derived.Test.YtldakfaolagoiaaTbB
namespace Go.Proofs.Ytldakfaolagoiaa.Tb
open Go.RowKit Go.Proofs.YtldakfaolagoiaaW.PrintWords Go.Proofs.YtldakfaolagoiaaW.PrintLast Go.Proofs.YtldakfaolagoiaaW.PrintMore
attribute [local go_sem] max2_int min2_int max_two min_two max_three min_three max_four min_four
set_option linter.unusedVariables false
set_option linter.unusedSimpArgs false

/-- what ruled asks of a rule -/
structure RuleOK (n : Int) (l : List Int) : Prop where
  n1 : 1 ≤ n
  n5 : n ≤ 5
  ne : l ≠ []
  lo : ∀ i : Nat, i < l.length → 1 ≤ rd l i
  hi : ∀ i : Nat, i < l.length → rd l i < pw n
  up : ∀ i : Nat, i < l.length → 0 < i → rd l ((i : Int) - 1) < rd l i
  apart : ∀ i : Nat, i < l.length → (l.take i).any (fun x => (land x (rd l i) == x) || (land x (rd l i) == rd l i)) = false
theorem cell_rd {w : World} {A : Option Addr} {l : List Int} (h : Kd.C (Kd.int .i64) w A l.length l) {i : Nat} (hi : i < l.length) : ∃ ad, A = some ad ∧ w.cell? (ad.add i) = some (.int .i64 (rd l i)) := by
  obtain ⟨ad, hA, hc⟩ := Kd.at_int h (i : Int) (by omega) (by omega)
  exact ⟨ad, hA, by simpa using hc⟩

set_option maxHeartbeats 800000 in
set_option maxRecDepth 100000 in
theorem ruled_calls (n : Int) (A : Option Addr) (c : Nat) (l : List Int) (w : World) (hr : Kd.C (Kd.int .i64) w A l.length l) (hc : l.length ≤ c) (hR : RuleOK n l) :
    Calls Try.prog 9 #[.int .i64 n, .slice A l.length c] w fun e w' => e = .returned (.bool true) ∧ Below w.heap.size w w' := by
  have hn1 := hR.n1
  have hn5 := hR.n5
  have hlen : (l.length : Int) ≠ 0 := by
    intro h
    exact hR.ne (List.eq_nil_of_length_eq_zero (by omega))
  have hl0 : ((l.length : Int) == 0) = false := by rw [beq_eq_false_iff_ne]; exact hlen
  have hmf : ∀ (fn : Fn) (first cap : Array Value) (w : World), (Instr.makeFunc fn first cap).run Try.prog w = .ok (.func fn first cap) w := fun _ _ _ _ => rfl
  have HR := Aside0.mk hR
  have HC := Aside0.mk hr
  have hmax := hr.2.1
  clear hr hR
  go_enter Try.func9, Try.ntmps9
  go_wp2_with fail
  go_loopw [20] (fun v20 W => ∃ (i : Nat), v20 = .int .i64 i ∧ Aside0 (i ≤ l.length) ∧ Aside0 (Below w.heap.size w W)) (fun v20 _ => ((l.length : Int) - intOf v20).toNat)
  case atStart => exact ⟨0, rfl, ⟨Nat.zero_le _⟩, ⟨Below.refl _ _⟩⟩
  case round =>
    obtain ⟨i, rfl, hi, HB⟩ := hrel
    have hi' := hi.out
    by_cases hlt : i < l.length
    · have hC := Kd.C_below HC.out HB.out
      obtain ⟨ad, hA, hcell⟩ := cell_rd hC hlt
      subst hA
      have hlo := HR.out.lo i hlt
      have hhi := HR.out.hi i hlt
      have hap := HR.out.apart i hlt
      have hup := HR.out.up i hlt
      obtain ⟨s, hs⟩ : ∃ s, rd l i = s := ⟨_, rfl⟩
      rw [hs] at hcell hlo hhi hap hup
      have hB1 := below_alloc (Below.refl wr.heap.size wr) (.cells #[.int .i64 s] 3)
      have hbox := heap_alloc_new wr (.cells #[.int .i64 s] 3)
      have hbc := blk_cell hbox 0
      simp only [List.getElem?_toArray, List.getElem?_cons_zero] at hbc
      have htl : (l.take i).length = i := by rw [List.length_take]; omega
      have HK := fun nd : Nat => contains_17 (fun x => (land x s == x) || (land x s == s)) wr.heap.size (some ad) c (l.take i) ((wr.alloc (.cells #[.int .i64 s] 3)).drewN nd) (Kd.C_take (Kd.C_drewN (Kd.C_below hC hB1) nd) (by omega)) (by omega) (fun x hx => c17 x s wr.heap.size _ hbox)
      rw [hap, htl] at HK
      have HK := Aside0.mk HK
      have hlti : (i : Int) < (l.length : Int) := by omega
      have h0i : (0 : Int) ≤ (i : Int) := by omega
      have HB1 := Aside0.mk (below_step HB.out hB1)
      have HC1 := Aside0.mk (Kd.C_below hC hB1)
      have hd1 : decide (s < 1) = false := decide_eq_false (by omega)
      have hd2 : decide (wrap64 (2 ^ n.toNat) ≤ s) = false := decide_eq_false (Int.not_le.2 hhi)
      have hd2' : decide (IntKind.i64.wrap (2 ^ n.toNat) ≤ s) = false := by rw [i64_w]; exact hd2
      clear hC hbox hB1 hap hs
      by_cases hz : i = 0
      · have hz1 : ¬ (0 : Int) < (i : Int) := by omega
        have hd3 : decide ((0 : Int) < (i : Int)) = false := decide_eq_false hz1
        have hd3' : decide (0 < i) = false := decide_eq_false (by omega)
        clear hup hz
        go_wp2_with fail
        go_quiet (first | (go_at_call 16; (first | refine (HK.out _).mono ?_ | refine (HK.out 0).mono ?_); rintro e w5 ⟨rfl, rfl⟩; (try first | exact ⟨rfl, _, World.drewN_drewN _ _ _⟩ | exact ⟨rfl, _, rfl⟩)))
        go_wp2_with fail
        go_roundw
        case rel => exact ⟨i + 1, by go_num, ⟨by omega⟩, ⟨below_step HB1.out (pw_below_drewN (Below.refl _ _) _)⟩⟩
        case measure => simp [intOf]; omega
      · have hz1 : (0 : Int) < (i : Int) := by omega
        have hup := hup (by omega)
        obtain ⟨j, hj⟩ : ∃ j : Int, (i : Int) - 1 = j := ⟨_, rfl⟩
        rw [hj] at hup
        obtain ⟨ad2, hA2, hcell2⟩ := Kd.at_int HC1.out j (by omega) (by omega)
        obtain rfl : ad = ad2 := by injection hA2
        have hwi : IntKind.i64.wrap ((i : Int) - 1) = j := by rw [hj]; exact IntWalk.i64_in _ (by omega)
        have hp0 := eq_true (show (0 : Int) ≤ j by omega)
        have hp1 := eq_true (show j < (l.length : Int) by omega)
        clear hj
        have hd3 : decide ((0 : Int) < (i : Int)) = true := decide_eq_true hz1
        have hd3' : decide (0 < i) = true := decide_eq_true (by omega)
        have hd4 : decide (s ≤ rd l j) = false := decide_eq_false (by omega)
        go_wp2_with fail
        go_quiet (first | (go_at_call 16; (first | refine (HK.out _).mono ?_ | refine (HK.out 0).mono ?_); rintro e w5 ⟨rfl, rfl⟩; (try first | exact ⟨rfl, _, World.drewN_drewN _ _ _⟩ | exact ⟨rfl, _, rfl⟩)))
        go_wp2_with fail
        go_roundw
        case rel => exact ⟨i + 1, by go_num, ⟨by omega⟩, ⟨below_step HB1.out (pw_below_drewN (Below.refl _ _) _)⟩⟩
        case measure => simp [intOf]; omega
    · have hie : i = l.length := by omega
      have hlti : ¬ (i : Int) < (l.length : Int) := by omega
      go_wp2
      go_ret
      exact ⟨rfl, HB.out⟩
end Go.Proofs.Ytldakfaolagoiaa.Tb
