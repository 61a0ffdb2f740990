/- The law, walked. -/
import Derived.Test.YtldakfaolagoiaaProg
import Derived.Below
import Derived.Deep.Draws
import Derived.Deep.AppendLies
import Derived.Maps.AppendAt
import Derived.OwnWalk
import Derived.Laws.BytesArg
import Derived.Laws.MakeOwn
import Derived.Laws.OwnMore
import Derived.Deep.OwnRows
import Derived.Tactics
import Derived.Lib.ConvBytes
import Derived.Laws.Slices
import Derived.WalkKit
import Derived.KernelRfl
import Derived.RowKit3
import Derived.Deep.LoopGhost
import Derived.Deep.QuietTactic
import Derived.BigQuiet
import Derived.WideLaws
import Derived.Deep.DeepCutAuto
import Derived.Deep.CutBlock
import Derived.Deep.RegionHeld3
import Derived.Laws.Rows
import Derived.Lib.AppendStr
import Derived.ArgAppend
import Derived.Laws.IdiomCopy
import Derived.OrdersHeld
import Derived.Laws.BitsLemmas
import Derived.RowKit
import Derived.Test.YtldakfaolagoiaaWWords
import Derived.Test.YtldakfaolagoiaaWLast
import Derived.Test.YtldakfaolagoiaaWTab
import Derived.Test.YtldakfaolagoiaaWFour
import Derived.Test.YtldakfaolagoiaaWQPut
import Derived.Test.YtldakfaolagoiaaWApart
import Derived.Test.YtldakfaolagoiaaWArr
import Derived.Test.YtldakfaolagoiaaWZeros
import Derived.Test.YtldakfaolagoiaaWFoot
import Derived.Test.YtldakfaolagoiaaWKept
import Derived.Test.YtldakfaolagoiaaWShare
import Derived.Test.YtldakfaolagoiaaWN
import Derived.Test.YtldakfaolagoiaaWFootNe
import Derived.Test.YtldakfaolagoiaaWAt
import Derived.Test.YtldakfaolagoiaaWEqStruct
import Derived.Test.YtldakfaolagoiaaWRepsOne
import Derived.Test.YtldakfaolagoiaaWInv
import Derived.Test.YtldakfaolagoiaaWInvWords
import Derived.Test.YtldakfaolagoiaaWGuard
import Derived.Test.YtldakfaolagoiaaWNEv
import Derived.Test.YtldakfaolagoiaaWMore
import Derived.Maps.OwnOps
import Derived.DeepKeys4
import Derived.WalkSpells
import Derived.Laws.EntriesVeiled
import Derived.Deep.RegionLawGrows
import Derived.ArgAppend
import Derived.Test.YtldakfaolagoiaaTbK
import Derived.Test.YtldakfaolagoiaaTbN
namespace Go.Proofs.Ytldakfaolagoiaa.Tb
open Go.RowKit Go.Proofs.YtldakfaolagoiaaW.PrintWords Go.Proofs.YtldakfaolagoiaaW.PrintLast Go.Proofs.YtldakfaolagoiaaW.PrintMore
attribute [local go_sem] max2_int min2_int max_two min_two max_three min_three max_four min_four
set_option linter.unusedVariables false
set_option linter.unusedSimpArgs false

def dots : ByteArray := ⟨#[46, 46, 46, 46, 46, 46, 46, 46, 46]⟩
theorem dots_ok {n : Int} (h1 : 1 ≤ n) (h5 : n ≤ 5) : SpotsOK n (dots.extract 0 n.toNat) ∧ placeOf (dots.extract 0 n.toNat) (dots.extract 0 n.toNat).size = (0, 0) := by
  rcases (show n = 1 ∨ n = 2 ∨ n = 3 ∨ n = 4 ∨ n = 5 by omega) with rfl | rfl | rfl | rfl | rfl <;> refine ⟨⟨by decide +kernel, by decide +kernel, ?_⟩, by decide +kernel⟩ <;> decide +kernel
theorem letter_two {u v : Int} (hu : u = 1 ∨ u = 2) (hv : v = 3 - u) : (letterOf u = ⟨#[119]⟩ ∧ letterOf v = ⟨#[100]⟩) ∨ (letterOf u = ⟨#[100]⟩ ∧ letterOf v = ⟨#[119]⟩) := by
  rcases hu with rfl | rfl <;> subst hv
  · exact .inl ⟨rfl, by decide +kernel⟩
  · exact .inr ⟨by decide +kernel, by decide +kernel⟩
set_option maxHeartbeats 8000000 in
set_option maxRecDepth 100000 in
theorem blocked_calls (n : Int) (A : Option Addr) (c : Nat) (l : List Int) (w : World) (hr : Kd.C (Kd.int .i64) w A l.length l) (hc : l.length ≤ c) :
    Calls Try.prog 3 #[.int .i64 n, .slice A l.length c] w fun e w' => e = .returned (.bool true) ∧ Below w.heap.size w w' := by
  have HR := Aside0.mk hr
  have HC := Aside0.mk hc
  have HV := Aside0.mk voted_calls
  have hm : (l.length : Int) ≤ 9223372036854775807 := by have := hr.2.1; omega
  clear hr hc
  by_cases h12 : 12 < l.length
  · have hd : decide ((l.length : Int) > 12) = true := decide_eq_true (by omega)
    go_enter Try.func3, Try.ntmps3
    go_wp2_with fail
    refine (HV.out _).mono ?_
    rintro e w1 ⟨rfl, hb1⟩
    have HB1 := Aside0.mk hb1
    clear hb1
    go_wp2
    go_ret
    exact ⟨rfl, HB1.out⟩
  · obtain ⟨r, ⟨k, hk⟩, hR⟩ := isrule_ev n (l := l) (by omega)
    have HK := Aside0.mk hk
    have hd : decide ((l.length : Int) > 12) = false := decide_eq_false (by omega)
    cases r with
    | false =>
      clear hR hk
      go_enter Try.func3, Try.ntmps3
      go_wp2_with fail
      refine (P.drovewayref03_IsRule.calls k n A c l false _ HR.out HC.out HK.out).mono ?_
      rintro e w1 ⟨rfl, hb1⟩
      have HB1 := Aside0.mk (below_of_drawn0 hb1)
      clear hb1
      go_wp2_with fail
      refine (HV.out _).mono ?_
      rintro e w2 ⟨rfl, hb2⟩
      have HB2 := Aside0.mk (below_step HB1.out hb2)
      clear hb2
      go_wp2
      go_ret
      exact ⟨rfl, HB2.out⟩
    | true =>
      have hRR := hR rfl
      have HRU := Aside0.mk hRR
      have n1 := hRR.n1
      have n5 := hRR.n5
      have HF := Aside0.mk (rule_field hRR (by omega))
      clear hR hk hRR
      go_enter Try.func3, Try.ntmps3
      go_wp2_with fail
      refine (P.drovewayref03_IsRule.calls k n A c l true _ HR.out HC.out HK.out).mono ?_
      rintro e w1 ⟨rfl, hb1⟩
      have HB1 := Aside0.mk (below_of_drawn0 hb1)
      have HR1 := Aside0.mk (Kd.C_below HR.out HB1.out)
      clear hb1
      go_wp2_with fail
      refine (other_calls n A c l _ HR1.out HC.out HRU.out).mono ?_
      rintro e w2 ⟨v, rfl, hRo, hb2⟩
      have HB2 := Aside0.mk (below_step HB1.out hb2)
      have HR2 := Aside0.mk (Kd.C_below HR1.out hb2)
      obtain ⟨Ao, co, rfl, hco, hCo⟩ := Kd.R_reads hRo
      have HCO := Aside0.mk hco
      have HO2 := Aside0.mk hCo
      clear hb2 hRo hCo hco HB1 HR1
      obtain ⟨o, ho⟩ : ∃ o, otherL n l = o := ⟨_, rfl⟩
      have hol : (o.length : Int) ≤ 32 := by
        have := Nat.le_trans (leastTo_len n (fun s => !(win l (restOf n s))) (2 ^ n.toNat)) (pw_eq n1 n5).2
        have h2 : o.length ≤ 32 := ho ▸ this
        omega
      by_cases ho12 : 12 < o.length
      · have hdo : decide ((o.length : Int) > 12) = true := decide_eq_true (by omega)
        rw [ho]
        clear ho
        go_wp2_with fail
        refine (HV.out _).mono ?_
        rintro e w3 ⟨rfl, hb3⟩
        have HB3 := Aside0.mk (below_step HB2.out hb3)
        clear hb3
        go_wp2
        go_ret
        exact ⟨rfl, HB3.out⟩
      · have hdo : decide ((o.length : Int) > 12) = false := decide_eq_false (by omega)
        have HFO := Aside0.mk (show FieldOK n o from ho ▸ other_field HRU.out (by rw [ho]; omega))
        have HD1 := Aside0.mk (show val n o 0 0 2 = 3 - val n l 0 0 1 from ho ▸ val_dual HRU.out (.inl rfl))
        have HD2 := Aside0.mk (show val n o 0 0 1 = 3 - val n l 0 0 2 from ho ▸ val_dual HRU.out (t := 2) (.inr rfl))
        rw [ho] at HCO HO2 ⊢
        clear ho
        have HS := Aside0.mk (dots_ok n1 n5).1
        have HP := Aside0.mk (dots_ok n1 n5).2
        have D0 : Dom 0 := ⟨by decide, by decide⟩
        have hA := letter_two (val_12 n1 n5 l (t := 1) (.inl rfl) D0 D0) HD1.out
        have hB := letter_two (val_12 n1 n5 l (t := 2) (.inr rfl) D0 D0) HD2.out
        clear D0 HD1 HD2
        rcases hA with ⟨a1, a2⟩ | ⟨a1, a2⟩ <;> rcases hB with ⟨a3, a4⟩ | ⟨a3, a4⟩
        all_goals
          have L1 := Aside0.mk a1
          have L2 := Aside0.mk a2
          have L3 := Aside0.mk a3
          have L4 := Aside0.mk a4
          clear a1 a2 a3 a4
          go_wp2_with fail
          refine (winner_w n A c l (dots.extract 0 n.toNat) _ HR2.out HC.out HF.out HS.out HP.out ⟨by decide, by decide⟩ ⟨by decide, by decide⟩).mono ?_
          rintro e w3 ⟨rfl, hb⟩
          rw [L1.out]
          have HB3 := Aside0.mk (below_step HB2.out hb)
          have HR3 := Aside0.mk (Kd.C_below HR2.out hb)
          have HO3 := Aside0.mk (Kd.C_below HO2.out hb)
          clear hb HB2 HR2 HO2
          go_wp2_with fail
          refine (winner_d n Ao co o (dots.extract 0 n.toNat) _ HO3.out HCO.out HFO.out HS.out HP.out ⟨by decide, by decide⟩ ⟨by decide, by decide⟩).mono ?_
          rintro e w4 ⟨rfl, hb⟩
          rw [L2.out]
          have HB4 := Aside0.mk (below_step HB3.out hb)
          have HR4 := Aside0.mk (Kd.C_below HR3.out hb)
          have HO4 := Aside0.mk (Kd.C_below HO3.out hb)
          clear hb HB3 HR3 HO3
          go_wp2_with fail
          refine (winner_d n A c l (dots.extract 0 n.toNat) _ HR4.out HC.out HF.out HS.out HP.out ⟨by decide, by decide⟩ ⟨by decide, by decide⟩).mono ?_
          rintro e w5 ⟨rfl, hb⟩
          rw [L3.out]
          have HB5 := Aside0.mk (below_step HB4.out hb)
          have HR5 := Aside0.mk (Kd.C_below HR4.out hb)
          have HO5 := Aside0.mk (Kd.C_below HO4.out hb)
          clear hb HB4 HR4 HO4
          go_wp2_with fail
          refine (winner_w n Ao co o (dots.extract 0 n.toNat) _ HO5.out HCO.out HFO.out HS.out HP.out ⟨by decide, by decide⟩ ⟨by decide, by decide⟩).mono ?_
          rintro e w6 ⟨rfl, hb⟩
          rw [L4.out]
          have HB6 := Aside0.mk (below_step HB5.out hb)
          have HR6 := Aside0.mk (Kd.C_below HR5.out hb)
          have HO6 := Aside0.mk (Kd.C_below HO5.out hb)
          clear hb HB5 HR5 HO5
          go_wp2_with fail
          refine (HV.out _).mono ?_
          rintro e w7 ⟨rfl, hb7⟩
          have HB7 := Aside0.mk (below_step HB6.out hb7)
          clear hb7
          go_wp2
          go_ret
          exact ⟨rfl, HB7.out⟩
end Go.Proofs.Ytldakfaolagoiaa.Tb
