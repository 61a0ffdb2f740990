/- Predicates that are closures, and whether a list holds a number that meets one. -/
import Derived.Test.YtldakfaolagoiaaProg
import Derived.Below
import Derived.Deep.Draws
import Derived.Deep.AppendLies
import Derived.Maps.AppendAt
import Derived.OwnWalk
import Derived.Laws.BytesArg
import Derived.Laws.MakeOwn
import Derived.Laws.OwnMore
import Derived.Deep.OwnRows
import Derived.Tactics
import Derived.Lib.ConvBytes
import Derived.Laws.Slices
import Derived.WalkKit
import Derived.KernelRfl
import Derived.RowKit3
import Derived.Deep.LoopGhost
import Derived.Deep.QuietTactic
import Derived.BigQuiet
import Derived.WideLaws
import Derived.Deep.DeepCutAuto
import Derived.Deep.CutBlock
import Derived.Deep.RegionHeld3
import Derived.Laws.Rows
import Derived.Lib.AppendStr
import Derived.ArgAppend
import Derived.Laws.IdiomCopy
import Derived.OrdersHeld
import Derived.Laws.BitsLemmas
import Derived.RowKit
import Derived.Test.YtldakfaolagoiaaWWords
import Derived.Test.YtldakfaolagoiaaWLast
import Derived.Test.YtldakfaolagoiaaWTab
import Derived.Test.YtldakfaolagoiaaWFour
import Derived.Test.YtldakfaolagoiaaWQPut
import Derived.Test.YtldakfaolagoiaaWApart
import Derived.Test.YtldakfaolagoiaaWArr
import Derived.Test.YtldakfaolagoiaaWZeros
import Derived.Test.YtldakfaolagoiaaWFoot
import Derived.Test.YtldakfaolagoiaaWKept
import Derived.Test.YtldakfaolagoiaaWShare
import Derived.Test.YtldakfaolagoiaaWN
import Derived.Test.YtldakfaolagoiaaWFootNe
import Derived.Test.YtldakfaolagoiaaWAt
import Derived.Test.YtldakfaolagoiaaWEqStruct
import Derived.Test.YtldakfaolagoiaaWRepsOne
import Derived.Test.YtldakfaolagoiaaWInv
import Derived.Test.YtldakfaolagoiaaWInvWords
import Derived.Test.YtldakfaolagoiaaWGuard
import Derived.Test.YtldakfaolagoiaaWNEv
import Derived.Test.YtldakfaolagoiaaWMore
import Derived.Maps.OwnOps
import Derived.DeepKeys4
import Derived.WalkSpells
import Derived.Laws.EntriesVeiled
import Derived.Deep.RegionLawGrows
import Derived.ArgAppend
namespace Go.Proofs.Ytldakfaolagoiaa.Tb
open Go.RowKit Go.Proofs.YtldakfaolagoiaaW.PrintWords Go.Proofs.YtldakfaolagoiaaW.PrintLast Go.Proofs.YtldakfaolagoiaaW.PrintMore
attribute [local go_sem] max2_int min2_int max_two min_two max_three min_three max_four min_four
set_option linter.unusedVariables false
set_option linter.unusedSimpArgs false

/-- a closure of one captured number, or one captured position -/
abbrev land (x y : Int) : Int := Go.bits .and .i64 x y
abbrev landNot (x y : Int) : Int := Go.bits .andNot .i64 x y
set_option maxHeartbeats 800000 in
theorem c19 (x s : Int) (b : Nat) (w : World) (h : w.heap[b]? = some (.cells #[.int .i64 s] 3 (0, 0))) :
    Calls Try.prog 19 #[.int .i64 x, .pointer (some ⟨b, 0, none⟩)] w fun e w' => e = .returned (.bool (land x s == x)) ∧ w' = w := by
  have hc := blk_cell h 0
  simp only [List.getElem?_toArray, List.getElem?_cons_zero] at hc
  clear h
  go_enter Try.func19, Try.ntmps19
  go_wp2
  go_ret
  exact ⟨rfl, rfl⟩
set_option maxHeartbeats 800000 in
theorem c17 (x s : Int) (b : Nat) (w : World) (h : w.heap[b]? = some (.cells #[.int .i64 s] 3 (0, 0))) :
    Calls Try.prog 17 #[.int .i64 x, .pointer (some ⟨b, 0, none⟩)] w fun e w' => e = .returned (.bool ((land x s == x) || (land x s == s))) ∧ w' = w := by
  have hc := blk_cell h 0
  simp only [List.getElem?_toArray, List.getElem?_cons_zero] at hc
  clear h
  cases hq : (land x s == x)
  all_goals
    have HQ := Aside0.mk hq
    go_enter Try.func17, Try.ntmps17
    go_wp2
    go_ret
    exact ⟨rfl, rfl⟩
set_option maxHeartbeats 800000 in
theorem c27 (x s d : Int) (b : Nat) (w : World) (h : w.heap[b]? = some (.cells #[.int .i64 s, .int .i64 d] 38 (0, 0))) :
    Calls Try.prog 27 #[.int .i64 x, .pointer (some ⟨b, 0, none⟩)] w fun e w' => e = .returned (.bool (landNot x s == 0)) ∧ w' = w := by
  have hc := blk_cell h 0
  have hu38 := Try.underlying38
  simp only [List.getElem?_toArray, List.getElem?_cons_zero] at hc
  clear h
  go_enter Try.func27, Try.ntmps27
  go_wp2
  go_ret
  exact ⟨rfl, rfl⟩
set_option maxHeartbeats 800000 in
theorem c28 (x m : Int) (hm : 0 ≤ m ∧ m ≤ 9) (b : Nat) (w : World) (h : w.heap[b]? = some (.cells #[.int .i64 m] 3 (0, 0))) :
    Calls Try.prog 28 #[.int .i64 x, .pointer (some ⟨b, 0, none⟩)] w fun e w' => e = .returned (.bool (decide (x < 1) || decide (wrap64 (2 ^ m.toNat) ≤ x))) ∧ w' = w := by
  have hc := blk_cell h 0
  simp only [List.getElem?_toArray, List.getElem?_cons_zero] at hc
  obtain ⟨h0, h9⟩ := hm
  clear h
  cases hq : decide (x < 1)
  all_goals
    have HQ := Aside0.mk hq
    go_enter Try.func28, Try.ntmps28
    go_wp2
    go_ret
    exact ⟨rfl, rfl⟩

set_option maxHeartbeats 800000 in
set_option maxRecDepth 100000 in
theorem index_17 (p : Int → Bool) (b : Nat) (A : Option Addr) (c : Nat) (l : List Int) (w : World) (hr : Kd.C (Kd.int .i64) w A l.length l) (hc : l.length ≤ c)
    (hp : ∀ x ∈ l, Calls Try.prog 17 #[.int .i64 x, .pointer (some ⟨b, 0, none⟩)] w fun e W' => e = .returned (.bool (p x)) ∧ W' = w) :
    Calls Try.prog 25 #[.slice A l.length c, .func (.func 17) #[] #[.pointer (some ⟨b, 0, none⟩)]] w fun e w' => (∃ i : Int, e = .returned (.int .i64 i) ∧ decide (0 ≤ i) = l.any p) ∧ w' = w := by
  have HR := Aside0.mk hr
  have HP := Aside0.mk hp
  have hlen := hr.2.1
  clear hr hp
  go_enter Try.func25, Try.ntmps25
  go_wp2_with fail
  go_loopw [5, 8] (fun v5 v8 W => ∃ (i : Nat), v8 = .int .i64 i ∧ Aside0 (i ≤ l.length) ∧ Aside0 ((l.take i).any p = false) ∧ W = w) (fun _ v8 _ => ((l.length : Int) - intOf v8).toNat)
  case atStart => exact ⟨0, rfl, ⟨Nat.zero_le _⟩, ⟨rfl⟩, rfl⟩
  case round =>
    obtain ⟨i, rfl, hi, HN, rfl⟩ := hrel
    have hi' := hi.out
    by_cases hlt : i < l.length
    · obtain ⟨ad, hA, hcell⟩ := Kd.at_int HR.out (i : Int) (by omega) (by omega)
      subst hA
      have hcell' : wr.cell? (ad.add i) = some (.int .i64 (rd l i)) := by simpa using hcell
      have hmem : rd l i ∈ l := by
        unfold rd
        rw [List.getD_eq_getElem?_getD, Int.toNat_natCast, List.getElem?_eq_getElem hlt]
        exact List.getElem_mem hlt
      have htake : l.take (i + 1) = l.take i ++ [rd l i] := by
        rw [List.take_add_one, List.getElem?_eq_getElem hlt]
        unfold rd
        rw [List.getD_eq_getElem?_getD, Int.toNat_natCast, List.getElem?_eq_getElem hlt]
        rfl
      have HT := Aside0.mk htake
      have hlti : (i : Int) < (l.length : Int) := by omega
      have h0i : (0 : Int) ≤ (i : Int) := by omega
      have HC := Aside0.mk (HP.out _ hmem)
      clear hmem htake hcell
      obtain ⟨x, hx⟩ : ∃ x, rd l i = x := ⟨_, rfl⟩
      rw [hx] at HC HT hcell'
      clear hx
      cases hq : p x with
      | false =>
        rw [hq] at HC
        have HQ := Aside0.mk hq
        clear hq
        go_wp2_with fail
        refine HC.out.mono ?_
        rintro e w1 ⟨rfl, rfl⟩
        go_wp2
        go_roundw
        case rel => exact ⟨i + 1, by go_num, ⟨by omega⟩, ⟨by rw [HT.out, List.any_append, HN.out]; simp [HQ.out]⟩, by first | rfl | trivial⟩
        case measure => simp [intOf]; omega
      | true =>
        rw [hq] at HC
        have HQ := Aside0.mk hq
        clear hq
        go_wp2_with fail
        refine HC.out.mono ?_
        rintro e w1 ⟨rfl, rfl⟩
        go_wp2
        go_ret
        refine ⟨⟨(i : Int), rfl, ?_⟩, rfl⟩
        have h2 : l.any p = true := by
          rw [← List.take_append_drop (i + 1) l, List.any_append, HT.out, List.any_append]
          simp [HQ.out]
        rw [h2]
        exact decide_eq_true h0i
    · have hie : i = l.length := by omega
      have hlti : ¬ (i : Int) < (l.length : Int) := by omega
      go_wp2
      go_ret
      refine ⟨⟨-1, rfl, ?_⟩, rfl⟩
      have h2 := HN.out
      rw [hie, List.take_length] at h2
      rw [h2]
      rfl
set_option maxHeartbeats 800000 in
theorem contains_17 (p : Int → Bool) (b : Nat) (A : Option Addr) (c : Nat) (l : List Int) (w : World) (hr : Kd.C (Kd.int .i64) w A l.length l) (hc : l.length ≤ c)
    (hp : ∀ x ∈ l, Calls Try.prog 17 #[.int .i64 x, .pointer (some ⟨b, 0, none⟩)] w fun e W' => e = .returned (.bool (p x)) ∧ W' = w) :
    Calls Try.prog 16 #[.slice A l.length c, .func (.func 17) #[] #[.pointer (some ⟨b, 0, none⟩)]] w fun e w' => e = .returned (.bool (l.any p)) ∧ w' = w := by
  have HI := Aside0.mk (index_17 p b A c l w hr hc hp)
  clear hr hc hp
  go_enter Try.func16, Try.ntmps16
  go_wp2_with fail
  refine HI.out.mono ?_
  rintro e w1 ⟨⟨i, rfl, hi⟩, rfl⟩
  go_wp2
  go_ret
  exact ⟨by rw [← hi]; rfl, rfl⟩

set_option maxHeartbeats 800000 in
set_option maxRecDepth 100000 in
theorem index_19 (p : Int → Bool) (b : Nat) (A : Option Addr) (c : Nat) (l : List Int) (w : World) (hr : Kd.C (Kd.int .i64) w A l.length l) (hc : l.length ≤ c)
    (hp : ∀ x ∈ l, Calls Try.prog 19 #[.int .i64 x, .pointer (some ⟨b, 0, none⟩)] w fun e W' => e = .returned (.bool (p x)) ∧ W' = w) :
    Calls Try.prog 25 #[.slice A l.length c, .func (.func 19) #[] #[.pointer (some ⟨b, 0, none⟩)]] w fun e w' => (∃ i : Int, e = .returned (.int .i64 i) ∧ decide (0 ≤ i) = l.any p) ∧ w' = w := by
  have HR := Aside0.mk hr
  have HP := Aside0.mk hp
  have hlen := hr.2.1
  clear hr hp
  go_enter Try.func25, Try.ntmps25
  go_wp2_with fail
  go_loopw [5, 8] (fun v5 v8 W => ∃ (i : Nat), v8 = .int .i64 i ∧ Aside0 (i ≤ l.length) ∧ Aside0 ((l.take i).any p = false) ∧ W = w) (fun _ v8 _ => ((l.length : Int) - intOf v8).toNat)
  case atStart => exact ⟨0, rfl, ⟨Nat.zero_le _⟩, ⟨rfl⟩, rfl⟩
  case round =>
    obtain ⟨i, rfl, hi, HN, rfl⟩ := hrel
    have hi' := hi.out
    by_cases hlt : i < l.length
    · obtain ⟨ad, hA, hcell⟩ := Kd.at_int HR.out (i : Int) (by omega) (by omega)
      subst hA
      have hcell' : wr.cell? (ad.add i) = some (.int .i64 (rd l i)) := by simpa using hcell
      have hmem : rd l i ∈ l := by
        unfold rd
        rw [List.getD_eq_getElem?_getD, Int.toNat_natCast, List.getElem?_eq_getElem hlt]
        exact List.getElem_mem hlt
      have htake : l.take (i + 1) = l.take i ++ [rd l i] := by
        rw [List.take_add_one, List.getElem?_eq_getElem hlt]
        unfold rd
        rw [List.getD_eq_getElem?_getD, Int.toNat_natCast, List.getElem?_eq_getElem hlt]
        rfl
      have HT := Aside0.mk htake
      have hlti : (i : Int) < (l.length : Int) := by omega
      have h0i : (0 : Int) ≤ (i : Int) := by omega
      have HC := Aside0.mk (HP.out _ hmem)
      clear hmem htake hcell
      obtain ⟨x, hx⟩ : ∃ x, rd l i = x := ⟨_, rfl⟩
      rw [hx] at HC HT hcell'
      clear hx
      cases hq : p x with
      | false =>
        rw [hq] at HC
        have HQ := Aside0.mk hq
        clear hq
        go_wp2_with fail
        refine HC.out.mono ?_
        rintro e w1 ⟨rfl, rfl⟩
        go_wp2
        go_roundw
        case rel => exact ⟨i + 1, by go_num, ⟨by omega⟩, ⟨by rw [HT.out, List.any_append, HN.out]; simp [HQ.out]⟩, by first | rfl | trivial⟩
        case measure => simp [intOf]; omega
      | true =>
        rw [hq] at HC
        have HQ := Aside0.mk hq
        clear hq
        go_wp2_with fail
        refine HC.out.mono ?_
        rintro e w1 ⟨rfl, rfl⟩
        go_wp2
        go_ret
        refine ⟨⟨(i : Int), rfl, ?_⟩, rfl⟩
        have h2 : l.any p = true := by
          rw [← List.take_append_drop (i + 1) l, List.any_append, HT.out, List.any_append]
          simp [HQ.out]
        rw [h2]
        exact decide_eq_true h0i
    · have hie : i = l.length := by omega
      have hlti : ¬ (i : Int) < (l.length : Int) := by omega
      go_wp2
      go_ret
      refine ⟨⟨-1, rfl, ?_⟩, rfl⟩
      have h2 := HN.out
      rw [hie, List.take_length] at h2
      rw [h2]
      rfl
set_option maxHeartbeats 800000 in
theorem contains_19 (p : Int → Bool) (b : Nat) (A : Option Addr) (c : Nat) (l : List Int) (w : World) (hr : Kd.C (Kd.int .i64) w A l.length l) (hc : l.length ≤ c)
    (hp : ∀ x ∈ l, Calls Try.prog 19 #[.int .i64 x, .pointer (some ⟨b, 0, none⟩)] w fun e W' => e = .returned (.bool (p x)) ∧ W' = w) :
    Calls Try.prog 16 #[.slice A l.length c, .func (.func 19) #[] #[.pointer (some ⟨b, 0, none⟩)]] w fun e w' => e = .returned (.bool (l.any p)) ∧ w' = w := by
  have HI := Aside0.mk (index_19 p b A c l w hr hc hp)
  clear hr hc hp
  go_enter Try.func16, Try.ntmps16
  go_wp2_with fail
  refine HI.out.mono ?_
  rintro e w1 ⟨⟨i, rfl, hi⟩, rfl⟩
  go_wp2
  go_ret
  exact ⟨by rw [← hi]; rfl, rfl⟩

set_option maxHeartbeats 800000 in
set_option maxRecDepth 100000 in
theorem index_27 (p : Int → Bool) (b : Nat) (A : Option Addr) (c : Nat) (l : List Int) (w : World) (hr : Kd.C (Kd.int .i64) w A l.length l) (hc : l.length ≤ c)
    (hp : ∀ x ∈ l, Calls Try.prog 27 #[.int .i64 x, .pointer (some ⟨b, 0, none⟩)] w fun e W' => e = .returned (.bool (p x)) ∧ W' = w) :
    Calls Try.prog 25 #[.slice A l.length c, .func (.func 27) #[] #[.pointer (some ⟨b, 0, none⟩)]] w fun e w' => (∃ i : Int, e = .returned (.int .i64 i) ∧ decide (0 ≤ i) = l.any p) ∧ w' = w := by
  have HR := Aside0.mk hr
  have HP := Aside0.mk hp
  have hlen := hr.2.1
  clear hr hp
  go_enter Try.func25, Try.ntmps25
  go_wp2_with fail
  go_loopw [5, 8] (fun v5 v8 W => ∃ (i : Nat), v8 = .int .i64 i ∧ Aside0 (i ≤ l.length) ∧ Aside0 ((l.take i).any p = false) ∧ W = w) (fun _ v8 _ => ((l.length : Int) - intOf v8).toNat)
  case atStart => exact ⟨0, rfl, ⟨Nat.zero_le _⟩, ⟨rfl⟩, rfl⟩
  case round =>
    obtain ⟨i, rfl, hi, HN, rfl⟩ := hrel
    have hi' := hi.out
    by_cases hlt : i < l.length
    · obtain ⟨ad, hA, hcell⟩ := Kd.at_int HR.out (i : Int) (by omega) (by omega)
      subst hA
      have hcell' : wr.cell? (ad.add i) = some (.int .i64 (rd l i)) := by simpa using hcell
      have hmem : rd l i ∈ l := by
        unfold rd
        rw [List.getD_eq_getElem?_getD, Int.toNat_natCast, List.getElem?_eq_getElem hlt]
        exact List.getElem_mem hlt
      have htake : l.take (i + 1) = l.take i ++ [rd l i] := by
        rw [List.take_add_one, List.getElem?_eq_getElem hlt]
        unfold rd
        rw [List.getD_eq_getElem?_getD, Int.toNat_natCast, List.getElem?_eq_getElem hlt]
        rfl
      have HT := Aside0.mk htake
      have hlti : (i : Int) < (l.length : Int) := by omega
      have h0i : (0 : Int) ≤ (i : Int) := by omega
      have HC := Aside0.mk (HP.out _ hmem)
      clear hmem htake hcell
      obtain ⟨x, hx⟩ : ∃ x, rd l i = x := ⟨_, rfl⟩
      rw [hx] at HC HT hcell'
      clear hx
      cases hq : p x with
      | false =>
        rw [hq] at HC
        have HQ := Aside0.mk hq
        clear hq
        go_wp2_with fail
        refine HC.out.mono ?_
        rintro e w1 ⟨rfl, rfl⟩
        go_wp2
        go_roundw
        case rel => exact ⟨i + 1, by go_num, ⟨by omega⟩, ⟨by rw [HT.out, List.any_append, HN.out]; simp [HQ.out]⟩, by first | rfl | trivial⟩
        case measure => simp [intOf]; omega
      | true =>
        rw [hq] at HC
        have HQ := Aside0.mk hq
        clear hq
        go_wp2_with fail
        refine HC.out.mono ?_
        rintro e w1 ⟨rfl, rfl⟩
        go_wp2
        go_ret
        refine ⟨⟨(i : Int), rfl, ?_⟩, rfl⟩
        have h2 : l.any p = true := by
          rw [← List.take_append_drop (i + 1) l, List.any_append, HT.out, List.any_append]
          simp [HQ.out]
        rw [h2]
        exact decide_eq_true h0i
    · have hie : i = l.length := by omega
      have hlti : ¬ (i : Int) < (l.length : Int) := by omega
      go_wp2
      go_ret
      refine ⟨⟨-1, rfl, ?_⟩, rfl⟩
      have h2 := HN.out
      rw [hie, List.take_length] at h2
      rw [h2]
      rfl
set_option maxHeartbeats 800000 in
theorem contains_27 (p : Int → Bool) (b : Nat) (A : Option Addr) (c : Nat) (l : List Int) (w : World) (hr : Kd.C (Kd.int .i64) w A l.length l) (hc : l.length ≤ c)
    (hp : ∀ x ∈ l, Calls Try.prog 27 #[.int .i64 x, .pointer (some ⟨b, 0, none⟩)] w fun e W' => e = .returned (.bool (p x)) ∧ W' = w) :
    Calls Try.prog 16 #[.slice A l.length c, .func (.func 27) #[] #[.pointer (some ⟨b, 0, none⟩)]] w fun e w' => e = .returned (.bool (l.any p)) ∧ w' = w := by
  have HI := Aside0.mk (index_27 p b A c l w hr hc hp)
  clear hr hc hp
  go_enter Try.func16, Try.ntmps16
  go_wp2_with fail
  refine HI.out.mono ?_
  rintro e w1 ⟨⟨i, rfl, hi⟩, rfl⟩
  go_wp2
  go_ret
  exact ⟨by rw [← hi]; rfl, rfl⟩

set_option maxHeartbeats 800000 in
set_option maxRecDepth 100000 in
theorem index_28 (p : Int → Bool) (b : Nat) (A : Option Addr) (c : Nat) (l : List Int) (w : World) (hr : Kd.C (Kd.int .i64) w A l.length l) (hc : l.length ≤ c)
    (hp : ∀ x ∈ l, Calls Try.prog 28 #[.int .i64 x, .pointer (some ⟨b, 0, none⟩)] w fun e W' => e = .returned (.bool (p x)) ∧ W' = w) :
    Calls Try.prog 25 #[.slice A l.length c, .func (.func 28) #[] #[.pointer (some ⟨b, 0, none⟩)]] w fun e w' => (∃ i : Int, e = .returned (.int .i64 i) ∧ decide (0 ≤ i) = l.any p) ∧ w' = w := by
  have HR := Aside0.mk hr
  have HP := Aside0.mk hp
  have hlen := hr.2.1
  clear hr hp
  go_enter Try.func25, Try.ntmps25
  go_wp2_with fail
  go_loopw [5, 8] (fun v5 v8 W => ∃ (i : Nat), v8 = .int .i64 i ∧ Aside0 (i ≤ l.length) ∧ Aside0 ((l.take i).any p = false) ∧ W = w) (fun _ v8 _ => ((l.length : Int) - intOf v8).toNat)
  case atStart => exact ⟨0, rfl, ⟨Nat.zero_le _⟩, ⟨rfl⟩, rfl⟩
  case round =>
    obtain ⟨i, rfl, hi, HN, rfl⟩ := hrel
    have hi' := hi.out
    by_cases hlt : i < l.length
    · obtain ⟨ad, hA, hcell⟩ := Kd.at_int HR.out (i : Int) (by omega) (by omega)
      subst hA
      have hcell' : wr.cell? (ad.add i) = some (.int .i64 (rd l i)) := by simpa using hcell
      have hmem : rd l i ∈ l := by
        unfold rd
        rw [List.getD_eq_getElem?_getD, Int.toNat_natCast, List.getElem?_eq_getElem hlt]
        exact List.getElem_mem hlt
      have htake : l.take (i + 1) = l.take i ++ [rd l i] := by
        rw [List.take_add_one, List.getElem?_eq_getElem hlt]
        unfold rd
        rw [List.getD_eq_getElem?_getD, Int.toNat_natCast, List.getElem?_eq_getElem hlt]
        rfl
      have HT := Aside0.mk htake
      have hlti : (i : Int) < (l.length : Int) := by omega
      have h0i : (0 : Int) ≤ (i : Int) := by omega
      have HC := Aside0.mk (HP.out _ hmem)
      clear hmem htake hcell
      obtain ⟨x, hx⟩ : ∃ x, rd l i = x := ⟨_, rfl⟩
      rw [hx] at HC HT hcell'
      clear hx
      cases hq : p x with
      | false =>
        rw [hq] at HC
        have HQ := Aside0.mk hq
        clear hq
        go_wp2_with fail
        refine HC.out.mono ?_
        rintro e w1 ⟨rfl, rfl⟩
        go_wp2
        go_roundw
        case rel => exact ⟨i + 1, by go_num, ⟨by omega⟩, ⟨by rw [HT.out, List.any_append, HN.out]; simp [HQ.out]⟩, by first | rfl | trivial⟩
        case measure => simp [intOf]; omega
      | true =>
        rw [hq] at HC
        have HQ := Aside0.mk hq
        clear hq
        go_wp2_with fail
        refine HC.out.mono ?_
        rintro e w1 ⟨rfl, rfl⟩
        go_wp2
        go_ret
        refine ⟨⟨(i : Int), rfl, ?_⟩, rfl⟩
        have h2 : l.any p = true := by
          rw [← List.take_append_drop (i + 1) l, List.any_append, HT.out, List.any_append]
          simp [HQ.out]
        rw [h2]
        exact decide_eq_true h0i
    · have hie : i = l.length := by omega
      have hlti : ¬ (i : Int) < (l.length : Int) := by omega
      go_wp2
      go_ret
      refine ⟨⟨-1, rfl, ?_⟩, rfl⟩
      have h2 := HN.out
      rw [hie, List.take_length] at h2
      rw [h2]
      rfl
set_option maxHeartbeats 800000 in
theorem contains_28 (p : Int → Bool) (b : Nat) (A : Option Addr) (c : Nat) (l : List Int) (w : World) (hr : Kd.C (Kd.int .i64) w A l.length l) (hc : l.length ≤ c)
    (hp : ∀ x ∈ l, Calls Try.prog 28 #[.int .i64 x, .pointer (some ⟨b, 0, none⟩)] w fun e W' => e = .returned (.bool (p x)) ∧ W' = w) :
    Calls Try.prog 16 #[.slice A l.length c, .func (.func 28) #[] #[.pointer (some ⟨b, 0, none⟩)]] w fun e w' => e = .returned (.bool (l.any p)) ∧ w' = w := by
  have HI := Aside0.mk (index_28 p b A c l w hr hc hp)
  clear hr hc hp
  go_enter Try.func16, Try.ntmps16
  go_wp2_with fail
  refine HI.out.mono ?_
  rintro e w1 ⟨⟨i, rfl, hi⟩, rfl⟩
  go_wp2
  go_ret
  exact ⟨by rw [← hi]; rfl, rfl⟩

end Go.Proofs.Ytldakfaolagoiaa.Tb
