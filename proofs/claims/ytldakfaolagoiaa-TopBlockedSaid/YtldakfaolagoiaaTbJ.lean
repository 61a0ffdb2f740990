/- Winner. -/
import Derived.Test.YtldakfaolagoiaaProg
import Derived.Below
import Derived.Deep.Draws
import Derived.Deep.AppendLies
import Derived.Maps.AppendAt
import Derived.OwnWalk
import Derived.Laws.BytesArg
import Derived.Laws.MakeOwn
import Derived.Laws.OwnMore
import Derived.Deep.OwnRows
import Derived.Tactics
import Derived.Lib.ConvBytes
import Derived.Laws.Slices
import Derived.WalkKit
import Derived.KernelRfl
import Derived.RowKit3
import Derived.Deep.LoopGhost
import Derived.Deep.QuietTactic
import Derived.BigQuiet
import Derived.WideLaws
import Derived.Deep.DeepCutAuto
import Derived.Deep.CutBlock
import Derived.Deep.RegionHeld3
import Derived.Laws.Rows
import Derived.Lib.AppendStr
import Derived.ArgAppend
import Derived.Laws.IdiomCopy
import Derived.OrdersHeld
import Derived.Laws.BitsLemmas
import Derived.RowKit
import Derived.Test.YtldakfaolagoiaaWWords
import Derived.Test.YtldakfaolagoiaaWLast
import Derived.Test.YtldakfaolagoiaaWTab
import Derived.Test.YtldakfaolagoiaaWFour
import Derived.Test.YtldakfaolagoiaaWQPut
import Derived.Test.YtldakfaolagoiaaWApart
import Derived.Test.YtldakfaolagoiaaWArr
import Derived.Test.YtldakfaolagoiaaWZeros
import Derived.Test.YtldakfaolagoiaaWFoot
import Derived.Test.YtldakfaolagoiaaWKept
import Derived.Test.YtldakfaolagoiaaWShare
import Derived.Test.YtldakfaolagoiaaWN
import Derived.Test.YtldakfaolagoiaaWFootNe
import Derived.Test.YtldakfaolagoiaaWAt
import Derived.Test.YtldakfaolagoiaaWEqStruct
import Derived.Test.YtldakfaolagoiaaWRepsOne
import Derived.Test.YtldakfaolagoiaaWInv
import Derived.Test.YtldakfaolagoiaaWInvWords
import Derived.Test.YtldakfaolagoiaaWGuard
import Derived.Test.YtldakfaolagoiaaWNEv
import Derived.Test.YtldakfaolagoiaaWMore
import Derived.Maps.OwnOps
import Derived.DeepKeys4
import Derived.WalkSpells
import Derived.Laws.EntriesVeiled
import Derived.Deep.RegionLawGrows
import Derived.ArgAppend
import Derived.Test.YtldakfaolagoiaaTbI
namespace Go.Proofs.Ytldakfaolagoiaa.Tb
open Go.RowKit Go.Proofs.YtldakfaolagoiaaW.PrintWords Go.Proofs.YtldakfaolagoiaaW.PrintLast Go.Proofs.YtldakfaolagoiaaW.PrintMore
attribute [local go_sem] max2_int min2_int max_two min_two max_three min_three max_four min_four
set_option linter.unusedVariables false
set_option linter.unusedSimpArgs false

def letterOf (v : Int) : ByteArray := if v = 1 then ⟨#[119]⟩ else ⟨#[100]⟩
theorem letter_f {v : Int} (h : v = 1 ∨ v = 2) : P.ambush_letter.f v = some (letterOf v) := by
  rcases h with rfl | rfl <;> decide +kernel
set_option maxHeartbeats 1600000 in
set_option maxRecDepth 100000 in
theorem winner_w (m : Int) (A : Option Addr) (c : Nat) (l : List Int) (s : ByteArray) (w : World) (hr : Kd.C (Kd.int .i64) w A l.length l) (hc : l.length ≤ c) (hF : FieldOK m l) (hS : SpotsOK m s) {p1 p2 : Int} (hp : placeOf s s.size = (p1, p2)) (hd1 : Dom p1) (hd2 : Dom p2) :
    Calls Try.prog 7 #[.int .i64 m, .slice A l.length c, .string s, .string ⟨#[119]⟩] w fun e w' => e = .returned (.tuple #[.string (letterOf (val m l p1 p2 1)), .int .i64 0]) ∧ Below w.heap.size w w' := by
  have hu36 := Try.underlying36
  have hu38 := Try.underlying38
  have hu40 := Try.underlying40
  have HA := asked_w m A c l s w hr hc hF hS
  rw [hp] at HA
  have HA := Aside0.mk HA
  have HR := Aside0.mk hr
  have HF := Aside0.mk hF
  have HC := Aside0.mk hc
  have HT := Aside0.mk (show Turn p1 p2 1 from ⟨hd1, hd2, by decide⟩)
  have hmm := @run_makeMap Try.prog
  clear hr hF hc hp hS hd1 hd2
  go_enter Try.func7, Try.ntmps7
  go_wp2_with (first | (go_at_call 13; with_reducible refine HA.out.mono ?_; rintro e w1 ⟨rfl, hb1⟩; have HB1 := Aside0.mk hb1; clear hb1) | fail)
  have HB2 := Aside0.mk (below_alloc (below_alloc (Below.refl w1.heap.size w1) (.cells #[.int .i64 m, .slice A l.length c] 36)) (.cells #[.int .i64 p1, .int .i64 p2, .int .i64 1] 40))
  have HB3 := Aside0.mk (below_alloc HB2.out (.map #[] 0))
  have HM := Aside0.mk (show Memo m l _ (w1.heap.size + 1 + 1) from (show ((w1.alloc (.cells #[.int .i64 m, .slice A l.length c] 36)).alloc (.cells #[.int .i64 p1, .int .i64 p2, .int .i64 1] 40)).heap.size = w1.heap.size + 1 + 1 from by simp only [asize]) ▸ Memo.made m l ((w1.alloc (.cells #[.int .i64 m, .slice A l.length c] 36)).alloc (.cells #[.int .i64 p1, .int .i64 p2, .int .i64 1] 40)))
  refine (win_all HF.out.m1 HF.out.m9 l 6 p1 p2 1 HT.out (Nat.lt_succ_of_le (cnt_le _ _)) _ (w1.heap.size + 1 + 1) A c HM.out (Kd.C_below (Kd.C_below HR.out HB1.out) HB3.out) HC.out).mono ?_
  rintro e w5 ⟨rfl, hm5, hg5⟩
  have HB5 := Aside0.mk (show Below w.heap.size w w5 from (below_step HB1.out HB3.out).grown hg5 (by have := HB1.out.size; have := HB3.out.size; omega) (fun k hk => by injection hk with hk; have := HB1.out.size; omega))
  obtain ⟨V, hV⟩ : ∃ V, val m l p1 p2 1 = V := ⟨_, rfl⟩
  have HLV := Aside0.mk (show P.ambush_letter.f V = some (letterOf V) from letter_f (hV ▸ val_12 HF.out.m1 HF.out.m9 l HT.out.t HT.out.a HT.out.b))
  rw [hV]
  have HVV := Aside0.mk hV
  clear hm5 hg5 HB2 HB3 HM hV
  go_wp2_with fail
  refine (P.ambush_letter.calls V _ _ HLV.out).mono ?_
  rintro e w6 ⟨rfl, hdr⟩
  have HB6 := Aside0.mk (below_step HB5.out (below_of_drawn0 hdr))
  clear hdr
  go_wp2_with fail
  go_ret2
  exact ⟨by rw [HVV.out]; first | done | rfl, HB6.out⟩
set_option maxHeartbeats 1600000 in
set_option maxRecDepth 100000 in
theorem winner_d (m : Int) (A : Option Addr) (c : Nat) (l : List Int) (s : ByteArray) (w : World) (hr : Kd.C (Kd.int .i64) w A l.length l) (hc : l.length ≤ c) (hF : FieldOK m l) (hS : SpotsOK m s) {p1 p2 : Int} (hp : placeOf s s.size = (p1, p2)) (hd1 : Dom p1) (hd2 : Dom p2) :
    Calls Try.prog 7 #[.int .i64 m, .slice A l.length c, .string s, .string ⟨#[100]⟩] w fun e w' => e = .returned (.tuple #[.string (letterOf (val m l p1 p2 2)), .int .i64 0]) ∧ Below w.heap.size w w' := by
  have hu36 := Try.underlying36
  have hu38 := Try.underlying38
  have hu40 := Try.underlying40
  have HA := asked_d m A c l s w hr hc hF hS
  rw [hp] at HA
  have HA := Aside0.mk HA
  have HR := Aside0.mk hr
  have HF := Aside0.mk hF
  have HC := Aside0.mk hc
  have HT := Aside0.mk (show Turn p1 p2 2 from ⟨hd1, hd2, by decide⟩)
  have hmm := @run_makeMap Try.prog
  clear hr hF hc hp hS hd1 hd2
  go_enter Try.func7, Try.ntmps7
  go_wp2_with (first | (go_at_call 13; with_reducible refine HA.out.mono ?_; rintro e w1 ⟨rfl, hb1⟩; have HB1 := Aside0.mk hb1; clear hb1) | fail)
  have HB2 := Aside0.mk (below_alloc (below_alloc (Below.refl w1.heap.size w1) (.cells #[.int .i64 m, .slice A l.length c] 36)) (.cells #[.int .i64 p1, .int .i64 p2, .int .i64 2] 40))
  have HB3 := Aside0.mk (below_alloc HB2.out (.map #[] 0))
  have HM := Aside0.mk (show Memo m l _ (w1.heap.size + 1 + 1) from (show ((w1.alloc (.cells #[.int .i64 m, .slice A l.length c] 36)).alloc (.cells #[.int .i64 p1, .int .i64 p2, .int .i64 2] 40)).heap.size = w1.heap.size + 1 + 1 from by simp only [asize]) ▸ Memo.made m l ((w1.alloc (.cells #[.int .i64 m, .slice A l.length c] 36)).alloc (.cells #[.int .i64 p1, .int .i64 p2, .int .i64 2] 40)))
  refine (win_all HF.out.m1 HF.out.m9 l 6 p1 p2 2 HT.out (Nat.lt_succ_of_le (cnt_le _ _)) _ (w1.heap.size + 1 + 1) A c HM.out (Kd.C_below (Kd.C_below HR.out HB1.out) HB3.out) HC.out).mono ?_
  rintro e w5 ⟨rfl, hm5, hg5⟩
  have HB5 := Aside0.mk (show Below w.heap.size w w5 from (below_step HB1.out HB3.out).grown hg5 (by have := HB1.out.size; have := HB3.out.size; omega) (fun k hk => by injection hk with hk; have := HB1.out.size; omega))
  obtain ⟨V, hV⟩ : ∃ V, val m l p1 p2 2 = V := ⟨_, rfl⟩
  have HLV := Aside0.mk (show P.ambush_letter.f V = some (letterOf V) from letter_f (hV ▸ val_12 HF.out.m1 HF.out.m9 l HT.out.t HT.out.a HT.out.b))
  rw [hV]
  have HVV := Aside0.mk hV
  clear hm5 hg5 HB2 HB3 HM hV
  go_wp2_with fail
  refine (P.ambush_letter.calls V _ _ HLV.out).mono ?_
  rintro e w6 ⟨rfl, hdr⟩
  have HB6 := Aside0.mk (below_step HB5.out (below_of_drawn0 hdr))
  clear hdr
  go_wp2_with fail
  go_ret2
  exact ⟨by rw [HVV.out]; first | done | rfl, HB6.out⟩
end Go.Proofs.Ytldakfaolagoiaa.Tb
