/- What is proved: the statement of MobsStirling, for every input, without any condition. -/
import Derived.Test.YtdhgeondbnpeoaaMsF
import Derived.Calls
import Derived.Conc.Beside
import Derived.Laws.Sem
import Derived.Conc.CrowdRun
import Derived.Conc.CommBuf
import Derived.Conc.WgGenN3
import Derived.Test.YtdhgeondbnpeoaaProg
import Derived.KernelRfl
import Derived.Below
import Derived.Deep.Draws
import Derived.Deep.AppendLies
import Derived.Maps.AppendAt
import Derived.OwnWalk
import Derived.Laws.BytesArg
import Derived.Laws.MakeOwn
import Derived.Laws.OwnMore
import Derived.Deep.OwnRows
import Derived.Tactics
import Derived.Lib.ConvBytes
import Derived.Laws.Slices
import Derived.WalkKit
import Derived.RowKit3
import Derived.Deep.LoopGhost
import Derived.Deep.QuietTactic
import Derived.BigQuiet
import Derived.WideLaws
import Derived.Deep.DeepCutAuto
import Derived.Deep.CutBlock
import Derived.Deep.RegionHeld3
import Derived.Laws.Rows
import Derived.Lib.AppendStr
import Derived.ArgAppend
import Derived.Laws.IdiomCopy
import Derived.RowKit
import Derived.OrdersHeld
import Derived.Laws.BitsLemmas
import Derived.Laws.StructEq
import Derived.Maps.OwnOps
import Derived.DeepKeys4
import Derived.WalkSpells
import Derived.Maps.Keyed
import Derived.Conc.LeavingOf
import Derived.Test.YtdhgeondbnpeoaaRows
import Derived.ProofKit
import Derived.OpenShut
import Derived.ShutString
import Derived.ChangeOld
import Derived.SizedLaws
set_option linter.unnecessarySimpa false
set_option linter.unusedVariables false
namespace Go.Proofs.Ytdhgeondbnpeoaa.mobsStirling
open Go.ChangeShapes Go.WideShapes Go.ChangeAt Go.RowKit
open Go.ChangeMaps (open_string shut_string)
theorem own : ownKnob Try.prog.godebug = none := by kernel_rfl
set_option maxRecDepth 100000 in
theorem lifted (os : Os) (started : os.Started) (H : Type) (enc : TypeId × Value → H) :
  ReturnsInLeavingWide {} Try.checked os 13 .any (Rows.mobsStirlingSpec.pre6 enc Try.prog Try.f13 Rows.mobsStirlingRow.domain false) (Rows.mobsStirlingSpec.post enc Try.prog Try.f13 false true false false) := by
 refine returnsInLeavingWide_of_change_sized (C := Try.checked) own started Try.func13
  (ChangeSpec.witness6 (enc := enc) (C := Try.checked) false ⟨#[], #[.int .u8 0, .int .u8 0], []⟩ 8 (by kernel_rfl) (by kernel_rfl) (by kernel_rfl) (by kernel_rfl)) ?_
 intro W base args ds gs before hval0 hW hcnd hsz0 _
 have hsz : (DataW.weightsEach Try.prog (Try.f13.params.toList ++ Rows.mobsStirlingSpec.plain.varTypes Try.prog) (ds ++ gs)).all (· ≤ reachBytes) = true := hsz0
 have hval : ∀ (j : Nat) t v, Try.f13.params[j]? = some t → args[j]? = some v → Value.okWide Try.prog W .any base t v := hval0
 have hW' := hW
 obtain ⟨p, q, hA0, hV, rfl, hfz, hnd⟩ := hW
 have hA : DataW.TrodAll enc Try.prog W 0 (fun _ => true) true Try.f13.params.toList args.toList ds p := hA0
 rw [Try.params13] at hA hval hsz
 obtain ⟨v0, vs0, d0, ds0, p0, q0, hargs, rfl, rfl, h0, r0⟩ := trodAll_cons hA
 obtain ⟨v1, vs1, d1, ds1, p1, q1, rfl, rfl, rfl, h1, r1⟩ := trodAll_cons r0
 obtain ⟨rfl, rfl, rfl⟩ := trodAll_nil r1
 obtain rfl : args = #[v0, v1] := by cases args; simp_all
 obtain ⟨rfl, rfl⟩ := trodVars_none hV
 obtain ⟨a0, rfl, rfl, rfl, w0⟩ := open_int Try.underlying5 (hval 0 5 v0 rfl rfl) h0
 obtain ⟨a1, rfl, rfl, rfl, w1⟩ := open_int Try.underlying5 (hval 1 5 v1 rfl rfl) h1
 clear hA0 hval0 hsz0 hsz
 obtain ⟨M, last, o, w', t', h1, h2, h3, v', e0, ⟨hv, bel⟩, r0⟩ := Ca.law_run (f := 13) (W := W) (args := #[.int .u8 a0, .int .u8 a1]) (by kernel_rfl) Tra.func13 (by decide) (by decide) (by kernel_rfl) rfl (by simp [Tr.flatB]) (fun u => (P.w6_MobsStirling.walk Pure.MobsStirling a0 a1 u w0 w1).mono fun e _ h => h.1)
 subst hv
 exact ⟨M, last, o, w', t', h1, h2, h3, _, e0, ⟨_, _, _, [], _, [], hW', trodAll_mk1 (shut_bool Try.underlying4 _), (trodAll_cons_mk (shut_int Try.underlying5 w0) (trodAll_cons_mk (shut_int Try.underlying5 w1) trodAll_mk0)), rfl, bel.frame _, fun h => by cases h⟩, r0⟩
theorem over : Rows.mobsStirlingRow.holds Try.pinned (OpenSpec.ofChange Rows.mobsStirlingSpec) :=
 OpenClaim.holds_of_wide_leaving 13 Try.f13 rfl rfl rfl rfl rfl rfl rfl ⟨rfl, rfl, rfl, rfl, rfl⟩ rfl rfl rfl rfl rfl (by kernel_rfl) Try.func13 (by kernel_rfl)
  (of_decide_eq_true (by kernel_rfl)) (by unfold Func.isWrapper; first | (rw [if_pos (by decide +kernel)]; kernel_rfl) | (rw [if_neg (by decide +kernel)]; exact ⟨rfl, rfl⟩))
  (fun os started H enc _ => lifted os started H enc)
theorem proved : Rows.MobsStirlingSaid := over
end Go.Proofs.Ytdhgeondbnpeoaa.mobsStirling
namespace Go.Proofs.Ytdhgeondbnpeoaa
theorem mobsStirling_holds : Rows.MobsStirlingSaid := mobsStirling.proved
end Go.Proofs.Ytdhgeondbnpeoaa
