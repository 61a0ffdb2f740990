/- The theorem of MobsOrder, proved; part 4 of 7: its texts, merged. -/
import Derived.Test.YtdhgeondbnpeoaaMoC
import Derived.Calls
import Derived.Conc.Beside
import Derived.Laws.Sem
import Derived.Conc.CrowdRun
import Derived.Conc.CommBuf
import Derived.Conc.WgGenN3
import Derived.Test.YtdhgeondbnpeoaaProg
import Derived.KernelRfl
import Derived.Below
import Derived.Deep.Draws
import Derived.Deep.AppendLies
import Derived.Maps.AppendAt
import Derived.OwnWalk
import Derived.Laws.BytesArg
import Derived.Laws.MakeOwn
import Derived.Laws.OwnMore
import Derived.Deep.OwnRows
import Derived.Tactics
import Derived.Lib.ConvBytes
import Derived.Laws.Slices
import Derived.WalkKit
import Derived.RowKit3
import Derived.Deep.LoopGhost
import Derived.Deep.QuietTactic
import Derived.BigQuiet
import Derived.WideLaws
import Derived.Deep.DeepCutAuto
import Derived.Deep.CutBlock
import Derived.Deep.RegionHeld3
import Derived.Laws.Rows
import Derived.Lib.AppendStr
import Derived.ArgAppend
import Derived.Laws.IdiomCopy
import Derived.RowKit
import Derived.OrdersHeld
import Derived.Laws.BitsLemmas
import Derived.Laws.StructEq
import Derived.Maps.OwnOps
import Derived.DeepKeys4
import Derived.WalkSpells
import Derived.Maps.Keyed
set_option linter.unnecessarySimpa false
set_option linter.unusedVariables false
set_option linter.unusedSimpArgs false
set_option linter.unusedSectionVars false
namespace Go.Mt
open Go.Tr Go.Conc Go.ConcN Go.Proofs
theorem _root_.Go.Proofs.Tra.same : wf Tra.prog Try.prog.funcs = Try.prog := rfl
theorem _root_.Go.Proofs.Tra.stand : Stand Tra.prog := ⟨_, Tra.func20, rfl, by kernel_rfl, by kernel_rfl, rfl⟩
def kdL : List (Nat × List (Nat × Nat)) := [(3, [(9, 2), (12, 2), (15, 2), (18, 2), (29, 2), (32, 2), (35, 2), (38, 2)]), (4, [(25, 2), (28, 2), (31, 2), (34, 2), (72, 2), (75, 2), (78, 2), (84, 2)]), (5, [(5, 1), (8, 1), (17, 2), (19, 2), (23, 2), (25, 2), (42, 2), (44, 2), (47, 2), (49, 2), (61, 2), (64, 2), (67, 2), (70, 2)]), (6, [(3, 1), (20, 2), (22, 2), (26, 2), (28, 2), (64, 2), (66, 2), (70, 2), (72, 2), (75, 2), (77, 2)]), (7, [(7, 1), (10, 1), (25, 2), (28, 2), (52, 2), (54, 2), (58, 2), (60, 2), (75, 2), (77, 2), (80, 2), (82, 2), (95, 2), (98, 2)]), (9, [(56, 2), (59, 2), (62, 2), (65, 2), (68, 2), (71, 2), (74, 2), (77, 2), (80, 2), (83, 2)]), (11, [(35, 2), (38, 2), (41, 2), (43, 2), (46, 2), (48, 2), (76, 2), (79, 2)]), (12, [(17, 2), (19, 2), (22, 2), (24, 2), (35, 2), (38, 2), (41, 2), (44, 2)]), (13, [(28, 2), (31, 2), (34, 2), (39, 2), (45, 2), (49, 2), (80, 2), (83, 2), (95, 2), (99, 2), (102, 2), (105, 2), (127, 1)]), (14, [(30, 2), (32, 2), (37, 2), (41, 2), (60, 2), (63, 2), (89, 2), (92, 2), (95, 2), (98, 2), (101, 2), (103, 2), (145, 1), (149, 1), (154, 1), (158, 1)]), (15, [(28, 2), (30, 2), (37, 2), (39, 2), (60, 1), (64, 1), (70, 1), (72, 1), (73, 2), (75, 2), (78, 2), (80, 2)]), (16, [(31, 1), (35, 1), (41, 1), (45, 1), (49, 1), (55, 1)]), (17, [(21, 1), (37, 1), (42, 1), (46, 1), (50, 1), (54, 1), (57, 1), (61, 1)]), (18, []), (19, [(16, 1), (19, 1)]), (21, []), (22, []), (23, [(2, 1), (6, 1), (15, 2), (17, 2)]), (24, [(2, 1), (6, 1), (14, 2), (16, 2)]), (25, [(5, 1), (17, 2), (19, 2)]), (26, [(4, 1), (13, 2), (15, 2), (54, 1), (58, 1), (87, 1), (96, 1), (98, 1)]), (27, [(19, 1), (23, 1)]), (28, []), (29, []), (30, [(16, 1), (22, 1), (29, 1)]), (31, [(14, 1)]), (32, []), (36, [(20, 1)]), (37, [(25, 1), (33, 1), (39, 1)]), (38, []), (39, [(26, 1), (28, 1), (42, 1), (45, 1)]), (40, [(13, 1)]), (41, [(24, 1), (29, 1), (31, 1), (36, 1)]), (42, [(22, 1), (28, 1), (33, 1)]), (43, []), (44, []), (45, []), (46, []), (47, []), (48, [(21, 1), (42, 1), (47, 1), (50, 1), (53, 1), (70, 1), (75, 1), (78, 1), (82, 1), (85, 1), (89, 1)]), (49, [(9, 1), (23, 1), (27, 1)]), (50, [(2, 1), (39, 1), (43, 1), (49, 1), (53, 1), (60, 1), (64, 1)]), (51, []), (52, [(2, 1), (40, 1), (44, 1), (50, 1), (54, 1), (61, 1), (65, 1)]), (53, [(29, 1)]), (54, [(14, 1), (16, 2), (19, 2)]), (55, [(25, 1), (29, 1), (34, 1)]), (56, []), (57, [(18, 1), (22, 1), (28, 1), (32, 1)]), (63, [(15, 1), (19, 1)]), (65, [(25, 1), (29, 1), (35, 1), (39, 1), (45, 1), (49, 1), (56, 1), (64, 1)]), (67, [(21, 1), (40, 1), (46, 1), (49, 1), (54, 1)]), (68, [(28, 1), (35, 1), (38, 1), (44, 1), (48, 1), (51, 1)]), (69, []), (70, []), (84, [(6, 1), (14, 1), (16, 2), (19, 2)]), (90, [(10, 1), (21, 1)]), (91, [(14, 1)])]
def kdOf (f : FuncId) : Kinds := fun t => min 2 (match kdL.find? (fun p => p.1 == f) with | some p => (match p.2.find? (fun q => q.1 == t) with | some q => q.2 | none => 0) | none => 0)
theorem kd_two (f : FuncId) (t : Nat) : kdOf f t ≤ 2 := Nat.min_le_left _ _
def lawL : List Nat := [3, 4, 5, 6, 7, 9, 11, 12, 13, 14, 15]
def subL : List Nat := [16, 17, 18, 19, 21, 22, 23, 24, 25, 26, 27, 28, 29, 30, 31, 32, 36, 37, 38, 39, 40, 41, 42, 43, 44, 45, 46, 47, 48, 49, 50, 51, 52, 53, 54, 55, 56, 57, 63, 65, 67, 68, 69, 70, 84, 90, 91]
def S0 (f : FuncId) : Bool := subL.contains f
def S1 (f : FuncId) : Bool := (subL ++ lawL).contains f
def T1 (f : FuncId) : Bool := (20 :: (subL ++ lawL)).contains f
theorem calmB {T : FuncId → Bool} {f : FuncId} {fn : Func} {c : Code} (hf : Try.prog.funcs[f]? = some fn) (h20 : f ≠ 20) (hb : fn.body = some c) (hn : (fn.name == "runtime.NumGoroutine") = false) (hc : codeB Tra.prog T (kdOf f) c = true) (hr : fn.results.all (resB (kdOf f)) = true) (hp : (List.range fn.params.size).all (fun i => kdOf f i == 0) = true) : CalmF Tra.prog T (kdOf f) f :=
 ⟨kd_two f, fn, c, (Tra.func f h20).trans hf, hb, hn, hc, hr, fun i hi => by simpa using List.all_eq_true.1 hp i (List.mem_range.2 hi)⟩
theorem calmT1_3 : CalmF Tra.prog T1 (kdOf 3) 3 := calmB Try.func3 (by decide) rfl (by kernel_rfl) (by kernel_rfl) (by kernel_rfl) (by kernel_rfl)
theorem calmT1_4 : CalmF Tra.prog T1 (kdOf 4) 4 := calmB Try.func4 (by decide) rfl (by kernel_rfl) (by kernel_rfl) (by kernel_rfl) (by kernel_rfl)
theorem calmT1_5 : CalmF Tra.prog T1 (kdOf 5) 5 := calmB Try.func5 (by decide) rfl (by kernel_rfl) (by kernel_rfl) (by kernel_rfl) (by kernel_rfl)
theorem calmT1_6 : CalmF Tra.prog T1 (kdOf 6) 6 := calmB Try.func6 (by decide) rfl (by kernel_rfl) (by kernel_rfl) (by kernel_rfl) (by kernel_rfl)
theorem calmT1_7 : CalmF Tra.prog T1 (kdOf 7) 7 := calmB Try.func7 (by decide) rfl (by kernel_rfl) (by kernel_rfl) (by kernel_rfl) (by kernel_rfl)
theorem calmT1_9 : CalmF Tra.prog T1 (kdOf 9) 9 := calmB Try.func9 (by decide) rfl (by kernel_rfl) (by kernel_rfl) (by kernel_rfl) (by kernel_rfl)
theorem calmT1_11 : CalmF Tra.prog T1 (kdOf 11) 11 := calmB Try.func11 (by decide) rfl (by kernel_rfl) (by kernel_rfl) (by kernel_rfl) (by kernel_rfl)
theorem calmT1_12 : CalmF Tra.prog T1 (kdOf 12) 12 := calmB Try.func12 (by decide) rfl (by kernel_rfl) (by kernel_rfl) (by kernel_rfl) (by kernel_rfl)
theorem calmT1_13 : CalmF Tra.prog T1 (kdOf 13) 13 := calmB Try.func13 (by decide) rfl (by kernel_rfl) (by kernel_rfl) (by kernel_rfl) (by kernel_rfl)
theorem calmT1_14 : CalmF Tra.prog T1 (kdOf 14) 14 := calmB Try.func14 (by decide) rfl (by kernel_rfl) (by kernel_rfl) (by kernel_rfl) (by kernel_rfl)
theorem calmT1_15 : CalmF Tra.prog T1 (kdOf 15) 15 := calmB Try.func15 (by decide) rfl (by kernel_rfl) (by kernel_rfl) (by kernel_rfl) (by kernel_rfl)
theorem calmS0_16 : CalmF Tra.prog S0 (kdOf 16) 16 := calmB Try.func16 (by decide) rfl (by kernel_rfl) (by kernel_rfl) (by kernel_rfl) (by kernel_rfl)
theorem calmT1_16 : CalmF Tra.prog T1 (kdOf 16) 16 := calmB Try.func16 (by decide) rfl (by kernel_rfl) (by kernel_rfl) (by kernel_rfl) (by kernel_rfl)
theorem calmS0_17 : CalmF Tra.prog S0 (kdOf 17) 17 := calmB Try.func17 (by decide) rfl (by kernel_rfl) (by kernel_rfl) (by kernel_rfl) (by kernel_rfl)
theorem calmT1_17 : CalmF Tra.prog T1 (kdOf 17) 17 := calmB Try.func17 (by decide) rfl (by kernel_rfl) (by kernel_rfl) (by kernel_rfl) (by kernel_rfl)
theorem calmS0_18 : CalmF Tra.prog S0 (kdOf 18) 18 := calmB Try.func18 (by decide) rfl (by kernel_rfl) (by kernel_rfl) (by kernel_rfl) (by kernel_rfl)
theorem calmT1_18 : CalmF Tra.prog T1 (kdOf 18) 18 := calmB Try.func18 (by decide) rfl (by kernel_rfl) (by kernel_rfl) (by kernel_rfl) (by kernel_rfl)
theorem calmS0_19 : CalmF Tra.prog S0 (kdOf 19) 19 := calmB Try.func19 (by decide) rfl (by kernel_rfl) (by kernel_rfl) (by kernel_rfl) (by kernel_rfl)
theorem calmT1_19 : CalmF Tra.prog T1 (kdOf 19) 19 := calmB Try.func19 (by decide) rfl (by kernel_rfl) (by kernel_rfl) (by kernel_rfl) (by kernel_rfl)
theorem calmS0_21 : CalmF Tra.prog S0 (kdOf 21) 21 := calmB Try.func21 (by decide) rfl (by kernel_rfl) (by kernel_rfl) (by kernel_rfl) (by kernel_rfl)
theorem calmT1_21 : CalmF Tra.prog T1 (kdOf 21) 21 := calmB Try.func21 (by decide) rfl (by kernel_rfl) (by kernel_rfl) (by kernel_rfl) (by kernel_rfl)
theorem calmS0_22 : CalmF Tra.prog S0 (kdOf 22) 22 := calmB Try.func22 (by decide) rfl (by kernel_rfl) (by kernel_rfl) (by kernel_rfl) (by kernel_rfl)
theorem calmT1_22 : CalmF Tra.prog T1 (kdOf 22) 22 := calmB Try.func22 (by decide) rfl (by kernel_rfl) (by kernel_rfl) (by kernel_rfl) (by kernel_rfl)
theorem calmS0_23 : CalmF Tra.prog S0 (kdOf 23) 23 := calmB Try.func23 (by decide) rfl (by kernel_rfl) (by kernel_rfl) (by kernel_rfl) (by kernel_rfl)
theorem calmT1_23 : CalmF Tra.prog T1 (kdOf 23) 23 := calmB Try.func23 (by decide) rfl (by kernel_rfl) (by kernel_rfl) (by kernel_rfl) (by kernel_rfl)
theorem calmS0_24 : CalmF Tra.prog S0 (kdOf 24) 24 := calmB Try.func24 (by decide) rfl (by kernel_rfl) (by kernel_rfl) (by kernel_rfl) (by kernel_rfl)
theorem calmT1_24 : CalmF Tra.prog T1 (kdOf 24) 24 := calmB Try.func24 (by decide) rfl (by kernel_rfl) (by kernel_rfl) (by kernel_rfl) (by kernel_rfl)
theorem calmS0_25 : CalmF Tra.prog S0 (kdOf 25) 25 := calmB Try.func25 (by decide) rfl (by kernel_rfl) (by kernel_rfl) (by kernel_rfl) (by kernel_rfl)
theorem calmT1_25 : CalmF Tra.prog T1 (kdOf 25) 25 := calmB Try.func25 (by decide) rfl (by kernel_rfl) (by kernel_rfl) (by kernel_rfl) (by kernel_rfl)
theorem calmS0_26 : CalmF Tra.prog S0 (kdOf 26) 26 := calmB Try.func26 (by decide) rfl (by kernel_rfl) (by kernel_rfl) (by kernel_rfl) (by kernel_rfl)
theorem calmT1_26 : CalmF Tra.prog T1 (kdOf 26) 26 := calmB Try.func26 (by decide) rfl (by kernel_rfl) (by kernel_rfl) (by kernel_rfl) (by kernel_rfl)
theorem calmS0_27 : CalmF Tra.prog S0 (kdOf 27) 27 := calmB Try.func27 (by decide) rfl (by kernel_rfl) (by kernel_rfl) (by kernel_rfl) (by kernel_rfl)
theorem calmT1_27 : CalmF Tra.prog T1 (kdOf 27) 27 := calmB Try.func27 (by decide) rfl (by kernel_rfl) (by kernel_rfl) (by kernel_rfl) (by kernel_rfl)
theorem calmS0_28 : CalmF Tra.prog S0 (kdOf 28) 28 := calmB Try.func28 (by decide) rfl (by kernel_rfl) (by kernel_rfl) (by kernel_rfl) (by kernel_rfl)
theorem calmT1_28 : CalmF Tra.prog T1 (kdOf 28) 28 := calmB Try.func28 (by decide) rfl (by kernel_rfl) (by kernel_rfl) (by kernel_rfl) (by kernel_rfl)
theorem calmS0_29 : CalmF Tra.prog S0 (kdOf 29) 29 := calmB Try.func29 (by decide) rfl (by kernel_rfl) (by kernel_rfl) (by kernel_rfl) (by kernel_rfl)
theorem calmT1_29 : CalmF Tra.prog T1 (kdOf 29) 29 := calmB Try.func29 (by decide) rfl (by kernel_rfl) (by kernel_rfl) (by kernel_rfl) (by kernel_rfl)
theorem calmS0_30 : CalmF Tra.prog S0 (kdOf 30) 30 := calmB Try.func30 (by decide) rfl (by kernel_rfl) (by kernel_rfl) (by kernel_rfl) (by kernel_rfl)
theorem calmT1_30 : CalmF Tra.prog T1 (kdOf 30) 30 := calmB Try.func30 (by decide) rfl (by kernel_rfl) (by kernel_rfl) (by kernel_rfl) (by kernel_rfl)
theorem calmS0_31 : CalmF Tra.prog S0 (kdOf 31) 31 := calmB Try.func31 (by decide) rfl (by kernel_rfl) (by kernel_rfl) (by kernel_rfl) (by kernel_rfl)
theorem calmT1_31 : CalmF Tra.prog T1 (kdOf 31) 31 := calmB Try.func31 (by decide) rfl (by kernel_rfl) (by kernel_rfl) (by kernel_rfl) (by kernel_rfl)
theorem calmS0_32 : CalmF Tra.prog S0 (kdOf 32) 32 := calmB Try.func32 (by decide) rfl (by kernel_rfl) (by kernel_rfl) (by kernel_rfl) (by kernel_rfl)
theorem calmT1_32 : CalmF Tra.prog T1 (kdOf 32) 32 := calmB Try.func32 (by decide) rfl (by kernel_rfl) (by kernel_rfl) (by kernel_rfl) (by kernel_rfl)
theorem calmS0_36 : CalmF Tra.prog S0 (kdOf 36) 36 := calmB Try.func36 (by decide) rfl (by kernel_rfl) (by kernel_rfl) (by kernel_rfl) (by kernel_rfl)
theorem calmT1_36 : CalmF Tra.prog T1 (kdOf 36) 36 := calmB Try.func36 (by decide) rfl (by kernel_rfl) (by kernel_rfl) (by kernel_rfl) (by kernel_rfl)
theorem calmS0_37 : CalmF Tra.prog S0 (kdOf 37) 37 := calmB Try.func37 (by decide) rfl (by kernel_rfl) (by kernel_rfl) (by kernel_rfl) (by kernel_rfl)
theorem calmT1_37 : CalmF Tra.prog T1 (kdOf 37) 37 := calmB Try.func37 (by decide) rfl (by kernel_rfl) (by kernel_rfl) (by kernel_rfl) (by kernel_rfl)
theorem calmS0_38 : CalmF Tra.prog S0 (kdOf 38) 38 := calmB Try.func38 (by decide) rfl (by kernel_rfl) (by kernel_rfl) (by kernel_rfl) (by kernel_rfl)
theorem calmT1_38 : CalmF Tra.prog T1 (kdOf 38) 38 := calmB Try.func38 (by decide) rfl (by kernel_rfl) (by kernel_rfl) (by kernel_rfl) (by kernel_rfl)
theorem calmS0_39 : CalmF Tra.prog S0 (kdOf 39) 39 := calmB Try.func39 (by decide) rfl (by kernel_rfl) (by kernel_rfl) (by kernel_rfl) (by kernel_rfl)
theorem calmT1_39 : CalmF Tra.prog T1 (kdOf 39) 39 := calmB Try.func39 (by decide) rfl (by kernel_rfl) (by kernel_rfl) (by kernel_rfl) (by kernel_rfl)
theorem calmS0_40 : CalmF Tra.prog S0 (kdOf 40) 40 := calmB Try.func40 (by decide) rfl (by kernel_rfl) (by kernel_rfl) (by kernel_rfl) (by kernel_rfl)
theorem calmT1_40 : CalmF Tra.prog T1 (kdOf 40) 40 := calmB Try.func40 (by decide) rfl (by kernel_rfl) (by kernel_rfl) (by kernel_rfl) (by kernel_rfl)
theorem calmS0_41 : CalmF Tra.prog S0 (kdOf 41) 41 := calmB Try.func41 (by decide) rfl (by kernel_rfl) (by kernel_rfl) (by kernel_rfl) (by kernel_rfl)
theorem calmT1_41 : CalmF Tra.prog T1 (kdOf 41) 41 := calmB Try.func41 (by decide) rfl (by kernel_rfl) (by kernel_rfl) (by kernel_rfl) (by kernel_rfl)
theorem calmS0_42 : CalmF Tra.prog S0 (kdOf 42) 42 := calmB Try.func42 (by decide) rfl (by kernel_rfl) (by kernel_rfl) (by kernel_rfl) (by kernel_rfl)
theorem calmT1_42 : CalmF Tra.prog T1 (kdOf 42) 42 := calmB Try.func42 (by decide) rfl (by kernel_rfl) (by kernel_rfl) (by kernel_rfl) (by kernel_rfl)
theorem calmS0_43 : CalmF Tra.prog S0 (kdOf 43) 43 := calmB Try.func43 (by decide) rfl (by kernel_rfl) (by kernel_rfl) (by kernel_rfl) (by kernel_rfl)
theorem calmT1_43 : CalmF Tra.prog T1 (kdOf 43) 43 := calmB Try.func43 (by decide) rfl (by kernel_rfl) (by kernel_rfl) (by kernel_rfl) (by kernel_rfl)
theorem calmS0_44 : CalmF Tra.prog S0 (kdOf 44) 44 := calmB Try.func44 (by decide) rfl (by kernel_rfl) (by kernel_rfl) (by kernel_rfl) (by kernel_rfl)
theorem calmT1_44 : CalmF Tra.prog T1 (kdOf 44) 44 := calmB Try.func44 (by decide) rfl (by kernel_rfl) (by kernel_rfl) (by kernel_rfl) (by kernel_rfl)
theorem calmS0_45 : CalmF Tra.prog S0 (kdOf 45) 45 := calmB Try.func45 (by decide) rfl (by kernel_rfl) (by kernel_rfl) (by kernel_rfl) (by kernel_rfl)
theorem calmT1_45 : CalmF Tra.prog T1 (kdOf 45) 45 := calmB Try.func45 (by decide) rfl (by kernel_rfl) (by kernel_rfl) (by kernel_rfl) (by kernel_rfl)
theorem calmS0_46 : CalmF Tra.prog S0 (kdOf 46) 46 := calmB Try.func46 (by decide) rfl (by kernel_rfl) (by kernel_rfl) (by kernel_rfl) (by kernel_rfl)
theorem calmT1_46 : CalmF Tra.prog T1 (kdOf 46) 46 := calmB Try.func46 (by decide) rfl (by kernel_rfl) (by kernel_rfl) (by kernel_rfl) (by kernel_rfl)
theorem calmS0_47 : CalmF Tra.prog S0 (kdOf 47) 47 := calmB Try.func47 (by decide) rfl (by kernel_rfl) (by kernel_rfl) (by kernel_rfl) (by kernel_rfl)
theorem calmT1_47 : CalmF Tra.prog T1 (kdOf 47) 47 := calmB Try.func47 (by decide) rfl (by kernel_rfl) (by kernel_rfl) (by kernel_rfl) (by kernel_rfl)
theorem calmS0_48 : CalmF Tra.prog S0 (kdOf 48) 48 := calmB Try.func48 (by decide) rfl (by kernel_rfl) (by kernel_rfl) (by kernel_rfl) (by kernel_rfl)
theorem calmT1_48 : CalmF Tra.prog T1 (kdOf 48) 48 := calmB Try.func48 (by decide) rfl (by kernel_rfl) (by kernel_rfl) (by kernel_rfl) (by kernel_rfl)
theorem calmS0_49 : CalmF Tra.prog S0 (kdOf 49) 49 := calmB Try.func49 (by decide) rfl (by kernel_rfl) (by kernel_rfl) (by kernel_rfl) (by kernel_rfl)
theorem calmT1_49 : CalmF Tra.prog T1 (kdOf 49) 49 := calmB Try.func49 (by decide) rfl (by kernel_rfl) (by kernel_rfl) (by kernel_rfl) (by kernel_rfl)
theorem calmS0_50 : CalmF Tra.prog S0 (kdOf 50) 50 := calmB Try.func50 (by decide) rfl (by kernel_rfl) (by kernel_rfl) (by kernel_rfl) (by kernel_rfl)
theorem calmT1_50 : CalmF Tra.prog T1 (kdOf 50) 50 := calmB Try.func50 (by decide) rfl (by kernel_rfl) (by kernel_rfl) (by kernel_rfl) (by kernel_rfl)
theorem calmS0_51 : CalmF Tra.prog S0 (kdOf 51) 51 := calmB Try.func51 (by decide) rfl (by kernel_rfl) (by kernel_rfl) (by kernel_rfl) (by kernel_rfl)
theorem calmT1_51 : CalmF Tra.prog T1 (kdOf 51) 51 := calmB Try.func51 (by decide) rfl (by kernel_rfl) (by kernel_rfl) (by kernel_rfl) (by kernel_rfl)
theorem calmS0_52 : CalmF Tra.prog S0 (kdOf 52) 52 := calmB Try.func52 (by decide) rfl (by kernel_rfl) (by kernel_rfl) (by kernel_rfl) (by kernel_rfl)
theorem calmT1_52 : CalmF Tra.prog T1 (kdOf 52) 52 := calmB Try.func52 (by decide) rfl (by kernel_rfl) (by kernel_rfl) (by kernel_rfl) (by kernel_rfl)
theorem calmS0_53 : CalmF Tra.prog S0 (kdOf 53) 53 := calmB Try.func53 (by decide) rfl (by kernel_rfl) (by kernel_rfl) (by kernel_rfl) (by kernel_rfl)
theorem calmT1_53 : CalmF Tra.prog T1 (kdOf 53) 53 := calmB Try.func53 (by decide) rfl (by kernel_rfl) (by kernel_rfl) (by kernel_rfl) (by kernel_rfl)
theorem calmS0_54 : CalmF Tra.prog S0 (kdOf 54) 54 := calmB Try.func54 (by decide) rfl (by kernel_rfl) (by kernel_rfl) (by kernel_rfl) (by kernel_rfl)
theorem calmT1_54 : CalmF Tra.prog T1 (kdOf 54) 54 := calmB Try.func54 (by decide) rfl (by kernel_rfl) (by kernel_rfl) (by kernel_rfl) (by kernel_rfl)
theorem calmS0_55 : CalmF Tra.prog S0 (kdOf 55) 55 := calmB Try.func55 (by decide) rfl (by kernel_rfl) (by kernel_rfl) (by kernel_rfl) (by kernel_rfl)
theorem calmT1_55 : CalmF Tra.prog T1 (kdOf 55) 55 := calmB Try.func55 (by decide) rfl (by kernel_rfl) (by kernel_rfl) (by kernel_rfl) (by kernel_rfl)
theorem calmS0_56 : CalmF Tra.prog S0 (kdOf 56) 56 := calmB Try.func56 (by decide) rfl (by kernel_rfl) (by kernel_rfl) (by kernel_rfl) (by kernel_rfl)
theorem calmT1_56 : CalmF Tra.prog T1 (kdOf 56) 56 := calmB Try.func56 (by decide) rfl (by kernel_rfl) (by kernel_rfl) (by kernel_rfl) (by kernel_rfl)
theorem calmS0_57 : CalmF Tra.prog S0 (kdOf 57) 57 := calmB Try.func57 (by decide) rfl (by kernel_rfl) (by kernel_rfl) (by kernel_rfl) (by kernel_rfl)
theorem calmT1_57 : CalmF Tra.prog T1 (kdOf 57) 57 := calmB Try.func57 (by decide) rfl (by kernel_rfl) (by kernel_rfl) (by kernel_rfl) (by kernel_rfl)
theorem calmS0_63 : CalmF Tra.prog S0 (kdOf 63) 63 := calmB Try.func63 (by decide) rfl (by kernel_rfl) (by kernel_rfl) (by kernel_rfl) (by kernel_rfl)
theorem calmT1_63 : CalmF Tra.prog T1 (kdOf 63) 63 := calmB Try.func63 (by decide) rfl (by kernel_rfl) (by kernel_rfl) (by kernel_rfl) (by kernel_rfl)
theorem calmS0_65 : CalmF Tra.prog S0 (kdOf 65) 65 := calmB Try.func65 (by decide) rfl (by kernel_rfl) (by kernel_rfl) (by kernel_rfl) (by kernel_rfl)
theorem calmT1_65 : CalmF Tra.prog T1 (kdOf 65) 65 := calmB Try.func65 (by decide) rfl (by kernel_rfl) (by kernel_rfl) (by kernel_rfl) (by kernel_rfl)
theorem calmS0_67 : CalmF Tra.prog S0 (kdOf 67) 67 := calmB Try.func67 (by decide) rfl (by kernel_rfl) (by kernel_rfl) (by kernel_rfl) (by kernel_rfl)
theorem calmT1_67 : CalmF Tra.prog T1 (kdOf 67) 67 := calmB Try.func67 (by decide) rfl (by kernel_rfl) (by kernel_rfl) (by kernel_rfl) (by kernel_rfl)
theorem calmS0_68 : CalmF Tra.prog S0 (kdOf 68) 68 := calmB Try.func68 (by decide) rfl (by kernel_rfl) (by kernel_rfl) (by kernel_rfl) (by kernel_rfl)
theorem calmT1_68 : CalmF Tra.prog T1 (kdOf 68) 68 := calmB Try.func68 (by decide) rfl (by kernel_rfl) (by kernel_rfl) (by kernel_rfl) (by kernel_rfl)
theorem calmS0_69 : CalmF Tra.prog S0 (kdOf 69) 69 := calmB Try.func69 (by decide) rfl (by kernel_rfl) (by kernel_rfl) (by kernel_rfl) (by kernel_rfl)
theorem calmT1_69 : CalmF Tra.prog T1 (kdOf 69) 69 := calmB Try.func69 (by decide) rfl (by kernel_rfl) (by kernel_rfl) (by kernel_rfl) (by kernel_rfl)
theorem calmS0_70 : CalmF Tra.prog S0 (kdOf 70) 70 := calmB Try.func70 (by decide) rfl (by kernel_rfl) (by kernel_rfl) (by kernel_rfl) (by kernel_rfl)
theorem calmT1_70 : CalmF Tra.prog T1 (kdOf 70) 70 := calmB Try.func70 (by decide) rfl (by kernel_rfl) (by kernel_rfl) (by kernel_rfl) (by kernel_rfl)
theorem calmS0_84 : CalmF Tra.prog S0 (kdOf 84) 84 := calmB Try.func84 (by decide) rfl (by kernel_rfl) (by kernel_rfl) (by kernel_rfl) (by kernel_rfl)
theorem calmT1_84 : CalmF Tra.prog T1 (kdOf 84) 84 := calmB Try.func84 (by decide) rfl (by kernel_rfl) (by kernel_rfl) (by kernel_rfl) (by kernel_rfl)
theorem calmS0_90 : CalmF Tra.prog S0 (kdOf 90) 90 := calmB Try.func90 (by decide) rfl (by kernel_rfl) (by kernel_rfl) (by kernel_rfl) (by kernel_rfl)
theorem calmT1_90 : CalmF Tra.prog T1 (kdOf 90) 90 := calmB Try.func90 (by decide) rfl (by kernel_rfl) (by kernel_rfl) (by kernel_rfl) (by kernel_rfl)
theorem calmS0_91 : CalmF Tra.prog S0 (kdOf 91) 91 := calmB Try.func91 (by decide) rfl (by kernel_rfl) (by kernel_rfl) (by kernel_rfl) (by kernel_rfl)
theorem calmT1_91 : CalmF Tra.prog T1 (kdOf 91) 91 := calmB Try.func91 (by decide) rfl (by kernel_rfl) (by kernel_rfl) (by kernel_rfl) (by kernel_rfl)
end Go.Mt
namespace Go.Mt
open Go.Tr Go.Conc Go.ConcN Go.Proofs
theorem has_of_calm {T : FuncId → Bool} {f : FuncId} (h20 : f ≠ 20) (h : CalmF Tra.prog T (kdOf f) f) : Has Tra.prog Try.prog.funcs f := by
 obtain ⟨fn, c, hf, hb, hn, _⟩ := h.fn
 have hb' : fn.body.isNone = false := by rw [hb]; rfl
 exact ⟨fn, fn, ⟨hf, hn, hb'⟩, (Tra.func f h20).symm.trans hf, hn, hb'⟩
theorem has20 : Has Tra.prog Try.prog.funcs 20 := ⟨Tra.f20, Try.f20, ⟨Tra.func20, by kernel_rfl, rfl⟩, Try.func20, by kernel_rfl, rfl⟩
theorem has_self {T : FuncId → Bool} {f : FuncId} (h : CalmF Tra.prog T (kdOf f) f) : Has Tra.prog Tra.prog.funcs f := by
 obtain ⟨fn, c, hf, hb, hn, _⟩ := h.fn
 have hb' : fn.body.isNone = false := by rw [hb]; rfl
 exact ⟨fn, fn, ⟨hf, hn, hb'⟩, hf, hn, hb'⟩
theorem calmT1_20 : CalmF Tra.prog T1 (kdOf 20) 20 :=
 ⟨kd_two 20, Tra.f20, bodyA, Tra.func20, rfl, by kernel_rfl, by kernel_rfl, by kernel_rfl, fun i hi => by
  have : Tra.f20.params.size = 0 := by kernel_rfl
  omega⟩
theorem sub0 : ∀ f, f ∈ subL → f ≠ 20 ∧ CalmF Tra.prog S0 (kdOf f) f := by
 intro f hf
 simp only [subL, List.mem_cons, List.not_mem_nil, or_false] at hf
 rcases hf with rfl | rfl | rfl | rfl | rfl | rfl | rfl | rfl | rfl | rfl | rfl | rfl | rfl | rfl | rfl | rfl | rfl | rfl | rfl | rfl | rfl | rfl | rfl | rfl | rfl | rfl | rfl | rfl | rfl | rfl | rfl | rfl | rfl | rfl | rfl | rfl | rfl | rfl | rfl | rfl | rfl | rfl | rfl | rfl | rfl | rfl | rfl
 ·exact ⟨by decide, calmS0_16⟩
 ·exact ⟨by decide, calmS0_17⟩
 ·exact ⟨by decide, calmS0_18⟩
 ·exact ⟨by decide, calmS0_19⟩
 ·exact ⟨by decide, calmS0_21⟩
 ·exact ⟨by decide, calmS0_22⟩
 ·exact ⟨by decide, calmS0_23⟩
 ·exact ⟨by decide, calmS0_24⟩
 ·exact ⟨by decide, calmS0_25⟩
 ·exact ⟨by decide, calmS0_26⟩
 ·exact ⟨by decide, calmS0_27⟩
 ·exact ⟨by decide, calmS0_28⟩
 ·exact ⟨by decide, calmS0_29⟩
 ·exact ⟨by decide, calmS0_30⟩
 ·exact ⟨by decide, calmS0_31⟩
 ·exact ⟨by decide, calmS0_32⟩
 ·exact ⟨by decide, calmS0_36⟩
 ·exact ⟨by decide, calmS0_37⟩
 ·exact ⟨by decide, calmS0_38⟩
 ·exact ⟨by decide, calmS0_39⟩
 ·exact ⟨by decide, calmS0_40⟩
 ·exact ⟨by decide, calmS0_41⟩
 ·exact ⟨by decide, calmS0_42⟩
 ·exact ⟨by decide, calmS0_43⟩
 ·exact ⟨by decide, calmS0_44⟩
 ·exact ⟨by decide, calmS0_45⟩
 ·exact ⟨by decide, calmS0_46⟩
 ·exact ⟨by decide, calmS0_47⟩
 ·exact ⟨by decide, calmS0_48⟩
 ·exact ⟨by decide, calmS0_49⟩
 ·exact ⟨by decide, calmS0_50⟩
 ·exact ⟨by decide, calmS0_51⟩
 ·exact ⟨by decide, calmS0_52⟩
 ·exact ⟨by decide, calmS0_53⟩
 ·exact ⟨by decide, calmS0_54⟩
 ·exact ⟨by decide, calmS0_55⟩
 ·exact ⟨by decide, calmS0_56⟩
 ·exact ⟨by decide, calmS0_57⟩
 ·exact ⟨by decide, calmS0_63⟩
 ·exact ⟨by decide, calmS0_65⟩
 ·exact ⟨by decide, calmS0_67⟩
 ·exact ⟨by decide, calmS0_68⟩
 ·exact ⟨by decide, calmS0_69⟩
 ·exact ⟨by decide, calmS0_70⟩
 ·exact ⟨by decide, calmS0_84⟩
 ·exact ⟨by decide, calmS0_90⟩
 ·exact ⟨by decide, calmS0_91⟩
theorem sub1 : ∀ f, f ∈ subL → f ≠ 20 ∧ CalmF Tra.prog T1 (kdOf f) f := by
 intro f hf
 simp only [subL, List.mem_cons, List.not_mem_nil, or_false] at hf
 rcases hf with rfl | rfl | rfl | rfl | rfl | rfl | rfl | rfl | rfl | rfl | rfl | rfl | rfl | rfl | rfl | rfl | rfl | rfl | rfl | rfl | rfl | rfl | rfl | rfl | rfl | rfl | rfl | rfl | rfl | rfl | rfl | rfl | rfl | rfl | rfl | rfl | rfl | rfl | rfl | rfl | rfl | rfl | rfl | rfl | rfl | rfl | rfl
 ·exact ⟨by decide, calmT1_16⟩
 ·exact ⟨by decide, calmT1_17⟩
 ·exact ⟨by decide, calmT1_18⟩
 ·exact ⟨by decide, calmT1_19⟩
 ·exact ⟨by decide, calmT1_21⟩
 ·exact ⟨by decide, calmT1_22⟩
 ·exact ⟨by decide, calmT1_23⟩
 ·exact ⟨by decide, calmT1_24⟩
 ·exact ⟨by decide, calmT1_25⟩
 ·exact ⟨by decide, calmT1_26⟩
 ·exact ⟨by decide, calmT1_27⟩
 ·exact ⟨by decide, calmT1_28⟩
 ·exact ⟨by decide, calmT1_29⟩
 ·exact ⟨by decide, calmT1_30⟩
 ·exact ⟨by decide, calmT1_31⟩
 ·exact ⟨by decide, calmT1_32⟩
 ·exact ⟨by decide, calmT1_36⟩
 ·exact ⟨by decide, calmT1_37⟩
 ·exact ⟨by decide, calmT1_38⟩
 ·exact ⟨by decide, calmT1_39⟩
 ·exact ⟨by decide, calmT1_40⟩
 ·exact ⟨by decide, calmT1_41⟩
 ·exact ⟨by decide, calmT1_42⟩
 ·exact ⟨by decide, calmT1_43⟩
 ·exact ⟨by decide, calmT1_44⟩
 ·exact ⟨by decide, calmT1_45⟩
 ·exact ⟨by decide, calmT1_46⟩
 ·exact ⟨by decide, calmT1_47⟩
 ·exact ⟨by decide, calmT1_48⟩
 ·exact ⟨by decide, calmT1_49⟩
 ·exact ⟨by decide, calmT1_50⟩
 ·exact ⟨by decide, calmT1_51⟩
 ·exact ⟨by decide, calmT1_52⟩
 ·exact ⟨by decide, calmT1_53⟩
 ·exact ⟨by decide, calmT1_54⟩
 ·exact ⟨by decide, calmT1_55⟩
 ·exact ⟨by decide, calmT1_56⟩
 ·exact ⟨by decide, calmT1_57⟩
 ·exact ⟨by decide, calmT1_63⟩
 ·exact ⟨by decide, calmT1_65⟩
 ·exact ⟨by decide, calmT1_67⟩
 ·exact ⟨by decide, calmT1_68⟩
 ·exact ⟨by decide, calmT1_69⟩
 ·exact ⟨by decide, calmT1_70⟩
 ·exact ⟨by decide, calmT1_84⟩
 ·exact ⟨by decide, calmT1_90⟩
 ·exact ⟨by decide, calmT1_91⟩
theorem law1 : ∀ f, f ∈ lawL → f ≠ 20 ∧ CalmF Tra.prog T1 (kdOf f) f := by
 intro f hf
 simp only [lawL, List.mem_cons, List.not_mem_nil, or_false] at hf
 rcases hf with rfl | rfl | rfl | rfl | rfl | rfl | rfl | rfl | rfl | rfl | rfl
 ·exact ⟨by decide, calmT1_3⟩
 ·exact ⟨by decide, calmT1_4⟩
 ·exact ⟨by decide, calmT1_5⟩
 ·exact ⟨by decide, calmT1_6⟩
 ·exact ⟨by decide, calmT1_7⟩
 ·exact ⟨by decide, calmT1_9⟩
 ·exact ⟨by decide, calmT1_11⟩
 ·exact ⟨by decide, calmT1_12⟩
 ·exact ⟨by decide, calmT1_13⟩
 ·exact ⟨by decide, calmT1_14⟩
 ·exact ⟨by decide, calmT1_15⟩
theorem mem0 {f : FuncId} (h : S0 f = true) : f ∈ subL := by simpa [S0] using h
theorem mem1 {f : FuncId} (h : S1 f = true) : f ≠ 20 ∧ CalmF Tra.prog T1 (kdOf f) f := by
 have : f ∈ subL ++ lawL := by simpa [S1] using h
 rcases List.mem_append.1 this with h | h
 ·exact sub1 f h
 ·exact law1 f h
theorem memT {f : FuncId} (h : T1 f = true) : f = 20 ∨ S1 f = true := by
 have : f ∈ 20 :: (subL ++ lawL) := by simpa [T1] using h
 rcases List.mem_cons.1 this with h | h
 ·exact .inl h
 ·exact .inr (by simpa [S1] using h)
theorem _root_.Go.Proofs.Tra.duo : Duo Tra.prog S0 kdOf := ⟨Tra.same, ⟨fun f h => (sub0 f (mem0 h)).2, fun f h => (Tra.func f (sub0 f (mem0 h)).1).symm, fun f h => has_of_calm (sub0 f (mem0 h)).1 (sub0 f (mem0 h)).2⟩⟩
theorem _root_.Go.Proofs.Tra.calm1 : CalmS Tra.prog Try.prog.funcs S1 T1 kdOf := ⟨fun f h => (mem1 h).2, fun f h => (Tra.func f (mem1 h).1).symm, fun f h => by
 rcases memT h with rfl | h
 ·exact has20
 ·exact has_of_calm (mem1 h).1 (mem1 h).2⟩
theorem calmTT {f : FuncId} (h : T1 f = true) : CalmF Tra.prog T1 (kdOf f) f := by
 rcases memT h with rfl | h
 ·exact calmT1_20
 ·exact (mem1 h).2
theorem _root_.Go.Proofs.Tra.calmT : CalmS Tra.prog Tra.prog.funcs T1 T1 kdOf := ⟨fun f h => calmTT h, fun f h => rfl, fun f h => has_self (calmTT h)⟩
theorem _root_.Go.Proofs.Tra.t20 : ∀ f, T1 f = true → S1 f = false → f = 20 := fun f h hs => by
 rcases memT h with h | h
 ·exact h
 ·rw [hs] at h; cases h
theorem _root_.Go.Proofs.Tra.als : AlS S0 := ⟨by decide, by decide, by decide, by decide, by decide, by decide, by decide, by decide, by decide⟩
end Go.Mt
namespace Go.Mt
open Go.Tr Go.Conc Go.ConcN Go.Proofs
def Flat {α : Type} (P : Program) (s : Sem α) : Prop := ∀ (u : World) (a : α) (u' : World), s.run P u = .ok a u' → ∀ τ, s.run P (retape u τ) = .ok a (retape u' τ)
theorem Flat.pure {α : Type} {P : Program} (a : α) : Flat P (pure a : Sem α) := fun u b u' h τ => by
 have h : Result.ok a u = Result.ok b u' := h
 injection h with h1 h2
 subst h1 h2
 rfl
theorem far_retape (P : Program) (u : World) (a : Addr) (m : Bool) (τ : Nat → Question → Nat) : World.farLoad P (retape u τ) a m = World.farLoad P u a m := rfl
theorem Flat.load {P : Program} (a : Addr) (m : Mode) : Flat P (Go.load a m) := fun u b u' h τ => by
 simp only [Go.load, Sem.run] at h ⊢
 have e : (retape u τ).cell? a = u.cell? a := rfl
 rw [e]
 cases hc : u.cell? a with
 |some v =>
  rw [hc] at h
  simp only at h ⊢
  injection h with h1 h2
  subst h1 h2
  rfl
 |none =>
  rw [hc] at h
  simp only [far_retape] at h ⊢
  generalize World.farLoad P u a (m == Mode.atomic) = r at h ⊢
  cases r with
  |ok x =>
   obtain ⟨x1, x2⟩ := x
   simp only at h ⊢
   injection h with h1 h2
   subst h1 h2
   rfl
  |error e => cases h
theorem Flat.bind {α β : Type} {P : Program} {s : Sem α} {k : α → Sem β} (h : Flat P s) (hk : ∀ a, Flat P (k a)) : Flat P (s >>= k) := fun u b u' hr τ => by
 rw [Sem.run_bind] at hr ⊢
 cases hs : s.run P u with
 |ok a u1 =>
  rw [hs] at hr
  rw [h u a u1 hs τ]
  exact hk a u1 b u' hr τ
 |halt x u1 =>
  rw [hs] at hr
  cases hr
theorem Flat.const {α : Type} {P : Program} {s : Sem α} {a : α} (h : ∀ u, s.run P u = .ok a u) : Flat P s := fun u b u' hr τ => by
 rw [h] at hr ⊢
 injection hr with h1 h2
 subst h1 h2
 rfl
theorem Flat.addr {P : Program} (v : Value) : Flat P (asAddr v) := by
 unfold asAddr
 intro u b u' hr τ
 split at hr <;> first | (have hr : Result.ok _ u = Result.ok b u' := hr; injection hr with h1 h2; subst h1 h2; rfl) | (simp [Sem.run] at hr) | (cases hr)
theorem Flat.cells {P : Program} (a : Addr) : ∀ (n i : Nat) (acc : Array Value), Flat P (loadCellsFrom a i n acc)
 |0, i, acc => .pure acc
 |n + 1, i, acc => .bind (.load _ _) fun v => Flat.cells a n (i + 1) (acc.push v)
theorem Flat.var31 (a : Addr) : Flat Tra.prog (loadVar 31 a) := by
 unfold loadVar
 refine .bind (.const (a := true) fun u => by kernel_rfl) fun b => ?_
 cases b with
 |true =>
  refine .bind (.const (a := 4) fun u => by kernel_rfl) fun n => .bind (.cells a n 0 #[]) fun cs => .pure _
 |false => exact .load _ _
theorem Flat.results23 (tm : Array Value) : Flat Tra.prog (results Try.f23 tm) := by
 have hr : Try.f23.results = #[.cell 2 31, .tmp 3, .tmp 4] := by kernel_rfl
 unfold results
 rw [hr]
 simp only [Array.mapM_eq_mapM_toList, List.mapM_cons, List.mapM_nil, bind_assoc, map_eq_pure_bind]
 refine .bind (.addr _) fun a => ?_
 refine .bind (.var31 a) fun v => ?_
 intro u b u' h τ
 simp [Sem.run] at h ⊢
 obtain ⟨rfl, rfl⟩ := h
 exact ⟨rfl, rfl⟩
theorem res23 : ResT Tra.prog Try.f23 := fun tm u v h τ => Flat.results23 tm u v u h τ
end Go.Mt
namespace Go.Proofs
theorem run_call_of {P : Program} {f : FuncId} {fn : Func} (hf : P.funcs[f]? = some fn) (hn : (fn.name == "runtime.NumGoroutine") = false) (hb : fn.body.isNone = false) {args : Array Value} {w : World} : Sem.run P (callFunc f args) w = Result.ok (Next.enter f args) w := by
 have h1 : ¬ fn.name = "runtime.NumGoroutine" := by simpa using hn
 have h2 : ¬ fn.body = none := by intro e; rw [e] at hb; cases hb
 simp [callFunc, hf, h1, h2]
open Go
@[simp] theorem Tra.func9 : Tra.prog.funcs[9]? = Option.some Go.Proofs.Try.f9 := (Tra.func 9 (by decide)).trans Try.func9
@[simp] theorem Tra.func16 : Tra.prog.funcs[16]? = Option.some Go.Proofs.Try.f16 := (Tra.func 16 (by decide)).trans Try.func16
@[simp] theorem Tra.func18 : Tra.prog.funcs[18]? = Option.some Go.Proofs.Try.f18 := (Tra.func 18 (by decide)).trans Try.func18
@[simp] theorem Tra.func22 : Tra.prog.funcs[22]? = Option.some Go.Proofs.Try.f22 := (Tra.func 22 (by decide)).trans Try.func22
@[simp] theorem Tra.func23 : Tra.prog.funcs[23]? = Option.some Go.Proofs.Try.f23 := (Tra.func 23 (by decide)).trans Try.func23
@[simp] theorem Tra.func25 : Tra.prog.funcs[25]? = Option.some Go.Proofs.Try.f25 := (Tra.func 25 (by decide)).trans Try.func25
@[simp] theorem Tra.func27 : Tra.prog.funcs[27]? = Option.some Go.Proofs.Try.f27 := (Tra.func 27 (by decide)).trans Try.func27
@[simp] theorem Tra.func30 : Tra.prog.funcs[30]? = Option.some Go.Proofs.Try.f30 := (Tra.func 30 (by decide)).trans Try.func30
@[simp] theorem Tra.func32 : Tra.prog.funcs[32]? = Option.some Go.Proofs.Try.f32 := (Tra.func 32 (by decide)).trans Try.func32
@[simp] theorem Tra.func36 : Tra.prog.funcs[36]? = Option.some Go.Proofs.Try.f36 := (Tra.func 36 (by decide)).trans Try.func36
@[simp] theorem Tra.func40 : Tra.prog.funcs[40]? = Option.some Go.Proofs.Try.f40 := (Tra.func 40 (by decide)).trans Try.func40
@[simp] theorem Tra.func45 : Tra.prog.funcs[45]? = Option.some Go.Proofs.Try.f45 := (Tra.func 45 (by decide)).trans Try.func45
@[simp] theorem Tra.func47 : Tra.prog.funcs[47]? = Option.some Go.Proofs.Try.f47 := (Tra.func 47 (by decide)).trans Try.func47
@[simp] theorem Tra.func49 : Tra.prog.funcs[49]? = Option.some Go.Proofs.Try.f49 := (Tra.func 49 (by decide)).trans Try.func49
@[simp] theorem Tra.func50 : Tra.prog.funcs[50]? = Option.some Go.Proofs.Try.f50 := (Tra.func 50 (by decide)).trans Try.func50
noncomputable abbrev Tra.f53 : Func := Try.f53
@[simp] theorem Tra.func53 : Tra.prog.funcs[53]? = Option.some Go.Proofs.Try.f53 := (Tra.func 53 (by decide)).trans Try.func53
@[simp] theorem Tra.func54 : Tra.prog.funcs[54]? = Option.some Go.Proofs.Try.f54 := (Tra.func 54 (by decide)).trans Try.func54
@[simp] theorem Tra.func56 : Tra.prog.funcs[56]? = Option.some Go.Proofs.Try.f56 := (Tra.func 56 (by decide)).trans Try.func56
@[simp] theorem Tra.func57 : Tra.prog.funcs[57]? = Option.some Go.Proofs.Try.f57 := (Tra.func 57 (by decide)).trans Try.func57
@[simp] theorem Tra.func61 : Tra.prog.funcs[61]? = Option.some Go.Proofs.Try.f61 := (Tra.func 61 (by decide)).trans Try.func61
noncomputable abbrev Tra.f63 : Func := Try.f63
@[simp] theorem Tra.func63 : Tra.prog.funcs[63]? = Option.some Go.Proofs.Try.f63 := (Tra.func 63 (by decide)).trans Try.func63
@[simp] theorem Tra.func64 : Tra.prog.funcs[64]? = Option.some Go.Proofs.Try.f64 := (Tra.func 64 (by decide)).trans Try.func64
@[simp] theorem Tra.func65 : Tra.prog.funcs[65]? = Option.some Go.Proofs.Try.f65 := (Tra.func 65 (by decide)).trans Try.func65
noncomputable abbrev Tra.f67 : Func := Try.f67
@[simp] theorem Tra.func67 : Tra.prog.funcs[67]? = Option.some Go.Proofs.Try.f67 := (Tra.func 67 (by decide)).trans Try.func67
@[simp] theorem Tra.func70 : Tra.prog.funcs[70]? = Option.some Go.Proofs.Try.f70 := (Tra.func 70 (by decide)).trans Try.func70
@[simp] theorem Tra.func84 : Tra.prog.funcs[84]? = Option.some Go.Proofs.Try.f84 := (Tra.func 84 (by decide)).trans Try.func84
@[simp] theorem Tra.func91 : Tra.prog.funcs[91]? = Option.some Go.Proofs.Try.f91 := (Tra.func 91 (by decide)).trans Try.func91
@[simp] theorem Tra.call20 : ∀ (args : Array Go.Value) (w : Go.World), Go.Sem.run Tra.prog (Go.callFunc 20 args) w = Go.Result.ok (Go.Next.enter 20 args) w := fun _ _ => run_call_of (Tra.func20) (by kernel_rfl) (by kernel_rfl)
@[simp] theorem Tra.call30 : ∀ (args : Array Go.Value) (w : Go.World), Go.Sem.run Tra.prog (Go.callFunc 30 args) w = Go.Result.ok (Go.Next.enter 30 args) w := fun _ _ => run_call_of (Tra.func30) (by kernel_rfl) (by kernel_rfl)
@[simp] theorem Tra.call40 : ∀ (args : Array Go.Value) (w : Go.World), Go.Sem.run Tra.prog (Go.callFunc 40 args) w = Go.Result.ok (Go.Next.enter 40 args) w := fun _ _ => run_call_of (Tra.func40) (by kernel_rfl) (by kernel_rfl)
@[simp] theorem Tra.call54 : ∀ (args : Array Go.Value) (w : Go.World), Go.Sem.run Tra.prog (Go.callFunc 54 args) w = Go.Result.ok (Go.Next.enter 54 args) w := fun _ _ => run_call_of (Tra.func54) (by kernel_rfl) (by kernel_rfl)
@[simp] theorem Tra.call56 : ∀ (args : Array Go.Value) (w : Go.World), Go.Sem.run Tra.prog (Go.callFunc 56 args) w = Go.Result.ok (Go.Next.enter 56 args) w := fun _ _ => run_call_of (Tra.func56) (by kernel_rfl) (by kernel_rfl)
@[simp] theorem Tra.call61 : ∀ (args : Array Go.Value) (w : Go.World), Go.Sem.run Tra.prog (Go.callFunc 61 args) w = Go.Result.ok (Go.Next.enter 61 args) w := fun _ _ => run_call_of (Tra.func61) (by kernel_rfl) (by kernel_rfl)
@[simp] theorem Tra.call64 : ∀ (args : Array Go.Value) (w : Go.World), Go.Sem.run Tra.prog (Go.callFunc 64 args) w = Go.Result.ok (Go.Next.enter 64 args) w := fun _ _ => run_call_of (Tra.func64) (by kernel_rfl) (by kernel_rfl)
@[simp] theorem Tra.isAgg3 : ∀ (w : Go.World), Go.Sem.run Tra.prog (Go.isAgg 3) w = Go.Result.ok Bool.false w := fun _ => by kernel_rfl
@[simp] theorem Tra.isAgg29 : ∀ (w : Go.World), Go.Sem.run Tra.prog (Go.isAgg 29) w = Go.Result.ok Bool.false w := fun _ => by kernel_rfl
@[simp] theorem Tra.isAgg31 : ∀ (w : Go.World), Go.Sem.run Tra.prog (Go.isAgg 31) w = Go.Result.ok Bool.true w := fun _ => by kernel_rfl
@[simp] theorem Tra.isAgg89 : ∀ (w : Go.World), Go.Sem.run Tra.prog (Go.isAgg 89) w = Go.Result.ok Bool.true w := fun _ => by kernel_rfl
theorem Tra.ntmps9 : Go.Proofs.Try.f9.ntmps = 130 := Try.ntmps9
theorem Tra.ntmps16 : Go.Proofs.Try.f16.ntmps = 57 := Try.ntmps16
theorem Tra.ntmps18 : Go.Proofs.Try.f18.ntmps = 25 := Try.ntmps18
theorem Tra.ntmps20 : Tra.f20.ntmps = 1 := rfl
theorem Tra.ntmps22 : Go.Proofs.Try.f22.ntmps = 13 := Try.ntmps22
theorem Tra.ntmps23 : Go.Proofs.Try.f23.ntmps = 22 := Try.ntmps23
theorem Tra.ntmps25 : Go.Proofs.Try.f25.ntmps = 48 := Try.ntmps25
theorem Tra.ntmps27 : Go.Proofs.Try.f27.ntmps = 26 := Try.ntmps27
theorem Tra.ntmps30 : Go.Proofs.Try.f30.ntmps = 35 := Try.ntmps30
theorem Tra.ntmps32 : Go.Proofs.Try.f32.ntmps = 17 := Try.ntmps32
theorem Tra.ntmps36 : Go.Proofs.Try.f36.ntmps = 39 := Try.ntmps36
theorem Tra.ntmps40 : Go.Proofs.Try.f40.ntmps = 27 := Try.ntmps40
theorem Tra.ntmps45 : Go.Proofs.Try.f45.ntmps = 20 := Try.ntmps45
theorem Tra.ntmps47 : Go.Proofs.Try.f47.ntmps = 28 := Try.ntmps47
theorem Tra.ntmps49 : Go.Proofs.Try.f49.ntmps = 32 := Try.ntmps49
theorem Tra.ntmps50 : Go.Proofs.Try.f50.ntmps = 75 := Try.ntmps50
theorem Tra.ntmps53 : Go.Proofs.Try.f53.ntmps = 35 := Try.ntmps53
theorem Tra.ntmps54 : Go.Proofs.Try.f54.ntmps = 36 := Try.ntmps54
theorem Tra.ntmps56 : Go.Proofs.Try.f56.ntmps = 8 := Try.ntmps56
theorem Tra.ntmps57 : Go.Proofs.Try.f57.ntmps = 38 := Try.ntmps57
theorem Tra.ntmps63 : Go.Proofs.Try.f63.ntmps = 27 := Try.ntmps63
theorem Tra.ntmps65 : Go.Proofs.Try.f65.ntmps = 70 := Try.ntmps65
theorem Tra.ntmps67 : Go.Proofs.Try.f67.ntmps = 56 := Try.ntmps67
theorem Tra.ntmps70 : Go.Proofs.Try.f70.ntmps = 9 := Try.ntmps70
theorem Tra.ntmps84 : Go.Proofs.Try.f84.ntmps = 36 := Try.ntmps84
theorem Tra.ntmps91 : Go.Proofs.Try.f91.ntmps = 19 := Try.ntmps91
@[simp] theorem Tra.runUnderlying29 : ∀ (w : Go.World), Go.Sem.run Tra.prog (Go.underlying 29) w = Go.Result.ok (Go.TypeDesc.slice 3) w := fun _ => by kernel_rfl
@[simp] theorem Tra.runUnderlying31 : ∀ (w : Go.World), Go.Sem.run Tra.prog (Go.underlying 31) w = Go.Result.ok (Go.TypeDesc.array 4 3) w := fun _ => by kernel_rfl
@[simp] theorem Tra.runUnderlying50 : ∀ (w : Go.World), Go.Sem.run Tra.prog (Go.underlying 50) w = Go.Result.ok (Go.TypeDesc.slice 29) w := fun _ => by kernel_rfl
@[simp] theorem Tra.runUnderlying88 : ∀ (w : Go.World), Go.Sem.run Tra.prog (Go.underlying 88) w = Go.Result.ok (Go.TypeDesc.slice 89) w := fun _ => by kernel_rfl
@[simp] theorem Tra.runUnderlying89 : ∀ (w : Go.World), Go.Sem.run Tra.prog (Go.underlying 89) w = Go.Result.ok (Go.TypeDesc.array 2 3) w := fun _ => by kernel_rfl
@[simp] theorem Tra.sizeOf3 : ∀ (w : Go.World), Go.Sem.run Tra.prog (Go.sizeOf 3) w = Go.Result.ok 1 w := fun _ => by kernel_rfl
@[simp] theorem Tra.sizeOf29 : ∀ (w : Go.World), Go.Sem.run Tra.prog (Go.sizeOf 29) w = Go.Result.ok 1 w := fun _ => by kernel_rfl
@[simp] theorem Tra.sizeOf31 : ∀ (w : Go.World), Go.Sem.run Tra.prog (Go.sizeOf 31) w = Go.Result.ok 4 w := fun _ => by kernel_rfl
@[simp] theorem Tra.sizeOf89 : ∀ (w : Go.World), Go.Sem.run Tra.prog (Go.sizeOf 89) w = Go.Result.ok 2 w := fun _ => by kernel_rfl
@[simp] theorem Tra.underlying3 : Tra.prog.underlying 3 = Option.some (Go.TypeDesc.int Go.IntKind.i64) := by kernel_rfl
@[simp] theorem Tra.underlying4 : Tra.prog.underlying 4 = Option.some Go.TypeDesc.bool := by kernel_rfl
@[simp] theorem Tra.underlying29 : Tra.prog.underlying 29 = Option.some (Go.TypeDesc.slice 3) := by kernel_rfl
@[simp] theorem Tra.underlying31 : Tra.prog.underlying 31 = Option.some (Go.TypeDesc.array 4 3) := by kernel_rfl
@[simp] theorem Tra.underlying50 : Tra.prog.underlying 50 = Option.some (Go.TypeDesc.slice 29) := by kernel_rfl
@[simp] theorem Tra.underlying73 : Tra.prog.underlying 73 = Option.some (Go.TypeDesc.map 3 3) := by kernel_rfl
@[simp] theorem Tra.underlying88 : Tra.prog.underlying 88 = Option.some (Go.TypeDesc.slice 89) := by kernel_rfl
@[simp] theorem Tra.underlying89 : Tra.prog.underlying 89 = Option.some (Go.TypeDesc.array 2 3) := by kernel_rfl
@[simp] theorem Tra.underlying100 : Tra.prog.underlying 100 = Option.some (Go.TypeDesc.map 89 3) := by kernel_rfl
@[simp] theorem Tra.zeroValue3 : ∀ (w : Go.World), Go.Sem.run Tra.prog (Go.zeroValue 3) w = Go.Result.ok (Go.Value.int Go.IntKind.i64 0) w := fun _ => by kernel_rfl
@[simp] theorem Tra.zeroValue29 : ∀ (w : Go.World), Go.Sem.run Tra.prog (Go.zeroValue 29) w = Go.Result.ok (Go.Value.slice Option.none 0 0) w := fun _ => by kernel_rfl
@[simp] theorem Tra.zeroValue31 : ∀ (w : Go.World), Go.Sem.run Tra.prog (Go.zeroValue 31) w = Go.Result.ok (Go.Value.agg #[Go.Value.int Go.IntKind.i64 0, Go.Value.int Go.IntKind.i64 0, Go.Value.int Go.IntKind.i64 0, Go.Value.int Go.IntKind.i64 0]) w := fun _ => by kernel_rfl
@[simp] theorem Tra.zeroValue89 : ∀ (w : Go.World), Go.Sem.run Tra.prog (Go.zeroValue 89) w = Go.Result.ok (Go.Value.agg #[Go.Value.int Go.IntKind.i64 0, Go.Value.int Go.IntKind.i64 0]) w := fun _ => by kernel_rfl
end Go.Proofs
namespace Go.Proofs.YtdhgeondbnpeoaaW.PrintWords
open Go.RowKit
structure As0 (p : Prop) : Prop where mk :: (out : p)
structure Drawn0 (w w' : World) : Prop where mk :: (out : ∃ n, w' = w.drewN n)
theorem Drawn0.refl (w : World) : Drawn0 w w := ⟨⟨0, rfl⟩⟩
theorem Drawn0.step {w w' : World} (h : Drawn0 w w') (n : Nat) : Drawn0 w (w'.drewN n) := by
 obtain ⟨m, rfl⟩ := h
 exact ⟨⟨m + n, World.drewN_drewN ..⟩⟩
def rd (xs : List Int) (i : Int) : Int := xs.getD i.toNat 0
def nums (k : IntKind) (xs : List Int) : List Value := xs.map fun x => .int k x
theorem below_alloc {w W : World} (h : Below w.heap.size w W) (o : Obj) : Below w.heap.size w (W.alloc o) := h.alloc h.size o
theorem below_drew {B : Nat} {w W : World} (h : Below B w W) : Below B w W.drew := ⟨h.os, h.tape, h.output, h.size, h.block⟩
theorem pw_below_drewN {B : Nat} {w W : World} (h : Below B w W) (n : Nat) : Below B w (W.drewN n) := ⟨h.os, h.tape, h.output, h.size, h.block⟩
theorem below_then {B : Nat} {w w1 w2 : World} (h : Below B w w1) (hB : B ≤ w1.heap.size) (k : Below w1.heap.size w1 w2) : Below B w w2 :=
 h.trans ⟨k.os, k.tape, k.output, k.size, fun i hi => k.block i (Nat.lt_of_lt_of_le hi hB)⟩
theorem pw_cell_below {w w1 : World} (h : Below w.heap.size w w1) {a : Addr} {v : Value} (hc : w.cell? a = some v) : w1.cell? a = some v := (h.cell (World.block_lt_of_cell? w a hc)).trans hc
theorem add_plain (g j : Nat) : (⟨g, 0, none⟩ : Addr).add j = ⟨g, j, none⟩ := by unfold Addr.add; split <;> simp_all
def ReadsInt (w : World) (k : IntKind) (A : Option Addr) (n : Nat) (xs : List Int) : Prop :=
 xs.length = n ∧ n ≤ 9223372036854775807 ∧ (0 < n → ∃ ad, A = some ad ∧ ∀ j, j < n → w.cell? (ad.add j) = some (.int k (xs.getD j 0)))
theorem own_nil (W : World) (base : Nat) (e : TypeId) (size : Nat) : W.ownsRow base e size (.slice none 0 0) 0 [] := ⟨by simp, .inl ⟨rfl, rfl⟩⟩
theorem own_base {w : World} {base : Nat} {e : TypeId} {size n : Nat} {v : Value} {xs : List Value} (h : w.ownsRow base e size v n xs) (k : Nat) (hk : v.ownBlock = some k) : base ≤ k := by
 rcases h.2 with ⟨rfl, _⟩ | ⟨g, cap, cur, rfl, hb, _⟩
 ·simp [Value.ownBlock] at hk
 ·have : g = k := by simpa [Value.ownBlock] using hk
  omega
theorem own_lt {w : World} {base : Nat} {e : TypeId} {size n : Nat} {v : Value} {xs : List Value} (h : w.ownsRow base e size v n xs) (k : Nat) (hk : v.ownBlock = some k) : k < w.heap.size := by
 rcases h.2 with ⟨rfl, _⟩ | ⟨g, cap, cur, rfl, hb, hh, _⟩
 ·simp [Value.ownBlock] at hk
 ·have : g = k := by simpa [Value.ownBlock] using hk
  subst this
  exact (Array.getElem?_eq_some_iff.1 hh).1
def LeO {α : Type} (a b : Option α) : Prop := ∀ r, a = some r → b = some r
theorem LeO.none {α : Type} (b : Option α) : LeO Option.none b := fun _ h => by cases h
def Reps {α : Type} (R : α → List Value → Prop) (size : Nat) (ps : List α) (cs : List Value) : Prop :=
 cs.length = ps.length * size ∧ ∀ j p, ps[j]? = some p → R p ((cs.drop (j * size)).take size)
theorem Reps.none {α : Type} (R : α → List Value → Prop) (size : Nat) : Reps R size [] [] := ⟨by simp, fun j p h => by simp at h⟩
theorem Reps.snoc {α : Type} {R : α → List Value → Prop} {size : Nat} {ps : List α} {cs c : List Value} {p : α} (h : Reps R size ps cs) (hp : R p c) (hc : c.length = size) : Reps R size (ps ++ [p]) (cs ++ c) := by
 refine ⟨by rw [List.length_append, h.1, hc, List.length_append, List.length_singleton, Nat.add_mul, Nat.one_mul], fun j q hq => ?_⟩
 rcases Nat.lt_or_ge j ps.length with hj | hj
 ·rw [List.getElem?_append_left hj] at hq
  have h1 : j * size + size ≤ cs.length := by rw [h.1, ← Nat.succ_mul]; exact Nat.mul_le_mul_right _ hj
  have h2 := h.2 j q hq
  rw [List.drop_append_of_le_length (by omega), List.take_append_of_le_length (by rw [List.length_drop]; omega)]
  exact h2
 ·have hj' : j = ps.length := by
   have := (List.getElem?_eq_some_iff.1 hq).1
   rw [List.length_append, List.length_singleton] at this
   omega
  subst hj'
  have hq' : p = q := by simpa using hq
  subst hq'
  rw [← h.1, List.drop_left, ← hc, List.take_length]
  exact hp
theorem Reps.imp_ {α : Type} {R R' : α → List Value → Prop} {size : Nat} {ps : List α} {cs : List Value} (h : Reps R size ps cs) (hR : ∀ p c, R p c → R' p c) : Reps R' size ps cs := ⟨h.1, fun j p hj => hR _ _ (h.2 j p hj)⟩
def ReadsRow {α : Type} (R : α → List Value → Prop) (size : Nat) (w : World) (A : Option Addr) (n : Nat) (ps : List α) : Prop :=
 ps.length = n ∧ n ≤ 9223372036854775807 ∧ (0 < n → ∃ ad, A = some ad ∧ ∀ j p, ps[j]? = some p → ∃ c, c.length = size ∧ R p c ∧ ∀ i u, c[i]? = some u → w.cell? (ad.add (j * size + i)) = some u)
theorem ReadsRow.get_ {α : Type} {R : α → List Value → Prop} {size : Nat} {w : World} {A : Option Addr} {n : Nat} {ps : List α} (h : ReadsRow R size w A n ps) (d : α) (i : Int) (h0 : 0 ≤ i) (h1 : i < n) :
  ∃ ad c, A = some ad ∧ c.length = size ∧ R (ps.getD i.toNat d) c ∧ ∀ j u, c[j]? = some u → w.cell? (ad.add (i.toNat * size + j)) = some u := by
 obtain ⟨ad, e, hc⟩ := h.2.2 (by omega)
 have hl : i.toNat < ps.length := by have := h.1; omega
 obtain ⟨c, hs, hr, hcell⟩ := hc i.toNat _ (List.getElem?_eq_getElem hl)
 refine ⟨ad, c, e, hs, ?_, hcell⟩
 rw [List.getD_eq_getElem?_getD, List.getElem?_eq_getElem hl]
 exact hr
theorem ReadsRow.imp_ {α : Type} {R R' : α → List Value → Prop} {size : Nat} {w w1 : World} {A : Option Addr} {n : Nat} {ps : List α} (h : ReadsRow R size w A n ps) (hb : Below w.heap.size w w1) (hR : ∀ p c, R p c → R' p c) : ReadsRow R' size w1 A n ps :=
 ⟨h.1, h.2.1, fun hn => by
  obtain ⟨ad, e, hc⟩ := h.2.2 hn
  refine ⟨ad, e, fun j p hj => ?_⟩
  obtain ⟨c, hs, hr, hcell⟩ := hc j p hj
  exact ⟨c, hs, hR _ _ hr, fun i u hu => pw_cell_below hb (hcell i u hu)⟩⟩
theorem own_reads_row {α : Type} {R : α → List Value → Prop} {w : World} {base n size : Nat} {e : TypeId} {v : Value} {ps : List α} {cs : List Value} (h : w.ownsRow base e size v n cs) (hR : Reps R size ps cs) (hn : ps.length = n) :
  ∃ A c, v = .slice A n c ∧ ReadsRow R size w A n ps := by
 rcases Nat.eq_zero_or_pos n with h0 | h0
 ·rcases h.2 with ⟨rfl, rfl⟩ | ⟨g, cap, cur, rfl, _⟩
  ·exact ⟨none, 0, rfl, hn, by omega, fun hp => absurd hp (by omega)⟩
  ·exact ⟨_, cap, rfl, hn, by omega, fun hp => absurd hp (by omega)⟩
 ·obtain ⟨g, cap, rfl, _, _⟩ := h.form h0
  have hm : n ≤ 9223372036854775807 := by
   rcases h.2 with ⟨_, h1⟩ | ⟨g', cap', cur, he, _, _, h1, h2, _⟩
   ·omega
   ·simp only [maxLen] at h2
    omega
  refine ⟨_, cap, rfl, hn, hm, fun _ => ⟨_, rfl, fun j p hj => ⟨(cs.drop (j * size)).take size, ?_, hR.2 j p hj, fun i u hu => ?_⟩⟩⟩
  ·have hjl := (List.getElem?_eq_some_iff.1 hj).1
   have h1 : j * size + size ≤ cs.length := by rw [hR.1, ← Nat.succ_mul]; exact Nat.mul_le_mul_right _ hjl
   rw [List.length_take, List.length_drop]
   omega
  ·refine h.cells (g := g) rfl _ u ?_
   rw [List.getElem?_take] at hu
   split at hu
   ·rw [List.getElem?_drop] at hu
    exact hu
   ·cases hu
section
variable {P : Program} {ops : Array Oper} {rest : List Oper} {o : Oper} {a : Act} {Q : Exit → Act → World → Prop}
theorem print_append_cells {w0 W : World} (base : Nat) (hgd : o.guard = none) (s x : Operand) (t e : TypeId) (z : Value) (size bytes : Nat)
  (ho : o.op = .call { callee := .builtin .append, args := #[s, x], argTypes := #[t, t] })
  (ht : P.underlying t = some (.slice e)) (hinfo : (P.info? e).map (fun i => (i.zero, i.size, i.bytes)) = some (some z, size, bytes)) (hz : z.cells.size = size) (hs0 : 0 < size) (hb0 : 0 < bytes)
  (v : Value) (n : Nat) (xs ys : List Value) (hs : a.eval s = v) (hx : a.eval x = .slice (some ⟨W.heap.size, 0, none⟩) 1 1) (hys : ys.length = size) (h1 : ∀ u ∈ ys, u.oneCell' = true)
  (HO : W.ownsRow base e size v n xs) (HB : Below base w0 W) (hbase : base ≤ W.heap.size) (hl : (n + 1) * bytes ≤ 140737488355328)
  (h : ∀ v1 w1, w1.ownsRow base e size v1 (n + 1) (xs ++ ys) → Below base w0 w1 → W.grownBy w1 v.ownBlock → (v1.ownBlock = v.ownBlock ∨ ∃ b, v1.ownBlock = some b ∧ W.heap.size ≤ b) → wpList P ops Q rest (a.put o.dst v1) w1) :
  wpList P ops Q (o :: rest) a (W.alloc (.cells ys.toArray e)) := by
 obtain ⟨i0, hi, hzz⟩ := Option.map_eq_some_iff.1 hinfo
 simp only [Prod.mk.injEq] at hzz
 obtain ⟨hz0, hz1, hz2⟩ := hzz
 have hlen : n + 1 ≤ 140737488355328 := Nat.le_trans (Nat.le_mul_of_pos_right _ hb0) hl
 refine wpList_append_own_at (W.alloc (.cells ys.toArray e)) hgd s x t ho base e i0 z size bytes ht hi hz0 hz1 hz2 hz hs0 v n xs hs (HO.alloc _) ⟨W.heap.size, 0, none⟩ 1 1 ys hx (by rw [hys]; simp)
  (by simpa using World.news_of_block (cs := ys.toArray) (t := e) (fr := (0, 0)) (heap_alloc_new W (.cells ys.toArray e))) h1 (by simp only [maxLen]; omega) hl (by simp; omega) ?_
 intro v1 w1 hown hg _ hat
 refine h v1 w1 hown ((HB.alloc hbase _).grown hg (by simp; omega) (own_base HO)) (World.grownBy.trans (World.grownBy_alloc W _ _) hg) ?_
 rcases hat with hat | hat
 ·exact .inl hat
 ·exact .inr ⟨_, hat, by simp⟩
end
theorem own_ne {w : World} {base : Nat} {e t : TypeId} {size n g : Nat} {v : Value} {xs : List Value} {cs : Array Value} (h : w.ownsRow base e size v n xs) (hg : w.heap[g]? = some (.cells cs t (0, 0))) (hne : e ≠ t) : some g ≠ v.ownBlock := by
 rcases h.2 with ⟨rfl, _⟩ | ⟨g', cap, cur, rfl, _, hh, _⟩
 ·simp [Value.ownBlock]
 ·intro he
  have : g = g' := by simpa [Value.ownBlock] using he
  subst this
  rw [hg] at hh
  injection hh with hh
  injection hh with _ ht
  exact hne ht.symm
theorem blk_set {w : World} {g : Nat} {t : TypeId} {cs : Array Value} (h : w.heap[g]? = some (.cells cs t (0, 0))) (i : Nat) (u : Value) : (w.setCell ⟨g, i, none⟩ u).heap[g]? = some (.cells (cs.setIfInBounds i u) t (0, 0)) := by
 simp [World.setCell, Array.getElem?_modify, h]
theorem blk_far {w : World} {g : Nat} {t : TypeId} {cs : Array Value} (h : w.heap[g]? = some (.cells cs t (0, 0))) {p : Addr} (hp : g ≠ p.block) (u : Value) : (w.setCell p u).heap[g]? = some (.cells cs t (0, 0)) := (Below.heap_setCell w p u g hp).trans h
theorem blk_lt {w : World} {g : Nat} {o : Obj} (h : w.heap[g]? = some o) : g < w.heap.size := (Array.getElem?_eq_some_iff.1 h).1
theorem blk_cell {w : World} {g : Nat} {t : TypeId} {cs : Array Value} (h : w.heap[g]? = some (.cells cs t (0, 0))) (i : Nat) : w.cell? ⟨g, i, none⟩ = cs[i]? := cell_of_row w g i cs t (0, 0) h
theorem blk_frozen {w : World} {g : Nat} {t : TypeId} {cs : Array Value} (h : w.heap[g]? = some (.cells cs t (0, 0))) (i : Nat) : w.frozen? ⟨g, i, none⟩ = false := by simp [World.frozen?, h]
theorem blk_grown {w w1 : World} {g : Nat} {o : Obj} {row : Option Nat} (h : w.heap[g]? = some o) (hg : w.grownBy w1 row) (hne : some g ≠ row) : w1.heap[g]? = some o := (hg.block g (blk_lt h) hne).trans h
section
variable {P : Program} {ops : Array Oper} {o : Oper} {a : Act} {Q : Exit → Act → World → Prop} {K : Act → World → Prop}
theorem step_append_cells {w0 W : World} (base : Nat) (hw : Region.wanted o (yielded ops a.tmps) = true) (s x : Operand) (t e : TypeId) (z : Value) (size bytes : Nat)
  (ho : o.op = .call { callee := .builtin .append, args := #[s, x], argTypes := #[t, t] })
  (ht : P.underlying t = some (.slice e)) (hinfo : (P.info? e).map (fun i => (i.zero, i.size, i.bytes)) = some (some z, size, bytes)) (hz : z.cells.size = size) (hs0 : 0 < size) (hb0 : 0 < bytes)
  (v : Value) (n : Nat) (xs ys : List Value) (hs : a.eval s = v) (hx : a.eval x = .slice (some ⟨W.heap.size, 0, none⟩) 1 1) (hys : ys.length = size) (h1 : ∀ u ∈ ys, u.oneCell' = true)
  (HO : W.ownsRow base e size v n xs) (HB : Below base w0 W) (hbase : base ≤ W.heap.size) (hl : (n + 1) * bytes ≤ 140737488355328)
  (h : ∀ v1 w1, w1.ownsRow base e size v1 (n + 1) (xs ++ ys) → Below base w0 w1 → W.grownBy w1 v.ownBlock → (v1.ownBlock = v.ownBlock ∨ ∃ b, v1.ownBlock = some b ∧ W.heap.size ≤ b) → K (a.put o.dst v1) w1) :
  if Region.wanted o (yielded ops a.tmps) = true then Oper.wp P o a (W.alloc (.cells ys.toArray e)) K Q else K (a.put o.dst undef) (W.alloc (.cells ys.toArray e)) := by
 obtain ⟨i0, hi, hzz⟩ := Option.map_eq_some_iff.1 hinfo
 simp only [Prod.mk.injEq] at hzz
 obtain ⟨hz0, hz1, hz2⟩ := hzz
 have hlen : n + 1 ≤ 140737488355328 := Nat.le_trans (Nat.le_mul_of_pos_right _ hb0) hl
 rw [if_pos hw]
 obtain ⟨v1, w1, hr, hown, hg, _, hat⟩ := run_append_own_at (P := P) (W.alloc (.cells ys.toArray e)) base t o.type e i0 z size bytes ht hi hz0 hz1 hz2 hz hs0 v n xs (HO.alloc _) ⟨W.heap.size, 0, none⟩ 1 1 ys (by rw [hys]; simp)
  (by simpa using World.news_of_block (cs := ys.toArray) (t := e) (fr := (0, 0)) (heap_alloc_new W (.cells ys.toArray e))) h1 (by simp only [maxLen]; omega) hl (by simp; omega)
 unfold Oper.wp execOp
 simp only [ho, resolve, invoke, builtin, Sem.run_bind, Sem.run_pure, Result.andThen_ok, List.map_toArray, List.map_cons, List.map_nil, hs, hx, hr]
 refine h v1 w1 hown ((HB.alloc hbase _).grown hg (by simp; omega) (own_base HO)) (World.grownBy.trans (World.grownBy_alloc W _ _) hg) ?_
 rcases hat with hat | hat
 ·exact .inl hat
 ·exact .inr ⟨_, hat, by simp⟩
end
theorem own_weaken {w : World} {base base' : Nat} {e : TypeId} {size n : Nat} {v : Value} {xs : List Value} (h : w.ownsRow base e size v n xs) (hb : base' ≤ base) : w.ownsRow base' e size v n xs := by
 obtain ⟨h1, h2⟩ := h
 refine ⟨h1, ?_⟩
 rcases h2 with h2 | ⟨g, cap, cur, rfl, hg, r⟩
 ·exact .inl h2
 ·exact .inr ⟨g, cap, cur, rfl, Nat.le_trans hb hg, r⟩
section
variable {α : Type} {enc : α → Value} {d : α}
def encs (enc : α → Value) (xs : List α) : List Value := xs.map enc
def rdOf (d : α) (xs : List α) (i : Int) : α := xs.getD i.toNat d
theorem encs_length (xs : List α) : (encs enc xs).length = xs.length := by simp [encs]
theorem encs_get (xs : List α) (j : Nat) (h : j < xs.length) : (encs enc xs)[j]? = some (enc (xs.getD j d)) := by
 simp [encs, List.getElem?_eq_getElem h, List.getD_eq_getElem?_getD]
def ReadsOf (enc : α → Value) (d : α) (w : World) (A : Option Addr) (n : Nat) (xs : List α) : Prop :=
 xs.length = n ∧ n ≤ 9223372036854775807 ∧ (0 < n → ∃ ad, A = some ad ∧ ∀ j, j < n → w.cell? (ad.add j) = some (enc (xs.getD j d)))
theorem ReadsOf.at_ {w : World} {A : Option Addr} {n : Nat} {xs : List α} (h : ReadsOf enc d w A n xs) (i : Int) (h0 : 0 ≤ i) (h1 : i < n) : ∃ ad, A = some ad ∧ w.cell? (ad.add i.toNat) = some (enc (rdOf d xs i)) := by
 obtain ⟨ad, e, hc⟩ := h.2.2 (by omega)
 exact ⟨ad, e, hc _ (by omega)⟩
theorem ReadsOf.take_ {w : World} {A : Option Addr} {n : Nat} {xs : List α} (h : ReadsOf enc d w A n xs) (i : Nat) (hi : i ≤ n) : ReadsOf enc d w A i (xs.take i) := by
 refine ⟨by rw [List.length_take, h.1]; omega, by have := h.2.1; omega, fun hp => ?_⟩
 obtain ⟨ad, e, hc⟩ := h.2.2 (by omega)
 refine ⟨ad, e, fun j hj => ?_⟩
 rw [hc j (by omega)]
 simp [List.getD_eq_getElem?_getD, hj]
theorem ReadsOf.drop_ {w : World} {A : Option Addr} {n c : Nat} {xs : List α} (h : ReadsOf enc d w A n xs) (i : Nat) (hi : i ≤ n) (hc : n ≤ c) : ReadsOf enc d w (if c = i then A else A.map (·.add i)) (n - i) (xs.drop i) := by
 refine ⟨by rw [List.length_drop, h.1], by have := h.2.1; omega, fun hp => ?_⟩
 obtain ⟨ad, rfl, hcell⟩ := h.2.2 (by omega)
 rw [if_neg (by omega)]
 refine ⟨ad.add i, rfl, fun j hj => ?_⟩
 have ha : (ad.add i).add j = ad.add (i + j) := by
  unfold Addr.add
  by_cases h1 : i = 0 <;> by_cases h2 : j = 0 <;> simp [h1, h2, Nat.add_assoc]
 rw [ha, hcell (i + j) (by omega)]
 simp [List.getD_eq_getElem?_getD, List.getElem?_drop]
theorem print_cut_of {P : Program} (enc : α → Value) (d : α) (t e : TypeId) (kl : IntKind) {i : TypeInfo} (ht : P.underlying t = some (.slice e)) (hi : P.info? e = some i) (hsz : i.size = 1) (A : Option Addr) (n c m : Nat) (hm : m ≤ n) :
  ∃ A' : Option Addr, (∀ W : World, (Instr.slice t (.slice A n c) (some (.int kl (m : Int))) none none).run P W = .ok (.slice A' (n - m) (c - m)) W) ∧
   ∀ (w : World) (xs : List α), n ≤ c → ReadsOf enc d w A n xs → ReadsOf enc d w A' (n - m) (xs.drop m) := by
 refine ⟨if c = m then A else A.map (·.add m), fun W => ?_, fun w xs hc h => h.drop_ m hm hc⟩
 have hel : P.elem t = e := by simp [Program.elem, ht]
 have hu : P.underlying t = some (.slice (P.elem t)) := by rw [hel]; exact ht
 rw [run_slice_l W t A n c hu kl (m : Int) (Int.natCast_nonneg _) (by omega), hel]
 simp [sizeOf, typeInfo, hi, hsz, sliced, Result.andThen]
theorem own_at_of {W : World} {base g n cap : Nat} {e : TypeId} {xs : List α} (h : W.ownsRow base e 1 (.slice (some ⟨g, 0, none⟩) n cap) n (encs enc xs)) (i : Int) (h0 : 0 ≤ i) (h1 : i < n) :
  W.cell? ⟨g, i.toNat, none⟩ = some (enc (rdOf d xs i)) ∧ W.frozen? ⟨g, i.toNat, none⟩ = false := by
 have hl : xs.length = n := by have := h.1; simp [encs] at this; exact this
 constructor
 ·have hc := h.cells (g := g) rfl i.toNat _ (encs_get (d := d) xs i.toNat (by omega))
  rwa [add_plain] at hc
 ·rcases h.2 with ⟨h', _⟩ | ⟨g', cap', cur, h', _, hh, _⟩
  ·cases h'
  ·have : g = g' := by injection h' with h'; injection h' with h'; injection h' with h'
   subst this
   simp [World.frozen?, hh]
theorem own_store_of {W : World} {base g n cap : Nat} {e : TypeId} {xs : List α} (h : W.ownsRow base e 1 (.slice (some ⟨g, 0, none⟩) n cap) n (encs enc xs)) (i : Int) (x : α) :
  (W.setCell ⟨g, i.toNat, none⟩ (enc x)).ownsRow base e 1 (.slice (some ⟨g, 0, none⟩) n cap) n (encs enc (xs.set i.toNat x)) ∧ W.grownBy (W.setCell ⟨g, i.toNat, none⟩ (enc x)) (some g) := by
 have hs := h.stored i.toNat (enc x)
 have he : (encs enc xs).set i.toNat (enc x) = encs enc (xs.set i.toNat x) := by simp [encs, List.map_set]
 rwa [he] at hs
end
theorem blk_drewN {w : World} {g : Nat} {o : Obj} (h : w.heap[g]? = some o) (n : Nat) : (w.drewN n).heap[g]? = some o := h
theorem blk_below {w w1 : World} {g : Nat} {o : Obj} (h : w.heap[g]? = some o) (hb : Below w.heap.size w w1) : w1.heap[g]? = some o := (hb.block g (blk_lt h)).trans h
theorem blk_new (w : World) (o : Obj) : (w.alloc o).heap[w.heap.size]? = some o := heap_alloc_new w o
section
variable {P : Program}
theorem results_ct {fn : Func} {p u : Tmp} {ty : TypeId} (h : fn.results = #[.cell p ty, .tmp u]) (tmps : Array Value) (w : World) (g : Nat) (t : TypeId) (cs : Array Value) (fr : Nat × Nat) (d : TypeDesc)
  (hp : tmps.getD p undef = .pointer (some ⟨g, 0, none⟩)) (hg : w.heap[g]? = some (.cells cs t fr))
  (hu : P.underlying ty = some d) (hd : (match d with | .struct _ | .array _ _ => true | _ => false) = true) (hi : (P.info? ty).map (·.size) = some cs.size) :
  (results fn tmps).run P w = .ok (.tuple #[.agg cs, tmps.getD u undef]) w := by
 have hp' : tmps[p]?.getD undef = .pointer (some ⟨g, 0, none⟩) := by simpa using hp
 simp [results, h, hp', asAddr, run_loadVar_row w g t ty cs fr d hg hu hd hi]
theorem results_ctt {fn : Func} {p u v : Tmp} {ty : TypeId} (h : fn.results = #[.cell p ty, .tmp u, .tmp v]) (tmps : Array Value) (w : World) (g : Nat) (t : TypeId) (cs : Array Value) (fr : Nat × Nat) (d : TypeDesc)
  (hp : tmps.getD p undef = .pointer (some ⟨g, 0, none⟩)) (hg : w.heap[g]? = some (.cells cs t fr))
  (hu : P.underlying ty = some d) (hd : (match d with | .struct _ | .array _ _ => true | _ => false) = true) (hi : (P.info? ty).map (·.size) = some cs.size) :
  (results fn tmps).run P w = .ok (.tuple #[.agg cs, tmps.getD u undef, tmps.getD v undef]) w := by
 have hp' : tmps[p]?.getD undef = .pointer (some ⟨g, 0, none⟩) := by simpa using hp
 simp [results, h, hp', asAddr, run_loadVar_row w g t ty cs fr d hg hu hd hi]
end
theorem own_le {w : World} {base n m c size : Nat} {e : TypeId} {A : Option Addr} {xs : List Value} (h : w.ownsRow base e size (.slice A m c) n xs) : m ≤ c := by
 rcases h.2 with ⟨he, _⟩ | ⟨g, cap, cur, he, _, _, hnc, _⟩
 ·injection he with _ h2 h3
  omega
 ·injection he with _ h2 h3
  omega
def OwnRow {α : Type} (R : α → List Value → Prop) (e : TypeId) (size : Nat) (w : World) (base : Nat) (v : Value) (ps : List α) : Prop :=
 ∃ inner, w.ownsRow base e size v ps.length inner ∧ Reps R size ps inner
section
variable {α : Type} {R R' : α → List Value → Prop} {e : TypeId} {size : Nat} {w w1 : World} {base : Nat} {v : Value} {ps : List α}
theorem OwnRow.none_ (R : α → List Value → Prop) (e : TypeId) (size : Nat) (w : World) (base : Nat) : OwnRow R e size w base (.slice none 0 0) [] := ⟨[], own_nil _ _ _ _, Reps.none _ _⟩
theorem OwnRow.imp_ (h : OwnRow R e size w base v ps) (hR : ∀ p c, R p c → R' p c) : OwnRow R' e size w base v ps := by
 obtain ⟨inner, ho, hr⟩ := h
 exact ⟨inner, ho, hr.imp_ hR⟩
theorem OwnRow.reads (h : OwnRow R e size w base v ps) : ∃ A c, v = .slice A ps.length c ∧ ps.length ≤ c ∧ ReadsRow R size w A ps.length ps := by
 obtain ⟨inner, ho, hr⟩ := h
 obtain ⟨A, c, rfl, hrow⟩ := own_reads_row ho hr rfl
 exact ⟨A, c, rfl, own_le ho, hrow⟩
theorem OwnRow.ne_block (h : OwnRow R e size w base v ps) {g : Nat} {t : TypeId} {cells : Array Value} (hb : w.heap[g]? = some (.cells cells t (0, 0))) (ht : e ≠ t) : some g ≠ v.ownBlock := by
 obtain ⟨inner, ho, hr⟩ := h
 exact own_ne ho hb ht
end
theorem ReadsRow.inner_ {α : Type} {R : α → List Value → Prop} {size : Nat} {w : World} {ad : Addr} {n : Nat} {ps : List α} (h : ReadsRow R size w (some ad) n ps) :
  ∃ inner, Reps R size ps inner ∧ ∀ j u, inner[j]? = some u → w.cell? (ad.add j) = some u := by
 have key : ∀ m, m ≤ ps.length → ∃ inner, Reps R size (ps.take m) inner ∧ ∀ j u, inner[j]? = some u → w.cell? (ad.add j) = some u := by
  intro m
  induction m with
  |zero => exact fun _ => ⟨[], Reps.none _ _, fun j u hu => by simp at hu⟩
  |succ m ih =>
   intro hm
   obtain ⟨inner, hr, hc⟩ := ih (by omega)
   obtain ⟨ad', he, hcell⟩ := h.2.2 (by have := h.1; omega)
   injection he with he
   subst he
   obtain ⟨c, hcl, hp, hcc⟩ := hcell m _ (List.getElem?_eq_getElem (show m < ps.length by omega))
   refine ⟨inner ++ c, ?_, fun j u hu => ?_⟩
   ·rw [List.take_succ_eq_append_getElem (show m < ps.length by omega)]
    exact hr.snoc hp hcl
   ·have hil : inner.length = m * size := by rw [hr.1, List.length_take, Nat.min_eq_left (by omega)]
    rcases Nat.lt_or_ge j inner.length with hj | hj
    ·rw [List.getElem?_append_left hj] at hu
     exact hc j u hu
    ·rw [List.getElem?_append_right hj] at hu
     have := hcc (j - inner.length) u hu
     rwa [hil, Nat.add_sub_cancel' (by omega)] at this
 obtain ⟨inner, hr, hc⟩ := key ps.length (Nat.le_refl _)
 rw [List.take_length] at hr
 exact ⟨inner, hr, hc⟩
section
variable {α : Type} {P : Program}
theorem print_take_of (enc : α → Value) (d : α) (t e : TypeId) (kl : IntKind) {i : TypeInfo} (ht : P.underlying t = some (.slice e)) (hi : P.info? e = some i) (hsz : i.size = 1) (A : Option Addr) (c : Nat) (xs : List α) (j : Int) (h0 : 0 ≤ j) (hm : j ≤ xs.length) (hc : xs.length ≤ c) :
  (∀ W : World, (Instr.slice t (.slice A xs.length c) none (some (.int kl j)) none).run P W = .ok (.slice A (xs.take j.toNat).length c) W) ∧
   (∀ w : World, ReadsOf enc d w A xs.length xs → ReadsOf enc d w A (xs.take j.toNat).length (xs.take j.toNat)) ∧ (xs.take j.toNat).length ≤ c := by
 have hl : (xs.take j.toNat).length = j.toNat := by rw [List.length_take]; omega
 refine ⟨fun W => ?_, fun w h => by rw [hl]; exact h.take_ j.toNat (by omega), by rw [hl]; omega⟩
 have hel : P.elem t = e := by simp [Program.elem, ht]
 have hu : P.underlying t = some (.slice (P.elem t)) := by rw [hel]; exact ht
 have ha : (A.map fun x => x.add 0) = A := by cases A <;> simp [Addr.add]
 rw [run_slice_h W t A xs.length c hu kl j h0 (by omega), hel, hl]
 simp [sizeOf, typeInfo, hi, hsz, sliced, Result.andThen, ha]
theorem print_drop_of (enc : α → Value) (d : α) (t e : TypeId) (kl : IntKind) {i : TypeInfo} (ht : P.underlying t = some (.slice e)) (hi : P.info? e = some i) (hsz : i.size = 1) (A : Option Addr) (c : Nat) (xs : List α) (j : Int) (h0 : 0 ≤ j) (hm : j ≤ xs.length) (hc : xs.length ≤ c) :
  ∃ A' : Option Addr, (∀ W : World, (Instr.slice t (.slice A xs.length c) (some (.int kl j)) none none).run P W = .ok (.slice A' (xs.drop j.toNat).length (c - j.toNat)) W) ∧
   (∀ w : World, ReadsOf enc d w A xs.length xs → ReadsOf enc d w A' (xs.drop j.toNat).length (xs.drop j.toNat)) ∧ (xs.drop j.toNat).length ≤ c - j.toNat := by
 obtain ⟨m, rfl⟩ := Int.eq_ofNat_of_zero_le h0
 simp only [Int.toNat_natCast]
 have hmn : m ≤ xs.length := by omega
 obtain ⟨A', h1, h2⟩ := print_cut_of (P := P) enc d t e kl ht hi hsz A xs.length c m hmn
 have hl : (xs.drop m).length = xs.length - m := List.length_drop
 exact ⟨A', fun W => by rw [hl]; exact h1 W, fun w h => by rw [hl]; exact h2 w xs hc h, by rw [hl]; omega⟩
theorem print_mid_of (enc : α → Value) (d : α) (t e : TypeId) (kl kh : IntKind) {i : TypeInfo} (ht : P.underlying t = some (.slice e)) (hi : P.info? e = some i) (hsz : i.size = 1) (A : Option Addr) (c : Nat) (xs : List α) (a b : Int) (h0 : 0 ≤ a) (h1 : a ≤ b) (hm : b ≤ xs.length) (hc : xs.length ≤ c) :
  ∃ A' : Option Addr, (∀ W : World, (Instr.slice t (.slice A xs.length c) (some (.int kl a)) (some (.int kh b)) none).run P W = .ok (.slice A' ((xs.take b.toNat).drop a.toNat).length (c - a.toNat)) W) ∧
   (∀ w : World, ReadsOf enc d w A xs.length xs → ReadsOf enc d w A' ((xs.take b.toNat).drop a.toNat).length ((xs.take b.toNat).drop a.toNat)) ∧ ((xs.take b.toNat).drop a.toNat).length ≤ c - a.toNat := by
 have hlt : (xs.take b.toNat).length = b.toNat := by rw [List.length_take]; omega
 have hl : ((xs.take b.toNat).drop a.toNat).length = b.toNat - a.toNat := by rw [List.length_drop, hlt]
 refine ⟨if c = a.toNat then A else A.map (·.add a.toNat), fun W => ?_, fun w h => ?_, by rw [hl]; omega⟩
 ·have hel : P.elem t = e := by simp [Program.elem, ht]
  have hu : P.underlying t = some (.slice (P.elem t)) := by rw [hel]; exact ht
  rw [run_slice_lh W t A xs.length c hu kl kh a b h0 h1 (by omega), hel, hl]
  simp [sizeOf, typeInfo, hi, hsz, sliced, Result.andThen]
 ·have h2 := (h.take_ b.toNat (by omega)).drop_ (c := c) a.toNat (by omega) (by omega)
  rw [hl]
  exact h2
end
structure Kd (α : Type) where
 sz : Nat
 E : List Nat
 K : World → α → List Value → Prop
 M : World → Nat → (Nat → Prop) → α → List Value → Prop
 K_len : ∀ {w x cs}, K w x cs → cs.length = sz
 K_one : ∀ {w x cs}, K w x cs → ∀ u ∈ cs, u.oneCell' = true
 K_below : ∀ {w w1 : World} {x cs}, Below w.heap.size w w1 → K w x cs → K w1 x cs
 K_of_M : ∀ {w base ok x cs}, M w base ok x cs → K w x cs
 M_mono : ∀ {w base ok ok' x cs}, (∀ k, ok k → ok' k) → M w base ok x cs → M w base ok' x cs
 M_bound : ∀ {w : World} {base ok x cs}, M w base ok x cs → M w base (fun k => ok k ∧ base ≤ k ∧ k < w.heap.size ∧ ∃ q, q ∈ E ∧ ∃ cells, w.heap[k]? = some (.cells cells q (0, 0))) x cs
 M_move : ∀ {w w1 : World} {base ok x cs}, (∀ k, ok k → w1.heap[k]? = w.heap[k]?) → M w base ok x cs → M w1 base ok x cs
 M_lower : ∀ {w base base' ok x cs}, base' ≤ base → M w base ok x cs → M w base' ok x cs
theorem own_move {w w1 : World} {base : Nat} {e : TypeId} {size n : Nat} {v : Value} {xs : List Value} (h : w.ownsRow base e size v n xs) (hm : ∀ k, v.ownBlock = some k → w1.heap[k]? = w.heap[k]?) : w1.ownsRow base e size v n xs := by
 obtain ⟨h1, h2⟩ := h
 refine ⟨h1, ?_⟩
 rcases h2 with h2 | ⟨g, cap, cur, rfl, hg, hh, r⟩
 ·exact .inl h2
 ·exact .inr ⟨g, cap, cur, rfl, hg, (hm g (by simp [Value.ownBlock])).trans hh, r⟩
theorem own_typed {w : World} {base : Nat} {e : TypeId} {size n : Nat} {v : Value} {xs : List Value} (h : w.ownsRow base e size v n xs) (k : Nat) (hk : v.ownBlock = some k) : ∃ cells, w.heap[k]? = some (.cells cells e (0, 0)) := by
 rcases h.2 with ⟨rfl, _⟩ | ⟨g, cap, cur, rfl, hg, hh, r⟩
 ·simp [Value.ownBlock] at hk
 ·have : g = k := by simpa [Value.ownBlock] using hk
  subst this
  exact ⟨cur, hh⟩
namespace Kd
def C {α : Type} (d : Kd α) (w : World) (A : Option Addr) (n : Nat) (xs : List α) : Prop := ReadsRow (d.K w) d.sz w A n xs
def R {α : Type} (d : Kd α) (e : Nat) (w : World) (base : Nat) (ok : Nat → Prop) (v : Value) (xs : List α) : Prop :=
 (∀ k, v.ownBlock = some k → ok k) ∧ OwnRow (d.M w base (fun k => ok k ∧ some k ≠ v.ownBlock)) e d.sz w base v xs
section
variable {α : Type} {d : Kd α} {e : Nat} {w w1 : World} {base : Nat} {ok ok' : Nat → Prop} {v : Value} {xs : List α}
theorem C_below {A : Option Addr} {n : Nat} (h : d.C w A n xs) (hb : Below w.heap.size w w1) : d.C w1 A n xs := ReadsRow.imp_ h hb (fun _ _ hp => d.K_below hb hp)
theorem R_nil (d : Kd α) (e : Nat) (w : World) (base : Nat) (ok : Nat → Prop) : d.R e w base ok (.slice none 0 0) [] := ⟨fun k hk => by simp [Value.ownBlock] at hk, OwnRow.none_ _ _ _ _ _⟩
theorem R_mono (h : d.R e w base ok v xs) (hok : ∀ k, ok k → ok' k) : d.R e w base ok' v xs := ⟨fun k hk => hok k (h.1 k hk), h.2.imp_ (fun _ _ hp => d.M_mono (fun k hk => ⟨hok k hk.1, hk.2⟩) hp)⟩
theorem R_bound (h : d.R e w base ok v xs) : d.R e w base (fun k => ok k ∧ base ≤ k ∧ k < w.heap.size ∧ ∃ q, q ∈ e :: d.E ∧ ∃ cells, w.heap[k]? = some (.cells cells q (0, 0))) v xs := by
 obtain ⟨h0, inner, ho, hr⟩ := h
 refine ⟨fun k hk => ?_, inner, ho, hr.imp_ (fun _ _ hp => d.M_mono (fun k hk => ?_) (d.M_bound hp))⟩
 ·obtain ⟨cells, hc⟩ := own_typed ho k hk
  exact ⟨h0 k hk, own_base ho k hk, own_lt ho k hk, e, List.mem_cons_self, cells, hc⟩
 ·obtain ⟨⟨h1, h2⟩, h3, h4, q, hq, hc⟩ := hk
  exact ⟨⟨h1, h3, h4, q, List.mem_cons_of_mem _ hq, hc⟩, h2⟩
theorem R_move (h : d.R e w base ok v xs) (hm : ∀ k, ok k → w1.heap[k]? = w.heap[k]?) : d.R e w1 base ok v xs := by
 obtain ⟨h0, inner, ho, hr⟩ := h
 exact ⟨h0, inner, own_move ho (fun k hk => hm k (h0 k hk)), hr.imp_ (fun _ _ hp => d.M_move (fun k hk => hm k hk.1) hp)⟩
theorem R_lower {base' : Nat} (h : d.R e w base ok v xs) (hb : base' ≤ base) : d.R e w base' ok v xs := by
 obtain ⟨h0, inner, ho, hr⟩ := h
 exact ⟨h0, inner, own_weaken ho hb, hr.imp_ (fun _ _ hp => d.M_lower hb hp)⟩
theorem R_step (h : d.R e w base ok v xs) (hm : ∀ k, ok k → k < w.heap.size → w1.heap[k]? = w.heap[k]?) : d.R e w1 base ok v xs :=
 R_mono (R_move (R_bound h) (fun k hk => hm k hk.1 hk.2.2.1)) (fun _ hk => hk.1)
theorem M_step {x : α} {cs : List Value} (h : d.M w base ok x cs) (hm : ∀ k, ok k → k < w.heap.size → w1.heap[k]? = w.heap[k]?) : d.M w1 base ok x cs :=
 d.M_mono (fun _ hk => hk.1) (d.M_move (fun k hk => hm k hk.1 hk.2.2.1) (d.M_bound h))
theorem R_below (h : d.R e w base ok v xs) (hb : Below w.heap.size w w1) : d.R e w1 base ok v xs := R_step h (fun k _ hk => hb.block k hk)
theorem M_below {x : α} {cs : List Value} (h : d.M w base ok x cs) (hb : Below w.heap.size w w1) : d.M w1 base ok x cs := M_step h (fun k _ hk => hb.block k hk)
theorem R_reads (h : d.R e w base ok v xs) : ∃ A c, v = .slice A xs.length c ∧ xs.length ≤ c ∧ d.C w A xs.length xs := by
 obtain ⟨A, c, he, hl, hr⟩ := OwnRow.reads h.2
 exact ⟨A, c, he, hl, hr.imp_ (Below.refl _ _) (fun _ _ hp => d.K_of_M hp)⟩
theorem R_slice (h : d.R e w base ok v xs) : ∃ A c, v = .slice A xs.length c := by
 obtain ⟨A, c, he, _⟩ := R_reads h
 exact ⟨A, c, he⟩
theorem R_own (h : d.R e w base ok v xs) : ∃ inner, w.ownsRow base e d.sz v xs.length inner := by
 obtain ⟨_, inner, ho, _⟩ := h
 exact ⟨inner, ho⟩
theorem R_ne (h : d.R e w base ok v xs) {g t : Nat} {cells : Array Value} (hb : w.heap[g]? = some (.cells cells t (0, 0))) (ht : e ≠ t) : some g ≠ v.ownBlock := OwnRow.ne_block h.2 hb ht
end
def scalar {α : Type} (enc : α → Value) (h1 : ∀ x, (enc x).oneCell' = true) : Kd α where
 sz := 1
 E := []
 K := fun _ x cs => cs = [enc x]
 M := fun _ _ _ x cs => cs = [enc x]
 K_len := fun h => by rw [h]; rfl
 K_one := fun h u hu => by
  rw [h] at hu
  rw [List.mem_singleton.1 hu]
  exact h1 _
 K_below := fun _ h => h
 K_of_M := fun h => h
 M_mono := fun _ h => h
 M_bound := fun h => h
 M_move := fun _ h => h
 M_lower := fun _ h => h
def int (k : IntKind) : Kd Int := scalar (Value.int k) (fun _ => rfl)
def slice {α : Type} (e : Nat) (d : Kd α) : Kd (List α) where
 sz := 1
 E := e :: d.E
 K := fun w xs cs => ∃ A c, cs = [.slice A xs.length c] ∧ xs.length ≤ c ∧ d.C w A xs.length xs
 M := fun w base ok xs cs => ∃ v, cs = [v] ∧ d.R e w base ok v xs
 K_len := by
  rintro w x cs ⟨A, c, rfl, _⟩
  rfl
 K_one := by
  rintro w x cs ⟨A, c, rfl, _⟩ u hu
  rw [List.mem_singleton.1 hu]
  rfl
 K_below := by
  rintro w w1 x cs hb ⟨A, c, rfl, hl, hr⟩
  exact ⟨A, c, rfl, hl, C_below hr hb⟩
 K_of_M := by
  rintro w base ok x cs ⟨v, rfl, h⟩
  obtain ⟨A, c, rfl, hl, hr⟩ := R_reads h
  exact ⟨A, c, rfl, hl, hr⟩
 M_mono := by
  rintro w base ok ok' x cs hok ⟨v, rfl, h⟩
  exact ⟨v, rfl, R_mono h hok⟩
 M_bound := by
  rintro w base ok x cs ⟨v, rfl, h⟩
  exact ⟨v, rfl, R_bound h⟩
 M_move := by
  rintro w w1 base ok x cs hm ⟨v, rfl, h⟩
  exact ⟨v, rfl, R_move h hm⟩
 M_lower := by
  rintro w base base' ok x cs hb ⟨v, rfl, h⟩
  exact ⟨v, rfl, R_lower h hb⟩
def pair {α β : Type} (a : Kd α) (b : Kd β) : Kd (α × β) where
 sz := a.sz + b.sz
 E := a.E ++ b.E
 K := fun w x cs => ∃ c0 c1, cs = c0 ++ c1 ∧ a.K w x.1 c0 ∧ b.K w x.2 c1
 M := fun w base ok x cs => ∃ c0 c1, cs = c0 ++ c1 ∧ a.M w base ok x.1 c0 ∧ b.M w base ok x.2 c1
 K_len := by
  rintro w x cs ⟨c0, c1, rfl, h0, h1⟩
  rw [List.length_append, a.K_len h0, b.K_len h1]
 K_one := by
  rintro w x cs ⟨c0, c1, rfl, h0, h1⟩ u hu
  rcases List.mem_append.1 hu with hu | hu
  ·exact a.K_one h0 u hu
  ·exact b.K_one h1 u hu
 K_below := by
  rintro w w1 x cs hb ⟨c0, c1, rfl, h0, h1⟩
  exact ⟨c0, c1, rfl, a.K_below hb h0, b.K_below hb h1⟩
 K_of_M := by
  rintro w base ok x cs ⟨c0, c1, rfl, h0, h1⟩
  exact ⟨c0, c1, rfl, a.K_of_M h0, b.K_of_M h1⟩
 M_mono := by
  rintro w base ok ok' x cs hok ⟨c0, c1, rfl, h0, h1⟩
  exact ⟨c0, c1, rfl, a.M_mono hok h0, b.M_mono hok h1⟩
 M_bound := by
  rintro w base ok x cs ⟨c0, c1, rfl, h0, h1⟩
  refine ⟨c0, c1, rfl, a.M_mono ?_ (a.M_bound h0), b.M_mono ?_ (b.M_bound h1)⟩
  ·rintro k ⟨h2, h3, h4, q, hq, hc⟩
   exact ⟨h2, h3, h4, q, List.mem_append_left _ hq, hc⟩
  ·rintro k ⟨h2, h3, h4, q, hq, hc⟩
   exact ⟨h2, h3, h4, q, List.mem_append_right _ hq, hc⟩
 M_move := by
  rintro w w1 base ok x cs hm ⟨c0, c1, rfl, h0, h1⟩
  exact ⟨c0, c1, rfl, a.M_move hm h0, b.M_move hm h1⟩
 M_lower := by
  rintro w base base' ok x cs hb ⟨c0, c1, rfl, h0, h1⟩
  exact ⟨c0, c1, rfl, a.M_lower hb h0, b.M_lower hb h1⟩
def iso {α β : Type} (d : Kd α) (f : β → α) : Kd β where
 sz := d.sz
 E := d.E
 K := fun w x cs => d.K w (f x) cs
 M := fun w base ok x cs => d.M w base ok (f x) cs
 K_len := d.K_len
 K_one := d.K_one
 K_below := d.K_below
 K_of_M := d.K_of_M
 M_mono := d.M_mono
 M_bound := d.M_bound
 M_move := d.M_move
 M_lower := d.M_lower
theorem C_get {α : Type} {d : Kd α} {w : World} {A : Option Addr} {n : Nat} {xs : List α} (h : d.C w A n xs) (z : α) (i : Int) (h0 : 0 ≤ i) (h1 : i < n) :
  ∃ ad c, A = some ad ∧ c.length = d.sz ∧ d.K w (xs.getD i.toNat z) c ∧ ∀ j u, c[j]? = some u → w.cell? (ad.add (i.toNat * d.sz + j)) = some u := ReadsRow.get_ h z i h0 h1
theorem R_appended {α : Type} {d : Kd α} {e base : Nat} {ok okp : Nat → Prop} {W w1 : World} {v v1 : Value} {xs : List α} {p : α} {inner cs : List Value} (h0 : ∀ k, v.ownBlock = some k → ok k) (hr : Reps (d.M W base (fun k => ok k ∧ some k ≠ v.ownBlock)) d.sz xs inner) (hp : d.M W base okp p cs) (hokp : ∀ k, okp k → ok k ∧ some k ≠ v.ownBlock) (hfresh : ∀ k, W.heap.size ≤ k → ok k)
  (hown : w1.ownsRow base e d.sz v1 (xs.length + 1) (inner ++ cs)) (hg : W.grownBy w1 v.ownBlock) (hat : v1.ownBlock = v.ownBlock ∨ ∃ b, v1.ownBlock = some b ∧ W.heap.size ≤ b) : d.R e w1 base ok v1 (xs ++ [p]) := by
 have hne : ∀ k, some k ≠ v.ownBlock → k < W.heap.size → some k ≠ v1.ownBlock := by
  intro k hk hlt
  rcases hat with hat | ⟨b, hb, hle⟩
  ·rw [hat]; exact hk
  ·rw [hb]
   intro he
   injection he with he
   omega
 have step : ∀ {q : α} {c : List Value} {o : Nat → Prop}, d.M W base o q c → (∀ k, o k → ok k ∧ some k ≠ v.ownBlock) → d.M w1 base (fun k => ok k ∧ some k ≠ v1.ownBlock) q c := by
  intro q c o hq ho
  have h1 := d.M_move (w1 := w1) (fun k hk => hg.block k hk.2.2.1 (ho k hk.1).2) (d.M_bound hq)
  exact d.M_mono (fun k hk => ⟨(ho k hk.1).1, hne k (ho k hk.1).2 hk.2.2.1⟩) h1
 refine ⟨fun k hk => ?_, inner ++ cs, by rw [List.length_append, List.length_singleton]; exact hown, ?_⟩
 ·rcases hat with hat | ⟨b, hb, hle⟩
  ·exact h0 k (hat ▸ hk)
  ·rw [hb] at hk
   injection hk with hk
   exact hfresh k (by omega)
 ·exact (hr.imp_ (fun _ _ hq => step hq (fun _ hk => hk))).snoc (step hp hokp) (d.K_len (d.K_of_M hp))
section
variable {P : Program} {ops : Array Oper} {rest : List Oper} {o : Oper} {a : Act} {Q : Exit → Act → World → Prop} {α : Type}
theorem R_append (d : Kd α) {w0 W : World} (base : Nat) (hgd : o.guard = none) (s x : Operand) (t e : TypeId) (z : Value) (bytes : Nat)
  (ho : o.op = .call { callee := .builtin .append, args := #[s, x], argTypes := #[t, t] })
  (ht : P.underlying t = some (.slice e)) (hinfo : (P.info? e).map (fun i => (i.zero, i.size, i.bytes)) = some (some z, d.sz, bytes)) (hz : z.cells.size = d.sz) (hs0 : 0 < d.sz) (hb0 : 0 < bytes)
  (v : Value) (xs : List α) (p : α) (cs : List Value) (ok okp : Nat → Prop) (hs : a.eval s = v) (hx : a.eval x = .slice (some ⟨W.heap.size, 0, none⟩) 1 1) (hp : d.M W base okp p cs) (hokp : ∀ k, okp k → ok k ∧ some k ≠ v.ownBlock) (hfresh : ∀ k, W.heap.size ≤ k → ok k)
  (HO : d.R e W base ok v xs) (HB : Below base w0 W) (hbase : base ≤ W.heap.size) (hl : (xs.length + 1) * bytes ≤ 140737488355328)
  (h : ∀ v1 w1, d.R e w1 base ok v1 (xs ++ [p]) → Below base w0 w1 → W.grownBy w1 v.ownBlock → (v1.ownBlock = v.ownBlock ∨ ∃ b, v1.ownBlock = some b ∧ W.heap.size ≤ b) → wpList P ops Q rest (a.put o.dst v1) w1) :
  wpList P ops Q (o :: rest) a (W.alloc (.cells cs.toArray e)) := by
 obtain ⟨h0, inner, hown, hr⟩ := HO
 refine print_append_cells base hgd s x t e z d.sz bytes ho ht hinfo hz hs0 hb0 v xs.length inner cs hs hx (d.K_len (d.K_of_M hp)) (d.K_one (d.K_of_M hp)) hown HB hbase hl ?_
 intro v1 w1 hown1 hb1 hg1 hat1
 exact h v1 w1 (R_appended h0 hr hp hokp hfresh hown1 hg1 hat1) hb1 hg1 hat1
end
section
variable {P : Program} {ops : Array Oper} {o : Oper} {a : Act} {Q : Exit → Act → World → Prop} {Kc : Act → World → Prop} {α : Type}
theorem R_append_step (d : Kd α) {w0 W : World} (base : Nat) (hw : Region.wanted o (yielded ops a.tmps) = true) (s x : Operand) (t e : TypeId) (z : Value) (bytes : Nat)
  (ho : o.op = .call { callee := .builtin .append, args := #[s, x], argTypes := #[t, t] })
  (ht : P.underlying t = some (.slice e)) (hinfo : (P.info? e).map (fun i => (i.zero, i.size, i.bytes)) = some (some z, d.sz, bytes)) (hz : z.cells.size = d.sz) (hs0 : 0 < d.sz) (hb0 : 0 < bytes)
  (v : Value) (xs : List α) (p : α) (cs : List Value) (ok okp : Nat → Prop) (hs : a.eval s = v) (hx : a.eval x = .slice (some ⟨W.heap.size, 0, none⟩) 1 1) (hp : d.M W base okp p cs) (hokp : ∀ k, okp k → ok k ∧ some k ≠ v.ownBlock) (hfresh : ∀ k, W.heap.size ≤ k → ok k)
  (HO : d.R e W base ok v xs) (HB : Below base w0 W) (hbase : base ≤ W.heap.size) (hl : (xs.length + 1) * bytes ≤ 140737488355328)
  (h : ∀ v1 w1, d.R e w1 base ok v1 (xs ++ [p]) → Below base w0 w1 → W.grownBy w1 v.ownBlock → (v1.ownBlock = v.ownBlock ∨ ∃ b, v1.ownBlock = some b ∧ W.heap.size ≤ b) → Kc (a.put o.dst v1) w1) :
  if Region.wanted o (yielded ops a.tmps) = true then Oper.wp P o a (W.alloc (.cells cs.toArray e)) Kc Q else Kc (a.put o.dst undef) (W.alloc (.cells cs.toArray e)) := by
 obtain ⟨h0, inner, hown, hr⟩ := HO
 refine step_append_cells base hw s x t e z d.sz bytes ho ht hinfo hz hs0 hb0 v xs.length inner cs hs hx (d.K_len (d.K_of_M hp)) (d.K_one (d.K_of_M hp)) hown HB hbase hl ?_
 intro v1 w1 hown1 hb1 hg1 hat1
 exact h v1 w1 (R_appended h0 hr hp hokp hfresh hown1 hg1 hat1) hb1 hg1 hat1
end
theorem reps_scalar {α : Type} {enc : α → Value} (xs : List α) : Reps (fun (x : α) (cs : List Value) => cs = [enc x]) 1 xs (encs enc xs) := by
 refine ⟨by simp [encs], fun j p hj => ?_⟩
 obtain ⟨hl, hp⟩ := List.getElem?_eq_some_iff.1 hj
 have hl' : j < (encs enc xs).length := by rw [encs_length]; exact hl
 rw [Nat.mul_one, List.drop_eq_getElem_cons hl']
 simp [encs, hp]
theorem R_of_own {α : Type} {enc : α → Value} {h1 : ∀ x, (enc x).oneCell' = true} {e : Nat} {w : World} {base : Nat} {ok : Nat → Prop} {v : Value} {xs : List α} (ho : w.ownsRow base e 1 v xs.length (encs enc xs)) (hok : ∀ k, v.ownBlock = some k → ok k) : (scalar enc h1).R e w base ok v xs := ⟨hok, encs enc xs, ho, reps_scalar xs⟩
theorem own_of_R {α : Type} {enc : α → Value} {h1 : ∀ x, (enc x).oneCell' = true} {e : Nat} {w : World} {base : Nat} {ok : Nat → Prop} {v : Value} {xs : List α} (h : (scalar enc h1).R e w base ok v xs) : w.ownsRow base e 1 v xs.length (encs enc xs) := by
 obtain ⟨_, inner, ho, hr⟩ := h
 have : inner = encs enc xs := by
  apply List.ext_getElem?
  intro j
  rcases Nat.lt_or_ge j xs.length with hj | hj
  ·have h2 := hr.2 j _ (List.getElem?_eq_getElem hj)
   have hl : j < inner.length := by have := hr.1; simp [scalar] at this; omega
   have h3 : (inner.drop (j * 1)).take 1 = [enc xs[j]] := h2
   rw [Nat.mul_one, List.drop_eq_getElem_cons hl] at h3
   have h4 : inner[j] = enc xs[j] := by
    have h5 := congrArg List.head? h3
    rw [List.take_succ_cons] at h5
    exact Option.some.inj h5
   rw [List.getElem?_eq_getElem hl, h4]
   simp [encs, List.getElem?_eq_getElem hj]
  ·have h3 : inner.length = xs.length := by have := hr.1; simp [scalar] at this; omega
   rw [List.getElem?_eq_none (by omega), List.getElem?_eq_none (by rw [encs_length]; omega)]
 rw [← this]
 exact ho
theorem C_of_reads {α : Type} {enc : α → Value} {d : α} {h1 : ∀ x, (enc x).oneCell' = true} {w : World} {A : Option Addr} {n : Nat} {xs : List α} (h : ReadsOf enc d w A n xs) : (scalar enc h1).C w A n xs := by
 refine ⟨h.1, h.2.1, fun hn => ?_⟩
 obtain ⟨ad, e, hc⟩ := h.2.2 hn
 refine ⟨ad, e, fun j p hj => ⟨[enc p], rfl, rfl, fun i u hu => ?_⟩⟩
 obtain ⟨hl, hp⟩ := List.getElem?_eq_some_iff.1 hj
 have h2 := hc j (by have := h.1; omega)
 rw [List.getD_eq_getElem?_getD, hj] at h2
 cases i with
 |zero =>
  have : enc p = u := by simpa using hu
  subst this
  simpa [scalar] using h2
 |succ i => simp at hu
theorem reads_of_C {α : Type} {enc : α → Value} {d : α} {h1 : ∀ x, (enc x).oneCell' = true} {w : World} {A : Option Addr} {n : Nat} {xs : List α} (h : (scalar enc h1).C w A n xs) : ReadsOf enc d w A n xs := by
 refine ⟨h.1, h.2.1, fun hn => ?_⟩
 obtain ⟨ad, e, hc⟩ := h.2.2 hn
 refine ⟨ad, e, fun j hj => ?_⟩
 have hl : j < xs.length := by have := h.1; omega
 obtain ⟨c, _, hK, hcell⟩ := hc j _ (List.getElem?_eq_getElem hl)
 have hK' : c = [enc xs[j]] := hK
 subst hK'
 have := hcell 0 _ rfl
 simpa [scalar, List.getD_eq_getElem?_getD, List.getElem?_eq_getElem hl] using this
end Kd
namespace Kd
end Kd
namespace Kd
theorem R_after {α : Type} {d : Kd α} {e base : Nat} {ok : Nat → Prop} {W w1 : World} {u v v1 : Value} {xs : List α} (h : d.R e W base (fun k => ok k ∧ some k ≠ v.ownBlock) u xs) (hg : W.grownBy w1 v.ownBlock) (hat : v1.ownBlock = v.ownBlock ∨ ∃ b, v1.ownBlock = some b ∧ W.heap.size ≤ b) : d.R e w1 base (fun k => ok k ∧ some k ≠ v1.ownBlock) u xs := by
 refine R_mono (R_move (R_bound h) (fun k hk => hg.block k hk.2.2.1 hk.1.2)) (fun k hk => ⟨hk.1.1, ?_⟩)
 rcases hat with hat | ⟨b, hb, hle⟩
 ·rw [hat]; exact hk.1.2
 ·rw [hb]
  intro he
  injection he with he
  have := hk.2.2.1
  omega
end Kd
namespace Kd
section
variable {α β : Type} {d : Kd α} {d' : Kd β} {e e' : Nat} {w w1 W : World} {base b b' : Nat} {ok ok' okv oku : Nat → Prop} {v u : Value} {xs : List α} {ys : List β}
theorem R_drew (h : d.R e w base ok v xs) : d.R e w.drew base ok v xs := R_below h (below_drew (Below.refl _ _))
theorem R_drewN (h : d.R e w base ok v xs) (m : Nat) : d.R e (w.drewN m) base ok v xs := R_below h (pw_below_drewN (Below.refl _ _) m)
theorem R_reads' {A : Option Addr} {n c : Nat} (h : d.R e w base ok (.slice A n c) xs) : n = xs.length ∧ n ≤ c ∧ d.C w A xs.length xs := by
 obtain ⟨A', c', he, hl, hr⟩ := R_reads h
 injection he with h1 h2 h3
 subst h1
 exact ⟨h2, by omega, hr⟩
theorem R_lt (h : d.R e w base ok v xs) : ∀ k, v.ownBlock = some k → k < w.heap.size := by
 obtain ⟨inner, ho⟩ := R_own h
 exact own_lt ho
theorem R_base (h : d.R e w base ok v xs) : ∀ k, v.ownBlock = some k → base ≤ k := by
 obtain ⟨inner, ho⟩ := R_own h
 exact own_base ho
theorem R_form (h : d.R e w base ok v xs) (hp : 0 < xs.length) : ∃ g cap, v = .slice (some ⟨g, 0, none⟩) xs.length cap ∧ base ≤ g ∧ g < w.heap.size ∧ ∃ cells, w.heap[g]? = some (.cells cells e (0, 0)) := by
 obtain ⟨inner, ho⟩ := R_own h
 obtain ⟨g, cap, he, hb, hl⟩ := ho.form hp
 obtain ⟨cells, hc⟩ := own_typed ho g (by rw [he]; simp [Value.ownBlock])
 exact ⟨g, cap, he, hb, hl, cells, hc⟩
end
section
variable {w W : World} {A : Option Addr} {n : Nat}
theorem at_int {k : IntKind} {xs : List Int} (h : (Kd.int k).C w A n xs) (i : Int) (h0 : 0 ≤ i) (h1 : i < n) : ∃ ad, A = some ad ∧ w.cell? (ad.add i.toNat) = some (.int k (rd xs i)) :=
 ReadsOf.at_ (reads_of_C (enc := Value.int k) (d := (0 : Int)) (h1 := fun _ => rfl) h) i h0 h1
variable {α : Type} {enc : α → Value} {h1 : ∀ x, (enc x).oneCell' = true} {e base g cap : Nat} {ok : Nat → Prop} {xs : List α}
theorem R_cell (d : α) (h : (scalar enc h1).R e W base ok (.slice (some ⟨g, 0, none⟩) xs.length cap) xs) (i : Int) (h0 : 0 ≤ i) (hi : i < xs.length) : W.cell? ⟨g, i.toNat, none⟩ = some (enc (rdOf d xs i)) ∧ W.frozen? ⟨g, i.toNat, none⟩ = false := own_at_of (own_of_R h) i h0 hi
theorem R_put (h : (scalar enc h1).R e W base ok (.slice (some ⟨g, 0, none⟩) xs.length cap) xs) (i : Int) (x : α) : (scalar enc h1).R e (W.setCell ⟨g, i.toNat, none⟩ (enc x)) base ok (.slice (some ⟨g, 0, none⟩) xs.length cap) (xs.set i.toNat x) ∧ W.grownBy (W.setCell ⟨g, i.toNat, none⟩ (enc x)) (some g) := by
 obtain ⟨ho, hg⟩ := own_store_of (own_of_R h) i x
 exact ⟨R_of_own (by rw [List.length_set]; exact ho) h.1, hg⟩
end
section
variable {P : Program} {ops : Array Oper} {rest : List Oper} {o : Oper} {a : Act} {Q : Exit → Act → World → Prop}
theorem event_run {W w1 : World} {v : Value} (hgd : o.guard = none) (hrun : (execOp a.eval o).run P W = .ok (.value v) w1) (h : wpList P ops Q rest (a.put o.dst v) w1) : wpList P ops Q (o :: rest) a W := by
 refine wpList_plain hgd fun K hK => ?_
 unfold Oper.wp
 rw [hrun]
 exact hK _ _ h
variable {α : Type}
theorem R_lit (d : Kd α) {w0 W : World} (base e : Nat) (hgd : o.guard = none) {N : Tmp} (_hd : o.dst = some N) {xs : List α} {inner : List Value} {ok okp : Nat → Prop}
  (hrun : (execOp a.eval o).run P W = .ok (.value (.slice (some ⟨W.heap.size, 0, none⟩) xs.length xs.length)) (W.alloc (.cells inner.toArray e)))
  (hrep : Reps (d.M W base okp) d.sz xs inner) (hok : ∀ k, okp k → ok k) (hfresh : ok W.heap.size) (HB : Below base w0 W) (hbase : base ≤ W.heap.size) (hm : xs.length ≤ 9223372036854775807)
  (h : ∀ v1 w1, d.R e w1 base ok v1 xs → Below base w0 w1 → W.grownBy w1 none → (∃ b, v1.ownBlock = some b ∧ W.heap.size ≤ b) → wpList P ops Q rest (a.put o.dst v1) w1) : wpList P ops Q (o :: rest) a W := by
 refine event_run hgd hrun (h _ _ ⟨fun k hk => ?_, inner, ?_, ?_⟩ (HB.alloc hbase _) (World.grownBy_alloc W _ none) ⟨W.heap.size, by simp [Value.ownBlock], Nat.le_refl _⟩)
 ·have : W.heap.size = k := by simpa [Value.ownBlock] using hk
  subst this
  exact hfresh
 ·have h2 := World.ownsRow_lit (base := base) (e := e) (size := d.sz) W inner.toArray xs.length hbase (by simpa [maxLen] using hm) (by simpa using hrep.1)
  simpa using h2
 ·refine hrep.imp_ (fun p c hp => d.M_mono (fun k hk => ⟨hok k hk.1, fun he => ?_⟩) (M_below (d.M_bound hp) (below_alloc (Below.refl _ _) _)))
  have h3 : k = W.heap.size := by simpa [Value.ownBlock] using he
  have := hk.2.2.1
  omega
theorem reps_made {α : Type} {R : α → List Value → Prop} {z : Value} {size : Nat} {z0 : α} (hz : z.cells.size = size) (hs : 0 < size) (h0 : R z0 z.cells.toList) (m : Nat) : Reps R size (List.replicate m z0) (madeCells z.cells (m * size)).toList := by
 refine ⟨by simp [size_madeCells], fun j p hj => ?_⟩
 obtain ⟨hjl, hp⟩ := List.getElem?_eq_some_iff.1 hj
 have hjm : j < m := by simpa using hjl
 have hp' : z0 = p := by simpa using hp
 subst hp'
 have hle : j * size + size ≤ m * size := by rw [← Nat.succ_mul]; exact Nat.mul_le_mul_right _ hjm
 have : ((madeCells z.cells (m * size)).toList.drop (j * size)).take size = z.cells.toList := by
  apply List.ext_getElem
  ·simp [size_madeCells, hz]
   omega
  ·intro i h1 h2
   have hi : i < size := by rw [Array.length_toList, hz] at h2; exact h2
   have hmod : (j * size + i) % size = i := by
    rw [Nat.mul_comm, Nat.mul_add_mod]
    exact Nat.mod_eq_of_lt hi
   simp [madeCells, hz, hmod]
   rw [getElem!_pos z.cells i (by omega)]
 rw [this]
 exact h0
theorem R_make (d : Kd α) {w0 W : World} (base e : Nat) (hgd : o.guard = none) {N : Tmp} (hd : o.dst = some N) (t : TypeId) (x y : Operand) (ho : o.op = .makeSlice t x y) (n : Int) (hx : a.eval x = .int .i64 n) (hy : a.eval y = .int .i64 n)
  (ht : P.underlying t = some (.slice e)) (z : Value) (bytes : Nat) (hinfo : (P.info? e).map (fun i => (i.zero, i.size, i.bytes)) = some (some z, d.sz, bytes)) (hz : z.cells.size = d.sz) (hs0 : 0 < d.sz) (hb0 : 0 < bytes)
  (z0 : α) {ok okp : Nat → Prop} (hzero : d.M W base okp z0 z.cells.toList) (hok : ∀ k, okp k → ok k) (hfresh : ok W.heap.size) (h0 : 0 ≤ n) (hl : n.toNat * bytes ≤ 281474976710656) (HB : Below base w0 W) (hbase : base ≤ W.heap.size)
  (h : ∀ v1 w1, d.R e w1 base ok v1 (List.replicate n.toNat z0) → Below base w0 w1 → W.grownBy w1 none → (∃ b, v1.ownBlock = some b ∧ W.heap.size ≤ b) → wpList P ops Q rest (a.put o.dst v1) w1) : wpList P ops Q (o :: rest) a W := by
 obtain ⟨m, rfl⟩ := Int.eq_ofNat_of_zero_le h0
 simp only [Int.toNat_natCast] at hl h
 obtain ⟨i0, hi, hzz⟩ := Option.map_eq_some_iff.1 hinfo
 simp only [Prod.mk.injEq] at hzz
 obtain ⟨hz0, hz1, hz2⟩ := hzz
 have hm : m ≤ 281474976710656 := Nat.le_trans (Nat.le_mul_of_pos_right _ hb0) hl
 have hr := run_make (P := P) W t e i0 z ht hi hz0 .i64 .i64 (m : Int) (m : Int) (by omega) (by omega)
  (by
   have h3 : ((i0.bytes * m : Nat) : Int) ≤ 281474976710656 := by rw [hz2, Nat.mul_comm]; omega
   rwa [Int.natCast_mul] at h3) (by omega)
 simp only [Int.toNat_natCast] at hr
 rw [hz1] at hr
 refine R_lit d base e hgd hd (xs := List.replicate m z0) (inner := (madeCells z.cells (m * d.sz)).toList) (okp := okp) (ok := ok) ?_ (reps_made hz hs0 hzero m) hok hfresh HB hbase (by simp; omega) h
 simp [execOp, ho, hx, hy, hr]
end
end Kd
section
variable {w w1 : World} {base n size : Nat} {e : TypeId} {v : Value} {xs : List Value}
theorem add_at (g o j : Nat) : (⟨g, o, none⟩ : Addr).add j = ⟨g, o + j, none⟩ := by unfold Addr.add; split <;> simp_all
end
namespace Kd
end Kd
namespace Kd
section
variable {α : Type} {d : Kd α} {e e' : Nat} {w w1 W : World} {base : Nat} {ok : Nat → Prop} {u v : Value} {xs : List α}
theorem R_elder' (hu : d.R e W base ok u xs) (hbase : ∀ k, v.ownBlock = some k → W.heap.size ≤ k) (hb : Below W.heap.size W w1) : d.R e w1 base (fun k => ok k ∧ some k ≠ v.ownBlock) u xs :=
 R_mono (R_move (R_bound hu) (fun k hk => hb.block k hk.2.2.1)) (fun k hk => ⟨hk.1, fun he => by have := hbase k he.symm; have := hk.2.2.1; omega⟩)
theorem R_new' (h : d.R e w1 W.heap.size ok v xs) (hlt : ∀ k, u.ownBlock = some k → k < W.heap.size) : d.R e w1 W.heap.size (fun k => ok k ∧ some k ≠ u.ownBlock) v xs :=
 R_mono (R_bound h) (fun k hk => ⟨hk.1, fun he => by have := hlt k he.symm; have := hk.2.1; omega⟩)
end
end Kd
namespace Kd
end Kd
namespace Kd
end Kd
namespace Kd
theorem reps_append {α : Type} {R : α → List Value → Prop} {size : Nat} {ps qs : List α} {cs ds : List Value} (h : Reps R size ps cs) (h' : Reps R size qs ds) : Reps R size (ps ++ qs) (cs ++ ds) := by
 refine ⟨by rw [List.length_append, List.length_append, h.1, h'.1, Nat.add_mul], fun j p hj => ?_⟩
 rcases Nat.lt_or_ge j ps.length with hlt | hge
 ·rw [List.getElem?_append_left hlt] at hj
  have hle : j * size + size ≤ cs.length := by rw [h.1, ← Nat.succ_mul]; exact Nat.mul_le_mul_right _ hlt
  rw [List.drop_append_of_le_length (by omega), List.take_append_of_le_length (by rw [List.length_drop]; omega)]
  exact h.2 j p hj
 ·rw [List.getElem?_append_right hge] at hj
  have h2 := h'.2 (j - ps.length) p hj
  have hle : ps.length * size ≤ j * size := Nat.mul_le_mul_right _ hge
  rw [List.drop_append, List.drop_eq_nil_of_le (by rw [h.1]; exact hle), List.nil_append, h.1, ← Nat.sub_mul]
  exact h2
section
variable {P : Program} {ops : Array Oper} {rest : List Oper} {o : Oper} {a : Act} {Q : Exit → Act → World → Prop} {α : Type}
theorem R_append_rows (d : Kd α) {Rr : α → List Value → Prop} {w0 W : World} (base : Nat) (hgd : o.guard = none) (s x : Operand) (t e : TypeId) (z : Value) (bytes : Nat)
  (ho : o.op = .call { callee := .builtin .append, args := #[s, x], argTypes := #[t, t] })
  (ht : P.underlying t = some (.slice e)) (hinfo : (P.info? e).map (fun i => (i.zero, i.size, i.bytes)) = some (some z, d.sz, bytes)) (hz : z.cells.size = d.sz) (hs0 : 0 < d.sz) (hb0 : 0 < bytes)
  (v : Value) (xs ys : List α) (A : Option Addr) (m c : Nat) (ok okp : Nat → Prop) (hs : a.eval s = v) (hx : a.eval x = .slice A m c)
  (HO : d.R e W base ok v xs) (HR : ReadsRow Rr d.sz W A m ys) (hKM : ∀ x cs, Rr x cs → d.M W base okp x cs) (hokp : ∀ k, okp k → ok k ∧ some k ≠ v.ownBlock) (hfresh : ∀ k, W.heap.size ≤ k → ok k)
  (HB : Below base w0 W) (hbase : base ≤ W.heap.size) (hl : (xs.length + m) * bytes ≤ 140737488355328)
  (h : ∀ v1 w1, d.R e w1 base ok v1 (xs ++ ys) → Below base w0 w1 → W.grownBy w1 v.ownBlock → (v1.ownBlock = v.ownBlock ∨ ∃ b, v1.ownBlock = some b ∧ W.heap.size ≤ b) → wpList P ops Q rest (a.put o.dst v1) w1) :
  wpList P ops Q (o :: rest) a W := by
 obtain ⟨i0, hi, hzz⟩ := Option.map_eq_some_iff.1 hinfo
 simp only [Prod.mk.injEq] at hzz
 obtain ⟨hz0, hz1, hz2⟩ := hzz
 have hm : ys.length = m := HR.1
 have hlen : xs.length + m ≤ 140737488355328 := Nat.le_trans (Nat.le_mul_of_pos_right _ hb0) hl
 obtain ⟨hok, inner, hown, hr⟩ := HO
 have hrun : ∃ v1 w1, (Builtin.append_ #[t, t] o.type #[v, .slice A m c]).run P W = .ok v1 w1 ∧ d.R e w1 base ok v1 (xs ++ ys) ∧ W.grownBy w1 v.ownBlock ∧ (v1.ownBlock = v.ownBlock ∨ ∃ b, v1.ownBlock = some b ∧ W.heap.size ≤ b) := by
  rcases A with _ | ad
  ·have h0 : m = 0 := by
    rcases Nat.eq_zero_or_pos m with h0 | h0
    ·exact h0
    ·obtain ⟨ad, h, _⟩ := HR.2.2 h0
     cases h
   subst h0
   obtain rfl : ys = [] := List.eq_nil_of_length_eq_zero hm
   refine ⟨v, W, ?_, by rw [List.append_nil]; exact ⟨hok, inner, hown, hr⟩, World.grownBy.refl W _, .inl rfl⟩
   rcases hown.2 with ⟨rfl, hn⟩ | ⟨g, cap, cur, rfl, _, _, hnc, _⟩
   ·simp [Builtin.append_, run_underlying ht, sizeOf, typeInfo, hi, Builtin.lenOf, Builtin.firstCells]
   ·simp [Builtin.append_, run_underlying ht, sizeOf, typeInfo, hi, Builtin.lenOf, Builtin.firstCells, hnc, storeCells]
  ·obtain ⟨news, hnr, hnc⟩ := ReadsRow.inner_ HR
   have hnM : Reps (d.M W base okp) d.sz ys news := hnr.imp_ (fun p c hp => hKM p c hp)
   have hone : ∀ u ∈ news, u.oneCell' = true := by
    intro u hu
    obtain ⟨q, hq, rfl⟩ := List.mem_iff_getElem.1 hu
    have hql : q / d.sz < ys.length := by
     rw [Nat.div_lt_iff_lt_mul hs0]
     rw [← hnM.1]
     exact hq
    have hc := hnM.2 (q / d.sz) _ (List.getElem?_eq_getElem hql)
    refine d.K_one (d.K_of_M hc) _ ?_
    rw [List.mem_iff_getElem?]
    refine ⟨q % d.sz, ?_⟩
    rw [List.getElem?_take, if_pos (Nat.mod_lt _ hs0), List.getElem?_drop, Nat.mul_comm, Nat.div_add_mod, List.getElem?_eq_getElem hq]
   obtain ⟨v1, w1, hrun, h2, hg, _, hat⟩ := run_append_own_at (P := P) W base t o.type e i0 z d.sz bytes ht hi hz0 hz1 hz2 hz hs0 v xs.length inner hown ad m c news (by rw [hnM.1, hm]) hnc hone (by simp only [maxLen]; omega) hl hbase
   have hat' : v1.ownBlock = v.ownBlock ∨ ∃ b, v1.ownBlock = some b ∧ W.heap.size ≤ b := by
    rcases hat with hat | hat
    ·exact .inl hat
    ·exact .inr ⟨_, hat, Nat.le_refl _⟩
   have hne : ∀ k, some k ≠ v.ownBlock → k < W.heap.size → some k ≠ v1.ownBlock := by
    intro k hk hlt
    rcases hat' with hat | ⟨b, hb, hle⟩
    ·rw [hat]; exact hk
    ·rw [hb]
     intro he
     injection he with he
     omega
   have step : ∀ {q : α} {c : List Value} {o : Nat → Prop}, d.M W base o q c → (∀ k, o k → ok k ∧ some k ≠ v.ownBlock) → d.M w1 base (fun k => ok k ∧ some k ≠ v1.ownBlock) q c := by
    intro q c o hq ho
    have h1 := d.M_move (w1 := w1) (fun k hk => hg.block k hk.2.2.1 (ho k hk.1).2) (d.M_bound hq)
    exact d.M_mono (fun k hk => ⟨(ho k hk.1).1, hne k (ho k hk.1).2 hk.2.2.1⟩) h1
   refine ⟨v1, w1, hrun, ⟨fun k hk => ?_, inner ++ news, by rw [List.length_append, hm]; exact h2, reps_append (hr.imp_ (fun _ _ hq => step hq (fun _ hk => hk))) (hnM.imp_ (fun _ _ hq => step hq hokp))⟩, hg, hat'⟩
   rcases hat' with hat | ⟨b, hb, hle⟩
   ·exact hok k (hat ▸ hk)
   ·rw [hb] at hk
    injection hk with hk
    exact hfresh k (by omega)
 obtain ⟨v1, w1, hr1, h1, hg, hat⟩ := hrun
 refine wpList_plain hgd fun K hK => ?_
 unfold Oper.wp execOp
 simp only [ho, resolve, invoke, builtin, Sem.run_bind, Sem.run_pure, Result.andThen_ok, List.map_toArray, List.map_cons, List.map_nil, hs, hx, hr1]
 exact hK _ _ (h v1 w1 h1 (HB.grown hg hbase (own_base hown)) hg hat)
end
end Kd
namespace Kd
end Kd
namespace Kd
end Kd
theorem below_size {w W : World} (h : Below w.heap.size w W) : w.heap.size ≤ W.heap.size := h.size
theorem below_step {w W w2 : World} (h : Below w.heap.size w W) (k : Below W.heap.size W w2) : Below w.heap.size w w2 := below_then h h.size k
theorem ReadsInt.nil (W : World) (k : IntKind) : ReadsInt W k none ([] : List Int).length [] := ⟨rfl, by simp, fun h => absurd h (Nat.lt_irrefl 0)⟩
theorem ReadsInt.ofRow {k : IntKind} {w : World} {a : Option Addr} {len cap : Nat} {zs : List Int} (h : (a = none ∧ len = 0 ∧ cap = 0 ∧ zs = []) ∨ ∃ x, a = some x ∧ len ≤ cap ∧ cap ≤ maxLen ∧ zs.length = cap ∧ (∀ i, i < zs.length → w.cell? (x.add i) = some (.int k (zs.getD i 0))) ∧ ∀ n ∈ zs, (Lit.int k n).wf = true) :
  ∃ l : List Int, len = l.length ∧ ReadsInt w k a l.length l ∧ l.length ≤ maxLen ∧ ∀ x ∈ l, (Lit.int k x).wf = true := by
 rcases h with ⟨rfl, rfl, rfl, rfl⟩ | ⟨x, rfl, hl, hm, hz, hc, hw⟩
 ·exact ⟨[], rfl, ReadsInt.nil _ _, Nat.zero_le _, fun x hx => by simp at hx⟩
 ·have e : (zs.take len).length = len := by simp; omega
  have hm' : len ≤ maxLen := Nat.le_trans hl hm
  refine ⟨zs.take len, e.symm, ⟨rfl, by rw [e]; simpa [maxLen] using hm', fun _ => ⟨x, rfl, fun j hj => ?_⟩⟩, by rw [e]; exact hm', fun y hy => hw y (List.mem_of_mem_take hy)⟩
  rw [e] at hj
  rw [hc j (by omega)]
  simp [List.getD, List.getElem?_take, hj]
theorem below_set {w W : World} {g j : Nat} {v : Value} (h : Below w.heap.size w W) (hg : w.heap.size ≤ g) : Below w.heap.size w (W.setCell ⟨g, j, none⟩ v) := h.setCell hg _
theorem blk_put {w : World} {g : Nat} {t : TypeId} {cs cs' : Array Value} (h : w.heap[g]? = some (.cells cs t (0, 0))) (i : Nat) (u : Value) (e : cs.setIfInBounds i u = cs') : (w.setCell ⟨g, i, none⟩ u).heap[g]? = some (.cells cs' t (0, 0)) := e ▸ blk_set h i u
theorem ReadsInt.ofRowC {k : IntKind} {w : World} {a : Option Addr} {len cap : Nat} {zs : List Int} (h : (a = none ∧ len = 0 ∧ cap = 0 ∧ zs = []) ∨ ∃ x, a = some x ∧ len ≤ cap ∧ cap ≤ maxLen ∧ zs.length = cap ∧ (∀ i, i < zs.length → w.cell? (x.add i) = some (.int k (zs.getD i 0))) ∧ ∀ n ∈ zs, (Lit.int k n).wf = true) :
  ∃ l : List Int, len = l.length ∧ ReadsInt w k a l.length l ∧ l.length ≤ maxLen ∧ (∀ x ∈ l, (Lit.int k x).wf = true) ∧ l.length ≤ cap := by
 have hl : len ≤ cap := by
  rcases h with ⟨_, rfl, rfl, _⟩ | ⟨_, _, h, _⟩
  ·exact Nat.le_refl _
  ·exact h
 obtain ⟨l, e, h1, h2, h3⟩ := ReadsInt.ofRow h
 exact ⟨l, e, h1, h2, h3, e ▸ hl⟩
theorem below_drew1 {base : Nat} {w W : World} (h : Below base w W) : Below base w W.drew := h.drew
namespace Kd
end Kd
namespace Kd
section
variable {α : Type} {d : Kd α} {e base g : Nat} {ok : Nat → Prop} {w w1 : World} {v : Value} {xs : List α} {o : Obj}
theorem freshB (hb : w.heap[g]? = some o) : ∀ k, w.heap.size ≤ k → k ≠ g := fun k hk => by have := blk_lt hb; omega
end
end Kd
section
variable {P : Program} {ops : Array Oper} {rest : List Oper} {o : Oper} {a : Act} {Q : Exit → Act → World → Prop}
theorem box_event {W : World} (hgd : o.guard = none) {N : Tmp} (_hd : o.dst = some N) {cs : Array Value} {t : TypeId}
  (hrun : (execOp a.eval o).run P W = .ok (.value (.pointer (some ⟨W.heap.size, 0, none⟩))) (W.alloc (.cells cs t (0, 0))))
  (h : ∀ g, g = W.heap.size → ∀ w1, w1.heap[g]? = some (.cells cs t (0, 0)) → Below W.heap.size W w1 → wpList P ops Q rest (a.put o.dst (.pointer (some ⟨g, 0, none⟩))) w1) : wpList P ops Q (o :: rest) a W :=
 Kd.event_run hgd hrun (h _ rfl _ (blk_new W _) (below_alloc (Below.refl _ _) _))
end
namespace Kd
section
variable {α : Type} {enc : α → Value} {h1 : ∀ x, (enc x).oneCell' = true} {e base g n cap : Nat} {ok : Nat → Prop} {W : World} {xs : List α}
theorem R_celln (d : α) (h : (scalar enc h1).R e W base ok (.slice (some ⟨g, 0, none⟩) n cap) xs) (i : Int) (h0 : 0 ≤ i) (hi : i < n) : W.cell? ⟨g, i.toNat, none⟩ = some (enc (rdOf d xs i)) ∧ W.frozen? ⟨g, i.toNat, none⟩ = false := by
 obtain ⟨rfl, _⟩ := R_reads' h
 exact R_cell d h i h0 hi
theorem R_putn (h : (scalar enc h1).R e W base ok (.slice (some ⟨g, 0, none⟩) n cap) xs) (i : Int) (x : α) : (scalar enc h1).R e (W.setCell ⟨g, i.toNat, none⟩ (enc x)) base ok (.slice (some ⟨g, 0, none⟩) n cap) (xs.set i.toNat x) := by
 obtain ⟨rfl, _⟩ := R_reads' h
 exact (R_put h i x).1
end
end Kd
section
variable {P : Program} {ops : Array Oper} {rest : List Oper} {o : Oper} {a : Act} {Q : Exit → Act → World → Prop}
theorem store_event {W w1 : World} (hgd : o.guard = none) {t : TypeId} {p : Tmp} {v : Operand} (_ho : o.op = .store t (.tmp p) v) (hN : o.dst = none)
  (hrun : (execOp a.eval o).run P W = .ok .skip w1) (h : ∀ w', w' = w1 → wpList P ops Q rest a w') : wpList P ops Q (o :: rest) a W := by
 refine wpList_plain hgd fun K hK => ?_
 unfold Oper.wp
 rw [hrun]
 show K (a.put o.dst undef) w1
 rw [hN]
 exact hK _ _ (h _ rfl)
end
namespace Kd
section
variable {α : Type} {enc : α → Value} {h1 : ∀ x, (enc x).oneCell' = true} {e base g n cap : Nat} {ok : Nat → Prop} {W : World} {xs : List α}
theorem R_putg (h : (scalar enc h1).R e W base ok (.slice (some ⟨g, 0, none⟩) n cap) xs) (i : Int) (x : α) : (scalar enc h1).R e (W.setCell ⟨g, i.toNat, none⟩ (enc x)) base ok (.slice (some ⟨g, 0, none⟩) n cap) (xs.set i.toNat x) ∧ W.grownBy (W.setCell ⟨g, i.toNat, none⟩ (enc x)) (some g) := by
 obtain ⟨rfl, _⟩ := R_reads' h
 exact R_put h i x
end
end Kd
section
variable {P : Program} {ops : Array Oper} {rest : List Oper} {o : Oper} {a : Act} {Q : Exit → Act → World → Prop} {W : World}
theorem gate_dst {N : Tmp} (_hN : o.dst = some N) (h : wpList P ops Q (o :: rest) a W) : wpList P ops Q (o :: rest) a W := h
theorem gate_store {t : TypeId} {p : Tmp} {v : Operand} (_ho : o.op = .store t (.tmp p) v) (h : wpList P ops Q (o :: rest) a W) : wpList P ops Q (o :: rest) a W := h
end
section
variable {P : Program} {ops : Array Oper} {o : Oper} {a : Act} {Q : Exit → Act → World → Prop} {Kc : Act → World → Prop}
namespace Kd
variable {α : Type}
theorem R_append_rows_step (d : Kd α) {Rr : α → List Value → Prop} {w0 W : World} (base : Nat) (hw : Region.wanted o (yielded ops a.tmps) = true) (s x : Operand) (t e : TypeId) (z : Value) (bytes : Nat)
  (ho : o.op = .call { callee := .builtin .append, args := #[s, x], argTypes := #[t, t] })
  (ht : P.underlying t = some (.slice e)) (hinfo : (P.info? e).map (fun i => (i.zero, i.size, i.bytes)) = some (some z, d.sz, bytes)) (hz : z.cells.size = d.sz) (hs0 : 0 < d.sz) (hb0 : 0 < bytes)
  (v : Value) (xs ys : List α) (A : Option Addr) (m c : Nat) (ok okp : Nat → Prop) (hs : a.eval s = v) (hx : a.eval x = .slice A m c)
  (HO : d.R e W base ok v xs) (HR : ReadsRow Rr d.sz W A m ys) (hKM : ∀ x cs, Rr x cs → d.M W base okp x cs) (hokp : ∀ k, okp k → ok k ∧ some k ≠ v.ownBlock) (hfresh : ∀ k, W.heap.size ≤ k → ok k)
  (HB : Below base w0 W) (hbase : base ≤ W.heap.size) (hl : (xs.length + m) * bytes ≤ 140737488355328)
  (h : ∀ v1 w1, d.R e w1 base ok v1 (xs ++ ys) → Below base w0 w1 → W.grownBy w1 v.ownBlock → (v1.ownBlock = v.ownBlock ∨ ∃ b, v1.ownBlock = some b ∧ W.heap.size ≤ b) → Kc (a.put o.dst v1) w1) :
  if Region.wanted o (yielded ops a.tmps) = true then Oper.wp P o a W Kc Q else Kc (a.put o.dst undef) W := by
 obtain ⟨i0, hi, hzz⟩ := Option.map_eq_some_iff.1 hinfo
 simp only [Prod.mk.injEq] at hzz
 obtain ⟨hz0, hz1, hz2⟩ := hzz
 have hm : ys.length = m := HR.1
 have hlen : xs.length + m ≤ 140737488355328 := Nat.le_trans (Nat.le_mul_of_pos_right _ hb0) hl
 obtain ⟨hok, inner, hown, hr⟩ := HO
 have hrun : ∃ v1 w1, (Builtin.append_ #[t, t] o.type #[v, .slice A m c]).run P W = .ok v1 w1 ∧ d.R e w1 base ok v1 (xs ++ ys) ∧ W.grownBy w1 v.ownBlock ∧ (v1.ownBlock = v.ownBlock ∨ ∃ b, v1.ownBlock = some b ∧ W.heap.size ≤ b) := by
  rcases A with _ | ad
  ·have h0 : m = 0 := by
    rcases Nat.eq_zero_or_pos m with h0 | h0
    ·exact h0
    ·obtain ⟨ad, h, _⟩ := HR.2.2 h0
     cases h
   subst h0
   obtain rfl : ys = [] := List.eq_nil_of_length_eq_zero hm
   refine ⟨v, W, ?_, by rw [List.append_nil]; exact ⟨hok, inner, hown, hr⟩, World.grownBy.refl W _, .inl rfl⟩
   rcases hown.2 with ⟨rfl, hn⟩ | ⟨g, cap, cur, rfl, _, _, hnc, _⟩
   ·simp [Builtin.append_, run_underlying ht, sizeOf, typeInfo, hi, Builtin.lenOf, Builtin.firstCells]
   ·simp [Builtin.append_, run_underlying ht, sizeOf, typeInfo, hi, Builtin.lenOf, Builtin.firstCells, hnc, storeCells]
  ·obtain ⟨news, hnr, hnc⟩ := ReadsRow.inner_ HR
   have hnM : Reps (d.M W base okp) d.sz ys news := hnr.imp_ (fun p c hp => hKM p c hp)
   have hone : ∀ u ∈ news, u.oneCell' = true := by
    intro u hu
    obtain ⟨q, hq, rfl⟩ := List.mem_iff_getElem.1 hu
    have hql : q / d.sz < ys.length := by
     rw [Nat.div_lt_iff_lt_mul hs0]
     rw [← hnM.1]
     exact hq
    have hc := hnM.2 (q / d.sz) _ (List.getElem?_eq_getElem hql)
    refine d.K_one (d.K_of_M hc) _ ?_
    rw [List.mem_iff_getElem?]
    refine ⟨q % d.sz, ?_⟩
    rw [List.getElem?_take, if_pos (Nat.mod_lt _ hs0), List.getElem?_drop, Nat.mul_comm, Nat.div_add_mod, List.getElem?_eq_getElem hq]
   obtain ⟨v1, w1, hrun, h2, hg, _, hat⟩ := run_append_own_at (P := P) W base t o.type e i0 z d.sz bytes ht hi hz0 hz1 hz2 hz hs0 v xs.length inner hown ad m c news (by rw [hnM.1, hm]) hnc hone (by simp only [maxLen]; omega) hl hbase
   have hat' : v1.ownBlock = v.ownBlock ∨ ∃ b, v1.ownBlock = some b ∧ W.heap.size ≤ b := by
    rcases hat with hat | hat
    ·exact .inl hat
    ·exact .inr ⟨_, hat, Nat.le_refl _⟩
   have hne : ∀ k, some k ≠ v.ownBlock → k < W.heap.size → some k ≠ v1.ownBlock := by
    intro k hk hlt
    rcases hat' with hat | ⟨b, hb, hle⟩
    ·rw [hat]; exact hk
    ·rw [hb]
     intro he
     injection he with he
     omega
   have step : ∀ {q : α} {c : List Value} {o : Nat → Prop}, d.M W base o q c → (∀ k, o k → ok k ∧ some k ≠ v.ownBlock) → d.M w1 base (fun k => ok k ∧ some k ≠ v1.ownBlock) q c := by
    intro q c o hq ho
    have h1 := d.M_move (w1 := w1) (fun k hk => hg.block k hk.2.2.1 (ho k hk.1).2) (d.M_bound hq)
    exact d.M_mono (fun k hk => ⟨(ho k hk.1).1, hne k (ho k hk.1).2 hk.2.2.1⟩) h1
   refine ⟨v1, w1, hrun, ⟨fun k hk => ?_, inner ++ news, by rw [List.length_append, hm]; exact h2, reps_append (hr.imp_ (fun _ _ hq => step hq (fun _ hk => hk))) (hnM.imp_ (fun _ _ hq => step hq hokp))⟩, hg, hat'⟩
   rcases hat' with hat | ⟨b, hb, hle⟩
   ·exact hok k (hat ▸ hk)
   ·rw [hb] at hk
    injection hk with hk
    exact hfresh k (by omega)
 obtain ⟨v1, w1, hr1, h1, hg, hat⟩ := hrun
 rw [if_pos hw]
 unfold Oper.wp execOp
 simp only [ho, resolve, invoke, builtin, Sem.run_bind, Sem.run_pure, Result.andThen_ok, List.map_toArray, List.map_cons, List.map_nil, hs, hx, hr1]
 exact h v1 w1 h1 (HB.grown hg hbase (own_base hown)) hg hat
end Kd
end
namespace Kd
end Kd
end Go.Proofs.YtdhgeondbnpeoaaW.PrintWords
namespace Go.Proofs.YtdhgeondbnpeoaaW.PrintLast
section
variable {P : Program} {ops : Array Oper} {Q : Exit → Act → World → Prop} {md : Region.Mode} {S : World → Prop} {ds : List Nat}
def Region.reachB (md : Region.Mode) (ops : Array Oper) (i : Nat) : Nat → Nat → Bool
 |0, _ => false
 |fuel + 1, d => match ops[d]? with
  |some o => o.after.any fun e => Region.binds md e && (e.on == i || Region.reachB md ops i fuel e.on)
  |none => false
def Region.closedB (md : Region.Mode) (ops : Array Oper) (listed : Array Bool) : Bool :=
 (List.range ops.size).all fun j => !listed.getD j false || match ops[j]? with
  |some o => o.after.all fun e => !Region.binds md e || listed.getD e.on false
  |none => true
def Region.lastB (md : Region.Mode) (ops : Array Oper) (listed : Array Bool) (ds : List Nat) (i : Nat) : Bool :=
 ds.all fun d => listed.getD d true || Region.reachB md ops i ops.size d
def ListedClosed (md : Region.Mode) (ops : Array Oper) (listed : Array Bool) : Prop :=
 ∀ j oj, ops[j]? = some oj → listed.getD j false = true → ∀ e ∈ oj.after, Region.binds md e = true → listed.getD e.on false = true
theorem Region.closedB_spec {listed : Array Bool} (h : Region.closedB md ops listed = true) : ListedClosed md ops listed := by
 intro j oj hj hl e he hb
 have hlt : j < ops.size := (Array.getElem?_eq_some_iff.1 hj).1
 have h1 := List.all_eq_true.1 h j (List.mem_range.2 hlt)
 simp only [hl, hj, Bool.not_true, Bool.false_or] at h1
 have h2 := Array.all_eq_true_iff_forall_mem.1 h1 e he
 simpa [hb] using h2
theorem ListedClosed.set {listed : Array Bool} {i : Nat} (h : ListedClosed md ops listed) (hi : i ∈ Region.ready md ops listed) : ListedClosed md ops (listed.setIfInBounds i true) := by
 obtain ⟨_, oi, hoi, hall⟩ := mem_ready.1 hi
 intro j oj hj hl e he hb
 by_cases hij : i = j
 ·subst hij
  have : oj = oi := Option.some.inj (hj.symm.trans hoi)
  subst this
  exact getD_set_true (hall e he hb)
 ·rw [getD_set_ne false hij] at hl
  exact getD_set_true (h j oj hj hl e he hb)
theorem Region.reach_listed {listed : Array Bool} {i : Nat} (hc : ListedClosed md ops listed) : ∀ (fuel d : Nat), Region.reachB md ops i fuel d = true → listed.getD d false = true → listed.getD i false = true
 |0, _, h, _ => by simp [Region.reachB] at h
 |fuel + 1, d, h, hl => by
  unfold Region.reachB at h
  cases ho : ops[d]? with
  |none => rw [ho] at h; simp at h
  |some o =>
   rw [ho] at h
   obtain ⟨e, he, h1⟩ := Array.any_eq_true'.1 h
   simp only [Bool.and_eq_true, Bool.or_eq_true, beq_iff_eq] at h1
   have hle := hc d o ho hl e he h1.1
   rcases h1.2 with h2 | h2
   ·rw [← h2]; exact hle
   ·exact Region.reach_listed hc fuel e.on h2 hle
theorem Region.reach_not_ready {listed : Array Bool} {i d fuel : Nat} (hc : ListedClosed md ops listed) (hr : Region.reachB md ops i fuel d = true) (hun : listed.getD i true = false) : d ∉ Region.ready md ops listed := by
 intro hd
 obtain ⟨_, o, ho, hall⟩ := mem_ready.1 hd
 have hi : listed.getD i false = true := by
  cases fuel with
  |zero => simp [Region.reachB] at hr
  |succ n =>
   unfold Region.reachB at hr
   rw [ho] at hr
   obtain ⟨e, he, h1⟩ := Array.any_eq_true'.1 hr
   simp only [Bool.and_eq_true, Bool.or_eq_true, beq_iff_eq] at h1
   have hle := hall e he h1.1
   rcases h1.2 with h2 | h2
   ·rw [← h2]; exact hle
   ·exact Region.reach_listed hc n e.on h2 hle
 rcases Nat.lt_or_ge i listed.size with h' | h'
 ·simp [h'] at hun hi
  rw [hun] at hi
  cases hi
 ·simp [Array.getElem?_eq_none h'] at hun
def wpAnyLast (P : Program) (md : Region.Mode) (ops : Array Oper) (Q : Exit → Act → World → Prop) (S : World → Prop) (ds : List Nat) : Nat → Array Bool → Act → World → Prop
 |0, listed, a, w => Region.ready md ops listed = [] ∧ Q .normal a w
 |fuel + 1, listed, a, w =>
  (Region.ready md ops listed = [] → Q .normal a w) ∧
  ∀ i ∈ Region.ready md ops listed, wpOp P ops Q i (fun a' w' => (i ∉ ds → S w → S w') ∧ wpAnyLast P md ops Q S ds fuel (listed.setIfInBounds i true) a' w') a w
theorem wpAny_of_last : ∀ (fuel : Nat) (listed : Array Bool) (a : Act) (w : World), wpAnyLast P md ops Q S ds fuel listed a w → wpAny P md ops Q fuel listed a w
 |0, _, _, _, h => h
 |fuel + 1, _, _, _, h => ⟨h.1, fun i hi => wpOp_mono (fun a' w' h' => wpAny_of_last fuel _ a' w' h'.2) (h.2 i hi)⟩
theorem wpAnyLast_first {i : Nat} {oi : Oper} {v : Value} (hi : ops[i]? = some oi) (hsel : ∀ (j : Nat) (o : Oper) cs b, ops[j]? = some o → o.op ≠ .select cs b)
  (hQ : ∀ c a w, Q (.panic c) (a.put oi.dst v) w → Q (.panic c) a w) (n : Nat) :
  ∀ (fuel : Nat) (listed : Array Bool) (a : Act) (w : World),
   (∀ j oj, ops[j]? = some oj → j ≠ i → listed.getD j true = false → (∀ e ∈ oj.after, Region.binds md e = true → e.on ≠ i) → oi.apart ops oj = true) →
   ListedClosed md ops listed → (∀ d ∈ ds, listed.getD d true = false → Region.reachB md ops i n d = true) →
   i ∈ Region.ready md ops listed → YieldsIf P ops S oi v a → S w →
   wpAnyLast P md ops Q S ds fuel (listed.setIfInBounds i true) (a.put oi.dst v) w → wpAnyLast P md ops Q S ds (fuel + 1) listed a w := by
 intro fuel
 induction fuel with
 |zero =>
  intro listed a w _ _ _ hr hy hS H
  refine ⟨fun h => (by rw [h] at hr; cases hr), fun j hj => ?_⟩
  by_cases hji : j = i
  ·subst hji; exact hy.wpOp hi hS ⟨fun _ h => h, H⟩
  ·have := ready_mono hj hji
   rw [H.1] at this
   cases this
 |succ fuel ih =>
  intro listed a w hfree hc hd hr hy hS H
  refine ⟨fun h => (by rw [h] at hr; cases hr), fun j hj => ?_⟩
  by_cases hji : j = i
  ·subst hji; exact hy.wpOp hi hS ⟨fun _ h => h, H⟩
  ·have h1 := H.2 j (ready_mono hj hji)
   obtain ⟨hjun, oj, hoj, hall⟩ := mem_ready.1 hj
   have hiun := (mem_ready.1 hr).1
   have hnot : ∀ e ∈ oj.after, Region.binds md e = true → e.on ≠ i := fun e he hb heq => by
    have h1 := hall e he hb
    rw [heq] at h1
    rcases Nat.lt_or_ge i listed.size with h' | h'
    ·simp [h'] at hiun h1; rw [hiun] at h1; cases h1
    ·simp [Array.getElem?_eq_none h'] at h1
   have hjd : j ∉ ds := fun hm => Region.reach_not_ready hc (hd j hm hjun) hiun hj
   have h2 := wpOp_putIf hoj (hfree j oj hoj hji hjun hnot) (fun cs b => hsel i oi cs b hi) (fun cs b => hsel j oj cs b hoj) hQ hy h1
   have hfree' : ∀ k ok, ops[k]? = some ok → k ≠ i → (listed.setIfInBounds j true).getD k true = false →
     (∀ e ∈ ok.after, Region.binds md e = true → e.on ≠ i) → oi.apart ops ok = true := fun k ok hk hki hun hno => by
    refine hfree k ok hk hki ?_ hno
    by_cases hjk : j = k
    ·subst hjk; exact hjun
    ·rw [getD_set_ne true hjk] at hun; exact hun
   have hd' : ∀ d ∈ ds, (listed.setIfInBounds j true).getD d true = false → Region.reachB md ops i n d = true := fun d hm hun => by
    refine hd d hm ?_
    by_cases hjk : j = d
    ·subst hjk; exact hjun
    ·rw [getD_set_ne true hjk] at hun; exact hun
   refine wpOp_mono (fun a' w' h3 => ⟨h3.2.1, ih (listed.setIfInBounds j true) a' w' hfree' (hc.set hj) hd' (ready_mono hr (Ne.symm hji)) h3.1 (h3.2.1 hjd hS) ?_⟩) h2
   rw [Array.setIfInBounds_comm _ _ hji]
   exact h3.2.2
theorem wpAnyLast_any {i : Nat} {oi : Oper} {v : Value} (hi : ops[i]? = some oi) (hsel : ∀ (j : Nat) (o : Oper) cs b, ops[j]? = some o → o.op ≠ .select cs b)
  (hQ : ∀ c a w, Q (.panic c) (a.put oi.dst v) w → Q (.panic c) a w) :
  ∀ (fuel : Nat) (listed : Array Bool) (a : Act) (w : World),
   (∀ j oj, ops[j]? = some oj → j ≠ i → listed.getD j true = false → (∀ e ∈ oj.after, Region.binds md e = true → e.on ≠ i) → oi.apart ops oj = true) →
   i ∈ Region.ready md ops listed → Yields P ops oi v a →
   wpAnyLast P md ops Q S ds fuel (listed.setIfInBounds i true) (a.put oi.dst v) w → wpAnyLast P md ops Q S ds (fuel + 1) listed a w := by
 intro fuel
 induction fuel with
 |zero =>
  intro listed a w _ hr hy H
  refine ⟨fun h => (by rw [h] at hr; cases hr), fun j hj => ?_⟩
  by_cases hji : j = i
  ·subst hji; exact (hy.yieldsIf (S := fun _ => True)).wpOp hi trivial ⟨fun _ h => h, H⟩
  ·have := ready_mono hj hji
   rw [H.1] at this
   cases this
 |succ fuel ih =>
  intro listed a w hfree hr hy H
  refine ⟨fun h => (by rw [h] at hr; cases hr), fun j hj => ?_⟩
  by_cases hji : j = i
  ·subst hji; exact (hy.yieldsIf (S := fun _ => True)).wpOp hi trivial ⟨fun _ h => h, H⟩
  ·have h1 := H.2 j (ready_mono hj hji)
   obtain ⟨hjun, oj, hoj, hall⟩ := mem_ready.1 hj
   have hiun := (mem_ready.1 hr).1
   have hnot : ∀ e ∈ oj.after, Region.binds md e = true → e.on ≠ i := fun e he hb heq => by
    have h1 := hall e he hb
    rw [heq] at h1
    rcases Nat.lt_or_ge i listed.size with h' | h'
    ·simp [h'] at hiun h1; rw [hiun] at h1; cases h1
    ·simp [Array.getElem?_eq_none h'] at h1
   have h2 := wpOp_put hoj (hfree j oj hoj hji hjun hnot) (fun cs b => hsel i oi cs b hi) (fun cs b => hsel j oj cs b hoj) hQ hy h1
   have hfree' : ∀ k ok, ops[k]? = some ok → k ≠ i → (listed.setIfInBounds j true).getD k true = false →
     (∀ e ∈ ok.after, Region.binds md e = true → e.on ≠ i) → oi.apart ops ok = true := fun k ok hk hki hun hno => by
    refine hfree k ok hk hki ?_ hno
    by_cases hjk : j = k
    ·subst hjk; exact hjun
    ·rw [getD_set_ne true hjk] at hun; exact hun
   refine wpOp_mono (fun a' w' h3 => ⟨h3.2.1, ih (listed.setIfInBounds j true) a' w' hfree' (ready_mono hr (Ne.symm hji)) h3.1 ?_⟩) h2
   rw [Array.setIfInBounds_comm _ _ hji]
   exact h3.2.2
theorem wpAnyLast_take {i : Nat} {oi : Oper} {v : Value} {fuel : Nat} {listed : Array Bool} {a : Act} {w : World} (hi : ops[i]? = some oi)
  (hs : Region.noSelect ops = true) (hf : Region.free md ops listed i = true) (hr : (Region.ready md ops listed).contains i = true)
  (hc : Region.closedB md ops listed = true) (hl : Region.lastB md ops listed ds i = true)
  (hQ : ∀ c a w, Q (.panic c) (a.put oi.dst v) w → Q (.panic c) a w) (hy : YieldsIf P ops S oi v a) (hS : S w)
  (h : wpAnyLast P md ops Q S ds fuel (listed.setIfInBounds i true) (a.put oi.dst v) w) : wpAnyLast P md ops Q S ds (fuel + 1) listed a w :=
 wpAnyLast_first hi (Region.noSelect_spec hs) hQ ops.size fuel listed a w (Region.free_spec hi hf) (Region.closedB_spec hc)
  (fun d hm hun => by have := List.all_eq_true.1 hl d hm; rw [hun] at this; simpa using this) (by simpa using hr) hy hS h
theorem wpAnyLast_all {rs : List Nat} {fuel : Nat} {listed : Array Bool} {a : Act} {w : World} (hr : Region.ready md ops listed = rs) (hne : rs ≠ [])
  (h : ∀ i ∈ rs, wpOp P ops Q i (fun a' w' => (i ∉ ds → S w → S w') ∧ wpAnyLast P md ops Q S ds fuel (listed.setIfInBounds i true) a' w') a w) : wpAnyLast P md ops Q S ds (fuel + 1) listed a w :=
 ⟨fun h0 => absurd (hr ▸ h0) hne, hr ▸ h⟩
theorem wpAnyLast_done {listed : Array Bool} {a : Act} {w : World} (hr : Region.ready md ops listed = []) (h : Q .normal a w) :
  ∀ fuel, wpAnyLast P md ops Q S ds fuel listed a w
 |0 => ⟨hr, h⟩
 |_ + 1 => ⟨fun _ => h, by rw [hr]; simp⟩
theorem wp_region_last {id : Nat} {a : Act} {w : World} (hm : P.follows .mixedOrders = true)
  (h : wpAnyLast P .any ops Q S ds ops.size (Array.replicate ops.size false) a { w with drawn := w.drawn + 1 }) : (Code.region id ops true).wp P Q a w :=
 wp_region_any hm (wpAny_of_last _ _ _ _ h)
end
section
variable {P : Program} {ops : Array Oper} {Q : Exit → Act → World → Prop} {md : Region.Mode} {S : World → Prop} {ds : List Nat}
def AllReadyL (P : Program) (md : Region.Mode) (ops : Array Oper) (Q : Exit → Act → World → Prop) (S : World → Prop) (ds : List Nat) (fuel : Nat) (listed : Array Bool) (a : Act) (w : World) (rs : List Nat) : Prop :=
 ∀ i ∈ rs, wpOp P ops Q i (fun a' w' => (i ∉ ds → S w → S w') ∧ wpAnyLast P md ops Q S ds fuel (listed.setIfInBounds i true) a' w') a w
theorem AllReadyL.nil {fuel : Nat} {listed : Array Bool} {a : Act} {w : World} : AllReadyL P md ops Q S ds fuel listed a w [] := fun _ h => by cases h
theorem AllReadyL.cons {fuel : Nat} {listed : Array Bool} {a : Act} {w : World} {i : Nat} {o : Oper} {rs : List Nat} (ho : ops[i]? = some o) (hd : i ∉ ds)
  (h : ∀ K' : Act → World → Prop, Shut (∀ a w, S w → (S w → wpAnyLast P md ops Q S ds fuel (listed.setIfInBounds i true) a w) → K' a w) → if Region.wanted o (yielded ops a.tmps) = true then Oper.wp P o a w K' Q else K' (a.put o.dst undef) w)
  (hs : AllReadyL P md ops Q S ds fuel listed a w rs) : AllReadyL P md ops Q S ds fuel listed a w (i :: rs) := fun j hj => by
 rcases List.mem_cons.1 hj with rfl | hj
 ·exact wpOp_step ho (fun K' hK => h K' (fun a w hS hW => hK a w ⟨fun _ _ => hS, hW hS⟩))
 ·exact hs j hj
theorem AllReadyL.cons_last {fuel : Nat} {listed : Array Bool} {a : Act} {w : World} {i : Nat} {o : Oper} {rs : List Nat} (ho : ops[i]? = some o) (hd : i ∈ ds)
  (h : ∀ K' : Act → World → Prop, Shut (∀ a w, wpAnyLast P md ops Q S ds fuel (listed.setIfInBounds i true) a w → K' a w) → if Region.wanted o (yielded ops a.tmps) = true then Oper.wp P o a w K' Q else K' (a.put o.dst undef) w)
  (hs : AllReadyL P md ops Q S ds fuel listed a w rs) : AllReadyL P md ops Q S ds fuel listed a w (i :: rs) := fun j hj => by
 rcases List.mem_cons.1 hj with rfl | hj
 ·exact wpOp_step ho (fun K' hK => h K' (fun a w hW => hK a w ⟨fun hn => absurd hd hn, hW⟩))
 ·exact hs j hj
theorem wpAnyLast_ready {rs : List Nat} {fuel : Nat} {listed : Array Bool} {a : Act} {w : World} (hr : Region.ready md ops listed = rs) (hne : rs ≠ [])
  (h : AllReadyL P md ops Q S ds fuel listed a w rs) : wpAnyLast P md ops Q S ds (fuel + 1) listed a w := wpAnyLast_all hr hne h
theorem start_ {id n : Nat} {a : Act} {w : World} (l : Array Bool) (hm : P.follows .mixedOrders = true) (hn : ops.size = n) (hl : Array.replicate n false = l) (hS : S w.drew)
  (h : S w.drew → wpAnyLast P .any ops Q S ds n l a w.drew) : (Code.region id ops true).wp P Q a w := by
 subst hn
 subst hl
 exact wp_region_last hm (h hS)
def takeB (md : Region.Mode) (ops : Array Oper) (ds : List Nat) (l l' : Array Bool) (i : Nat) : Bool :=
 Region.noSelect ops && Region.free md ops l i && (Region.ready md ops l).contains i && Region.closedB md ops l && Region.lastB md ops l ds i && (l.setIfInBounds i true == l')
theorem take_ {i : Nat} {N : Option Tmp} {oi : Oper} {v : Value} {fuel : Nat} {l : Array Bool} {a : Act} {w : World} (l' : Array Bool) (hi : ops[i]? = some oi) (hN : oi.dst = N) (hc : takeB md ops ds l l' i = true)
  (hQ : ∀ c a w, Q (.panic c) (a.put oi.dst v) w → Q (.panic c) a w) (hy : YieldsIf P ops S oi v a) (hS : S w) {a' : Act} (ha : a.put N v = a')
  (h : wpAnyLast P md ops Q S ds fuel l' a' w) : wpAnyLast P md ops Q S ds (fuel + 1) l a w := by
 subst ha
 subst hN
 simp only [takeB, Bool.and_eq_true, beq_iff_eq] at hc
 obtain ⟨⟨⟨⟨⟨h1, h2⟩, h3⟩, h4⟩, h5⟩, h6⟩ := hc
 subst h6
 exact wpAnyLast_take hi h1 h2 h3 h4 h5 hQ hy hS h
def anyB (md : Region.Mode) (ops : Array Oper) (l l' : Array Bool) (i : Nat) : Bool :=
 Region.noSelect ops && Region.free md ops l i && (Region.ready md ops l).contains i && (l.setIfInBounds i true == l')
theorem pure_ {i : Nat} {N : Option Tmp} {oi : Oper} {v : Value} {fuel : Nat} {l : Array Bool} {a : Act} {w : World} (l' : Array Bool) (hi : ops[i]? = some oi) (hN : oi.dst = N) (hc : anyB md ops l l' i = true)
  (hQ : ∀ c a w, Q (.panic c) (a.put oi.dst v) w → Q (.panic c) a w) (hy : Yields P ops oi v a) {a' : Act} (ha : a.put N v = a')
  (h : wpAnyLast P md ops Q S ds fuel l' a' w) : wpAnyLast P md ops Q S ds (fuel + 1) l a w := by
 subst ha
 subst hN
 simp only [anyB, Bool.and_eq_true, beq_iff_eq] at hc
 obtain ⟨⟨⟨h1, h2⟩, h3⟩, h6⟩ := hc
 subst h6
 exact wpAnyLast_any hi (Region.noSelect_spec h1) hQ fuel l a w (Region.free_spec hi h2) (by simpa using h3) hy h
def readyB (md : Region.Mode) (ops : Array Oper) (l l' : Array Bool) (i : Nat) : Bool := (Region.ready md ops l == [i]) && (l.setIfInBounds i true == l')
theorem one_ {i : Nat} {N : Option Tmp} {oi : Oper} {fuel : Nat} {l : Array Bool} {a : Act} {w : World} (l' : Array Bool) (hi : ops[i]? = some oi) (hN : oi.dst = N) (hc : readyB md ops l l' i = true) (hd : i ∉ ds)
  (h : ∀ K : Act → World → Prop, Shut (∀ a' w', S w' → (S w' → wpAnyLast P md ops Q S ds fuel l' a' w') → K a' w') → if Region.wanted oi (yielded ops a.tmps) = true then Oper.wp P oi a w K Q else K (a.put N undef) w) :
  wpAnyLast P md ops Q S ds (fuel + 1) l a w := by
 subst hN
 simp only [readyB, Bool.and_eq_true, beq_iff_eq] at hc
 obtain ⟨h1, h2⟩ := hc
 subst h2
 exact wpAnyLast_ready h1 (by simp) (AllReadyL.cons hi hd (fun K hK => h K hK) AllReadyL.nil)
theorem last_ {i : Nat} {N : Option Tmp} {oi : Oper} {fuel : Nat} {l : Array Bool} {a : Act} {w : World} (l' : Array Bool) (hi : ops[i]? = some oi) (hN : oi.dst = N) (hc : readyB md ops l l' i = true) (hd : i ∈ ds)
  (h : ∀ K : Act → World → Prop, Shut (∀ a' w', wpAnyLast P md ops Q S ds fuel l' a' w' → K a' w') → if Region.wanted oi (yielded ops a.tmps) = true then Oper.wp P oi a w K Q else K (a.put N undef) w) :
  wpAnyLast P md ops Q S ds (fuel + 1) l a w := by
 subst hN
 simp only [readyB, Bool.and_eq_true, beq_iff_eq] at hc
 obtain ⟨h1, h2⟩ := hc
 subst h2
 exact wpAnyLast_ready h1 (by simp) (AllReadyL.cons_last hi hd (fun K hK => h K hK) AllReadyL.nil)
theorem done_ {l : Array Bool} {a : Act} {w : World} {n : Nat} (hr : (Region.ready md ops l == []) = true) (h : Q .normal a w) : wpAnyLast P md ops Q S ds n l a w := wpAnyLast_done (by simpa using hr) h n
theorem norm_ {fuel : Nat} {l : Array Bool} {a a' : Act} {w : World} (ha : a = a') (h : wpAnyLast P md ops Q S ds fuel l a' w) : wpAnyLast P md ops Q S ds fuel l a w := by
 subst ha
 exact h
theorem call_ {oi : Oper} {N : Option Tmp} {a : Act} {w : World} {K : Act → World → Prop} (f : FuncId) (args : Array Value) (hw : Region.wanted oi (yielded ops a.tmps) = true) (hN : oi.dst = N) (hrun : (execOp a.eval oi).run P w = .ok (.enter f args) w)
  (h : Calls P f args w fun e w' => ∃ v, e = .returned v ∧ K (a.put N v) w') : if Region.wanted oi (yielded ops a.tmps) = true then Oper.wp P oi a w K Q else K (a.put N undef) w := by
 rw [if_pos hw]
 subst hN
 unfold Oper.wp
 rw [hrun, Oper.upon_enter]
 refine h.mono fun e w'' hh => ?_
 obtain ⟨v, rfl, hk⟩ := hh
 exact hk
theorem enters_ {f : FuncId} {fn : Func} (hf : P.funcs[f]? = some fn) (hname : (fn.name == "runtime.NumGoroutine") = false) (hb : fn.body.isSome = true) (args : Array Value) (w : World) : (callFunc f args).run P w = .ok (.enter f args) w := by
 have h1 : fn.name ≠ "runtime.NumGoroutine" := by simpa using hname
 obtain ⟨c, hc⟩ := Option.isSome_iff_exists.1 hb
 simp [callFunc, hf, h1, hc]
theorem goes_ {oi : Oper} {N : Option Tmp} {a : Act} {w : World} {K : Act → World → Prop} {f : FuncId} {fn : Func} {az : Array Operand} {ts : Array TypeId} (hf : P.funcs[f]? = some fn) (hname : (fn.name == "runtime.NumGoroutine") = false) (hb : fn.body.isSome = true) (args : Array Value)
  (hw : Region.wanted oi (yielded ops a.tmps) = true) (hN : oi.dst = N) (hop : oi.op = .call { callee := .value (.func f), args := az, argTypes := ts }) (hargs : az.map a.eval = args)
  (h : Calls P f args w fun e w' => ∃ v, e = .returned v ∧ K (a.put N v) w') : if Region.wanted oi (yielded ops a.tmps) = true then Oper.wp P oi a w K Q else K (a.put N undef) w := by
 refine call_ f args hw hN ?_ h
 have he := enters_ hf hname hb args w
 unfold execOp
 simp [hop, resolve, Deferred.ofValue, invoke, Act.eval, hargs, he]
theorem goesL_ {rest : List Oper} {oi : Oper} {a : Act} {w : World} (N : Option Tmp) (hd : oi.dst = N) (hg : oi.guard = none) {f : FuncId} {fn : Func} {az : Array Operand} {ts : Array TypeId} (hf : P.funcs[f]? = some fn) (hname : (fn.name == "runtime.NumGoroutine") = false) (hb : fn.body.isSome = true) (args : Array Value)
  (hop : oi.op = .call { callee := .value (.func f), args := az, argTypes := ts }) (hargs : az.map a.eval = args)
  (h : Calls P f args w fun e w' => ∃ v, e = .returned v ∧ wpList P ops Q rest (a.put N v) w') : wpList P ops Q (oi :: rest) a w := by
 refine wpList_plain hg fun K hK => ?_
 have he := enters_ hf hname hb args w
 have hrun : (execOp a.eval oi).run P w = .ok (.enter f args) w := by
  unfold execOp
  simp [hop, resolve, Deferred.ofValue, invoke, Act.eval, hargs, he]
 unfold Oper.wp
 rw [hrun, Oper.upon_enter]
 refine h.mono fun e w'' hh => ?_
 obtain ⟨v, rfl, hk⟩ := hh
 subst hd
 exact hK _ _ hk
theorem value_ {oi : Oper} {N : Option Tmp} {a : Act} {w w1 : World} {v : Value} {K : Act → World → Prop} (hw : Region.wanted oi (yielded ops a.tmps) = true) (hN : oi.dst = N) (hrun : (execOp a.eval oi).run P w = .ok (.value v) w1)
  (h : K (a.put N v) w1) : if Region.wanted oi (yielded ops a.tmps) = true then Oper.wp P oi a w K Q else K (a.put N undef) w := by
 rw [if_pos hw]
 subst hN
 unfold Oper.wp
 rw [hrun]
 exact h
theorem skip_ {oi : Oper} {a : Act} {w w1 : World} {K : Act → World → Prop} (hw : Region.wanted oi (yielded ops a.tmps) = true) (hN : oi.dst = none) (hrun : (execOp a.eval oi).run P w = .ok .skip w1)
  (h : K a w1) : if Region.wanted oi (yielded ops a.tmps) = true then Oper.wp P oi a w K Q else K (a.put none undef) w := by
 rw [if_pos hw]
 unfold Oper.wp
 rw [hrun]
 show K (a.put oi.dst undef) w1
 rw [hN]
 exact h
theorem i64_w (n : Int) : IntKind.i64.wrap n = Go.RowKit.wrap64 n := by unfold Go.RowKit.wrap64; exact IntKind.wrap_i64 n
theorem i32_w (n : Int) : IntKind.i32.wrap n = Go.RowKit.wrap32 n := by unfold Go.RowKit.wrap32; exact IntKind.wrap_i32 n
end
end Go.Proofs.YtdhgeondbnpeoaaW.PrintLast
namespace Go.Proofs.YtdhgeondbnpeoaaW.PrintLast
open Go.Proofs.YtdhgeondbnpeoaaW.PrintWords (As0)
def needsOf (md : Region.Mode) (o : Oper) : List Nat := (o.after.toList.filter (fun e => Region.binds md e)).map (fun e => e.on)
def clashOf (md : Region.Mode) (ops : Array Oper) (i : Nat) (oi : Oper) : List Nat := (List.range ops.size).filter fun j => !(j == i) && match ops[j]? with
 |some oj => !(oj.after.any (fun e => Region.binds md e && e.on == i) || oi.apart ops oj)
 |none => false
def rtab (md : Region.Mode) (ops : Array Oper) : Bool × List (List Nat × List Nat) := (Region.noSelect ops, (List.range ops.size).map fun i => match ops[i]? with
 |some o => (needsOf md o, clashOf md ops i o)
 |none => ([], []))
def readyAt (T : List (List Nat × List Nat)) (l : List Bool) (i : Nat) : Bool := !l.getD i true && match T[i]? with
 |some r => r.1.all (fun j => l.getD j false)
 |none => false
def readyT (T : List (List Nat × List Nat)) (l : List Bool) : List Nat := (List.range T.length).filter (readyAt T l)
def freeT (T : List (List Nat × List Nat)) (l : List Bool) (i : Nat) : Bool := match T[i]? with
 |some r => r.2.all (fun j => l.getD j true)
 |none => false
def closedT (T : List (List Nat × List Nat)) (l : List Bool) : Bool := (List.range T.length).all fun j => !l.getD j false || match T[j]? with
 |some r => r.1.all (fun k => l.getD k false)
 |none => true
def reachT (T : List (List Nat × List Nat)) (i : Nat) : Nat → Nat → Bool
 |0, _ => false
 |fuel + 1, d => match T[d]? with
  |some r => r.1.any fun j => j == i || reachT T i fuel j
  |none => false
def lastT (T : List (List Nat × List Nat)) (l : List Bool) (ds : List Nat) (i : Nat) : Bool := ds.all fun d => l.getD d true || reachT T i T.length d
section
variable {md : Region.Mode} {ops : Array Oper} {T : Bool × List (List Nat × List Nat)} {l l' li lj lk : Array Bool} {ds : List Nat} {i j k : Nat}
theorem gd (l : Array Bool) (j : Nat) (b : Bool) : l.getD j b = l.toList.getD j b := by simp [Array.getD_eq_getD_getElem?, List.getD_eq_getElem?_getD]
theorem needs_all (o : Oper) (p : Nat → Bool) : o.after.all (fun e => !Region.binds md e || p e.on) = (needsOf md o).all p := by
 unfold needsOf
 rw [← Array.all_toList]
 induction o.after.toList with
 |nil => rfl
 |cons e r ih =>
  rw [List.all_cons, ih, List.filter_cons]
  cases h : Region.binds md e <;> simp
theorem needs_any (o : Oper) (p : Nat → Bool) : o.after.any (fun e => Region.binds md e && p e.on) = (needsOf md o).any p := by
 unfold needsOf
 rw [← Array.any_toList]
 induction o.after.toList with
 |nil => rfl
 |cons e r ih =>
  rw [List.any_cons, ih, List.filter_cons]
  cases h : Region.binds md e <;> simp
theorem rtab_length : (rtab md ops).2.length = ops.size := by simp [rtab]
theorem rtab_some {o : Oper} (h : ops[i]? = some o) : (rtab md ops).2[i]? = some (needsOf md o, clashOf md ops i o) := by
 have hi := (Array.getElem?_eq_some_iff.1 h).1
 unfold rtab
 rw [List.getElem?_map, List.getElem?_range hi, Option.map_some, h]
theorem rtab_none (h : ops[i]? = none) : (rtab md ops).2[i]? = none := by
 have hi : ops.size ≤ i := Array.getElem?_eq_none_iff.1 h
 exact List.getElem?_eq_none (by rw [rtab_length]; exact hi)
theorem readyAt_eq : readyAt (rtab md ops).2 l.toList i = (!l.getD i true && ((ops[i]?).map (·.after.all fun e => !Region.binds md e || l.getD e.on false)).getD false) := by
 unfold readyAt
 rw [gd]
 cases h : ops[i]? with
 |none => rw [rtab_none h]; rfl
 |some o =>
  rw [rtab_some h]
  simp only [Option.map_some, Option.getD_some]
  rw [← needs_all]
  simp only [gd]
theorem ready_eq : Region.ready md ops l = readyT (rtab md ops).2 l.toList := by
 unfold Region.ready readyT
 rw [rtab_length]
 refine List.filter_congr (fun i _ => ?_)
 rw [readyAt_eq]
theorem free_eq : Region.free md ops l i = freeT (rtab md ops).2 l.toList i := by
 unfold Region.free freeT
 cases h : ops[i]? with
 |none => rw [rtab_none h]
 |some oi =>
  rw [rtab_some h]
  simp only [clashOf]
  rw [List.all_filter]
  congr 1
  funext j
  rw [gd]
  cases hj : ops[j]? with
  |none => cases (j == i) <;> cases (l.toList.getD j true) <;> simp
  |some oj =>
   cases (j == i) <;> cases (l.toList.getD j true) <;> cases (oj.after.any (fun e => Region.binds md e && e.on == i) || oi.apart ops oj) <;> simp_all
theorem closed_eq : Region.closedB md ops l = closedT (rtab md ops).2 l.toList := by
 unfold Region.closedB closedT
 rw [rtab_length]
 congr 1
 funext j
 rw [gd]
 cases h : ops[j]? with
 |none => rw [rtab_none h]
 |some o =>
  rw [rtab_some h]
  simp only
  rw [← needs_all]
  simp only [gd]
theorem reach_eq : ∀ (fuel d : Nat), Region.reachB md ops i fuel d = reachT (rtab md ops).2 i fuel d
 |0, _ => rfl
 |fuel + 1, d => by
  unfold Region.reachB reachT
  cases h : ops[d]? with
  |none => rw [rtab_none h]
  |some o =>
   rw [rtab_some h]
   simp only
   rw [← needs_any]
   congr 1
   funext e
   rw [reach_eq fuel]
theorem last_eq : Region.lastB md ops l ds i = lastT (rtab md ops).2 l.toList ds i := by
 unfold Region.lastB lastT
 rw [rtab_length]
 congr 1
 funext d
 rw [gd, reach_eq]
theorem readyAt_mem (h : readyAt T.2 l.toList i = true) (hT : rtab md ops = T) : (Region.ready md ops l).contains i = true := by
 subst hT
 rw [ready_eq]
 unfold readyT
 rw [List.contains_iff_mem, List.mem_filter, List.mem_range]
 refine ⟨?_, h⟩
 unfold readyAt at h
 rw [Bool.and_eq_true] at h
 cases hq : (rtab md ops).2[i]? with
 |none => rw [hq] at h; simp at h
 |some r => exact (List.getElem?_eq_some_iff.1 hq).1
theorem set_of (h : (l.toList.set i true == l'.toList) = true) : (l.setIfInBounds i true == l') = true := by
 rw [beq_iff_eq] at h ⊢
 apply Array.ext'
 rw [Array.toList_setIfInBounds]
 exact h
def anyT (T : Bool × List (List Nat × List Nat)) (l l' : List Bool) (i : Nat) : Bool := T.1 && freeT T.2 l i && readyAt T.2 l i && (l.set i true == l')
theorem any_of (hT : rtab md ops = T) (h : anyT T l.toList l'.toList i = true) : anyB md ops l l' i = true := by
 simp only [anyT, Bool.and_eq_true] at h
 obtain ⟨⟨⟨h1, h2⟩, h3⟩, h4⟩ := h
 have h5 := readyAt_mem h3 hT
 have h6 := set_of h4
 subst hT
 simp only [anyB, Bool.and_eq_true]
 exact ⟨⟨⟨h1, by rw [free_eq]; exact h2⟩, h5⟩, h6⟩
def takeT (T : Bool × List (List Nat × List Nat)) (ds : List Nat) (l l' : List Bool) (i : Nat) : Bool := T.1 && freeT T.2 l i && readyAt T.2 l i && closedT T.2 l && lastT T.2 l ds i && (l.set i true == l')
theorem take_of (hT : rtab md ops = T) (h : takeT T ds l.toList l'.toList i = true) : takeB md ops ds l l' i = true := by
 simp only [takeT, Bool.and_eq_true] at h
 obtain ⟨⟨⟨⟨⟨h1, h2⟩, h3⟩, h4⟩, h5⟩, h6⟩ := h
 have h7 := readyAt_mem h3 hT
 have h8 := set_of h6
 subst hT
 simp only [takeB, Bool.and_eq_true]
 exact ⟨⟨⟨⟨⟨h1, by rw [free_eq]; exact h2⟩, h7⟩, by rw [closed_eq]; exact h4⟩, by rw [last_eq]; exact h5⟩, h8⟩
theorem one_of (hT : rtab md ops = T) (h : (readyT T.2 l.toList == [i] && l.toList.set i true == l'.toList) = true) : readyB md ops l l' i = true := by
 simp only [Bool.and_eq_true] at h
 obtain ⟨h1, h2⟩ := h
 subst hT
 simp only [readyB, Bool.and_eq_true]
 exact ⟨by rw [ready_eq]; exact h1, set_of h2⟩
theorem done_of (hT : rtab md ops = T) (h : (readyT T.2 l.toList == []) = true) : (Region.ready md ops l == []) = true := by
 subst hT
 rw [ready_eq]
 exact h
def upM (B : List Nat) (d : Nat) : List Nat → Nat
 |[] => 0
 |n :: r => (2 ^ n ||| (if n < d then B.getD n 0 else 0)) ||| upM B d r
def waitsOk (T : List (List Nat × List Nat)) (B : List Nat) : Bool := (List.range T.length).all fun d => match T[d]? with
 |some r => (B.getD d 0 ||| upM B d r.1) == upM B d r.1
 |none => false
theorem upM_bit {B : List Nat} {d i : Nat} : ∀ {ns : List Nat}, (upM B d ns).testBit i = true → ∃ n ∈ ns, n = i ∨ (n < d ∧ (B.getD n 0).testBit i = true)
 |[], h => by simp [upM] at h
 |n :: r, h => by
  unfold upM at h
  rw [Nat.testBit_or, Nat.testBit_or, Bool.or_eq_true, Bool.or_eq_true] at h
  rcases h with (h | h) | h
  ·rw [Nat.testBit_two_pow] at h
   exact ⟨n, List.mem_cons_self, .inl (by simpa using h)⟩
  ·by_cases hn : n < d
   ·rw [if_pos hn] at h
    exact ⟨n, List.mem_cons_self, .inr ⟨hn, h⟩⟩
   ·rw [if_neg hn] at h
    simp at h
  ·obtain ⟨m, hm, h2⟩ := upM_bit h
   exact ⟨m, List.mem_cons_of_mem _ hm, h2⟩
theorem reach_bit {T : List (List Nat × List Nat)} {B : List Nat} (hB : waitsOk T B = true) : ∀ (fuel d : Nat), d < fuel → d < T.length → (B.getD d 0).testBit i = true → reachT T i fuel d = true
 |0, d, h, _, _ => by omega
 |fuel + 1, d, h, hd, hb => by
  have h1 := List.all_eq_true.1 hB d (List.mem_range.2 hd)
  cases hr : T[d]? with
  |none => rw [hr] at h1; simp at h1
  |some r =>
   rw [hr] at h1
   simp only [beq_iff_eq] at h1
   have h2 : (upM B d r.1).testBit i = true := by rw [← h1, Nat.testBit_or, hb, Bool.true_or]
   obtain ⟨n, hn, h3⟩ := upM_bit h2
   unfold reachT
   rw [hr]
   simp only
   rw [List.any_eq_true]
   refine ⟨n, hn, ?_⟩
   rcases h3 with rfl | ⟨h4, h5⟩
   ·simp
   ·rw [reach_bit hB fuel n (by omega) (by omega) h5, Bool.or_true]
def lastW (T : List (List Nat × List Nat)) (B : List Nat) (l : List Bool) (ds : List Nat) (i : Nat) : Bool := ds.all fun d => l.getD d true || (decide (d < T.length) && (B.getD d 0).testBit i)
def takeW (T : Bool × List (List Nat × List Nat)) (B : List Nat) (ds : List Nat) (l l' : List Bool) (i : Nat) : Bool := T.1 && freeT T.2 l i && readyAt T.2 l i && closedT T.2 l && lastW T.2 B l ds i && (l.set i true == l')
theorem take_ofW {B : List Nat} (hT : rtab md ops = T) (hB : waitsOk T.2 B = true) (h : takeW T B ds l.toList l'.toList i = true) : takeB md ops ds l l' i = true := by
 refine take_of hT ?_
 simp only [takeW, takeT, Bool.and_eq_true] at h ⊢
 obtain ⟨⟨⟨⟨⟨h1, h2⟩, h3⟩, h4⟩, h5⟩, h6⟩ := h
 refine ⟨⟨⟨⟨⟨h1, h2⟩, h3⟩, h4⟩, ?_⟩, h6⟩
 unfold lastW at h5
 unfold lastT
 rw [List.all_eq_true] at h5 ⊢
 intro d hd
 have h7 := h5 d hd
 rw [Bool.or_eq_true, Bool.and_eq_true, decide_eq_true_eq] at h7
 rcases h7 with h7 | ⟨h8, h9⟩
 ·rw [h7, Bool.true_or]
 ·rw [reach_bit hB _ d h8 h8 h9, Bool.or_true]
theorem with_tabW {P : Program} {Q : Exit → Act → World → Prop} {S : World → Prop} {n : Nat} {a : Act} {w : World} {B : List Nat} (hT : rtab md ops = T) (hB : waitsOk T.2 B = true) (h : As0 (rtab md ops = T) → As0 (waitsOk T.2 B = true) → wpAnyLast P md ops Q S ds n l a w) : wpAnyLast P md ops Q S ds n l a w := h ⟨hT⟩ ⟨hB⟩
end
def opsIn : Code → Nat → Option (Array Oper)
 |.region id ops _, k => if id == k then some ops else none
 |.seq a b, k => match opsIn a k with
  |some o => some o
  |none => opsIn b k
 |.cond _ a b, k => match opsIn a k with
  |some o => some o
  |none => opsIn b k
 |.block _ c, k => opsIn c k
 |.loop c, k => opsIn c k
 |.scope c, k => opsIn c k
 |.rangeFunc _ _ a b, k => match opsIn a k with
  |some o => some o
  |none => opsIn b k
 |_, _ => none
def opsOf (f : Func) (k : Nat) : Array Oper := ((f.body.bind fun c => opsIn c k)).getD #[]
end Go.Proofs.YtdhgeondbnpeoaaW.PrintLast
namespace Go.Proofs.YtdhgeondbnpeoaaW.PrintWords
open Go.RowKit
namespace Kd
def raw (sz : Nat) : Kd (List Value) where
 sz := sz
 E := []
 K := fun _ x cs => cs = x ∧ cs.length = sz ∧ ∀ u ∈ cs, u.oneCell' = true
 M := fun _ _ _ x cs => cs = x ∧ cs.length = sz ∧ ∀ u ∈ cs, u.oneCell' = true
 K_len := fun h => h.2.1
 K_one := fun h => h.2.2
 K_below := fun _ h => h
 K_of_M := fun h => h
 M_mono := fun _ h => h
 M_bound := fun h => h
 M_move := fun _ h => h
 M_lower := fun _ h => h
section
variable {α β : Type} {d : Kd α} {d' : Kd β} {e e' : Nat} {w w1 W : World} {base b : Nat} {ok ok' okv oku : Nat → Prop} {u v : Value} {xs : List α} {ys : List β}
theorem R_tight (hE : d.E = []) (h : d.R e w base ok v xs) : d.R e w base (fun k => some k = v.ownBlock) v xs := by
 obtain ⟨h0, inner, ho, hr⟩ := h
 refine ⟨fun k hk => hk.symm, inner, ho, hr.imp_ (fun p c hp => d.M_mono (fun k hk => ?_) (d.M_bound hp))⟩
 obtain ⟨_, _, _, q, hq, _⟩ := hk
 rw [hE] at hq
 cases hq
end
section
open Classical in
variable {P : Program} {ops : Array Oper} {rest : List Oper} {o : Oper} {a : Act} {Q : Exit → Act → World → Prop} {Kc : Act → World → Prop} {α : Type}
end
section
variable {α β : Type} {d : Kd α} {e e' g n cap : Nat} {w w1 W : World} {base : Nat} {ok ok' oki okp : Nat → Prop} {u v : Value} {xs : List α} {i : Int} {c : List Value}
open Classical in
end
end Kd
end Go.Proofs.YtdhgeondbnpeoaaW.PrintWords
namespace Go.Proofs.YtdhgeondbnpeoaaW.PrintWords
open Go.RowKit
namespace Kd
structure Heap {α : Type} (d : Kd α) : Prop where
 K : ∀ {w w1 : World} {x : α} {cs : List Value}, (∀ k, k < w.heap.size → w1.heap[k]? = w.heap[k]?) → d.K w x cs → d.K w1 x cs
theorem cell_heap {w w1 : World} (hb : ∀ k, k < w.heap.size → w1.heap[k]? = w.heap[k]?) {a : Addr} {v : Value} (h : w.cell? a = some v) : w1.cell? a = some v := by
 have := hb a.block (World.block_lt_of_cell? w a h)
 simpa [World.cell?, this] using h
theorem Heap.C {α : Type} {d : Kd α} (hd : Heap d) {w w1 : World} {A : Option Addr} {n : Nat} {xs : List α} (hb : ∀ k, k < w.heap.size → w1.heap[k]? = w.heap[k]?) (h : d.C w A n xs) : d.C w1 A n xs :=
 ⟨h.1, h.2.1, fun hn => by
  obtain ⟨ad, e, hc⟩ := h.2.2 hn
  refine ⟨ad, e, fun j p hj => ?_⟩
  obtain ⟨c, hs, hr, hcell⟩ := hc j p hj
  exact ⟨c, hs, hd.K hb hr, fun i u hu => cell_heap hb (hcell i u hu)⟩⟩
theorem heap_int (k : IntKind) : Heap (Kd.int k) := ⟨fun _ h => h⟩
end Kd
end Go.Proofs.YtdhgeondbnpeoaaW.PrintWords
namespace Go.Proofs.YtdhgeondbnpeoaaW.PrintWords
open Go.RowKit
def Foot (P : World → Prop) (W : World) (ok : Nat → Prop) : Prop := ∀ W' : World, (∀ k, ok k → k < W.heap.size → W'.heap[k]? = W.heap[k]?) → P W'
theorem heap_lt {W W1 : World} {k : Nat} (h : W1.heap[k]? = W.heap[k]?) (hlt : k < W.heap.size) : k < W1.heap.size := by
 rw [Array.getElem?_eq_getElem hlt] at h
 exact (Array.getElem?_eq_some_iff.1 h).1
namespace Foot
variable {P Q : World → Prop} {W W1 : World} {ok ok' : Nat → Prop}
theorem now (h : Foot P W ok) : P W := h W (fun _ _ _ => rfl)
theorem mono (h : Foot P W ok) (hok : ∀ k, ok k → ok' k) : Foot P W ok' := fun W' hW => h W' (fun k hk hlt => hW k (hok k hk) hlt)
theorem bound (h : Foot P W ok) : Foot P W (fun k => ok k ∧ k < W.heap.size) := fun W' hW => h W' (fun k hk hlt => hW k ⟨hk, hlt⟩ hlt)
theorem step (h : Foot P W ok) (hm : ∀ k, ok k → k < W.heap.size → W1.heap[k]? = W.heap[k]?) : Foot P W1 ok := fun W' hW => h W' (fun k hk hlt => (hW k hk (heap_lt (hm k hk hlt) hlt)).trans (hm k hk hlt))
theorem old (h : Foot P W ok) (hb : Below W.heap.size W W1) : Foot P W1 (fun k => ok k ∧ k < W.heap.size) := (h.bound).step (fun k _ hlt => hb.block k hlt)
end Foot
namespace Kd
def F {α : Type} (d : Kd α) (W : World) (ok : Nat → Prop) (A : Option Addr) (n : Nat) (xs : List α) : Prop := Foot (fun W => d.C W A n xs) W ok
def FK {α : Type} (d : Kd α) (W : World) (ok : Nat → Prop) (x : α) (c : List Value) : Prop := Foot (fun W => d.K W x c) W ok
section
variable {α β : Type} {d : Kd α} {e base n n' cc g N : Nat} {ok ok' okp S : Nat → Prop} {w w0 w1 W W1 : World} {A A' : Option Addr} {u v v1 : Value} {xs : List α} {xs' : List β} {d' : Kd β} {x : α} {c : List Value}
theorem F_now (h : F d W ok A n xs) : d.C W A n xs := Foot.now h
theorem F_mono (h : F d W ok A n xs) (hok : ∀ k, ok k → ok' k) : F d W ok' A n xs := Foot.mono h hok
theorem F_bound (h : F d W ok A n xs) : F d W (fun k => ok k ∧ k < W.heap.size) A n xs := Foot.bound h
theorem F_step (h : F d W ok A n xs) (hm : ∀ k, ok k → k < W.heap.size → W1.heap[k]? = W.heap[k]?) : F d W1 ok A n xs := Foot.step h hm
theorem F_below (h : F d W ok A n xs) (hb : Below W.heap.size W W1) : F d W1 ok A n xs := F_step h (fun k _ hlt => hb.block k hlt)
theorem F_far (h : F d W ok A n xs) {p : Addr} (hok : ∀ k, ok k → k ≠ p.block) (u : Value) : F d (W.setCell p u) ok A n xs := F_step h (fun k hk _ => Below.heap_setCell W p u k (hok k hk))
theorem F_elder' (h : F d W ok A n xs) (hbase : ∀ k, v.ownBlock = some k → W.heap.size ≤ k) (hb : Below W.heap.size W W1) : F d W1 (fun k => ok k ∧ some k ≠ v.ownBlock) A n xs :=
 F_mono (Foot.old h hb) (fun k hk => ⟨hk.1, fun he => by have := hbase k he.symm; have := hk.2; omega⟩)
theorem F_elderB (h : F d W ok A n xs) (a : Nat) (ha : W.heap.size ≤ a) : F d W (fun k => ok k ∧ k ≠ a) A n xs := F_mono (F_bound h) (fun k hk => ⟨hk.1, by have := hk.2; omega⟩)
theorem F_after (h : F d W (fun k => ok k ∧ some k ≠ v.ownBlock) A n xs) (hg : W.grownBy W1 v.ownBlock) (hat : v1.ownBlock = v.ownBlock ∨ ∃ b, v1.ownBlock = some b ∧ W.heap.size ≤ b) : F d W1 (fun k => ok k ∧ some k ≠ v1.ownBlock) A n xs := by
 refine F_mono (Foot.step (F_bound h) (fun k hk hlt => hg.block k hlt hk.1.2)) (fun k hk => ⟨hk.1.1, ?_⟩)
 rcases hat with hat | ⟨b, hb, hle⟩
 ·rw [hat]; exact hk.1.2
 ·rw [hb]
  intro he
  injection he with he
  have := hk.2
  omega
theorem C_F (hd : Heap d) (h : d.C w A n xs) : F d w (fun k => k < w.heap.size) A n xs := fun _ hW => hd.C (fun k hlt => hW k hlt hlt) h
theorem FK_now (h : FK d W ok x c) : d.K W x c := Foot.now h
theorem FK_mono (h : FK d W ok x c) (hok : ∀ k, ok k → ok' k) : FK d W ok' x c := Foot.mono h hok
theorem FK_bound (h : FK d W ok x c) : FK d W (fun k => ok k ∧ k < W.heap.size) x c := Foot.bound h
theorem FK_step (h : FK d W ok x c) (hm : ∀ k, ok k → k < W.heap.size → W1.heap[k]? = W.heap[k]?) : FK d W1 ok x c := Foot.step h hm
end
end Kd
end Go.Proofs.YtdhgeondbnpeoaaW.PrintWords
namespace Go.Proofs.YtdhgeondbnpeoaaW.PrintWords
open Go.RowKit
namespace Kd
def chunks (sz : Nat) (n : Nat) (inner : List Value) : List (List Value) := (List.range n).map fun j => (inner.drop (j * sz)).take sz
theorem chunks_length (sz n : Nat) (inner : List Value) : (chunks sz n inner).length = n := by simp [chunks]
theorem chunks_at {sz n : Nat} {inner : List Value} {j : Nat} (hj : j < n) : (chunks sz n inner)[j]? = some ((inner.drop (j * sz)).take sz) := by simp [chunks, hj]
theorem chunks_get {sz n : Nat} {inner : List Value} {j : Nat} {c : List Value} (h : (chunks sz n inner)[j]? = some c) : c = (inner.drop (j * sz)).take sz := by
 have hj : j < n := by have := (List.getElem?_eq_some_iff.1 h).1; rwa [chunks_length] at this
 rw [chunks_at hj] at h
 injection h with h
 exact h.symm
theorem reps_raw {α : Type} {Rr : α → List Value → Prop} {sz : Nat} {xs : List α} {inner : List Value} (h : Reps Rr sz xs inner) (hR : ∀ x c, Rr x c → c.length = sz ∧ ∀ u ∈ c, u.oneCell' = true) : Reps (fun x cs => cs = x ∧ cs.length = sz ∧ ∀ u ∈ cs, u.oneCell' = true) sz (chunks sz xs.length inner) inner := by
 refine ⟨by rw [chunks_length]; exact h.1, fun j p hj => ?_⟩
 have hjl : j < xs.length := by have := (List.getElem?_eq_some_iff.1 hj).1; rwa [chunks_length] at this
 have hp := chunks_get hj
 exact ⟨hp.symm, hR _ _ (h.2 j _ (List.getElem?_eq_getElem hjl))⟩
section
variable {α : Type} {d : Kd α} {e base n cc g : Nat} {ok ok' okp S : Nat → Prop} {w w1 W W1 : World} {A : Option Addr} {u v v1 : Value} {xs : List α} {x : α} {c : List Value}
def N {α : Type} (d : Kd α) (e : Nat) (w : World) (base : Nat) (ok : Nat → Prop) (v : Value) (xs : List α) : Prop :=
 (∀ k, v.ownBlock = some k → ok k) ∧ ∃ rows : List (List Value), rows.length = xs.length ∧ (raw d.sz).R e w base (fun k => some k = v.ownBlock) v rows ∧ ∀ (j : Nat) (x : α) (c : List Value), xs[j]? = some x → rows[j]? = some c → FK d w (fun k => ok k ∧ some k ≠ v.ownBlock) x c
theorem raw_tight {sz : Nat} {rows : List (List Value)} (h : (raw sz).R e w base ok v rows) : (raw sz).R e w base (fun k => some k = v.ownBlock) v rows := R_tight rfl h
theorem N_mono (h : N d e w base ok v xs) (hok : ∀ k, ok k → ok' k) : N d e w base ok' v xs := by
 obtain ⟨h0, rows, hl, hR, hf⟩ := h
 exact ⟨fun k hk => hok k (h0 k hk), rows, hl, hR, fun j x c hx hc => FK_mono (hf j x c hx hc) (fun k hk => ⟨hok k hk.1, hk.2⟩)⟩
theorem N_lt (h : N d e w base ok v xs) : ∀ k, v.ownBlock = some k → k < w.heap.size := by
 obtain ⟨_, rows, _, hR, _⟩ := h
 exact R_lt hR
theorem N_base (h : N d e w base ok v xs) : ∀ k, v.ownBlock = some k → base ≤ k := by
 obtain ⟨_, rows, _, hR, _⟩ := h
 exact R_base hR
theorem N_bound (h : N d e w base ok v xs) : N d e w base (fun k => ok k ∧ k < w.heap.size) v xs := by
 have hlt := N_lt h
 obtain ⟨h0, rows, hl, hR, hf⟩ := h
 exact ⟨fun k hk => ⟨h0 k hk, hlt k hk⟩, rows, hl, hR, fun j x c hx hc => FK_mono (FK_bound (hf j x c hx hc)) (fun k hk => ⟨⟨hk.1.1, hk.2⟩, hk.1.2⟩)⟩
theorem N_lower {base' : Nat} (h : N d e w base ok v xs) (hb : base' ≤ base) : N d e w base' ok v xs := by
 obtain ⟨h0, rows, hl, hR, hf⟩ := h
 exact ⟨h0, rows, hl, R_lower hR hb, hf⟩
theorem N_step (h : N d e w base ok v xs) (hm : ∀ k, ok k → k < w.heap.size → w1.heap[k]? = w.heap[k]?) : N d e w1 base ok v xs := by
 obtain ⟨h0, rows, hl, hR, hf⟩ := h
 exact ⟨h0, rows, hl, R_step hR (fun k hk hlt => hm k (h0 k hk.symm) hlt), fun j x c hx hc => FK_step (hf j x c hx hc) (fun k hk hlt => hm k hk.1 hlt)⟩
theorem N_below (h : N d e w base ok v xs) (hb : Below w.heap.size w w1) : N d e w1 base ok v xs := N_step h (fun k _ hk => hb.block k hk)
theorem N_elderB (h : N d e w base ok v xs) (a : Nat) (ha : w.heap.size ≤ a) : N d e w base (fun k => ok k ∧ k ≠ a) v xs := N_mono (N_bound h) (fun k hk => ⟨hk.1, by have := hk.2; omega⟩)
theorem N_slice (h : N d e w base ok v xs) : ∃ A c, v = .slice A xs.length c := by
 obtain ⟨_, rows, hl, hR, _⟩ := h
 obtain ⟨A, c, he⟩ := R_slice hR
 exact ⟨A, c, by rw [he, hl]⟩
theorem N_reads' {n c : Nat} (h : N d e w base ok (.slice A n c) xs) : n = xs.length ∧ n ≤ c ∧ d.C w A xs.length xs := by
 obtain ⟨_, rows, hl, hR, hf⟩ := h
 obtain ⟨hn, hc, hC⟩ := R_reads' hR
 refine ⟨by omega, hc, ?_⟩
 rw [hl] at hC
 refine ⟨rfl, hC.2.1, fun hp => ?_⟩
 obtain ⟨ad, he, hcell⟩ := hC.2.2 hp
 refine ⟨ad, he, fun j p hj => ?_⟩
 have hjl : j < rows.length := by have := (List.getElem?_eq_some_iff.1 hj).1; omega
 obtain ⟨c', hcl, hK, hcc⟩ := hcell j _ (List.getElem?_eq_getElem hjl)
 have hk := FK_now (hf j p _ hj (List.getElem?_eq_getElem hjl))
 refine ⟨c', hcl, ?_, hcc⟩
 rw [show c' = rows[j] from hK.1]
 exact hk
end
end Kd
end Go.Proofs.YtdhgeondbnpeoaaW.PrintWords
namespace Go.Proofs.YtdhgeondbnpeoaaW.PrintWords
theorem Reps.one {α : Type} {R : α → List Value → Prop} {ps : List α} {cs : List Value} {p : α} {v : Value} (hp : R p [v]) (h : Reps R 1 ps cs) : Reps R 1 (p :: ps) (v :: cs) := by
 refine ⟨by simp [h.1], fun j q hq => ?_⟩
 cases j with
 |zero =>
  simp only [List.getElem?_cons_zero, Option.some.injEq] at hq
  subst hq
  simpa using hp
 |succ j =>
  simp only [List.getElem?_cons_succ] at hq
  have h1 := h.2 j q hq
  simpa [Nat.mul_one] using h1
end Go.Proofs.YtdhgeondbnpeoaaW.PrintWords
namespace Go.Proofs.YtdhgeondbnpeoaaW.PrintWords
open Go.RowKit
namespace Kd
section
variable {α : Type} {d : Kd α} {e base n cap g : Nat} {ok ok' okp : Nat → Prop} {w w1 W : World} {v v1 : Value} {xs ys : List α}
theorem N_made {rows : List (List Value)} (hR : (raw d.sz).R e w1 base (fun k => k = W.heap.size) v1 rows) (hg : W.grownBy w1 none) (hat : ∃ b, v1.ownBlock = some b ∧ W.heap.size ≤ b) (hl : rows.length = xs.length) (hf : ∀ (j : Nat) (x : α) (c : List Value), xs[j]? = some x → rows[j]? = some c → FK d W okp x c)
  (hok : ∀ k, okp k → ok k) (hfresh : ok W.heap.size) : N d e w1 base ok v1 xs := by
 obtain ⟨b, hb, hle⟩ := hat
 refine ⟨fun k hk => by rw [hR.1 k hk]; exact hfresh, rows, hl, raw_tight hR, fun j x c hx hc => ?_⟩
 refine FK_mono (FK_step (FK_bound (hf j x c hx hc)) (fun k hk hlt => hg.block k hlt (by simp))) (fun k hk => ⟨hok k hk.1, fun he => ?_⟩)
 rw [hb] at he
 injection he with he
 have := hk.2
 omega
end
section
variable {P : Program} {ops : Array Oper} {rest : List Oper} {o : Oper} {a : Act} {Q : Exit → Act → World → Prop} {Kc : Act → World → Prop} {α : Type}
theorem N_lit (d : Kd α) {w0 W : World} (base e : Nat) (hgd : o.guard = none) {N' : Tmp} (_hd : o.dst = some N') {xs : List α} {inner : List Value} {ok okp : Nat → Prop}
  (hrun : (execOp a.eval o).run P W = .ok (.value (.slice (some ⟨W.heap.size, 0, none⟩) xs.length xs.length)) (W.alloc (.cells inner.toArray e)))
  (hrep : Reps (FK d W okp) d.sz xs inner) (hok : ∀ k, okp k → ok k) (hfresh : ok W.heap.size) (HB : Below base w0 W) (hbase : base ≤ W.heap.size) (hm : xs.length ≤ 9223372036854775807)
  (h : ∀ v1 w1, N d e w1 base ok v1 xs → Below base w0 w1 → W.grownBy w1 none → (∃ b, v1.ownBlock = some b ∧ W.heap.size ≤ b) → wpList P ops Q rest (a.put o.dst v1) w1) :
  wpList P ops Q (o :: rest) a W := by
 refine R_lit (raw d.sz) base e hgd _hd (xs := chunks d.sz xs.length inner) (inner := inner) (ok := fun k => k = W.heap.size) (okp := fun _ => False) (by rw [chunks_length]; exact hrun) (reps_raw hrep (fun y c hk => ⟨d.K_len (FK_now hk), d.K_one (FK_now hk)⟩)) (fun _ hk => hk.elim) rfl HB hbase (by rw [chunks_length]; exact hm) ?_
 intro v1 w1 hr hb hg hat
 exact h v1 w1 (N_made hr hg hat (chunks_length _ _ _) (fun j y c hy hc => by rw [chunks_get hc]; exact hrep.2 j y hy) hok hfresh) hb hg hat
end
end Kd
end Go.Proofs.YtdhgeondbnpeoaaW.PrintWords
namespace Go.Proofs.YtdhgeondbnpeoaaW.PrintMore
open Go.RowKit Go.Proofs.YtdhgeondbnpeoaaW.PrintWords
namespace Kd
open Go.Proofs.YtdhgeondbnpeoaaW.PrintWords.Kd
end Kd
namespace Kd
open Go.Proofs.YtdhgeondbnpeoaaW.PrintWords.Kd
end Kd
theorem max2_int (k k' : IntKind) (x y : Int) : Builtin.max2 (.int k x) (.int k' y) = pure (.int k (if x < y then y else x)) := by simp only [Builtin.max2, gt_iff_lt]
theorem min2_int (k k' : IntKind) (x y : Int) : Builtin.min2 (.int k x) (.int k' y) = pure (.int k (if y < x then y else x)) := by simp only [Builtin.min2]
theorem max_two (ats : Array TypeId) (ty : TypeId) (a b : Value) : Builtin.max_ ats ty #[a, b] = (Builtin.max2 a b >>= fun s => pure s) := by simp only [Builtin.max_, List.foldlM_cons, List.foldlM_nil]
theorem min_two (ats : Array TypeId) (ty : TypeId) (a b : Value) : Builtin.min_ ats ty #[a, b] = (Builtin.min2 a b >>= fun s => pure s) := by simp only [Builtin.min_, List.foldlM_cons, List.foldlM_nil]
theorem max_three (ats : Array TypeId) (ty : TypeId) (a b c : Value) : Builtin.max_ ats ty #[a, b, c] = (Builtin.max2 a b >>= fun s => Builtin.max2 s c >>= fun s => pure s) := by simp only [Builtin.max_, List.foldlM_cons, List.foldlM_nil]
theorem min_three (ats : Array TypeId) (ty : TypeId) (a b c : Value) : Builtin.min_ ats ty #[a, b, c] = (Builtin.min2 a b >>= fun s => Builtin.min2 s c >>= fun s => pure s) := by simp only [Builtin.min_, List.foldlM_cons, List.foldlM_nil]
theorem max_four (ats : Array TypeId) (ty : TypeId) (a b c d : Value) : Builtin.max_ ats ty #[a, b, c, d] = (Builtin.max2 a b >>= fun s => Builtin.max2 s c >>= fun s => Builtin.max2 s d >>= fun s => pure s) := by simp only [Builtin.max_, List.foldlM_cons, List.foldlM_nil]
theorem min_four (ats : Array TypeId) (ty : TypeId) (a b c d : Value) : Builtin.min_ ats ty #[a, b, c, d] = (Builtin.min2 a b >>= fun s => Builtin.min2 s c >>= fun s => Builtin.min2 s d >>= fun s => pure s) := by simp only [Builtin.min_, List.foldlM_cons, List.foldlM_nil]
end Go.Proofs.YtdhgeondbnpeoaaW.PrintMore
namespace Go.Proofs.YtdhgeondbnpeoaaW.PrintWords
open Go.RowKit
section
variable {P : Program} {ops : Array Oper} {rest : List Oper} {o : Oper} {a : Act} {Q : Exit → Act → World → Prop} {W : World}
theorem gate_callee {f : FuncId} {az : Array Operand} {ts : Array TypeId} (_ho : o.op = .call { callee := .value (.func f), args := az, argTypes := ts }) (h : wpList P ops Q (o :: rest) a W) : wpList P ops Q (o :: rest) a W := h
theorem gate_builtin {b : Builtin} {xs : Array Operand} {ts : Array TypeId} (_ho : o.op = .call { callee := .builtin b, args := xs, argTypes := ts }) (h : wpList P ops Q (o :: rest) a W) : wpList P ops Q (o :: rest) a W := h
end
def mx (a b : Int) : Int := if a < b then b else a
namespace Kd
end Kd
end Go.Proofs.YtdhgeondbnpeoaaW.PrintWords
namespace Go.Proofs.YtdhgeondbnpeoaaW.PrintWords
open Go.RowKit
namespace Kd
def V {α : Type} (d : Kd α) (_e : Nat) (W : World) (_base : Nat) (ok : Nat → Prop) (v : Value) (xs : List α) : Prop := ∃ A c, v = .slice A xs.length c ∧ xs.length ≤ c ∧ F d W ok A xs.length xs
section
variable {α β : Type} {d : Kd α} {e base base' n m c g N' lo hi : Nat} {ok ok' S : Nat → Prop} {w W w1 : World} {A : Option Addr} {ad : Addr} {u v v1 : Value} {xs : List α}
theorem V_map (h : V d e W base ok v xs) (hF : ∀ A, F d W ok A xs.length xs → F d w1 ok' A xs.length xs) : V d e w1 base' ok' v xs := by
 obtain ⟨A, c, hv, hl, hf⟩ := h
 exact ⟨A, c, hv, hl, hF A hf⟩
theorem V_mk (hl : xs.length ≤ c) (hf : F d W ok A xs.length xs) : V d e W base ok (.slice A xs.length c) xs := ⟨A, c, rfl, hl, hf⟩
theorem V_at (h : V d e W base ok (.slice A n c) xs) : n = xs.length ∧ n ≤ c ∧ F d W ok A xs.length xs := by
 obtain ⟨A', c', hv, hl, hf⟩ := h
 injection hv with ha hn hc
 subst ha; subst hc
 exact ⟨hn, by rw [hn]; exact hl, hf⟩
theorem V_reads' (h : V d e W base ok (.slice A n c) xs) : n = xs.length ∧ n ≤ c ∧ d.C W A xs.length xs := ⟨(V_at h).1, (V_at h).2.1, F_now (V_at h).2.2⟩
theorem V_F (h : V d e W base ok (.slice A n c) xs) : F d W ok A n xs := by
 obtain ⟨hn, _, hf⟩ := V_at h
 rw [hn]
 exact hf
theorem V_mono (h : V d e W base ok v xs) (hok : ∀ k, ok k → ok' k) : V d e W base ok' v xs := V_map h (fun _ hf => F_mono hf hok)
theorem V_below (h : V d e W base ok v xs) (hb : Below W.heap.size W w1) : V d e w1 base ok v xs := V_map h (fun _ hf => F_below hf hb)
theorem V_far (h : V d e W base ok v xs) {p : Addr} (hok : ∀ k, ok k → k ≠ p.block) (u : Value) : V d e (W.setCell p u) base ok v xs := V_map h (fun _ hf => F_far hf hok u)
theorem V_after (h : V d e W base (fun k => ok k ∧ some k ≠ u.ownBlock) v xs) (hg : W.grownBy w1 u.ownBlock) (hat : v1.ownBlock = u.ownBlock ∨ ∃ b, v1.ownBlock = some b ∧ W.heap.size ≤ b) : V d e w1 base (fun k => ok k ∧ some k ≠ v1.ownBlock) v xs := V_map h (fun _ hf => F_after hf hg hat)
theorem V_afterv (h : V d e W base (fun k => ok k ∧ some k ≠ v.ownBlock) u xs) (hg : W.grownBy w1 v.ownBlock) (hat : v1.ownBlock = v.ownBlock ∨ ∃ b, v1.ownBlock = some b ∧ W.heap.size ≤ b) : V d e w1 base (fun k => ok k ∧ some k ≠ v1.ownBlock) u xs := V_after h hg hat
theorem V_elder' (h : V d e W base ok v xs) (hbase : ∀ k, u.ownBlock = some k → W.heap.size ≤ k) (hb : Below W.heap.size W w1) : V d e w1 base (fun k => ok k ∧ some k ≠ u.ownBlock) v xs := V_map h (fun _ hf => F_elder' hf hbase hb)
theorem V_elderB (h : V d e W base ok v xs) (a : Nat) (ha : W.heap.size ≤ a) : V d e W base (fun k => ok k ∧ k ≠ a) v xs := V_map h (fun _ hf => F_elderB hf a ha)
theorem FK_slice_mk {l : List α} (hl : l.length ≤ c) (hf : F d W ok A l.length l) : FK (Kd.slice e d) W ok l [.slice A l.length c] := fun W' hW => ⟨A, c, rfl, hl, hf W' hW⟩
theorem R_newM {M : Nat → Prop} (h : d.R e w1 W.heap.size ok v xs) (hle : w.heap.size ≤ W.heap.size) (hM : ∀ k, w.heap.size ≤ k → M k) : d.R e w1 W.heap.size (fun k => M k ∧ ok k) v xs := R_mono (R_bound h) (fun k hk => ⟨hM k (Nat.le_trans hle hk.2.1), hk.1⟩)
end
end Kd
end Go.Proofs.YtdhgeondbnpeoaaW.PrintWords
namespace Go.Proofs.Ytdhgeondbnpeoaa.Ext
open Go.RowKit Go.Proofs.YtdhgeondbnpeoaaW.PrintWords Go.Proofs.YtdhgeondbnpeoaaW.PrintLast Go.Proofs.YtdhgeondbnpeoaaW.PrintMore
attribute [local go_sem] max2_int min2_int max_two min_two max_three min_three max_four min_four
theorem info3 : (Tra.prog.info? 3).map (fun i => (i.zero, i.size, i.bytes)) = some (some (.int .i64 0), 1, 8) := by kernel_rfl
set_option maxHeartbeats 8000000 in
set_option maxRecDepth 100000 in
theorem clone_calls (A : Option Addr) (c : Nat) (l : List Int) (w : World) (hr : Kd.C (Kd.int .i64) w A l.length l) (hL : l.length < 17592186044416) :
  Calls Tra.prog 56 #[.slice A l.length c] w fun e w' => ∃ v, e = .returned v ∧ Kd.R (Kd.int .i64) 3 w' w.heap.size (fun _ => True) v l ∧ Below w.heap.size w w' := by
 have HR := As0.mk hr
 have HL := As0.mk hL
 have HB := As0.mk (Below.refl w.heap.size w)
 clear hL
 cases A with
 |none =>
  have hl : l = [] := by
   rcases Nat.eq_zero_or_pos l.length with h | h
   ·exact List.eq_nil_of_length_eq_zero h
   ·obtain ⟨ad, h1, _⟩ := Kd.at_int hr 0 (by omega) (by omega)
    cases h1
  subst hl
  clear hr
  have hq : ∀ W, (binOp .eql 29 (.slice none 0 c) (.slice none 0 0)).run Tra.prog W = .ok (.bool true) W := fun W => Lib.run_eql_slice_nil W 29 3 none _ _ _ _ Tra.underlying29
  go_enter Tra.func56, Tra.ntmps56
  go_wp2
  go_ret
  exact ⟨_, rfl, Kd.R_nil _ _ _ _ _, HB.out⟩
 |some ad =>
  clear hr
  have hq : ∀ W, (binOp .eql 29 (.slice (some ad) l.length c) (.slice none 0 0)).run Tra.prog W = .ok (.bool false) W := fun W => Lib.run_eql_slice_nil W 29 3 (some ad) _ _ _ _ Tra.underlying29
  go_enter Tra.func56, Tra.ntmps56
  go_wp2_with (first | ((with_reducible refine gate_dst (N := 5) rfl ?_); refine Kd.R_lit (Kd.int .i64) _ 3 ?hg (N := 5) ?hd (xs := ([] : List Int)) (inner := []) (ok := fun _ => True) (okp := fun _ => True) ?hr ?hp (fun _ hk => hk) trivial (Below.refl _ _) (Nat.le_refl _) (by simp) ?_; (case hd => rfl); (case hg => rfl); (case hr => first | (go_simp; done) | (go_simp; rfl)); (case hp => exact (Reps.none _ _)); intro v464 w11 ho12 hb hg_ hnew_; have HO := As0.mk ho12; have HB2 := As0.mk (below_step HB.out hb); clear HB hg_ hnew_ ho12 hb) | (at_builtin; refine Kd.R_append_rows (Kd.int .i64) (w0 := w) w.heap.size rfl (.tmp 5) (.tmp 6) 29 3 (.int .i64 0) 8 rfl Tra.underlying29 info3 rfl (by decide) (by omega) v464 [] l _ _ _ (fun _ => True) (fun _ => False) rfl rfl ?aO ?aR (fun _ _ h => h) (fun _ h => h.elim) ?aF ?aB ?aS ?aL ?_; (case aR => exact (Kd.C_below HR.out HB2.out)); (case aB => exact HB2.out); (case aF => exact (fun _ _ => trivial)); (case aO => exact HO.out); (case aS => exact below_size HB2.out); (case aL => have := HL.out; simp only [List.length_nil]; omega); intro v467 w13 ho hb hg hat))
  go_ret
  exact ⟨_, rfl, ho, hb⟩
theorem alive_calls (w : World) : Calls Tra.prog 20 #[] w fun e w' => e = .returned (.bool true) ∧ Below w.heap.size w w' := by
 go_enter Tra.func20, Tra.ntmps20
 go_wp2
 go_ret
 exact ⟨rfl, Below.refl _ _⟩
end Go.Proofs.Ytdhgeondbnpeoaa.Ext
namespace Go.Proofs.Ytdhgeondbnpeoaa.Ext
open Go.RowKit Go.Proofs.YtdhgeondbnpeoaaW.PrintWords Go.Proofs.YtdhgeondbnpeoaaW.PrintLast Go.Proofs.YtdhgeondbnpeoaaW.PrintMore
def OwnI (w : World) (base : Nat) (v : Value) (xs : List Int) : Prop :=
 w.ownsRow base 3 1 v xs.length (nums .i64 xs) ∧ ∀ g cs fr, v.ownBlock = some g → w.heap[g]? = some (.cells cs 3 fr) → ∀ c ∈ cs, ∃ x, c = .int .i64 x
theorem OwnI.nil (w : World) (base : Nat) : OwnI w base (.slice none 0 0) [] := ⟨own_nil _ _ _ _, fun g cs fr h => by simp [Value.ownBlock] at h⟩
theorem OwnI.move {w w1 : World} {base : Nat} {v : Value} {xs : List Int} (h : OwnI w base v xs) (hm : ∀ k, v.ownBlock = some k → w1.heap[k]? = w.heap[k]?) : OwnI w1 base v xs :=
 ⟨own_move h.1 hm, fun g cs fr hg hb => h.2 g cs fr hg ((hm g hg).symm.trans hb)⟩
theorem OwnI.lt {w : World} {base : Nat} {v : Value} {xs : List Int} (h : OwnI w base v xs) (k : Nat) (hk : v.ownBlock = some k) : base ≤ k ∧ k < w.heap.size := h.1.lt k hk
theorem OwnI.lower {w : World} {base base' : Nat} {v : Value} {xs : List Int} (h : OwnI w base v xs) (hb : base' ≤ base) : OwnI w base' v xs := ⟨own_weaken h.1 hb, h.2⟩
theorem OwnI.below {w w1 : World} {base : Nat} {v : Value} {xs : List Int} (h : OwnI w base v xs) (hb : Below w.heap.size w w1) : OwnI w1 base v xs := h.move fun k hk => hb.block k (h.lt k hk).2
theorem OwnI.grown {w w1 : World} {base : Nat} {v : Value} {xs : List Int} (h : OwnI w base v xs) {row : Option Nat} (hg : w.grownBy w1 row) (hne : v.ownBlock = none ∨ v.ownBlock ≠ row) : OwnI w1 base v xs :=
  h.move fun k hk => hg.block k (h.lt k hk).2 (by rcases hne with h0 | h0; · rw [hk] at h0; cases h0
                                                  · rw [← hk]; exact h0)
theorem OwnI.toR {w : World} {base : Nat} {v : Value} {xs : List Int} (h : OwnI w base v xs) : Kd.R (Kd.int .i64) 3 w base (fun _ => True) v xs := by
 refine ⟨fun _ _ => trivial, nums .i64 xs, h.1, ?_⟩
 refine ⟨by simp [nums, Kd.int, Kd.scalar], fun j p hj => ?_⟩
 show _ = _
 simp only [nums, Kd.int, Kd.scalar, Nat.mul_one]
 obtain ⟨hlt, rfl⟩ := List.getElem?_eq_some_iff.1 hj
 rw [List.drop_eq_getElem_cons (by simpa using hlt)]
 simp
theorem zeros_int (n : Nat) : ∀ c ∈ Builtin.zeroCells #[Value.int .i64 0] n, c = .int .i64 0 := by
 intro c hc
 unfold Builtin.zeroCells at hc
 obtain ⟨i, _, rfl⟩ := Array.mem_map.1 hc
 show #[Value.int .i64 0][i % 1]! = _
 rw [Nat.mod_one]
 rfl
section
variable {P : Program} {w : World}
theorem run_appendI {t ty : TypeId} {i : TypeInfo} (ht : P.underlying t = some (.slice 3)) (hi : P.info? 3 = some i) (hz : i.zero = some (.int .i64 0)) (hs : i.size = 1) (hby : i.bytes = 8) {base : Nat} {v : Value} {xs : List Int} (HO : OwnI w base v xs) (hbase : base ≤ w.heap.size)
  {ad : Addr} {c : Nat} {y : Int} (hy : w.cell? ad = some (.int .i64 y)) (hl : xs.length + 1 ≤ 17592186044416) :
  ∃ v' w', (Builtin.append_ #[t, t] ty #[v, .slice (some ad) 1 c]).run P w = .ok v' w' ∧ OwnI w' base v' (xs ++ [y]) ∧ w.grownBy w' v.ownBlock ∧ (v'.ownBlock = v.ownBlock ∨ v'.ownBlock = some w.heap.size) := by
 have hnews : ∀ j u, [Value.int .i64 y][j]? = some u → w.cell? (ad.add j) = some u := by
  intro j u hu
  rcases j with _ | j
  ·injection hu with hu
   subst hu
   have e : ad.add 0 = ad := by cases ad with | mk b o s => unfold Addr.add; split <;> simp_all
   rw [e]; exact hy
  ·simp at hu
 have grown : ∀ (old : Nat) (row : Option Nat), OwnI (w.drew.alloc (.cells ((nums .i64 xs).toArray ++ [Value.int .i64 y].toArray ++ Builtin.zeroCells #[Value.int .i64 0] (grownCap w (xs.length + 1) old 3 - (xs.length + 1))) 3)) base (.slice (some ⟨w.heap.size, 0, none⟩) (xs.length + 1) (grownCap w (xs.length + 1) old 3)) (xs ++ [y]) ∧
   w.grownBy (w.drew.alloc (.cells ((nums .i64 xs).toArray ++ [Value.int .i64 y].toArray ++ Builtin.zeroCells #[Value.int .i64 0] (grownCap w (xs.length + 1) old 3 - (xs.length + 1))) 3)) row := by
  intro old row
  have hge := grownCap_ge w (xs.length + 1) old 3
  have hcm : grownCap w (xs.length + 1) old 3 ≤ maxLen := grownCap_le_maxLen w (xs.length + 1) old 3 (by simp only [maxLen]; omega)
  have hn : (nums .i64 xs).length = xs.length := by simp [nums]
  have hsz : (Builtin.zeroCells #[Value.int .i64 0] (grownCap w (xs.length + 1) old 3 - (xs.length + 1))).size = grownCap w (xs.length + 1) old 3 - (xs.length + 1) := by rw [size_zeroCells]; simp
  refine ⟨⟨⟨by simp [nums], .inr ⟨w.heap.size, _, _, by simp, hbase, heap_alloc_new w.drew _, by simp; omega, hcm, ?_, ?_⟩⟩, ?_⟩, ⟨rfl, rfl, rfl, by simp, fun k hk _ => heap_alloc_old w.drew _ hk⟩⟩
  ·simp only [Array.size_append, List.size_toArray, hn, hsz, List.length_singleton]; omega
  ·rw [show (nums IntKind.i64 (xs ++ [y])) = nums .i64 xs ++ [Value.int .i64 y] by simp [nums]]
   simp only [Array.toList_append, List.length_append, List.length_singleton, Nat.mul_one]
   rw [show xs.length + 1 = (nums .i64 xs ++ [Value.int .i64 y]).length by simp [nums]]
   exact List.take_left
  ·intro g cs fr hg hb
   have hg' : w.heap.size = g := by simpa [Value.ownBlock] using hg
   subst hg'
   have hb' : (w.drew.alloc (.cells ((nums .i64 xs).toArray ++ [Value.int .i64 y].toArray ++ Builtin.zeroCells #[Value.int .i64 0] (grownCap w (xs.length + 1) old 3 - (xs.length + 1))) 3)).heap[w.heap.size]? = _ := heap_alloc_new w.drew _
   rw [hb'] at hb
   injection hb with hb
   injection hb with hb
   subst hb
   intro c hc
   simp only [Array.mem_append, List.mem_toArray] at hc
   rcases hc with (hc | hc) | hc
   ·simp only [nums, List.mem_map] at hc
    obtain ⟨x, _, rfl⟩ := hc
    exact ⟨x, rfl⟩
   ·exact ⟨y, by simpa using hc⟩
   ·exact ⟨0, zeros_int _ c hc⟩
 have hcopy := HO
 obtain ⟨⟨h1, h2⟩, h3⟩ := HO
 rcases h2 with ⟨rfl, h0⟩ | ⟨g, cap, cur, rfl, hbg, hg, hnc, hcm, hcs, htake⟩
 ·have hx : xs = [] := List.eq_nil_of_length_eq_zero h0
  subst hx
  have hr := run_append_nil (P := P) w t ty 3 i (.int .i64 0) ht hi hz ad 1 c [Value.int .i64 y] (by rw [hs]; rfl) hnews (by omega) (by omega) (by rw [hby]; omega)
  have hgr := grown 0 (Value.ownBlock (.slice none 0 0))
  simp only [List.length_nil, Nat.zero_add, List.nil_append, nums, List.map_nil, Array.empty_append] at hgr ⊢
  exact ⟨_, _, hr, hgr.1, hgr.2, .inr rfl⟩
 ·by_cases hroom : xs.length + 1 ≤ cap
  ·have hcs' : cur.size = cap := by rw [hcs, Nat.mul_one]
   have hr := run_append_room (P := P) w t ty 3 i ht hi g xs.length cap cur hg ad 1 c [Value.int .i64 y] (by rw [hs]; rfl) hnews (by simp [Value.oneCell']) hroom (by rw [hs, hcs']; simp; omega)
   rw [hs, Nat.mul_one] at hr
   rw [Nat.mul_one] at htake
   refine ⟨_, _, hr, ⟨⟨by simp [nums], .inr ⟨g, cap, _, by simp, hbg, setRow_heap w g cur _ 3 _ hg, by simp; omega, hcm, ?_, ?_⟩⟩, ?_⟩, ⟨rfl, rfl, rfl, by simp, fun k _ hk => setRow_other w g k _ (fun e => hk (by simp [Value.ownBlock, e]))⟩, .inl rfl⟩
   ·simp only [List.size_toArray, List.length_append, List.length_take, List.length_drop, Array.length_toList, List.length_singleton]
    omega
   ·simp only [List.length_append, List.length_singleton, Nat.mul_one]
    rw [htake, show (nums IntKind.i64 (xs ++ [y])) = nums .i64 xs ++ [Value.int .i64 y] by simp [nums], show xs.length + 1 = (nums .i64 xs ++ [Value.int .i64 y]).length by simp [nums]]
    exact List.take_left
   ·intro g' cs fr hg' hb
    have e : g = g' := by simpa [Value.ownBlock] using hg'
    subst e
    rw [setRow_heap w g cur _ 3 _ hg] at hb
    injection hb with hb
    injection hb with hb
    subst hb
    intro c hc
    simp only [List.mem_toArray, List.mem_append] at hc
    rcases hc with (hc | hc) | hc
    ·exact h3 g cur _ rfl hg c (Array.mem_def.2 (List.mem_of_mem_take hc))
    ·exact ⟨y, by simpa using hc⟩
    ·exact h3 g cur _ rfl hg c (Array.mem_def.2 (List.mem_of_mem_drop hc))
  ·have holds : ∀ j u, (nums .i64 xs)[j]? = some u → w.cell? ((⟨g, 0, none⟩ : Addr).add j) = some u := hcopy.1.cells (g := g) rfl
   have hr := run_append_grow (P := P) w t ty 3 i (.int .i64 0) ht hi hz ⟨g, 0, none⟩ xs.length cap (nums .i64 xs) (by rw [hs]; simp [nums]) holds ad 1 c [Value.int .i64 y] (by rw [hs]; rfl) hnews (by omega) (by omega) (growslice_fits (by omega) (by rw [hby]; omega))
   have hgr := grown cap (Value.ownBlock (.slice (some ⟨g, 0, none⟩) xs.length cap))
   exact ⟨_, _, hr, hgr.1, hgr.2, .inr rfl⟩
end
section
variable {P : Program} {ops : Array Oper} {rest : List Oper} {o : Oper} {a : Act} {Q : Exit → Act → World → Prop}
theorem appendI_step {W : World} (base : Nat) (hgd : o.guard = none) (s x : Operand) (t : TypeId)
  (ho : o.op = .call { callee := .builtin .append, args := #[s, x], argTypes := #[t, t] })
  (ht : P.underlying t = some (.slice 3)) (hinfo : (P.info? 3).map (fun i => (i.zero, i.size, i.bytes)) = some (some (.int .i64 0), 1, 8))
  (v : Value) (xs : List Int) (y : Int) (hs : a.eval s = v) (hx : a.eval x = .slice (some ⟨W.heap.size, 0, none⟩) 1 1)
  (HO : OwnI W base v xs) (hbase : base ≤ W.heap.size) (hl : xs.length + 1 ≤ 17592186044416)
  (h : ∀ v1 w1, OwnI w1 base v1 (xs ++ [y]) → W.grownBy w1 v.ownBlock → (v1.ownBlock = v.ownBlock ∨ ∃ b, v1.ownBlock = some b ∧ W.heap.size ≤ b) → wpList P ops Q rest (a.put o.dst v1) w1) :
  wpList P ops Q (o :: rest) a (W.alloc (.cells #[.int .i64 y] 3)) := by
 obtain ⟨i0, hi, hzz⟩ := Option.map_eq_some_iff.1 hinfo
 simp only [Prod.mk.injEq] at hzz
 obtain ⟨hz0, hz1, hz2⟩ := hzz
 have hb : (W.alloc (.cells #[.int .i64 y] 3)).heap[W.heap.size]? = some (.cells #[.int .i64 y] 3 (0, 0)) := heap_alloc_new _ _
 have hc : (W.alloc (.cells #[.int .i64 y] 3)).cell? ⟨W.heap.size, 0, none⟩ = some (.int .i64 y) := (blk_cell hb 0).trans rfl
 obtain ⟨v', w', hr, h2, h3, h4⟩ := run_appendI (P := P) (w := W.alloc (.cells #[.int .i64 y] 3)) (t := t) (ty := o.type) (c := 1) ht hi hz0 hz1 hz2 (HO.below (below_alloc (Below.refl _ _) _)) (by simp; omega) hc hl
 refine wpList_plain hgd fun _ hK => ?_
 unfold Oper.wp execOp
 simp only [ho, resolve, invoke, builtin, Sem.run_bind, Sem.run_pure, Result.andThen_ok, List.map_toArray, List.map_cons, List.map_nil, hs, hx, hr]
 refine hK _ _ (h v' w' h2 (World.grownBy.trans (World.grownBy_alloc W _ _) h3) ?_)
 rcases h4 with h4 | h4
 ·exact .inl h4
 ·exact .inr ⟨_, h4, by simp⟩
end
end Go.Proofs.Ytdhgeondbnpeoaa.Ext
namespace Go.Proofs.Ytdhgeondbnpeoaa.Ext
open Go.RowKit Go.Proofs.YtdhgeondbnpeoaaW.PrintWords Go.Proofs.YtdhgeondbnpeoaaW.PrintLast Go.Proofs.YtdhgeondbnpeoaaW.PrintMore
section
variable {α : Type} [DecidableEq α]
def met (S : List α) (x : α) : List α := if x ∈ S then S else S ++ [x]
def numStep (s : List α × List Int) (x : α) : List α × List Int := (met s.1 x, s.2 ++ [((met s.1 x).idxOf x : Int)])
def numSt (l : List α) : List α × List Int := l.foldl numStep ([], [])
def numL (l : List α) : List Int := (numSt l).2
theorem numSt_snoc (l : List α) (x : α) : numSt (l ++ [x]) = numStep (numSt l) x := by simp [numSt]
theorem numSt_take {l : List α} {k : Nat} (h : k < l.length) : numSt (l.take (k + 1)) = numStep (numSt (l.take k)) l[k] := by
 rw [List.take_succ_eq_append_getElem h, numSt_snoc]
theorem met_nodup {S : List α} (h : S.Nodup) (x : α) : (met S x).Nodup := by
 unfold met
 split
 ·exact h
 ·rename_i hx
  rw [List.nodup_append]
  refine ⟨h, by simp, ?_⟩
  intro a ha b hb e
  rw [List.mem_singleton] at hb
  exact hx (hb ▸ e ▸ ha)
theorem numSt_len (l : List α) : (numSt l).2.length = l.length ∧ (numSt l).1.length ≤ l.length := by
 suffices h : ∀ (l : List α) (s : List α × List Int), (l.foldl numStep s).2.length = s.2.length + l.length ∧ (l.foldl numStep s).1.length ≤ s.1.length + l.length by
  have := h l ([], [])
  simpa [numSt] using this
 intro l
 induction l with
 |nil => intro s; simp
 |cons x l ih =>
  intro s
  obtain ⟨h1, h2⟩ := ih (numStep s x)
  rw [List.foldl_cons]
  have h3 : (numStep s x).2.length = s.2.length + 1 := by simp [numStep]
  have h4 : (numStep s x).1.length ≤ s.1.length + 1 := by
   simp only [numStep, met]
   split <;> simp
  refine ⟨by rw [h1, h3, List.length_cons]; omega, by rw [List.length_cons]; omega⟩
end
structure KeyD (P : Program) (α : Type) where
 enc : α → Value
 kt : TypeId
 ok : α → Prop
 inj : ∀ {x y}, enc x = enc y → x = y
 keyed : Go.Maps.Keyed P kt
 key : ∀ {x}, ok x → ∃ l, keyOf P kt (enc x) = some l
section
variable {P : Program} {α : Type} [DecidableEq α] {D : KeyD P α}
def Named (D : KeyD P α) (w : World) (g : Nat) (S : List α) : Prop :=
 S.Nodup ∧ (∀ x ∈ S, D.ok x) ∧ ∃ (es : Array MapEntry) (clock : Nat), w.heap[g]? = some (.map es clock) ∧ es.size = S.length ∧ ∀ (i : Nat) (e : MapEntry), es.toList[i]? = some e → ∃ x, S[i]? = some x ∧ e.key = D.enc x ∧ e.val = .int .i64 (i : Int)
theorem Named.made (D : KeyD P α) (w : World) : Named D (w.alloc (.map #[] 0)) w.heap.size [] := ⟨List.nodup_nil, by simp, #[], 0, heap_alloc_new _ _, rfl, by simp⟩
theorem Named.lt {w : World} {g : Nat} {S : List α} (h : Named D w g S) : g < w.heap.size := by
 obtain ⟨_, _, es, clock, hb, _⟩ := h
 exact blk_lt hb
theorem Named.move {w w1 : World} {g : Nat} {S : List α} (h : Named D w g S) (hm : w1.heap[g]? = w.heap[g]?) : Named D w1 g S := by
 obtain ⟨h1, h2, es, clock, hb, r⟩ := h
 exact ⟨h1, h2, es, clock, hm.trans hb, r⟩
theorem Named.keys {S : List α} (hok : ∀ x ∈ S, D.ok x) {es : Array MapEntry} (r : ∀ (i : Nat) (e : MapEntry), es.toList[i]? = some e → ∃ x, S[i]? = some x ∧ e.key = D.enc x ∧ e.val = .int .i64 (i : Int)) : ∀ e ∈ es.toList, ∃ l, keyOf P D.kt e.key = some l := by
 intro e he
 obtain ⟨i, hi⟩ := List.mem_iff_getElem?.1 he
 obtain ⟨x, hx, hk, _⟩ := r i e hi
 rw [hk]
 exact D.key (hok x (List.mem_of_getElem? hx))
theorem Named.find {w : World} {g : Nat} {S : List α} (h : Named D w g S) {x : α} (hx : D.ok x) : ∃ es clock l, w.heap[g]? = some (.map es clock) ∧ es.size = S.length ∧ keyOf P D.kt (D.enc x) = some l ∧
  ((x ∉ S ∧ (Instr.findKey D.kt (D.enc x) es.toList).run P w = .ok none w) ∨ (x ∈ S ∧ ∃ j, (Instr.findKey D.kt (D.enc x) es.toList).run P w = .ok (some (j, .int .i64 (S.idxOf x : Int))) w)) := by
 obtain ⟨hn, hok, es, clock, hb, hs, r⟩ := h
 obtain ⟨l, hl⟩ := D.key hx
 refine ⟨es, clock, l, hb, hs, hl, ?_⟩
 rcases D.keyed.find w hl es.toList (Named.keys hok r) with ⟨h1, h2⟩ | ⟨j, e0, h1, h2, h3⟩
 ·refine .inl ⟨fun hin => ?_, h1⟩
  obtain ⟨i, hi⟩ := List.mem_iff_getElem?.1 hin
  have hlt : i < es.toList.length := by
   have := (List.getElem?_eq_some_iff.1 hi).1
   simpa [hs] using this
  obtain ⟨y, hy, hk, _⟩ := r i _ (List.getElem?_eq_getElem hlt)
  rw [hi] at hy
  injection hy with hy
  subst hy
  exact h2 _ (List.getElem_mem hlt) hk
 ·obtain ⟨y, hy, hk, hv⟩ := r j e0 h2
  have e : y = x := D.inj (hk.symm.trans h3)
  subst e
  obtain ⟨hlt, hj⟩ := List.getElem?_eq_some_iff.1 hy
  have hi : S.idxOf y = j := by rw [← hj]; exact hn.idxOf_getElem j hlt
  exact .inr ⟨List.mem_of_getElem? hy, j, by rw [h1, hv, hi]⟩
theorem Named.lookup {w : World} {g : Nat} {S : List α} (h : Named D w g S) {mt : TypeId} (hmt : P.underlying mt = some (.map D.kt 3)) (hz : (zeroValue 3).run P w = .ok (.int .i64 0) w) {x : α} (hx : D.ok x) :
  (x ∉ S ∧ (Instr.lookup mt (.map (some g)) (D.enc x) true).run P w = .ok (.tuple #[.int .i64 0, .bool false]) w) ∨
  (x ∈ S ∧ (Instr.lookup mt (.map (some g)) (D.enc x) true).run P w = .ok (.tuple #[.int .i64 (S.idxOf x : Int), .bool true]) w) := by
 obtain ⟨es, clock, l, hb, hs, hl, h⟩ := h.find hx
 rcases h with ⟨h1, h2⟩ | ⟨h1, j, h2⟩
 ·refine .inl ⟨h1, ?_⟩
  simp [Instr.lookup, run_underlying hmt, MapKept.run_getObj_map hb, D.keyed.check w _ hl, h2, hz, Result.andThen]
 ·refine .inr ⟨h1, ?_⟩
  simp [Instr.lookup, run_underlying hmt, MapKept.run_getObj_map hb, D.keyed.check w _ hl, h2, Result.andThen]
theorem Named.get {w : World} {g : Nat} {S : List α} (h : Named D w g S) {mt : TypeId} (hmt : P.underlying mt = some (.map D.kt 3)) {x : α} (hx : D.ok x) (hin : x ∈ S) :
  (Instr.lookup mt (.map (some g)) (D.enc x) false).run P w = .ok (.int .i64 (S.idxOf x : Int)) w := by
 obtain ⟨es, clock, l, hb, hs, hl, h⟩ := h.find hx
 rcases h with ⟨h1, h2⟩ | ⟨h1, j, h2⟩
 ·exact absurd hin h1
 ·simp [Instr.lookup, run_underlying hmt, MapKept.run_getObj_map hb, D.keyed.check w _ hl, h2, Result.andThen]
theorem Named.len {w : World} {g : Nat} {S : List α} (h : Named D w g S) {mt ty : TypeId} (hmt : P.underlying mt = some (.map D.kt 3)) :
  (Builtin.len_ #[mt] ty #[.map (some g)]).run P w = .ok (.int .i64 (S.length : Int)) w := by
 obtain ⟨hn, hok, es, clock, hb, hs, r⟩ := h
 simp [Builtin.len_, run_underlying hmt, MapKept.run_getObj_map hb, Result.andThen, hs, goInt]
theorem named_set_grown {w : World} {g : Nat} (o : Obj) : w.grownBy (Go.ChangeMaps.setBlock w g o) (some g) :=
 ⟨rfl, rfl, rfl, by simp [Go.ChangeMaps.setBlock], fun i hi hne => by
  have : g ≠ i := fun e => hne (by rw [e])
  simp [Go.ChangeMaps.setBlock, Array.getElem?_setIfInBounds, this]⟩
theorem named_set_at {w : World} {g : Nat} (h : g < w.heap.size) (o : Obj) : (Go.ChangeMaps.setBlock w g o).heap[g]? = some o := by
 simp [Go.ChangeMaps.setBlock, Array.getElem?_setIfInBounds, h]
theorem Named.update {w : World} {g : Nat} {S : List α} (h : Named D w g S) {mt : TypeId} (hmt : P.underlying mt = some (.map D.kt 3)) {x : α} (hx : D.ok x) (hin : x ∉ S) :
  ∃ w', (Instr.mapUpdate mt (.map (some g)) (D.enc x) (.int .i64 (S.length : Int))).run P w = .ok () w' ∧ Named D w' g (S ++ [x]) ∧ w.grownBy w' (some g) := by
 have hf := h.find hx
 obtain ⟨hn, hok, es, clock, hb, hs, r⟩ := h
 obtain ⟨es', clock', l, hb', hs', hl, hf⟩ := hf
 rw [hb] at hb'
 injection hb' with hb'
 injection hb' with e1 e2
 subst e1 e2
 rcases hf with ⟨h1, h2⟩ | ⟨h1, _⟩
 ·have hlt := blk_lt hb
  refine ⟨Go.ChangeMaps.setBlock w g (.map (es.push { key := D.enc x, val := .int .i64 (S.length : Int), born := clock }) (clock + 1)), ?_, ⟨?_, ?_, _, _, named_set_at hlt _, ?_, ?_⟩, named_set_grown _⟩
  ·simp [Instr.mapUpdate, run_underlying hmt, MapKept.run_getObj_map hb, D.keyed.check w _ hl, h2, MapKept.run_setObj_map _ hb, Result.andThen, Go.ChangeMaps.setBlock]
  ·have := met_nodup hn x
   rwa [met, if_neg hin] at this
  ·intro y hy
   rcases List.mem_append.1 hy with hy | hy
   ·exact hok y hy
   ·rw [List.mem_singleton.1 hy]; exact hx
  ·simp [hs]
  ·intro i e he
   have hsl : es.toList.length = S.length := by simp [hs]
   rw [Array.toList_push] at he
   rcases Nat.lt_or_ge i S.length with hi | hi
   ·rw [List.getElem?_append_left (by omega)] at he
    obtain ⟨y, hy, r2⟩ := r i e he
    exact ⟨y, by rw [List.getElem?_append_left hi]; exact hy, r2⟩
   ·have hi2 : i = S.length := by
     have := (List.getElem?_eq_some_iff.1 he).1
     simp only [List.length_append, List.length_singleton] at this
     omega
    subst hi2
    rw [← hsl, List.getElem?_concat_length] at he
    injection he with he
    subst he
    exact ⟨x, by simp, rfl, by simp [hs]⟩
 ·exact absurd h1 hin
end
end Go.Proofs.Ytdhgeondbnpeoaa.Ext
namespace Go.Proofs.Ytdhgeondbnpeoaa.Ext
open Go.RowKit Go.Proofs.YtdhgeondbnpeoaaW.PrintWords Go.Proofs.YtdhgeondbnpeoaaW.PrintLast Go.Proofs.YtdhgeondbnpeoaaW.PrintMore
attribute [local go_sem] max2_int min2_int max_two min_two max_three min_three max_four min_four
theorem laidOutP : laidOutB Tra.prog = true := by kernel_rfl
theorem zero3 (w : World) : (zeroValue 3).run Tra.prog w = .ok (.int .i64 0) w := Tra.zeroValue3 w
def In64 (x : Int) : Prop := -9223372036854775808 ≤ x ∧ x ≤ 9223372036854775807
instance (x : Int) : Decidable (In64 x) := inferInstanceAs (Decidable (_ ∧ _))
theorem wf64 {x : Int} (h : In64 x) : (Lit.int .i64 x).wf = true := by
 have h1 : IntKind.i64.min = -9223372036854775808 := by decide
 have h2 : IntKind.i64.max = 9223372036854775807 := by decide
 unfold In64 at h
 simp only [Lit.wf, h1, h2, Bool.and_eq_true, decide_eq_true_eq]
 omega
theorem num_key {x : Int} (h : In64 x) : ∃ l, keyOf Tra.prog 3 (.int .i64 x) = some l := by
 have ht : Tra.prog.keyType 3 = true := by kernel_rfl
 have hfo : (Value.int .i64 x).formed Tra.prog 3 = true := by kernel_rfl
 have hw := wf64 h
 unfold keyOf
 rw [Tra.underlying3]
 simp [ht, hfo, hw, mapKey, Tra.underlying3]
def kInt : KeyD Tra.prog Int := ⟨.int .i64, 3, In64, fun h => by injection h, Go.Maps.int_keyed Tra.underlying3, num_key⟩
set_option maxHeartbeats 8000000 in
set_option maxRecDepth 100000 in
theorem num_all (A : Option Addr) (c : Nat) (l : List Int) (w : World) (hr : Kd.C (Kd.int .i64) w A l.length l) (hok : ∀ x ∈ l, In64 x) (hL : l.length < 17592186044416) :
  Calls Tra.prog 54 #[.slice A l.length c] w fun e w' => ∃ v, e = .returned v ∧ OwnI w' w.heap.size v (numL l) ∧ Below w.heap.size w w' := by
 have HR := As0.mk hr
 have HL := As0.mk hL
 have HOK := As0.mk hok
 clear hr hL hok
 have hmm := @run_makeMap Tra.prog
 go_enter Tra.func54, Tra.ntmps54
 go_wp2_with fail
 go_loopw [4, 12] (fun v4 v12 W => ∃ k : Nat, v12 = .int .i64 k ∧ As0 (k ≤ l.length) ∧ As0 (Named kInt W w.heap.size (numSt (l.take k)).1) ∧ As0 (OwnI W w.heap.size v4 (numSt (l.take k)).2) ∧ As0 (Below w.heap.size w W)) (fun v4 v12 _ => (l.length - intOf v12).toNat)
 case atStart => exact ⟨0, rfl, ⟨Nat.zero_le _⟩, ⟨Named.made kInt w⟩, ⟨OwnI.nil _ _⟩, ⟨below_alloc (Below.refl _ _) _⟩⟩
 case round =>
  obtain ⟨k, rfl, hk, hN, hO, hB⟩ := hrel
  have hk' := hk.out
  have hLo := HL.out
  by_cases hlt : k < l.length
  ·obtain ⟨ad, rfl, hcell⟩ := Kd.at_int (Kd.C_below HR.out hB.out) (k : Int) (by omega) (by omega)
   have hrd : rd l (k : Int) = l[k] := by simp [rd, List.getD_eq_getElem?_getD, List.getElem?_eq_getElem hlt]
   have HX := As0.mk (HOK.out l[k] (List.getElem_mem hlt))
   have HS := As0.mk (numSt_take hlt)
   have hlen := numSt_len (l.take k)
   have hlen2 : (numSt (l.take k)).2.length = k := by rw [hlen.1, List.length_take]; omega
   have HLN := As0.mk hlen2
   clear hlen hlen2
   rw [hrd, Int.toNat_natCast] at hcell
   clear hrd
   obtain ⟨x, hxe⟩ : ∃ x, x = l[k] := ⟨_, rfl⟩
   rw [← hxe] at hcell HX HS
   have HXE := As0.mk hxe
   clear hxe
   obtain ⟨S, hSe⟩ : ∃ S, S = (numSt (l.take k)).1 := ⟨_, rfl⟩
   obtain ⟨out, hOe⟩ : ∃ out, out = (numSt (l.take k)).2 := ⟨_, rfl⟩
   rw [← hSe] at hN
   rw [← hOe] at hO HLN
   have HSE := As0.mk hSe
   have HOE := As0.mk hOe
   clear hSe hOe
   have HNE := As0.mk (show u4.ownBlock ≠ some w.heap.size from by
    intro e
    obtain ⟨cells, hc⟩ := own_typed hO.out.1 _ e
    obtain ⟨_, _, es, clock, hb, _⟩ := hN.out
    rw [hc] at hb
    cases hb)
   rcases hN.out.lookup (mt := 73) Tra.underlying73 (zero3 _) HX.out with ⟨hin, hl1⟩ | ⟨hin, hl1⟩
   ·have hln := hN.out.len (mt := 73) (ty := 3) Tra.underlying73
    obtain ⟨w2, hu, hN2, hg2⟩ := hN.out.update (mt := 73) Tra.underlying73 HX.out hin
    have hl2 := hN2.get (mt := 73) Tra.underlying73 (x := x) HX.out (by simp)
    have HN2 := As0.mk hN2
    have HIN := As0.mk (show met S x = S ++ [x] from if_neg hin)
    have HO2 := As0.mk (hO.out.grown hg2 (.inr HNE.out))
    have HB2 := As0.mk (hB.out.grown hg2 hB.out.size (by intro b hb; injection hb with hb; omega))
    simp only [kInt] at hl1 hu hl2
    clear hN2 hg2 hin
    go_wp2_with (first | ((with_reducible refine gate_builtin (b := .append) (xs := #[.tmp 28, .tmp 32]) rfl ?_); at_builtin; refine appendI_step w.heap.size rfl (.tmp 28) (.tmp 32) 29 rfl Tra.underlying29 info3 u4 out _ rfl rfl HO2.out HB2.out.size (by have := HLN.out; have := HL.out; omega) ?_; intro v3 w3 ho3 hg3 hat3; have HO3 := As0.mk ho3; have HB3 := As0.mk (HB2.out.grown hg3 HB2.out.size (fun k hk => (HO2.out.lt k hk).1)); have HN3 := As0.mk (HN2.out.move (hg3.block _ HN2.out.lt (fun e => HNE.out e.symm))); clear ho3 hg3 hat3) | fail)
    go_roundw
    case rel =>
     refine ⟨k + 1, by go_num, ⟨by omega⟩, ⟨?_⟩, ⟨?_⟩, HB3⟩
     ·rw [HS.out]
      show Named kInt _ _ (met (numSt (l.take k)).1 x)
      rw [← HSE.out, HIN.out]
      exact HN3.out
     ·rw [HS.out]
      show OwnI _ _ _ ((numSt (l.take k)).2 ++ [((met (numSt (l.take k)).1 x).idxOf x : Int)])
      rw [← HSE.out, ← HOE.out, HIN.out]
      exact HO3.out
    case measure => simp [intOf]; omega
   ·have hl2 := hN.out.get (mt := 73) Tra.underlying73 (x := x) HX.out hin
    have HIN := As0.mk (show met S x = S from if_pos hin)
    simp only [kInt] at hl1 hl2
    clear hin
    go_wp2_with (first | ((with_reducible refine gate_builtin (b := .append) (xs := #[.tmp 28, .tmp 32]) rfl ?_); at_builtin; refine appendI_step w.heap.size rfl (.tmp 28) (.tmp 32) 29 rfl Tra.underlying29 info3 u4 out _ rfl rfl hO.out hB.out.size (by have := HLN.out; have := HL.out; omega) ?_; intro v3 w3 ho3 hg3 hat3; have HO3 := As0.mk ho3; have HB3 := As0.mk (hB.out.grown hg3 hB.out.size (fun k hk => (hO.out.lt k hk).1)); have HN3 := As0.mk (hN.out.move (hg3.block _ hN.out.lt (fun e => HNE.out e.symm))); clear ho3 hg3 hat3) | fail)
    go_roundw
    case rel =>
     refine ⟨k + 1, by go_num, ⟨by omega⟩, ⟨?_⟩, ⟨?_⟩, HB3⟩
     ·rw [HS.out]
      show Named kInt _ _ (met (numSt (l.take k)).1 x)
      rw [← HSE.out, HIN.out]
      exact HN3.out
     ·rw [HS.out]
      show OwnI _ _ _ ((numSt (l.take k)).2 ++ [((met (numSt (l.take k)).1 x).idxOf x : Int)])
      rw [← HSE.out, ← HOE.out, HIN.out]
      exact HO3.out
    case measure => simp [intOf]; omega
  ·have hke : k = l.length := by omega
   have HO := As0.mk (show OwnI wr w.heap.size u4 (numL l) from by have := hO.out; rwa [hke, List.take_length] at this)
   clear hke
   go_wp2_with fail
   go_ret
   exact ⟨_, rfl, HO.out, hB.out⟩
end Go.Proofs.Ytdhgeondbnpeoaa.Ext
namespace Go.Proofs.Ytdhgeondbnpeoaa.Ext
open Go.RowKit Go.Proofs.YtdhgeondbnpeoaaW.PrintWords Go.Proofs.YtdhgeondbnpeoaaW.PrintLast Go.Proofs.YtdhgeondbnpeoaaW.PrintMore
attribute [local go_sem] max2_int min2_int max_two min_two max_three min_three max_four min_four
def pv (p : Int × Int) : Value := .agg #[.int .i64 p.1, .int .i64 p.2]
theorem pv_inj {p q : Int × Int} (h : pv p = pv q) : p = q := by
 unfold pv at h
 injection h with h
 have h2 : [Value.int .i64 p.1, .int .i64 p.2] = [.int .i64 q.1, .int .i64 q.2] := by simpa using congrArg Array.toList h
 simp only [List.cons.injEq, Value.int.injEq, true_and, and_true] at h2
 exact Prod.ext h2.1 h2.2
theorem keyed89 : Go.Maps.Keyed Tra.prog 89 :=
 Go.Maps.Keyed.of_law (deep_law_laid laidOutP (m := 2) (by decide) (of_decide_eq_true (by kernel_rfl)) (by kernel_rfl) (by kernel_rfl))
theorem key64 {x : Int} (h : In64 x) (d : Nat) : Tra.prog.keyLits (d + 1) 3 [.int .i64 x] = some [.int .i64 x] := by
 simp [Program.keyLits, Tra.underlying3, wf64 h]
theorem pv_key {p : Int × Int} (h : In64 p.1 ∧ In64 p.2) : ∃ l, keyOf Tra.prog 89 (pv p) = some l := by
 have ka := fun D => key64 h.1 D
 have kb := fun D => key64 h.2 D
 have ht : Tra.prog.keyType 89 = true := by kernel_rfl
 have hfo : (pv p).formed Tra.prog 89 = true := by kernel_rfl
 have hs : Tra.prog.types.size = 117 := by kernel_rfl
 have c6 : Tra.prog.cellsOf 89 = 2 := by kernel_rfl
 have c3 : Tra.prog.cellsOf 3 = 1 := by kernel_rfl
 have hl : Tra.prog.keyLits (117 + 1) 89 (pv p).cells.toList = some [.int .i64 p.1, .int .i64 p.2] := by
  show Tra.prog.keyLits (117 + 1) 89 [.int .i64 p.1, .int .i64 p.2] = _
  unfold Program.keyLits
  simp [Tra.underlying89, c6, c3, List.range_succ, ka, kb]
 refine ⟨.string (keyBytes [.int .i64 p.1, .int .i64 p.2]), ?_⟩
 unfold keyOf
 rw [Tra.underlying89]
 simp only [ht, hfo, Bool.and_self, if_true, hs, hl, Option.map_some]
def kPair : KeyD Tra.prog (Int × Int) := ⟨pv, 89, fun p => In64 p.1 ∧ In64 p.2, pv_inj, keyed89, pv_key⟩
def Reads2 (w : World) (A : Option Addr) (l : List (Int × Int)) : Prop :=
 0 < l.length → ∃ ad, A = some ad ∧ ∀ (j : Nat) p, l[j]? = some p → w.cell? (ad.add (j * 2)) = some (.int .i64 p.1) ∧ w.cell? (ad.add (j * 2 + 1)) = some (.int .i64 p.2)
theorem Reads2.below {w w1 : World} {A : Option Addr} {l : List (Int × Int)} (h : Reads2 w A l) (hb : Below w.heap.size w w1) : Reads2 w1 A l := fun hn => by
 obtain ⟨ad, e, hc⟩ := h hn
 exact ⟨ad, e, fun j p hj => ⟨pw_cell_below hb (hc j p hj).1, pw_cell_below hb (hc j p hj).2⟩⟩
set_option maxHeartbeats 8000000 in
set_option maxRecDepth 100000 in
theorem num2_all (A : Option Addr) (c : Nat) (l : List (Int × Int)) (w : World) (hr : Reads2 w A l) (hok : ∀ p ∈ l, In64 p.1 ∧ In64 p.2) (hL : l.length < 17592186044416) :
  Calls Tra.prog 84 #[.slice A l.length c] w fun e w' => ∃ v, e = .returned v ∧ OwnI w' w.heap.size v (numL l) ∧ Below w.heap.size w w' := by
 have HR := As0.mk hr
 have HL := As0.mk hL
 have HOK := As0.mk hok
 clear hr hL hok
 have hmm := @run_makeMap Tra.prog
 go_enter Tra.func84, Tra.ntmps84
 go_wp2_with fail
 go_loopw [4, 12] (fun v4 v12 W => ∃ k : Nat, v12 = .int .i64 k ∧ As0 (k ≤ l.length) ∧ As0 (Named kPair W w.heap.size (numSt (l.take k)).1) ∧ As0 (OwnI W w.heap.size v4 (numSt (l.take k)).2) ∧ As0 (Below w.heap.size w W)) (fun v4 v12 _ => (l.length - intOf v12).toNat)
 case atStart => exact ⟨0, rfl, ⟨Nat.zero_le _⟩, ⟨Named.made kPair w⟩, ⟨OwnI.nil _ _⟩, ⟨below_alloc (Below.refl _ _) _⟩⟩
 case round =>
  obtain ⟨k, rfl, hk, hN, hO, hB⟩ := hrel
  have hk' := hk.out
  have hLo := HL.out
  by_cases hlt : k < l.length
  ·obtain ⟨ad, rfl, hcl⟩ := (HR.out.below hB.out) (by omega)
   obtain ⟨hc0, hc1⟩ := hcl k _ (List.getElem?_eq_getElem hlt)
   have hc2 : wr.cell? { block := (ad.add (k * 2)).block, off := (ad.add (k * 2)).off + 1 } = some (.int .i64 l[k].2) := by
    have h := hc1
    rw [← Addr.add_add] at h
    generalize ad.add (k * 2) = q at h ⊢
    simpa [Addr.add] using h
   clear hc1
   clear hcl
   have HX := As0.mk (HOK.out l[k] (List.getElem_mem hlt))
   have HS := As0.mk (numSt_take hlt)
   have hlen := numSt_len (l.take k)
   have hlen2 : (numSt (l.take k)).2.length = k := by rw [hlen.1, List.length_take]; omega
   have HLN := As0.mk hlen2
   clear hlen hlen2
   obtain ⟨⟨x, y⟩, hxe⟩ : ∃ x : Int × Int, x = l[k] := ⟨_, rfl⟩
   rw [← hxe] at hc0 hc2 HX HS
   simp only at hc0 hc2
   have HXE := As0.mk hxe
   clear hxe
   obtain ⟨S, hSe⟩ : ∃ S, S = (numSt (l.take k)).1 := ⟨_, rfl⟩
   obtain ⟨out, hOe⟩ : ∃ out, out = (numSt (l.take k)).2 := ⟨_, rfl⟩
   rw [← hSe] at hN
   rw [← hOe] at hO HLN
   have HSE := As0.mk hSe
   have HOE := As0.mk hOe
   clear hSe hOe
   have HNE := As0.mk (show u4.ownBlock ≠ some w.heap.size from by
    intro e
    obtain ⟨cells, hc⟩ := own_typed hO.out.1 _ e
    obtain ⟨_, _, es, clock, hb, _⟩ := hN.out
    rw [hc] at hb
    cases hb)
   have hb1 := below_alloc (Below.refl wr.heap.size wr) (.cells #[.int .i64 x, .int .i64 y] 89)
   have HN1 := As0.mk (hN.out.move (hb1.block _ hN.out.lt))
   have HO1 := As0.mk (hO.out.below hb1)
   have HB1 := As0.mk (below_step hB.out hb1)
   have HBX1 := As0.mk (heap_alloc_new wr (.cells #[.int .i64 x, .int .i64 y] 89))
   clear hb1
   rcases HN1.out.lookup (mt := 100) Tra.underlying100 (zero3 _) HX.out with ⟨hin, hl1⟩ | ⟨hin, hl1⟩
   ·have hln := HN1.out.len (mt := 100) (ty := 3) Tra.underlying100
    obtain ⟨w2, hu, hN2, hg2⟩ := HN1.out.update (mt := 100) Tra.underlying100 HX.out hin
    have hl2 := hN2.get (mt := 100) Tra.underlying100 (x := (x, y)) HX.out (by simp)
    have HN2 := As0.mk hN2
    have HIN := As0.mk (show met S (x, y) = S ++ [(x, y)] from if_neg hin)
    have HO2 := As0.mk (HO1.out.grown hg2 (.inr HNE.out))
    have HB2 := As0.mk (HB1.out.grown hg2 HB1.out.size (by intro b hb; injection hb with hb; omega))
    have hbx2 : w2.heap[wr.heap.size]? = some (.cells #[.int .i64 x, .int .i64 y] 89 (0, 0)) := (hg2.block _ (blk_lt HBX1.out) (by intro e; injection e with e; have := hN.out.lt; omega)).trans HBX1.out
    have d0 := blk_cell hbx2 0
    have d1 := blk_cell hbx2 1
    simp only [List.getElem?_toArray, List.getElem?_cons_zero, List.getElem?_cons_succ] at d0 d1
    simp only [kPair, pv] at hl1 hu hl2
    clear hN2 hg2 hin hbx2
    go_wp2_with (first | ((with_reducible refine gate_builtin (b := .append) (xs := #[.tmp 28, .tmp 32]) rfl ?_); at_builtin; refine appendI_step w.heap.size rfl (.tmp 28) (.tmp 32) 29 rfl Tra.underlying29 info3 u4 out _ rfl rfl HO2.out HB2.out.size (by have := HLN.out; have := HL.out; omega) ?_; intro v3 w3 ho3 hg3 hat3; have HO3 := As0.mk ho3; have HB3 := As0.mk (HB2.out.grown hg3 HB2.out.size (fun k hk => (HO2.out.lt k hk).1)); have HN3 := As0.mk (HN2.out.move (hg3.block _ HN2.out.lt (fun e => HNE.out e.symm))); clear ho3 hg3 hat3) | fail)
    go_roundw
    case rel =>
     refine ⟨k + 1, by go_num, ⟨by omega⟩, ⟨?_⟩, ⟨?_⟩, HB3⟩
     ·rw [HS.out]
      show Named kPair _ _ (met (numSt (l.take k)).1 (x, y))
      rw [← HSE.out, HIN.out]
      exact HN3.out
     ·rw [HS.out]
      dsimp only [numStep]
      rw [← HSE.out, ← HOE.out, HIN.out]
      exact HO3.out
    case measure => simp [intOf]; omega
   ·have hl2 := HN1.out.get (mt := 100) Tra.underlying100 (x := (x, y)) HX.out hin
    have HIN := As0.mk (show met S (x, y) = S from if_pos hin)
    simp only [kPair, pv] at hl1 hl2
    clear hin
    go_wp2_with (first | ((with_reducible refine gate_builtin (b := .append) (xs := #[.tmp 28, .tmp 32]) rfl ?_); at_builtin; refine appendI_step w.heap.size rfl (.tmp 28) (.tmp 32) 29 rfl Tra.underlying29 info3 u4 out _ rfl (by first | rfl | (show Value.slice (some ⟨wr.heap.size + 1, 0, none⟩) 1 1 = _; simp)) HO1.out HB1.out.size (by have := HLN.out; have := HL.out; omega) ?_; intro v3 w3 ho3 hg3 hat3; have HO3 := As0.mk ho3; have HB3 := As0.mk (HB1.out.grown hg3 HB1.out.size (fun k hk => (HO1.out.lt k hk).1)); have HN3 := As0.mk (HN1.out.move (hg3.block _ HN1.out.lt (fun e => HNE.out e.symm))); clear ho3 hg3 hat3) | fail)
    go_roundw
    case rel =>
     refine ⟨k + 1, by go_num, ⟨by omega⟩, ⟨?_⟩, ⟨?_⟩, HB3⟩
     ·rw [HS.out]
      show Named kPair _ _ (met (numSt (l.take k)).1 (x, y))
      rw [← HSE.out, HIN.out]
      exact HN3.out
     ·rw [HS.out]
      dsimp only [numStep]
      rw [← HSE.out, ← HOE.out, HIN.out]
      exact HO3.out
    case measure => simp [intOf]; omega
  ·have hke : k = l.length := by omega
   have HO := As0.mk (show OwnI wr w.heap.size u4 (numL l) from by have := hO.out; rwa [hke, List.take_length] at this)
   clear hke
   go_wp2_with fail
   go_ret
   exact ⟨_, rfl, HO.out, hB.out⟩
end Go.Proofs.Ytdhgeondbnpeoaa.Ext
namespace Go.Proofs.Ytdhgeondbnpeoaa.P
open Go.RowKit Go.Proofs.YtdhgeondbnpeoaaW.PrintWords Go.Proofs.YtdhgeondbnpeoaaW.PrintLast Go.Proofs.YtdhgeondbnpeoaaW.PrintMore
attribute [local go_sem] max2_int min2_int max_two min_two max_three min_three max_four min_four
def errW : Option Int → Value
 |none => .nilIface
 |some c => .iface 0 (.int .i64 c)
theorem errW_none : errW none = .nilIface := rfl
theorem errW_some (c : Int) : errW (some c) = .iface 0 (.int .i64 c) := rfl
theorem info3 : (Tra.prog.info? 3).map (fun i => (i.zero, i.size, i.bytes)) = some (some (.int .i64 0), 1, 8) := by kernel_rfl
theorem info89 : (Tra.prog.info? 89).map (fun i => (i.zero, i.size, i.bytes)) = some (some (.agg #[(.int .i64 0), (.int .i64 0)]), 2, 16) := by kernel_rfl
def rd_L1 (xs : List (List Int)) (i : Int) : (List Int) := xs.getD i.toNat ([] : List Int)
theorem at_L1 {w : World} {A : Option Addr} {n : Nat} {xs : List (List Int)} (h : Kd.C (Kd.slice 3 (Kd.int .i64)) w A n xs) (i : Int) (h0 : 0 ≤ i) (h1 : i < n) : ∃ ad A0 c0, A = some ad ∧ w.cell? (ad.add i.toNat) = some (.slice A0 (rd_L1 xs i).length c0) ∧ (rd_L1 xs i).length ≤ c0 ∧ (Kd.int .i64).C w A0 (rd_L1 xs i).length (rd_L1 xs i) := by
 obtain ⟨ad, c, e, _, hK, hc0⟩ := Kd.C_get h ([] : List Int) i h0 h1
 have hc : ∀ j u, c[j]? = some u → w.cell? (ad.add (i.toNat * 1 + j)) = some u := hc0
 obtain ⟨A0, c0, rfl, l0, g0⟩ := hK
 exact ⟨ad, A0, c0, e, by have hq := hc 0 _ rfl; rwa [Nat.mul_one, Nat.add_zero] at hq, l0, g0⟩
structure S89 where
 f0 : Int
 f1 : Int
def k89 : Kd S89 := Kd.iso (Kd.pair (Kd.int .i64) (Kd.int .i64)) (fun x : S89 => (x.f0, x.f1))
theorem k89_open {w : World} {x : S89} {cs : List Value} (h : k89.K w x cs) : cs = [.int .i64 x.f0, .int .i64 x.f1] := by
 obtain ⟨_, _, rfl, rfl, rfl⟩ := h
 exact rfl
theorem k89_mkM (w : World) (base : Nat) (ok : Nat → Prop) (x : S89)  : k89.M w base ok x [.int .i64 x.f0, .int .i64 x.f1] := ⟨[.int .i64 x.f0], [.int .i64 x.f1], rfl, rfl, rfl⟩
end Go.Proofs.Ytdhgeondbnpeoaa.P
namespace Go.Proofs.Ytdhgeondbnpeoaa.P
open Go.RowKit Go.Proofs.YtdhgeondbnpeoaaW.PrintWords Go.Proofs.YtdhgeondbnpeoaaW.PrintLast Go.Proofs.YtdhgeondbnpeoaaW.PrintMore
attribute [local go_sem] max2_int min2_int max_two min_two max_three min_three max_four min_four
def mobs_counted.f (a0 : Int) (a1 : Int) : Option (Int) := if a0 < 0 then (some 2) else (if a0 > 12 then (some 2) else (if a1 < 0 then (some 2) else (if a1 > a0 then (some 2) else (some 0))))
set_option maxHeartbeats 8000000 in
set_option maxRecDepth 100000 in
theorem mobs_counted.calls (a0 : Int) (a1 : Int) (r : Int) (w : World) (h : mobs_counted.f a0 a1 = some r) :
  Calls Tra.prog 45 #[.int .i64 a0, .int .i64 a1] w fun e w' => e = .returned (.int .i64 r) ∧ Drawn0 w w' := by
 have H : (if a0 < 0 then (some 2) else (if a0 > 12 then (some 2) else (if a1 < 0 then (some 2) else (if a1 > a0 then (some 2) else (some 0))))) = some r := h
 clear h
 by_cases c3 : a0 < 0
 ·rw [if_pos c3] at H
  have c3b0 : decide (a0 < 0) = true := decide_eq_true c3
  clear c3
  obtain rfl := Option.some.inj H
  go_enter Tra.func45, Tra.ntmps45
  go_wp2
  go_ret
  exact ⟨by first | rfl | (simp; done) | (simp [*]; done), by repeat (first | exact Drawn0.refl _ | apply Drawn0.step)⟩
 ·rw [if_neg c3] at H
  have c3b0 : decide (a0 < 0) = false := decide_eq_false c3
  clear c3
  by_cases c4 : a0 > 12
  ·rw [if_pos c4] at H
   have c4b0 : decide (12 < a0) = true := decide_eq_true c4
   clear c4
   obtain rfl := Option.some.inj H
   go_enter Tra.func45, Tra.ntmps45
   go_wp2
   go_ret
   exact ⟨by first | rfl | (simp; done) | (simp [*]; done), by repeat (first | exact Drawn0.refl _ | apply Drawn0.step)⟩
  ·rw [if_neg c4] at H
   have c4b0 : decide (12 < a0) = false := decide_eq_false c4
   clear c4
   by_cases c5 : a1 < 0
   ·rw [if_pos c5] at H
    have c5b0 : decide (a1 < 0) = true := decide_eq_true c5
    clear c5
    obtain rfl := Option.some.inj H
    go_enter Tra.func45, Tra.ntmps45
    go_wp2
    go_ret
    exact ⟨by first | rfl | (simp; done) | (simp [*]; done), by repeat (first | exact Drawn0.refl _ | apply Drawn0.step)⟩
   ·rw [if_neg c5] at H
    have c5b0 : decide (a1 < 0) = false := decide_eq_false c5
    clear c5
    by_cases c6 : a1 > a0
    ·rw [if_pos c6] at H
     have c6b0 : decide (a0 < a1) = true := decide_eq_true c6
     clear c6
     obtain rfl := Option.some.inj H
     go_enter Tra.func45, Tra.ntmps45
     go_wp2
     go_ret
     exact ⟨by first | rfl | (simp; done) | (simp [*]; done), by repeat (first | exact Drawn0.refl _ | apply Drawn0.step)⟩
    ·rw [if_neg c6] at H
     have c6b0 : decide (a0 < a1) = false := decide_eq_false c6
     clear c6
     obtain rfl := Option.some.inj H
     go_enter Tra.func45, Tra.ntmps45
     go_wp2
     go_ret
     exact ⟨by first | rfl | (simp; done) | (simp [*]; done), by repeat (first | exact Drawn0.refl _ | apply Drawn0.step)⟩
mutual
def mobs_Count.l0 : Nat → Int → List Int → Int → Int → Option (Int × Int)
 |0, _, _, _, _ => none
 |k + 1, x1, x7, x19, x20 => if x20 < x19 then (if 0 ≤ (wrap64 (x20 + 2)) then (if (wrap64 (x20 + 2) : Int).toNat ≤ 35184372088832 then (mobs_Count.l1 k x1 (List.replicate (wrap64 (x20 + 2) : Int).toNat 0) x19 x20 x7 (x7.length : Int) 0) else (none)) else (none)) else (if 0 ≤ x1 then (if x1 < (x7.length : Int) then (some (rd x7 x1, 0)) else (none)) else (none))
def mobs_Count.l1 : Nat → Int → List Int → Int → Int → List Int → Int → Int → Option (Int × Int)
 |0, _, _, _, _, _, _, _ => none
 |k + 1, x1, x9, x19, x20, x26, x27, x28 => if x28 < x27 then (if 0 ≤ x28 then (if x28 < (x26.length : Int) then (if x28 < (x9.length : Int) then ((some (x9.set (x28 : Int).toNat (wrap64 ((rd x9 x28) + (wrap64 (x28 * (rd x26 x28))))) : List Int)).bind fun y111 => (if 0 ≤ (wrap64 (x28 + 1)) then (if (wrap64 (x28 + 1)) < (x9.length : Int) then (mobs_Count.l1 k x1 (y111.set ((wrap64 (x28 + 1)) : Int).toNat (wrap64 ((rd y111 (wrap64 (x28 + 1))) + (rd x26 x28)))) x19 x20 x26 x27 (wrap64 (x28 + 1))) else (none)) else (none))) else (none)) else (none)) else (none)) else (mobs_Count.l0 k x1 x9 x19 (wrap64 (x20 + 1)))
end
def mobs_Count.f (k : Nat) (a0 : Int) (a1 : Int) : Option (Int × Int) := (mobs_counted.f a0 a1).bind fun t101 => (if t101 = 0 then (mobs_Count.l0 k a1 (([1] : List Int)) a0 0) else (some (0, t101)))
set_option maxHeartbeats 8000000 in
set_option maxRecDepth 100000 in
theorem mobs_Count.calls (k : Nat) (a0 : Int) (a1 : Int) (r1 : Int) (r2 : Int) (w : World) (h : mobs_Count.f k a0 a1 = some (r1, r2)) :
  Calls Tra.prog 16 #[.int .i64 a0, .int .i64 a1] w fun e w' => e = .returned (.tuple #[.int .i64 r1, .int .i64 r2]) ∧ Below w.heap.size w w' := by
 have HB := As0.mk (Below.refl w.heap.size w)
 have H : ((mobs_counted.f a0 a1).bind fun t101 => (if t101 = 0 then (mobs_Count.l0 k a1 (([1] : List Int)) a0 0) else (some (0, t101)))) = some (r1, r2) := h
 clear h
 replace H := Option.bind_eq_some_iff.mp H
 obtain ⟨t101, A30, H⟩ := H
 replace H : (if t101 = 0 then (mobs_Count.l0 k a1 (([1] : List Int)) a0 0) else (some (0, t101))) = some (r1, r2) := H
 have A3 := As0.mk A30
 clear A30
 by_cases c4 : t101 = 0
 ·rw [if_pos c4] at H
  have c4b0 : (t101 == 0) = true := beq_iff_eq.mpr c4
  have c4b1 : (t101 != 0) = false := bne_eq_false_iff_eq.mpr c4
  clear c4
  obtain ⟨y102, hy102⟩ : ∃ y_ : List Int, y_ = (([1] : List Int)) := ⟨_, rfl⟩
  replace H : (mobs_Count.l0 k a1 y102 a0 0) = some (r1, r2) := by first | (rw [hy102]; with_reducible exact H) | (have H2_ := (Option.bind_some _ _).symm.trans H; rw [hy102]; with_reducible exact H2_) | (have H2_ := (Option.bind_some _ _).symm.trans H; with_reducible exact H2_) | with_reducible exact H | (rw [hy102]; exact H) | exact H
  have Ny102 := As0.mk hy102
  clear hy102
  have H' := As0.mk H
  clear H
  go_enter Tra.func16, Tra.ntmps16
  go_wp2_with (first | ((with_reducible refine gate_callee (f := 45) rfl ?_); refine goesL_ (some 14) rfl rfl Tra.func45 (by kernel_rfl) rfl #[.int .i64 a0, .int .i64 a1] rfl (by (try simp only [List.map_toArray, List.map_cons, List.map_nil]); first | done | rfl | (simp only [List.length_drop, List.length_take]; rfl)) ?_; (with_reducible refine (mobs_counted.calls a0 a1 t101 _ A3.out).mono ?_); rintro e w' ⟨rfl, ⟨nd, rfl⟩⟩; refine ⟨_, rfl, ?_⟩) | ((with_reducible refine gate_dst (N := 18) rfl ?_); refine Kd.R_lit (Kd.int .i64) _ 3 ?hg (N := 18) ?hd (xs := ([1] : List Int)) (inner := [.int .i64 1]) (ok := fun _ => True) (okp := fun _ => True) ?hr ?hp (fun _ hk => hk) trivial (Below.refl _ _) (Nat.le_refl _) (by simp) ?_; (case hd => rfl); (case hg => rfl); (case hr => first | (go_simp; done) | (go_simp; rfl)); (case hp => exact (Reps.one (show Kd.M (Kd.int .i64) _ _ _ 1 [.int .i64 1] from rfl) (Reps.none _ _))); intro v103 w5 ho6 hb hg_ hnew_; clear hg_ hnew_; (first | rw [← Ny102.out] at ho6 | (simp only [Int.reduceToNat] at ho6; rw [← Ny102.out] at ho6)); have n0_ := As0.mk (Kd.R_lower ho6 (below_size (by repeat (first | (with_reducible first | exact HB.out | apply below_alloc | apply pw_below_drewN | apply below_drew1) | exact HB.out)))); have n1_ := As0.mk (below_step (by repeat (first | (with_reducible first | exact HB.out | apply below_alloc | apply pw_below_drewN | apply below_drew1) | exact HB.out)) hb); clear HB; have HO104 := n0_; have HB := n1_; clear n0_ n1_; clear hb ho6))
  go_loopg [7, 20] k (fun kq v7 v20 w' => ∃ (x7_1 : List Int) (x20_1 : Int), v20 = .int .i64 x20_1 ∧ As0 (mobs_Count.l0 kq a1 x7_1 a0 x20_1 = some (r1, r2)) ∧ As0 (kq ≤ k) ∧ As0 (Kd.R (Kd.int .i64) 3 w' w.heap.size (fun _ => True) v7 x7_1) ∧ As0 (Below w.heap.size w w'))
  case atStart => exact ⟨(y102), (0), (by first | rfl | (simp; done) | (simp [*]; done)), H', ⟨Nat.le_refl _⟩, ⟨by (with_reducible repeat (first | apply Kd.R_alloc | apply Kd.R_drewN | apply Kd.R_drew)); exact HO104.out⟩, ⟨by repeat (first | (with_reducible first | exact HB.out | apply below_alloc | apply pw_below_drewN | apply below_drew1) | exact HB.out)⟩⟩
  case round =>
   clear H'
   try clear c1
   try clear p2
   try clear c4
   try clear c4b0
   try clear c4b1
   obtain ⟨x7_1, x20_1, rfl, HA, HK1, HO_7, HB⟩ := hrel
   cases gk with
   |zero => exact absurd HA.out (by simp [mobs_Count.l0])
   |succ k1 =>
    have H := HA.out
    clear HA
    simp only [mobs_Count.l0] at H
    by_cases c7 : x20_1 < a0
    ·rw [if_pos c7] at H
     have c7b0 : decide (x20_1 < a0) = true := decide_eq_true c7
     clear c7
     obtain ⟨ji8, hji8⟩ : ∃ j_ : Int, (wrap64 (x20_1 + 2)) = j_ := ⟨_, rfl⟩
     replace H : (if 0 ≤ (ji8) then (if (ji8 : Int).toNat ≤ 35184372088832 then (mobs_Count.l1 k1 a1 (List.replicate (ji8 : Int).toNat 0) a0 x20_1 x7_1 (x7_1.length : Int) 0) else (none)) else (none)) = some (r1, r2) := by first | (rw [hji8] at H; exact H) | (simp only [hji8] at H ⊢; exact H)
     have hji8w : (IntKind.i64.wrap (x20_1 + 2)) = ji8 := (i64_w _).trans hji8
     by_cases c9 : 0 ≤ (ji8)
     ·rw [if_pos c9] at H
      have c9b0 := eq_true c9
      have c9b1 : decide (0 ≤ (ji8)) = true := decide_eq_true c9
      clear c9
      by_cases c10 : (ji8 : Int).toNat ≤ 35184372088832
      ·rw [if_pos c10] at H
       have c10b0 := eq_true c10
       have c10b1 : decide ((ji8 : Int).toNat ≤ 35184372088832) = true := decide_eq_true c10
       clear c10
       obtain ⟨y106, hy106⟩ : ∃ y_ : List Int, y_ = (List.replicate (ji8 : Int).toNat 0) := ⟨_, rfl⟩
       replace H : (mobs_Count.l1 k1 a1 y106 a0 x20_1 x7_1 (x7_1.length : Int) 0) = some (r1, r2) := by first | (rw [hy106]; with_reducible exact H) | (have H2_ := (Option.bind_some _ _).symm.trans H; rw [hy106]; with_reducible exact H2_) | (have H2_ := (Option.bind_some _ _).symm.trans H; with_reducible exact H2_) | with_reducible exact H | (rw [hy106]; exact H) | exact H
       have Ny106 := As0.mk hy106
       clear hy106
       have H' := As0.mk H
       clear H
       go_wp2_with (first | ((with_reducible refine gate_dst (N := 25) rfl ?_); refine Kd.R_make (Kd.int .i64) _ 3 rfl (N := 25) rfl 29 _ _ rfl ji8 rfl rfl Tra.underlying29 (.int .i64 0) 8 info3 rfl (by decide) (by omega) 0 (ok := fun _ => True) (okp := fun _ => True) rfl (fun _ hk => hk) trivial (of_decide_eq_true (by first | (with_reducible assumption) | assumption)) (Nat.le_trans (Nat.mul_le_mul_right _ (of_decide_eq_true (by first | (with_reducible assumption) | assumption) : ji8.toNat ≤ 35184372088832)) (by omega)) (Below.refl _ _) (Nat.le_refl _) ?_; intro v107 w11 ho12 hb hg_ hnew_; clear hg_ hnew_; (first | rw [← Ny106.out] at ho12 | (simp only [Int.reduceToNat] at ho12; rw [← Ny106.out] at ho12)); have n0_ := As0.mk (Kd.R_elder' (by (with_reducible repeat (first | apply Kd.R_alloc | apply Kd.R_drewN | apply Kd.R_drew)); exact HO_7.out) (Kd.R_base ho12) hb); have n1_ := As0.mk (Kd.R_lower (Kd.R_new' ho12 (Kd.R_lt (by (with_reducible repeat (first | apply Kd.R_alloc | apply Kd.R_drewN | apply Kd.R_drew)); exact HO_7.out))) (below_size (by repeat (first | (with_reducible first | exact HB.out | apply below_alloc | apply pw_below_drewN | apply below_drew1) | exact HB.out)))); have n2_ := As0.mk (below_step (by repeat (first | (with_reducible first | exact HB.out | apply below_alloc | apply pw_below_drewN | apply below_drew1) | exact HB.out)) hb); clear HO_7; clear HB; have HO_7 := n0_; have HO108 := n1_; have HB := n2_; clear n0_ n1_ n2_; clear hb ho12; obtain ⟨Ao13, co13, eo13⟩ := Kd.R_slice HO_7.out; subst eo13))
       go_loopg [28] k1 (fun kq v28 w' => ∃ (x9_2 : List Int) (x28_2 : Int), v28 = .int .i64 x28_2 ∧ As0 (mobs_Count.l1 kq a1 x9_2 a0 x20_1 x7_1 (x7_1.length : Int) x28_2 = some (r1, r2)) ∧ As0 (kq ≤ k1) ∧ As0 (Kd.R (Kd.int .i64) 3 w' w.heap.size (fun k_ => some k_ ≠ ((.slice Ao13 x7_1.length co13) : Value).ownBlock) v107 x9_2) ∧ As0 (Kd.R (Kd.int .i64) 3 w' w.heap.size (fun k_ => some k_ ≠ (v107 : Value).ownBlock) (.slice Ao13 x7_1.length co13) x7_1) ∧ As0 (Below w.heap.size w w'))
       case atStart => exact ⟨(y106), (0), (by first | rfl | (simp; done) | (simp [*]; done)), H', ⟨Nat.le_refl _⟩, ⟨by (with_reducible repeat (first | apply Kd.R_alloc | apply Kd.R_drewN | apply Kd.R_drew)); exact Kd.R_mono HO108.out (fun _ hk => hk.2)⟩, ⟨by (with_reducible repeat (first | apply Kd.R_alloc | apply Kd.R_drewN | apply Kd.R_drew)); exact Kd.R_mono HO_7.out (fun _ hk => hk.2)⟩, ⟨by repeat (first | (with_reducible first | exact HB.out | apply below_alloc | apply pw_below_drewN | apply below_drew1) | exact HB.out)⟩⟩
       case round =>
        clear H'
        try clear c1
        try clear p2
        try clear c4
        try clear c4b0
        try clear c4b1
        try clear p6
        try clear c7
        try clear c7b0
        try clear c9
        try clear c9b0
        try clear c9b1
        try clear c10
        try clear c10b0
        try clear c10b1
        try clear p2
        obtain ⟨x9_2, x28_2, rfl, HA, HK2, HO_9, HO_26, HB⟩ := hrel
        cases gk with
        |zero => exact absurd HA.out (by simp [mobs_Count.l1])
        |succ k2 =>
         have H := HA.out
         clear HA
         simp only [mobs_Count.l1] at H
         by_cases c14 : x28_2 < (x7_1.length : Int)
         ·rw [if_pos c14] at H
          have c14b0 : decide (x28_2 < (x7_1.length : Int)) = true := decide_eq_true c14
          clear c14
          by_cases c15 : 0 ≤ x28_2
          ·rw [if_pos c15] at H
           have c15b0 : decide (0 ≤ x28_2) = true := decide_eq_true c15
           clear c15
           by_cases c16 : x28_2 < (x7_1.length : Int)
           ·rw [if_pos c16] at H
            have c16b0 : decide (x28_2 < (x7_1.length : Int)) = true := decide_eq_true c16
            clear c16
            by_cases c17 : x28_2 < (x9_2.length : Int)
            ·rw [if_pos c17] at H
             have c17b0 : decide (x28_2 < (x9_2.length : Int)) = true := decide_eq_true c17
             clear c17
             obtain ⟨y111, hy111⟩ : ∃ y_ : List Int, y_ = (x9_2.set (x28_2 : Int).toNat (wrap64 ((rd x9_2 x28_2) + (wrap64 (x28_2 * (rd x7_1 x28_2)))))) := ⟨_, rfl⟩
             replace H : (if 0 ≤ (wrap64 (x28_2 + 1)) then (if (wrap64 (x28_2 + 1)) < (x9_2.length : Int) then (mobs_Count.l1 k2 a1 (y111.set ((wrap64 (x28_2 + 1)) : Int).toNat (wrap64 ((rd y111 (wrap64 (x28_2 + 1))) + (rd x7_1 x28_2)))) a0 x20_1 x7_1 (x7_1.length : Int) (wrap64 (x28_2 + 1))) else (none)) else (none)) = some (r1, r2) := by first | (rw [hy111]; with_reducible exact H) | (have H2_ := (Option.bind_some _ _).symm.trans H; rw [hy111]; with_reducible exact H2_) | (have H2_ := (Option.bind_some _ _).symm.trans H; with_reducible exact H2_) | with_reducible exact H | (rw [hy111]; exact H) | exact H
             have Ny111 := As0.mk hy111
             clear hy111
             obtain ⟨ji19, hji19⟩ : ∃ j_ : Int, (wrap64 (x28_2 + 1)) = j_ := ⟨_, rfl⟩
             replace H : (if 0 ≤ (ji19) then (if (ji19) < (x9_2.length : Int) then (mobs_Count.l1 k2 a1 (y111.set ((ji19) : Int).toNat (wrap64 ((rd y111 (ji19)) + (rd x7_1 x28_2)))) a0 x20_1 x7_1 (x7_1.length : Int) ji19) else (none)) else (none)) = some (r1, r2) := by first | (rw [hji19] at H; exact H) | (simp only [hji19] at H ⊢; exact H)
             have hji19w : (IntKind.i64.wrap (x28_2 + 1)) = ji19 := (i64_w _).trans hji19
             by_cases c20 : 0 ≤ (ji19)
             ·rw [if_pos c20] at H
              have c20b0 : decide (0 ≤ (ji19)) = true := decide_eq_true c20
              clear c20
              by_cases c21 : (ji19) < (x9_2.length : Int)
              ·rw [if_pos c21] at H
               have c21b0 : decide ((ji19) < (x9_2.length : Int)) = true := decide_eq_true c21
               clear c21
               obtain ⟨y113, hy113⟩ : ∃ y_ : List Int, y_ = (y111.set ((ji19) : Int).toNat (wrap64 ((rd y111 (ji19)) + (rd x7_1 x28_2)))) := ⟨_, rfl⟩
               replace H : (mobs_Count.l1 k2 a1 y113 a0 x20_1 x7_1 (x7_1.length : Int) ji19) = some (r1, r2) := by first | (rw [hy113]; with_reducible exact H) | (have H2_ := (Option.bind_some _ _).symm.trans H; rw [hy113]; with_reducible exact H2_) | (have H2_ := (Option.bind_some _ _).symm.trans H; with_reducible exact H2_) | with_reducible exact H | (rw [hy113]; exact H) | exact H
               have Ny113 := As0.mk hy113
               clear hy113
               have H' := As0.mk H
               clear H
               have p109 : 0 ≤ (x28_2 : Int) := of_decide_eq_true (by first | (with_reducible assumption) | assumption)
               have q109 : x28_2 < (x7_1.length : Int) := of_decide_eq_true (by first | (with_reducible assumption) | assumption)
               obtain ⟨ad109, e109, hx109_0⟩ := Kd.at_int (Kd.R_reads' HO_26.out).2.2 x28_2 p109 q109
               cases e109
               replace p109 := eq_true p109
               replace q109 := eq_true q109
               obtain ⟨Ao23, co23, eo23⟩ := Kd.R_slice HO_9.out
               subst eo23
               have p110 : 0 ≤ (x28_2 : Int) := of_decide_eq_true (by first | (with_reducible assumption) | assumption)
               have q110 : x28_2 < (x9_2.length : Int) := of_decide_eq_true (by first | (with_reducible assumption) | assumption)
               obtain ⟨ad110, e110, hx110_0⟩ := Kd.at_int (Kd.R_reads' HO_9.out).2.2 x28_2 p110 q110
               cases e110
               replace p110 := eq_true p110
               replace q110 := eq_true q110
               have p18 : 0 ≤ (x28_2 : Int) := of_decide_eq_true (by first | (with_reducible assumption) | assumption)
               have q18 : (x28_2 : Int) < ((x9_2.length : Int) : Int) := of_decide_eq_true (by first | (with_reducible assumption) | assumption)
               obtain ⟨go18, co18, eo18, gb18, gl18, cl18, HG18⟩ := Kd.R_form HO_9.out (by omega)
               (first | cases eo18 | (injection eo18 with ea_ en_ ec_; (first | subst ea_ | (injection ea_ with ea_; subst ea_)); subst ec_; clear en_))
               have GB18 := As0.mk gb18
               have GG18 := As0.mk HG18
               clear gb18 gl18 HG18
               (first | simp only [add_plain] at hx110_0 | skip)
               obtain ⟨hx18_0, hf18_0⟩ := Kd.R_celln 0 HO_9.out (x28_2 : Int) p18 q18
               replace p18 := eq_true p18
               replace q18 := eq_true q18
               have HP24 := Kd.R_putg HO_9.out (x28_2 : Int) (wrap64 ((rd x9_2 x28_2) + (wrap64 (x28_2 * (rd x7_1 x28_2)))))
               go_wp2_with (first | ((with_reducible refine gate_store (t := 3) (p := 41) rfl ?_); refine store_event (t := 3) (p := 41) (v := ?vo_w25) (w1 := (wr.setCell ⟨go18, (x28_2 : Int).toNat, none⟩ (.int .i64 (wrap64 ((rd x9_2 x28_2) + (wrap64 (x28_2 * (rd x7_1 x28_2)))))))) ?hg ?ho ?hn ?hr ?_; (case ho => rfl); (case hg => rfl); (case hn => rfl); (case hr => first | (go_simp; done) | (go_simp; rfl)); intro w25 hw; have hg : wr.grownBy w25 (some go18) := (by rw [hw]; exact HP24.2); have hp_ : Kd.R (Kd.int .i64) 3 w25 w.heap.size (fun k_ => some k_ ≠ (.slice (some ad109) x7_1.length co13 : Value).ownBlock) (.slice (some ⟨go18, 0, none⟩) x9_2.length co23) y111 := (by rw [hw, Ny111.out]; exact HP24.1); clear HP24; have n0_ := As0.mk (hp_); have n1_ := As0.mk (Kd.R_after (v := (.slice (some ⟨go18, 0, none⟩) x9_2.length co23)) (v1 := (.slice (some ⟨go18, 0, none⟩) x9_2.length co23)) (ok := (fun _ => True)) (by (with_reducible repeat (first | apply Kd.R_alloc | apply Kd.R_drewN | apply Kd.R_drew)); exact Kd.R_mono HO_26.out (fun _ hk => ⟨trivial, hk⟩)) hg (.inl rfl)); have n2_ := As0.mk ((by rw [hw]; exact below_set (HB.out) GB18.out : Below w.heap.size w w25)); clear HO_9; clear HO_26; clear HB; have HO_9 := n0_; have HO_26 := n1_; have HB := n2_; clear n0_ n1_ n2_; clear hg hw hp_; have p112 : 0 ≤ ((ji19) : Int) := of_decide_eq_true (by first | (with_reducible assumption) | assumption); have q112 : (ji19) < (y111.length : Int) := (by have h_ : ((ji19) : Int) < ((x9_2.length : Int) : Int) := of_decide_eq_true (by first | (with_reducible assumption) | assumption); first | (have e_ := (Kd.R_reads' HO_9.out).1; omega) | simpa only [Ny111.out, List.length_set] using h_); have ql112 : (((ji19) : Int) < ((x9_2.length : Int) : Int)) = True := eq_true (of_decide_eq_true (by first | (with_reducible assumption) | assumption)); obtain ⟨ad112, e112, hx112_0⟩ := Kd.at_int (Kd.R_reads' HO_9.out).2.2 (ji19) p112 q112; obtain rfl : (⟨go18, 0, none⟩ : Addr) = ad112 := (by injection e112); (first | simp only [add_plain] at hx112_0 | simp only [add_at] at hx112_0 | simp only [Addr.add, Nat.zero_add] at hx112_0 | skip); replace p112 := eq_true p112; replace q112 := eq_true q112; have p22 : 0 ≤ ((ji19) : Int) := of_decide_eq_true (by first | (with_reducible assumption) | assumption); have q22 : ((ji19) : Int) < ((x9_2.length : Int) : Int) := of_decide_eq_true (by first | (with_reducible assumption) | assumption); obtain ⟨hx22_0, hf22_0⟩ := Kd.R_celln 0 HO_9.out ((ji19) : Int) p22 q22; replace p22 := eq_true p22; replace q22 := eq_true q22; obtain ⟨hy26_, hz26_⟩ := Kd.R_celln 0 HO_9.out ((ji19) : Int) (of_decide_eq_true (by first | (with_reducible assumption) | assumption)) (of_decide_eq_true (by first | (with_reducible assumption) | assumption)); have HP26 := Kd.R_putg HO_9.out ((ji19) : Int) (wrap64 ((rd y111 (ji19)) + (rd x7_1 x28_2)))) | ((with_reducible refine gate_store (t := 3) (p := 49) rfl ?_); refine store_event (t := 3) (p := 49) (v := ?vo_w27) (w1 := (w25.setCell ⟨go18, ((ji19) : Int).toNat, none⟩ (.int .i64 (wrap64 ((rd y111 (ji19)) + (rd x7_1 x28_2)))))) ?hg ?ho ?hn ?hr ?_; (case ho => rfl); (case hg => rfl); (case hn => rfl); (case hr => first | (go_simp; done) | (go_simp; rfl)); intro w27 hw; have hg : w25.grownBy w27 (some go18) := (by rw [hw]; exact HP26.2); have hp_ : Kd.R (Kd.int .i64) 3 w27 w.heap.size (fun k_ => some k_ ≠ (.slice (some ad109) x7_1.length co13 : Value).ownBlock) (.slice (some ⟨go18, 0, none⟩) x9_2.length co23) y113 := (by rw [hw, Ny113.out]; exact HP26.1); clear HP26; have n0_ := As0.mk (hp_); have n1_ := As0.mk (Kd.R_after (v := (.slice (some ⟨go18, 0, none⟩) x9_2.length co23)) (v1 := (.slice (some ⟨go18, 0, none⟩) x9_2.length co23)) (ok := (fun _ => True)) (by (with_reducible repeat (first | apply Kd.R_alloc | apply Kd.R_drewN | apply Kd.R_drew)); exact HO_26.out) hg (.inl rfl)); have n2_ := As0.mk ((by rw [hw]; exact below_set (HB.out) GB18.out : Below w.heap.size w w27)); clear HO_9; clear HO_26; clear HB; have HO_9 := n0_; have HO_26 := n1_; have HB := n2_; clear n0_ n1_ n2_; clear hg hw hp_))
               go_roundg k2
               case measure => have := HK1.out; have := HK2.out; omega
               case rel => exact ⟨(y113), (ji19), (by first | rfl | (simp; done) | (simp only [← hji19] <;> (first | rfl | simp)) | (simp [*]; done)), H', ⟨by have := HK1.out; have := HK2.out; omega⟩, ⟨by (with_reducible repeat (first | apply Kd.R_alloc | apply Kd.R_drewN | apply Kd.R_drew)); exact HO_9.out⟩, ⟨by (with_reducible repeat (first | apply Kd.R_alloc | apply Kd.R_drewN | apply Kd.R_drew)); exact Kd.R_mono HO_26.out (fun _ hk => hk.2)⟩, ⟨by repeat (first | (with_reducible first | exact HB.out | apply below_alloc | apply pw_below_drewN | apply below_drew1) | exact HB.out)⟩⟩
              ·rw [if_neg c21] at H
               exact absurd H (by simp)
             ·rw [if_neg c20] at H
              exact absurd H (by simp)
            ·rw [if_neg c17] at H
             exact absurd H (by simp)
           ·rw [if_neg c16] at H
            exact absurd H (by simp)
          ·rw [if_neg c15] at H
           exact absurd H (by simp)
         ·rw [if_neg c14] at H
          have c14b0 : decide (x28_2 < (x7_1.length : Int)) = false := decide_eq_false c14
          clear c14
          have H' := As0.mk H
          clear H
          go_wp2
          go_roundg k2
          case measure => have := HK1.out; have := HK2.out; omega
          case rel => exact ⟨(x9_2), (wrap64 (x20_1 + 1)), (by first | rfl | (simp; done) | (simp [*]; done)), H', ⟨by have := HK1.out; have := HK2.out; omega⟩, ⟨by (with_reducible repeat (first | apply Kd.R_alloc | apply Kd.R_drewN | apply Kd.R_drew)); exact Kd.R_mono HO_9.out (fun _ hk => trivial)⟩, ⟨by repeat (first | (with_reducible first | exact HB.out | apply below_alloc | apply pw_below_drewN | apply below_drew1) | exact HB.out)⟩⟩
      ·rw [if_neg c10] at H
       exact absurd H (by simp)
     ·rw [if_neg c9] at H
      exact absurd H (by simp)
    ·rw [if_neg c7] at H
     have c7b0 : decide (x20_1 < a0) = false := decide_eq_false c7
     clear c7
     by_cases c28 : 0 ≤ a1
     ·rw [if_pos c28] at H
      have c28b0 : decide (0 ≤ a1) = true := decide_eq_true c28
      clear c28
      by_cases c29 : a1 < (x7_1.length : Int)
      ·rw [if_pos c29] at H
       have c29b0 : decide (a1 < (x7_1.length : Int)) = true := decide_eq_true c29
       clear c29
       simp only [Option.some.injEq, Prod.mk.injEq] at H
       obtain ⟨rfl, rfl⟩ := H
       obtain ⟨Ao30, co30, eo30⟩ := Kd.R_slice HO_7.out
       subst eo30
       have p105 : 0 ≤ (a1 : Int) := of_decide_eq_true (by first | (with_reducible assumption) | assumption)
       have q105 : a1 < (x7_1.length : Int) := of_decide_eq_true (by first | (with_reducible assumption) | assumption)
       obtain ⟨ad105, e105, hx105_0⟩ := Kd.at_int (Kd.R_reads' HO_7.out).2.2 a1 p105 q105
       cases e105
       replace p105 := eq_true p105
       replace q105 := eq_true q105
       go_wp2
       go_ret2
       exact ⟨by first | rfl | (simp [errW_none, errW_some] <;> rfl) | (simp [*, errW_none, errW_some] <;> rfl), by repeat (first | (with_reducible first | exact HB.out | apply below_alloc | apply pw_below_drewN | apply below_drew1) | exact HB.out)⟩
      ·rw [if_neg c29] at H
       exact absurd H (by simp)
     ·rw [if_neg c28] at H
      exact absurd H (by simp)
 ·rw [if_neg c4] at H
  have c4b0 : (t101 == 0) = false := beq_eq_false_iff_ne.mpr c4
  have c4b1 : (t101 != 0) = true := bne_iff_ne.mpr c4
  simp only [Option.some.injEq, Prod.mk.injEq] at H
  obtain ⟨rfl, rfl⟩ := H
  go_enter Tra.func16, Tra.ntmps16
  go_wp2_with (first | ((with_reducible refine gate_callee (f := 45) rfl ?_); refine goesL_ (some 14) rfl rfl Tra.func45 (by kernel_rfl) rfl #[.int .i64 a0, .int .i64 a1] rfl (by (try simp only [List.map_toArray, List.map_cons, List.map_nil]); first | done | rfl | (simp only [List.length_drop, List.length_take]; rfl)) ?_; (with_reducible refine (mobs_counted.calls a0 a1 t101 _ A3.out).mono ?_); rintro e w' ⟨rfl, ⟨nd, rfl⟩⟩; refine ⟨_, rfl, ?_⟩))
  go_ret2
  exact ⟨by first | rfl | (simp [errW_none, errW_some] <;> rfl) | (simp [*, errW_none, errW_some] <;> rfl), by repeat (first | (with_reducible first | exact HB.out | apply below_alloc | apply pw_below_drewN | apply below_drew1) | exact HB.out)⟩
end Go.Proofs.Ytdhgeondbnpeoaa.P
namespace Go.Proofs.Ytdhgeondbnpeoaa.P
open Go.RowKit Go.Proofs.YtdhgeondbnpeoaaW.PrintWords Go.Proofs.YtdhgeondbnpeoaaW.PrintLast Go.Proofs.YtdhgeondbnpeoaaW.PrintMore
attribute [local go_sem] max2_int min2_int max_two min_two max_three min_three max_four min_four
def mobs_IsParting.l0 : Nat → Int → List Int → Int → Int → Option (Bool)
 |0, _, _, _, _ => none
 |k + 1, x3, x9, x10, x11 => if x11 < x10 then (if 0 ≤ x11 then (if x11 < (x9.length : Int) then (if (rd x9 x11) < 0 then (some false) else (if (rd x9 x11) > x3 then (some false) else (mobs_IsParting.l0 k (mx x3 (wrap64 ((rd x9 x11) + 1))) x9 x10 (wrap64 (x11 + 1))))) else (none)) else (none)) else (some true)
def mobs_IsParting.f (k : Nat) (l0 : List Int) : Option (Bool) := if (l0.length : Int) > 12 then (some false) else (mobs_IsParting.l0 k 0 l0 (l0.length : Int) 0)
set_option maxHeartbeats 8000000 in
set_option maxRecDepth 100000 in
theorem mobs_IsParting.calls (k : Nat) (A0 : Option Addr) (c0 : Nat) (l0 : List Int) (r : Bool) (w : World) (hr0 : Kd.C (Kd.int .i64) w A0 l0.length l0) (hc0 : l0.length ≤ c0) (h : mobs_IsParting.f k l0 = some r) :
  Calls Tra.prog 40 #[.slice A0 l0.length c0] w fun e w' => e = .returned (.bool r) ∧ Below w.heap.size w w' := by
 have HR0 := As0.mk hr0
 have HC0 := As0.mk hc0
 clear hr0 hc0
 have HB := As0.mk (Below.refl w.heap.size w)
 have H : (if (l0.length : Int) > 12 then (some false) else (mobs_IsParting.l0 k 0 l0 (l0.length : Int) 0)) = some r := h
 clear h
 by_cases c2 : (l0.length : Int) > 12
 ·rw [if_pos c2] at H
  have c2b0 : decide (12 < (l0.length : Int)) = true := decide_eq_true c2
  have c2b1 : decide (12 < l0.length) = true := decide_eq_true (by omega)
  clear c2
  obtain rfl := Option.some.inj H
  go_enter Tra.func40, Tra.ntmps40
  go_wp2
  go_ret
  exact ⟨by first | rfl | (simp [errW_none, errW_some] <;> rfl) | (simp [*, errW_none, errW_some] <;> rfl), by repeat (first | (with_reducible first | exact HB.out | apply below_alloc | apply pw_below_drewN | apply below_drew1) | exact HB.out)⟩
 ·rw [if_neg c2] at H
  have c2b0 : decide (12 < (l0.length : Int)) = false := decide_eq_false c2
  have c2b1 : decide (12 < l0.length) = false := decide_eq_false (by omega)
  clear c2
  have H' := As0.mk H
  clear H
  go_enter Tra.func40, Tra.ntmps40
  go_wp2
  go_loopg [3, 11] k (fun kq v3 v11 w' => ∃ (x3_1 : Int) (x11_1 : Int), v3 = .int .i64 x3_1 ∧ v11 = .int .i64 x11_1 ∧ As0 (mobs_IsParting.l0 kq x3_1 l0 (l0.length : Int) x11_1 = some r) ∧ As0 (kq ≤ k) ∧ As0 (Below w.heap.size w w'))
  case atStart => exact ⟨(0), (0), (by first | rfl | (simp; done) | (simp [*]; done)), (by first | rfl | (simp; done) | (simp [*]; done)), H', ⟨Nat.le_refl _⟩, ⟨by repeat (first | (with_reducible first | exact HB.out | apply below_alloc | apply pw_below_drewN | apply below_drew1) | exact HB.out)⟩⟩
  case round =>
   clear H'
   try clear c2
   try clear c2b0
   try clear c2b1
   try clear p2
   obtain ⟨x3_1, x11_1, rfl, rfl, HA, HK1, HB⟩ := hrel
   cases gk with
   |zero => exact absurd HA.out (by simp [mobs_IsParting.l0])
   |succ k1 =>
    have H := HA.out
    clear HA
    simp only [mobs_IsParting.l0] at H
    by_cases c3 : x11_1 < (l0.length : Int)
    ·rw [if_pos c3] at H
     have c3b0 : decide (x11_1 < (l0.length : Int)) = true := decide_eq_true c3
     clear c3
     by_cases c4 : 0 ≤ x11_1
     ·rw [if_pos c4] at H
      have c4b0 : decide (0 ≤ x11_1) = true := decide_eq_true c4
      clear c4
      by_cases c5 : x11_1 < (l0.length : Int)
      ·rw [if_pos c5] at H
       have c5b0 : decide (x11_1 < (l0.length : Int)) = true := decide_eq_true c5
       clear c5
       by_cases c6 : (rd l0 x11_1) < 0
       ·rw [if_pos c6] at H
        have c6b0 : decide ((rd l0 x11_1) < 0) = true := decide_eq_true c6
        clear c6
        obtain rfl := Option.some.inj H
        have p155 : 0 ≤ (x11_1 : Int) := of_decide_eq_true (by first | (with_reducible assumption) | assumption)
        have q155 : x11_1 < (l0.length : Int) := of_decide_eq_true (by first | (with_reducible assumption) | assumption)
        obtain ⟨ad155, e155, hx155_0⟩ := Kd.at_int HR0.out x11_1 p155 q155
        cases e155
        replace hx155_0 := (HB.out.cell (World.block_lt_of_cell? w _ hx155_0)).trans hx155_0
        replace p155 := eq_true p155
        replace q155 := eq_true q155
        go_wp2
        go_ret
        exact ⟨by first | rfl | (simp [errW_none, errW_some] <;> rfl) | (simp [*, errW_none, errW_some] <;> rfl), by repeat (first | (with_reducible first | exact HB.out | apply below_alloc | apply pw_below_drewN | apply below_drew1) | exact HB.out)⟩
       ·rw [if_neg c6] at H
        have c6b0 : decide ((rd l0 x11_1) < 0) = false := decide_eq_false c6
        clear c6
        by_cases c7 : (rd l0 x11_1) > x3_1
        ·rw [if_pos c7] at H
         have c7b0 : decide (x3_1 < (rd l0 x11_1)) = true := decide_eq_true c7
         clear c7
         obtain rfl := Option.some.inj H
         have p155 : 0 ≤ (x11_1 : Int) := of_decide_eq_true (by first | (with_reducible assumption) | assumption)
         have q155 : x11_1 < (l0.length : Int) := of_decide_eq_true (by first | (with_reducible assumption) | assumption)
         obtain ⟨ad155, e155, hx155_0⟩ := Kd.at_int HR0.out x11_1 p155 q155
         cases e155
         replace hx155_0 := (HB.out.cell (World.block_lt_of_cell? w _ hx155_0)).trans hx155_0
         replace p155 := eq_true p155
         replace q155 := eq_true q155
         go_wp2
         go_ret
         exact ⟨by first | rfl | (simp [errW_none, errW_some] <;> rfl) | (simp [*, errW_none, errW_some] <;> rfl), by repeat (first | (with_reducible first | exact HB.out | apply below_alloc | apply pw_below_drewN | apply below_drew1) | exact HB.out)⟩
        ·rw [if_neg c7] at H
         have c7b0 : decide (x3_1 < (rd l0 x11_1)) = false := decide_eq_false c7
         clear c7
         obtain ⟨ji8, hji8⟩ : ∃ j_ : Int, (mx x3_1 (wrap64 ((rd l0 x11_1) + 1))) = j_ := ⟨_, rfl⟩
         replace H : (mobs_IsParting.l0 k1 ji8 l0 (l0.length : Int) (wrap64 (x11_1 + 1))) = some r := by first | (rw [hji8] at H; exact H) | (simp only [hji8] at H ⊢; exact H)
         have hji8_ : (if x3_1 < (wrap64 ((rd l0 x11_1) + 1)) then (wrap64 ((rd l0 x11_1) + 1)) else x3_1) = ji8 := hji8
         have H' := As0.mk H
         clear H
         have p155 : 0 ≤ (x11_1 : Int) := of_decide_eq_true (by first | (with_reducible assumption) | assumption)
         have q155 : x11_1 < (l0.length : Int) := of_decide_eq_true (by first | (with_reducible assumption) | assumption)
         obtain ⟨ad155, e155, hx155_0⟩ := Kd.at_int HR0.out x11_1 p155 q155
         cases e155
         replace hx155_0 := (HB.out.cell (World.block_lt_of_cell? w _ hx155_0)).trans hx155_0
         replace p155 := eq_true p155
         replace q155 := eq_true q155
         go_wp2
         go_roundg k1
         case measure => have := HK1.out; omega
         case rel => exact ⟨(ji8), (wrap64 (x11_1 + 1)), (by first | rfl | (simp; done) | (simp only [← hji8] <;> (first | rfl | simp)) | (simp [*]; done)), (by first | rfl | (simp; done) | (simp [*]; done)), H', ⟨by have := HK1.out; omega⟩, ⟨by repeat (first | (with_reducible first | exact HB.out | apply below_alloc | apply pw_below_drewN | apply below_drew1) | exact HB.out)⟩⟩
      ·rw [if_neg c5] at H
       exact absurd H (by simp)
     ·rw [if_neg c4] at H
      exact absurd H (by simp)
    ·rw [if_neg c3] at H
     have c3b0 : decide (x11_1 < (l0.length : Int)) = false := decide_eq_false c3
     clear c3
     obtain rfl := Option.some.inj H
     go_wp2
     go_ret
     exact ⟨by first | rfl | (simp [errW_none, errW_some] <;> rfl) | (simp [*, errW_none, errW_some] <;> rfl), by repeat (first | (with_reducible first | exact HB.out | apply below_alloc | apply pw_below_drewN | apply below_drew1) | exact HB.out)⟩
def mobs_read.l0 : Nat → List (List Int) → List (List Int) → Int → Int → Option (Int)
 |0, _, _, _, _ => none
 |k + 1, x0, x5, x6, x7 => if x7 < x6 then (if 0 ≤ x7 then (if x7 < (x5.length : Int) then (if ((rd_L1 x5 x7).length : Int) > 12 then (some 3) else ((mobs_IsParting.f k (rd_L1 x5 x7)).bind fun t159 => (if t159 = true then (mobs_read.l0 k x0 x5 x6 (wrap64 (x7 + 1))) else (some 2)))) else (none)) else (none)) else (if (x0.length : Int) = 2 then (if 0 < (x0.length : Int) then (if 1 < (x0.length : Int) then (if ((rd_L1 x0 0).length : Int) = ((rd_L1 x0 1).length : Int) then (some 0) else (some 2)) else (none)) else (none)) else (some 0))
def mobs_read.f (k : Nat) (l0 : List (List Int)) : Option (Int) := mobs_read.l0 k l0 l0 (l0.length : Int) 0
set_option maxHeartbeats 8000000 in
set_option maxRecDepth 100000 in
theorem mobs_read.calls (k : Nat) (A0 : Option Addr) (c0 : Nat) (l0 : List (List Int)) (r : Int) (w : World) (hr0 : Kd.C (Kd.slice 3 (Kd.int .i64)) w A0 l0.length l0) (hc0 : l0.length ≤ c0) (h : mobs_read.f k l0 = some r) :
  Calls Tra.prog 49 #[.slice A0 l0.length c0] w fun e w' => e = .returned (.int .i64 r) ∧ Below w.heap.size w w' := by
 have HR0 := As0.mk hr0
 have HC0 := As0.mk hc0
 clear hr0 hc0
 have HB := As0.mk (Below.refl w.heap.size w)
 have H : (mobs_read.l0 k l0 l0 (l0.length : Int) 0) = some r := h
 clear h
 have H' := As0.mk H
 clear H
 go_enter Tra.func49, Tra.ntmps49
 go_wp2
 repeat (go_quiet (fail); try go_wp2)
 go_loopg [7] k (fun kq v7 w' => ∃ (x7_1 : Int), v7 = .int .i64 x7_1 ∧ As0 (mobs_read.l0 kq l0 l0 (l0.length : Int) x7_1 = some r) ∧ As0 (kq ≤ k) ∧ As0 (Below w.heap.size w w'))
 case atStart => exact ⟨(0), (by first | rfl | (simp; done) | (simp [*]; done)), H', ⟨Nat.le_refl _⟩, ⟨by repeat (first | (with_reducible first | exact HB.out | apply below_alloc | apply pw_below_drewN | apply below_drew1) | exact HB.out)⟩⟩
 case round =>
  clear H'
  obtain ⟨x7_1, rfl, HA, HK1, HB⟩ := hrel
  cases gk with
  |zero => exact absurd HA.out (by simp [mobs_read.l0])
  |succ k1 =>
   have H := HA.out
   clear HA
   simp only [mobs_read.l0] at H
   by_cases c2 : x7_1 < (l0.length : Int)
   ·rw [if_pos c2] at H
    have c2b0 : decide (x7_1 < (l0.length : Int)) = true := decide_eq_true c2
    clear c2
    by_cases c3 : 0 ≤ x7_1
    ·rw [if_pos c3] at H
     have c3b0 : decide (0 ≤ x7_1) = true := decide_eq_true c3
     clear c3
     by_cases c4 : x7_1 < (l0.length : Int)
     ·rw [if_pos c4] at H
      have c4b0 : decide (x7_1 < (l0.length : Int)) = true := decide_eq_true c4
      clear c4
      by_cases c5 : ((rd_L1 l0 x7_1).length : Int) > 12
      ·rw [if_pos c5] at H
       have c5b0 : decide (12 < ((rd_L1 l0 x7_1).length : Int)) = true := decide_eq_true c5
       have c5b1 : decide (12 < (rd_L1 l0 x7_1).length) = true := decide_eq_true (by omega)
       clear c5
       obtain rfl := Option.some.inj H
       have p158 : 0 ≤ (x7_1 : Int) := of_decide_eq_true (by first | (with_reducible assumption) | assumption)
       have q158 : x7_1 < (l0.length : Int) := of_decide_eq_true (by first | (with_reducible assumption) | assumption)
       obtain ⟨ad158, A158_0, c158_0, e158, hx158_0, hl158_0, hi158_0⟩ := at_L1 HR0.out x7_1 p158 q158
       cases e158
       replace hx158_0 := (HB.out.cell (World.block_lt_of_cell? w _ hx158_0)).trans hx158_0
       have HR158_0 := As0.mk hi158_0
       have HC158_0 := As0.mk hl158_0
       clear hi158_0 hl158_0
       replace p158 := eq_true p158
       replace q158 := eq_true q158
       go_wp2
       repeat (go_quiet (fail); try go_wp2)
       go_ret
       exact ⟨by first | rfl | (simp [errW_none, errW_some] <;> rfl) | (simp [*, errW_none, errW_some] <;> rfl), by repeat (first | (with_reducible first | exact HB.out | apply below_alloc | apply pw_below_drewN | apply below_drew1) | exact HB.out)⟩
      ·rw [if_neg c5] at H
       have c5b0 : decide (12 < ((rd_L1 l0 x7_1).length : Int)) = false := decide_eq_false c5
       have c5b1 : decide (12 < (rd_L1 l0 x7_1).length) = false := decide_eq_false (by omega)
       clear c5
       replace H := Option.bind_eq_some_iff.mp H
       obtain ⟨t159, A60, H⟩ := H
       replace H : (if t159 = true then (mobs_read.l0 k1 l0 l0 (l0.length : Int) (wrap64 (x7_1 + 1))) else (some 2)) = some r := H
       have A6 := As0.mk A60
       clear A60
       by_cases c7 : t159 = true
       ·subst c7
        have H1 : (mobs_read.l0 k1 l0 l0 (l0.length : Int) (wrap64 (x7_1 + 1))) = some r := by rw [if_pos rfl] at H; exact H
        clear H
        have H := H1
        clear H1
        have H' := As0.mk H
        clear H
        have p158 : 0 ≤ (x7_1 : Int) := of_decide_eq_true (by first | (with_reducible assumption) | assumption)
        have q158 : x7_1 < (l0.length : Int) := of_decide_eq_true (by first | (with_reducible assumption) | assumption)
        obtain ⟨ad158, A158_0, c158_0, e158, hx158_0, hl158_0, hi158_0⟩ := at_L1 HR0.out x7_1 p158 q158
        cases e158
        replace hx158_0 := (HB.out.cell (World.block_lt_of_cell? w _ hx158_0)).trans hx158_0
        have HR158_0 := As0.mk hi158_0
        have HC158_0 := As0.mk hl158_0
        clear hi158_0 hl158_0
        replace p158 := eq_true p158
        replace q158 := eq_true q158
        go_wp2_with (first | (go_at_call 40; (with_reducible refine (mobs_IsParting.calls k1 _ _ (rd_L1 l0 x7_1) true _ ?side1 ?side2 A6.out).mono ?_); (case side1 => repeat (first | exact (Kd.C_below HR158_0.out HB.out) | (with_reducible refine Kd.C_alloc ?_ _) | (with_reducible refine Kd.C_drewN ?_ _) | (with_reducible refine Kd.C_drew ?_))); (case side2 => exact HC158_0.out); rintro e w8 ⟨rfl, hb⟩; have n0_ := As0.mk (below_step (by repeat (first | (with_reducible first | exact HB.out | apply below_alloc | apply pw_below_drewN | apply below_drew1) | exact HB.out)) hb); clear HB; have HB := n0_; clear n0_; (try clear hb); (try clear hb2); (try clear hk); (try clear hi)))
        repeat (go_quiet (first | (go_at_call 40; (with_reducible refine (mobs_IsParting.calls k1 _ _ (rd_L1 l0 x7_1) true _ ?side1 ?side2 A6.out).mono ?_); (case side1 => repeat (first | exact (Kd.C_below HR158_0.out HB.out) | (with_reducible refine Kd.C_alloc ?_ _) | (with_reducible refine Kd.C_drewN ?_ _) | (with_reducible refine Kd.C_drew ?_))); (case side2 => exact HC158_0.out); rintro e w8 ⟨rfl, hb⟩; have n0_ := As0.mk (below_step (by repeat (first | (with_reducible first | exact HB.out | apply below_alloc | apply pw_below_drewN | apply below_drew1) | exact HB.out)) hb); clear HB; have HB := n0_; clear n0_; (try clear hb); (try clear hb2); (try clear hk); (try clear hi))); try go_wp2_with (first | (go_at_call 40; (with_reducible refine (mobs_IsParting.calls k1 _ _ (rd_L1 l0 x7_1) true _ ?side1 ?side2 A6.out).mono ?_); (case side1 => repeat (first | exact (Kd.C_below HR158_0.out HB.out) | (with_reducible refine Kd.C_alloc ?_ _) | (with_reducible refine Kd.C_drewN ?_ _) | (with_reducible refine Kd.C_drew ?_))); (case side2 => exact HC158_0.out); rintro e w8 ⟨rfl, hb⟩; have n0_ := As0.mk (below_step (by repeat (first | (with_reducible first | exact HB.out | apply below_alloc | apply pw_below_drewN | apply below_drew1) | exact HB.out)) hb); clear HB; have HB := n0_; clear n0_; (try clear hb); (try clear hb2); (try clear hk); (try clear hi))))
        go_roundg k1
        case measure => have := HK1.out; omega
        case rel => exact ⟨(wrap64 (x7_1 + 1)), (by first | rfl | (simp; done) | (simp [*]; done)), H', ⟨by have := HK1.out; omega⟩, ⟨by repeat (first | (with_reducible first | exact HB.out | apply below_alloc | apply pw_below_drewN | apply below_drew1) | exact HB.out)⟩⟩
       ·replace c7 := Bool.eq_false_iff.mpr c7
        subst c7
        have H1 : (some 2) = some r := by rw [if_neg (show ¬ (false = true) by decide)] at H; exact H
        clear H
        have H := H1
        clear H1
        obtain rfl := Option.some.inj H
        have p158 : 0 ≤ (x7_1 : Int) := of_decide_eq_true (by first | (with_reducible assumption) | assumption)
        have q158 : x7_1 < (l0.length : Int) := of_decide_eq_true (by first | (with_reducible assumption) | assumption)
        obtain ⟨ad158, A158_0, c158_0, e158, hx158_0, hl158_0, hi158_0⟩ := at_L1 HR0.out x7_1 p158 q158
        cases e158
        replace hx158_0 := (HB.out.cell (World.block_lt_of_cell? w _ hx158_0)).trans hx158_0
        have HR158_0 := As0.mk hi158_0
        have HC158_0 := As0.mk hl158_0
        clear hi158_0 hl158_0
        replace p158 := eq_true p158
        replace q158 := eq_true q158
        go_wp2_with (first | (go_at_call 40; (with_reducible refine (mobs_IsParting.calls k1 _ _ (rd_L1 l0 x7_1) false _ ?side1 ?side2 A6.out).mono ?_); (case side1 => repeat (first | exact (Kd.C_below HR158_0.out HB.out) | (with_reducible refine Kd.C_alloc ?_ _) | (with_reducible refine Kd.C_drewN ?_ _) | (with_reducible refine Kd.C_drew ?_))); (case side2 => exact HC158_0.out); rintro e w9 ⟨rfl, hb⟩; have n0_ := As0.mk (below_step (by repeat (first | (with_reducible first | exact HB.out | apply below_alloc | apply pw_below_drewN | apply below_drew1) | exact HB.out)) hb); clear HB; have HB := n0_; clear n0_; (try clear hb); (try clear hb2); (try clear hk); (try clear hi)))
        repeat (go_quiet (first | (go_at_call 40; (with_reducible refine (mobs_IsParting.calls k1 _ _ (rd_L1 l0 x7_1) false _ ?side1 ?side2 A6.out).mono ?_); (case side1 => repeat (first | exact (Kd.C_below HR158_0.out HB.out) | (with_reducible refine Kd.C_alloc ?_ _) | (with_reducible refine Kd.C_drewN ?_ _) | (with_reducible refine Kd.C_drew ?_))); (case side2 => exact HC158_0.out); rintro e w9 ⟨rfl, hb⟩; have n0_ := As0.mk (below_step (by repeat (first | (with_reducible first | exact HB.out | apply below_alloc | apply pw_below_drewN | apply below_drew1) | exact HB.out)) hb); clear HB; have HB := n0_; clear n0_; (try clear hb); (try clear hb2); (try clear hk); (try clear hi))); try go_wp2_with (first | (go_at_call 40; (with_reducible refine (mobs_IsParting.calls k1 _ _ (rd_L1 l0 x7_1) false _ ?side1 ?side2 A6.out).mono ?_); (case side1 => repeat (first | exact (Kd.C_below HR158_0.out HB.out) | (with_reducible refine Kd.C_alloc ?_ _) | (with_reducible refine Kd.C_drewN ?_ _) | (with_reducible refine Kd.C_drew ?_))); (case side2 => exact HC158_0.out); rintro e w9 ⟨rfl, hb⟩; have n0_ := As0.mk (below_step (by repeat (first | (with_reducible first | exact HB.out | apply below_alloc | apply pw_below_drewN | apply below_drew1) | exact HB.out)) hb); clear HB; have HB := n0_; clear n0_; (try clear hb); (try clear hb2); (try clear hk); (try clear hi))))
        go_ret
        exact ⟨by first | rfl | (simp [errW_none, errW_some] <;> rfl) | (simp [*, errW_none, errW_some] <;> rfl), by repeat (first | (with_reducible first | exact HB.out | apply below_alloc | apply pw_below_drewN | apply below_drew1) | exact HB.out)⟩
     ·rw [if_neg c4] at H
      exact absurd H (by simp)
    ·rw [if_neg c3] at H
     exact absurd H (by simp)
   ·rw [if_neg c2] at H
    have c2b0 : decide (x7_1 < (l0.length : Int)) = false := decide_eq_false c2
    clear c2
    by_cases c10 : (l0.length : Int) = 2
    ·rw [if_pos c10] at H
     have c10b0 : ((l0.length : Int) == 2) = true := beq_iff_eq.mpr c10
     have c10b1 : ((l0.length : Int) != 2) = false := bne_eq_false_iff_eq.mpr c10
     clear c10
     by_cases c11 : 0 < (l0.length : Int)
     ·rw [if_pos c11] at H
      have c11b0 : decide (0 < (l0.length : Int)) = true := decide_eq_true c11
      have c11b1 : decide (0 < l0.length) = true := decide_eq_true (by omega)
      clear c11
      by_cases c12 : 1 < (l0.length : Int)
      ·rw [if_pos c12] at H
       have c12b0 : decide (1 < (l0.length : Int)) = true := decide_eq_true c12
       have c12b1 : decide (1 < l0.length) = true := decide_eq_true (by omega)
       clear c12
       by_cases c13 : ((rd_L1 l0 0).length : Int) = ((rd_L1 l0 1).length : Int)
       ·rw [if_pos c13] at H
        have c13b0 : (((rd_L1 l0 0).length : Int) == ((rd_L1 l0 1).length : Int)) = true := beq_iff_eq.mpr c13
        have c13b1 : (((rd_L1 l0 0).length : Int) != ((rd_L1 l0 1).length : Int)) = false := bne_eq_false_iff_eq.mpr c13
        have c13b2 : ((rd_L1 l0 0).length == (rd_L1 l0 1).length) = true := by first | simpa using c13 | (simp at c13 ⊢; omega)
        clear c13
        obtain rfl := Option.some.inj H
        have p156 : 0 ≤ (0 : Int) := (by omega)
        have q156 : 0 < (l0.length : Int) := of_decide_eq_true (by first | (with_reducible assumption) | assumption)
        obtain ⟨ad156, A156_0, c156_0, e156, hx156_0, hl156_0, hi156_0⟩ := at_L1 HR0.out 0 p156 q156
        cases e156
        have qi156 : (0 < l0.length) = True := eq_true (by omega)
        (try rw [show ((0 : Int)).toNat = 0 from rfl] at hx156_0)
        (try rw [Addr.add_zero'] at hx156_0)
        replace hx156_0 := (HB.out.cell (World.block_lt_of_cell? w _ hx156_0)).trans hx156_0
        have HR156_0 := As0.mk hi156_0
        have HC156_0 := As0.mk hl156_0
        clear hi156_0 hl156_0
        replace p156 := eq_true p156
        replace q156 := eq_true q156
        have p157 : 0 ≤ (1 : Int) := (by omega)
        have q157 : 1 < (l0.length : Int) := of_decide_eq_true (by first | (with_reducible assumption) | assumption)
        obtain ⟨ad157, A157_0, c157_0, e157, hx157_0, hl157_0, hi157_0⟩ := at_L1 HR0.out 1 p157 q157
        obtain rfl : ad156 = ad157 := (by injection e157)
        (try simp only [show (1 : Int).toNat = 1 from rfl, Nat.reduceMul, Nat.reduceEqDiff, Go.Addr.add, ↓reduceIte] at hx157_0)
        have qi157 : (1 < l0.length) = True := eq_true (by omega)
        (try rw [show ((1 : Int)).toNat = 1 from rfl] at hx157_0)
        replace hx157_0 := (HB.out.cell (World.block_lt_of_cell? w _ hx157_0)).trans hx157_0
        have HR157_0 := As0.mk hi157_0
        have HC157_0 := As0.mk hl157_0
        clear hi157_0 hl157_0
        replace p157 := eq_true p157
        replace q157 := eq_true q157
        go_wp2
        repeat (go_quiet (fail); try go_wp2)
        go_ret
        exact ⟨by first | rfl | (simp [errW_none, errW_some] <;> rfl) | (simp [*, errW_none, errW_some] <;> rfl), by repeat (first | (with_reducible first | exact HB.out | apply below_alloc | apply pw_below_drewN | apply below_drew1) | exact HB.out)⟩
       ·rw [if_neg c13] at H
        have c13b0 : (((rd_L1 l0 0).length : Int) == ((rd_L1 l0 1).length : Int)) = false := beq_eq_false_iff_ne.mpr c13
        have c13b1 : (((rd_L1 l0 0).length : Int) != ((rd_L1 l0 1).length : Int)) = true := bne_iff_ne.mpr c13
        have c13b2 : ((rd_L1 l0 0).length == (rd_L1 l0 1).length) = false := by first | simpa using c13 | (simp at c13 ⊢; omega)
        obtain rfl := Option.some.inj H
        have p156 : 0 ≤ (0 : Int) := (by omega)
        have q156 : 0 < (l0.length : Int) := of_decide_eq_true (by first | (with_reducible assumption) | assumption)
        obtain ⟨ad156, A156_0, c156_0, e156, hx156_0, hl156_0, hi156_0⟩ := at_L1 HR0.out 0 p156 q156
        cases e156
        have qi156 : (0 < l0.length) = True := eq_true (by omega)
        (try rw [show ((0 : Int)).toNat = 0 from rfl] at hx156_0)
        (try rw [Addr.add_zero'] at hx156_0)
        replace hx156_0 := (HB.out.cell (World.block_lt_of_cell? w _ hx156_0)).trans hx156_0
        have HR156_0 := As0.mk hi156_0
        have HC156_0 := As0.mk hl156_0
        clear hi156_0 hl156_0
        replace p156 := eq_true p156
        replace q156 := eq_true q156
        have p157 : 0 ≤ (1 : Int) := (by omega)
        have q157 : 1 < (l0.length : Int) := of_decide_eq_true (by first | (with_reducible assumption) | assumption)
        obtain ⟨ad157, A157_0, c157_0, e157, hx157_0, hl157_0, hi157_0⟩ := at_L1 HR0.out 1 p157 q157
        obtain rfl : ad156 = ad157 := (by injection e157)
        (try simp only [show (1 : Int).toNat = 1 from rfl, Nat.reduceMul, Nat.reduceEqDiff, Go.Addr.add, ↓reduceIte] at hx157_0)
        have qi157 : (1 < l0.length) = True := eq_true (by omega)
        (try rw [show ((1 : Int)).toNat = 1 from rfl] at hx157_0)
        replace hx157_0 := (HB.out.cell (World.block_lt_of_cell? w _ hx157_0)).trans hx157_0
        have HR157_0 := As0.mk hi157_0
        have HC157_0 := As0.mk hl157_0
        clear hi157_0 hl157_0
        replace p157 := eq_true p157
        replace q157 := eq_true q157
        go_wp2
        repeat (go_quiet (fail); try go_wp2)
        go_ret
        exact ⟨by first | rfl | (simp [errW_none, errW_some] <;> rfl) | (simp [*, errW_none, errW_some] <;> rfl), by repeat (first | (with_reducible first | exact HB.out | apply below_alloc | apply pw_below_drewN | apply below_drew1) | exact HB.out)⟩
      ·rw [if_neg c12] at H
       exact absurd H (by simp)
     ·rw [if_neg c11] at H
      exact absurd H (by simp)
    ·rw [if_neg c10] at H
     have c10b0 : ((l0.length : Int) == 2) = false := beq_eq_false_iff_ne.mpr c10
     have c10b1 : ((l0.length : Int) != 2) = true := bne_iff_ne.mpr c10
     obtain rfl := Option.some.inj H
     go_wp2
     repeat (go_quiet (fail); try go_wp2)
     go_ret
     exact ⟨by first | rfl | (simp [errW_none, errW_some] <;> rfl) | (simp [*, errW_none, errW_some] <;> rfl), by repeat (first | (with_reducible first | exact HB.out | apply below_alloc | apply pw_below_drewN | apply below_drew1) | exact HB.out)⟩
end Go.Proofs.Ytdhgeondbnpeoaa.P
