/- WagerGrundys holds: for every heap and limit the call returns true; the package variable nim is tied to the program text. -/
import Derived.Test.YtcnicogoccadnaaDoorRows
import Derived.Test.YtcnicogoccadnaaDoorCards
import Derived.Test.YtcnicogoccadnaaDoorTie
import Derived.Test.YtcnicogoccadnaaDoorGrD
import Derived.WalkKit
import Derived.ProofKit
import Derived.OpenShut
import Derived.ShutString
import Derived.ChangeOld
import Derived.Below
import Derived.SizedLaws
import Derived.LaidMore
import Derived.Stop.Joined
import Derived.SevenTiedAt
namespace Go.Proofs.YtcnicogoccadnaaDoor.wagerGrundys
open Go Go.ChangeShapes Go.WideShapes Go.ChangeAt Go.RowKit
set_option linter.unusedVariables false
abbrev laid1 : List (String × DataW Unit) := [("droveway/wager.nim", Rows.laid_droveway_wager_nim)]
theorem own : ownKnob Tryd.prog.godebug = none := by kernel_rfl
theorem gNim : Tryd.prog.globalNamed "droveway/wager.nim" = some 0 := by kernel_rfl
theorem tNim : (Tryd.prog.globals[0]?).map (·.type) = some 38 := by kernel_rfl
theorem cells35 : Tryd.prog.cellsOf 35 = 1 := by kernel_rfl
theorem cells36 : Tryd.prog.cellsOf 36 = 1 := by kernel_rfl
theorem cells38 : Tryd.prog.cellsOf 38 = 2 := by kernel_rfl
/-- The door's own heap meets the condition. -/
theorem door_met (os : Os) (args : Array Value) : laidMetH Tryd.prog laid1 ((World.doorLaid Tryd.prog 14 os).forCall (fun _ _ => 0) ⟨#[], args, []⟩).memory :=
  laidMetH_of_parts3 (fuel := 8) (laidMet_of_run' 8 (by kernel_rfl) (by kernel_rfl)) (by kernel_rfl) (by kernel_rfl)
/-- What the condition gives the walks: the variable's two functions. -/
theorem of_laid {W : World} (h : laidMetH Tryd.prog laid1 W) : W.cell? ⟨0, 0, none⟩ = some (.func (.func 48) #[] #[]) ∧ W.cell? ⟨0, 1, none⟩ = some (.func (.func 49) #[] #[]) := by
  obtain ⟨g, t, cs, fuel, p, hg, ht, hv, hd⟩ := h.funcs (List.mem_singleton.2 rfl)
  obtain rfl := Option.some.inj (gNim.symm.trans hg)
  obtain rfl := Option.some.inj (tNim.symm.trans ht)
  have hd' : DataW.trod (funcToken Tryd.prog) Tryd.prog W 0 (fun _ => true) true fuel 38 cs.toList = some (.agg [.held [100, 114, 111, 118, 101, 119, 97, 121, 47, 119, 97, 103, 101, 114, 46, 110, 105, 109, 36, 49], .held [100, 114, 111, 118, 101, 119, 97, 121, 47, 119, 97, 103, 101, 114, 46, 110, 105, 109, 36, 50]], p) := hd
  obtain ⟨y0, y1, n, he, hl, hr0, hr1⟩ := trod_struct2 Tryd.underlying38 hd'
  rw [cells38] at hl
  obtain ⟨v0, v1, hcs⟩ : ∃ v0 v1, cs.toList = [v0, v1] := by
    match hq : cs.toList, hl with
    | [v0, v1], _ => exact ⟨v0, v1, rfl⟩
  rw [hcs] at hr0 hr1
  simp only [Prod.mk.injEq, DataW.agg.injEq, List.cons.injEq, and_true] at he
  obtain ⟨⟨e0, e1⟩, _⟩ := he
  have hr0' : DataW.trod (funcToken Tryd.prog) Tryd.prog W 0 (fun _ => true) true n 35 [v0] = some (y0.1, y0.2) := by
    have h := hr0
    rw [show Tryd.prog.cellsOf 35 = 1 from cells35] at h
    exact h
  have hr1' : DataW.trod (funcToken Tryd.prog) Tryd.prog W 0 (fun _ => true) true n 36 [v1] = some (y1.1, y1.2) := by
    have h := hr1
    rw [show Tryd.prog.cellsOf 36 = 1 from cells36] at h
    exact h
  rw [← e0] at hr0'
  rw [← e1] at hr1'
  obtain rfl := func_of_trod (f0 := 48) Tryd.underlying35 (by kernel_rfl) hr0'
  obtain rfl := func_of_trod (f0 := 49) Tryd.underlying36 (by kernel_rfl) hr1'
  have c0 := World.var?_cell hg hv 0
  have c1 := World.var?_cell hg hv 1
  rw [← Array.getElem?_toList, hcs] at c0 c1
  exact ⟨c0, c1⟩
set_option maxRecDepth 100000 in
theorem lifted (os : Os) (started : os.Started) (H : Type) (enc : TypeId × Value → H) :
    ReturnsInHanded {} Tryd.checked os 3 .any (fun w args => (Rows.wagerGrundysSpec.pre enc Tryd.prog Tryd.f3 [] false w args ∧ laidMetH Tryd.prog laid1 w) ∧ sizedMet enc Tryd.prog Tryd.f3 (OpenSpec.ofChange Rows.wagerGrundysSpec) false w args)
      (Rows.wagerGrundysSpec.post enc Tryd.prog Tryd.f3 false true false false) := by
  refine returnsInHanded_of_change_and (C := Tryd.checked) (X := fun w _ => laidMetH Tryd.prog laid1 w) (fun _ _ _ hh h => h.of_heap hh) own started (by kernel_rfl) Tryd.func3
    (ChangeSpec.witness_shaped (enc := enc) (C := Tryd.checked) (os := os) (X := fun w _ => laidMetH Tryd.prog laid1 w) false (World.doorLaid Tryd.prog 14 os) #[.int .i64 0, .int .i64 0] 8 rfl (World.shaped_of_RefB (by kernel_rfl) (by kernel_rfl)) (by kernel_rfl) (by kernel_rfl) (by kernel_rfl) (door_met os _)) ?_
  intro W base args ds gs before hval0 hW _ _ hL _
  have hval : ∀ (j : Nat) t v, Tryd.f3.params[j]? = some t → args[j]? = some v → Value.okWide Tryd.prog W .any base t v := hval0
  have hW' := hW
  obtain ⟨p, q, hA0, hV, rfl, hfz, hnd⟩ := hW
  have hA : DataW.TrodAll enc Tryd.prog W 0 (fun _ => true) true Tryd.f3.params.toList args.toList ds p := hA0
  rw [Tryd.params3] at hA hval
  obtain ⟨v0, vs0, d0, ds0, p0, q0, hargs, rfl, rfl, h0, r0⟩ := trodAll_cons hA
  obtain ⟨v1, vs1, d1, ds1, p1, q1, rfl, rfl, rfl, h1, r1⟩ := trodAll_cons r0
  obtain ⟨rfl, rfl, rfl⟩ := trodAll_nil r1
  obtain rfl : args = #[v0, v1] := by cases args; simp_all
  obtain ⟨rfl, rfl⟩ := trodVars_none hV
  obtain ⟨a0, rfl, rfl, rfl, w0⟩ := open_int Tryd.underlying3 (hval 0 3 v0 rfl rfl) h0
  obtain ⟨a1, rfl, rfl, rfl, w1⟩ := open_int Tryd.underlying3 (hval 1 3 v1 rfl rfl) h1
  clear hA0 hval0
  obtain ⟨n0, n1⟩ := of_laid hL
  refine (Gr.grundys_calls a0 a1 W n0 n1).mono fun e W' ⟨he, bel⟩ => ?_
  subst he
  exact ⟨_, rfl, _, _, _, [], _, [], hW', trodAll_mk1 (shut_bool Tryd.underlying4 _), (trodAll_cons_mk (shut_int Tryd.underlying3 w0) (trodAll_cons_mk (shut_int Tryd.underlying3 w1) trodAll_mk0)), rfl, bel.frame _, fun h => by cases h⟩
theorem over : Rows.wagerGrundysRow.holds Tryd.pinned (OpenSpec.ofChange Rows.wagerGrundysSpec) :=
  OpenClaim.holds_of_wide 3 Tryd.f3 rfl rfl rfl rfl rfl rfl rfl ⟨rfl, rfl, rfl, rfl, rfl⟩ rfl rfl rfl rfl rfl (by kernel_rfl) Tryd.func3 (by kernel_rfl)
    (of_decide_eq_true (by kernel_rfl)) (by unfold Func.isWrapper; first | (rw [if_pos (by decide +kernel)]; kernel_rfl) | (rw [if_neg (by decide +kernel)]; exact ⟨rfl, rfl⟩))
    (fun os started H enc _ => lifted os started H enc)
theorem proved : Rows.WagerGrundysCardSaid :=
  Claim7.holds_tied_plain_at .later [] [.funcs] true (true, "15df9e41cffa8aca78ef1e092efd334af05a64b96cfd8bbde5735322caa15aac") false
    over (fun _ h => by cases h) (by kernel_rfl) (fun _ h => by cases h) wagerGrundys_row_tie rfl ⟨rfl, rfl⟩ (by kernel_rfl) rfl
    (fun f fn hf hfn => by
      obtain rfl : f = 3 := Option.some.inj ((show Tryd.prog.funcNamed "droveway/drovewaylaw07.WagerGrundys" = some 3 by kernel_rfl).symm.trans hf) |>.symm
      obtain rfl : fn = Tryd.f3 := (Option.some.inj (Tryd.func3.symm.trans hfn)).symm
      exact ⟨by kernel_rfl, fun j t ht => by
        rw [Tryd.params3] at ht
        have hm : t ∈ [3, 3] := by simpa using Array.mem_of_getElem? ht
        have hall : ([3, 3].all fun u => !Tryd.prog.wantsStandIn u) = true := by kernel_rfl
        exact (show Tryd.prog.wantsStandIn t = false by simpa using List.all_eq_true.1 hall t hm)⟩)
    (by kernel_rfl)
#print axioms proved
end Go.Proofs.YtcnicogoccadnaaDoor.wagerGrundys
namespace Go.Proofs.YtcnicogoccadnaaDoor
/-- The card, under a short name, for the claim. -/
theorem wagerGrundys_holds : Rows.WagerGrundysCardSaid := wagerGrundys.proved
end Go.Proofs.YtcnicogoccadnaaDoor
