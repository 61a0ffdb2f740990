/- Printed by group.py, a program of this session, over the place's print: functions of the program as Lean functions, and proofs that the machine's calls answer as they do. -/
import Derived.Test.YtcngcilinlcmeaaPx0
namespace Go.Proofs.Ytcngcilinlcmeaa.P
open Go.RowKit Go.Proofs.YtcngcilinlcmeaaW.PrintWords Go.Proofs.YtcngcilinlcmeaaW.PrintLast Go.Proofs.YtcngcilinlcmeaaW.PrintMore
attribute [local go_sem] max2_int min2_int max_two min_two max_three min_three max_four min_four   -- for this text's walks alone
set_option linter.unusedVariables false
set_option linter.unusedSimpArgs false

/-! ### wager_Chomp: function 33, by hand (ExtG) -/
def mk49 (p : Int × Int) : S49 := ⟨p.1, p.2⟩
theorem R_49 {w : World} {base : Nat} {ok : Nat → Prop} {v : Value} {l : List (Int × Int)} (h : Kd.R (Kd.pair (Kd.int .i64) (Kd.int .i64)) 49 w base ok v l) : Kd.R k49 49 w base ok v (l.map mk49) := by
  obtain ⟨h1, inner, ho, hr⟩ := h
  refine ⟨h1, inner, by rw [List.length_map]; exact ho, ?_⟩
  refine ⟨by rw [List.length_map]; exact hr.1, fun j p hj => ?_⟩
  rw [List.getElem?_map] at hj
  obtain ⟨q, hq, rfl⟩ := Option.map_eq_some_iff.1 hj
  exact hr.2 j q hq
def wager_Chomp.f (l0 : List Int) : Option (List S49 × Int) := some ((Ext.chompL l0).1.map mk49, (Ext.chompL l0).2)
theorem wager_Chomp.calls (A0 : Option Addr) (c0 : Nat) (l0 : List Int) (r1 : List S49) (r2 : Int) (w : World) (hr0 : Kd.C (Kd.int .i64) w A0 l0.length l0) (hc0 : l0.length ≤ c0) (h : wager_Chomp.f l0 = some (r1, r2)) :
    Calls Try.prog 33 #[.slice A0 l0.length c0] w fun e w' => ∃ v0_ : Value, e = .returned (.tuple #[v0_, .int .i64 r2]) ∧ Kd.R k49 49 w' w.heap.size (fun _ => True) v0_ r1 ∧ Below w.heap.size w w' := by
  have e := Option.some.inj h
  have e1 : (Ext.chompL l0).1.map mk49 = r1 := congrArg Prod.fst e
  have e2 : (Ext.chompL l0).2 = r2 := congrArg Prod.snd e
  subst e1 e2
  refine (Ext.chomp_calls A0 c0 l0 w hr0 hc0).mono ?_
  rintro e w' ⟨v, he, hR, hB⟩
  exact ⟨v, he, R_49 hR, hB⟩

end Go.Proofs.Ytcngcilinlcmeaa.P
