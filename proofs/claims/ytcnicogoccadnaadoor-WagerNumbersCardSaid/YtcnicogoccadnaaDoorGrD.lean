/- The laws WagerGrundys and WagerNumbers: the calls return true, for all arguments. -/
import Derived.Test.YtcnicogoccadnaaDoorProg
import Derived.Below
import Derived.Deep.Draws
import Derived.Deep.AppendLies
import Derived.Maps.AppendAt
import Derived.OwnWalk
import Derived.Laws.BytesArg
import Derived.Laws.MakeOwn
import Derived.Laws.OwnMore
import Derived.Deep.OwnRows
import Derived.Tactics
import Derived.Lib.ConvBytes
import Derived.Laws.Slices
import Derived.WalkKit
import Derived.KernelRfl
import Derived.RowKit3
import Derived.Deep.LoopGhost
import Derived.Deep.QuietTactic
import Derived.BigQuiet
import Derived.WideLaws
import Derived.Deep.DeepCutAuto
import Derived.Deep.CutBlock
import Derived.Deep.RegionHeld3
import Derived.Laws.Rows
import Derived.Lib.AppendStr
import Derived.ArgAppend
import Derived.Laws.IdiomCopy
import Derived.OrdersHeld
import Derived.Laws.BitsLemmas
import Derived.RowKit
import Derived.Test.YtcnicogoccadnaaDoorWWords
import Derived.Test.YtcnicogoccadnaaDoorWLast
import Derived.Test.YtcnicogoccadnaaDoorWTab
import Derived.Test.YtcnicogoccadnaaDoorWFour
import Derived.Test.YtcnicogoccadnaaDoorWQPut
import Derived.Test.YtcnicogoccadnaaDoorWApart
import Derived.Test.YtcnicogoccadnaaDoorWArr
import Derived.Test.YtcnicogoccadnaaDoorWZeros
import Derived.Test.YtcnicogoccadnaaDoorWFoot
import Derived.Test.YtcnicogoccadnaaDoorWKept
import Derived.Test.YtcnicogoccadnaaDoorWShare
import Derived.Test.YtcnicogoccadnaaDoorWN
import Derived.Test.YtcnicogoccadnaaDoorWFootNe
import Derived.Test.YtcnicogoccadnaaDoorWAt
import Derived.Test.YtcnicogoccadnaaDoorWEqStruct
import Derived.Test.YtcnicogoccadnaaDoorWRepsOne
import Derived.Test.YtcnicogoccadnaaDoorWInv
import Derived.Test.YtcnicogoccadnaaDoorWInvWords
import Derived.Test.YtcnicogoccadnaaDoorWGuard
import Derived.Test.YtcnicogoccadnaaDoorWNEv
import Derived.Test.YtcnicogoccadnaaDoorWMore
import Derived.Maps.OwnOps
import Derived.DeepKeys4
import Derived.WalkSpells
import Derived.Laws.EntriesVeiled
import Derived.Deep.RegionLawGrows
import Derived.Test.YtcnicogoccadnaaDoorGrC
import Derived.Test.YtcnicogoccadnaaDoorRNimT
import Derived.Test.YtcnicogoccadnaaDoorNim
import Derived.Test.YtcnicogoccadnaaDoorPx4
namespace Go.Proofs.YtcnicogoccadnaaDoor.Gr
open Go.RowKit Go.Proofs.YtcnicogoccadnaaDoorW.PrintWords Go.Proofs.YtcnicogoccadnaaDoorW.PrintLast Go.Proofs.YtcnicogoccadnaaDoorW.PrintMore
open Go.Proofs.YtcnicogoccadnaaDoor.Ext Go.Proofs.YtcnicogoccadnaaDoor.Pure
attribute [local go_sem] max2_int min2_int max_two min_two max_three min_three max_four min_four
set_option linter.unusedVariables false
set_option linter.unusedSimpArgs false

theorem rgrundy_ev (a l : Int) : Ev (fun k => P.drovewayref07_Grundy.f k a l) (grundyL a l) := by
  unfold P.drovewayref07_Grundy.f grundyL
  by_cases h1 : a < 0
  · rw [if_pos (Or.inl h1)]
    exact Ev.pos h1 (Ev.now _)
  refine Ev.neg h1 ?_
  by_cases h2 : a > 200
  · rw [if_pos (Or.inr (Or.inl h2))]
    exact Ev.pos h2 (Ev.now _)
  refine Ev.neg h2 ?_
  by_cases h3 : l < 0
  · rw [if_pos (Or.inr (Or.inr (Or.inl h3)))]
    exact Ev.pos h3 (Ev.now _)
  refine Ev.neg h3 ?_
  by_cases h4 : l > 1099511627776
  · rw [if_pos (Or.inr (Or.inr (Or.inr h4)))]
    exact Ev.pos h4 (Ev.now _)
  refine Ev.neg h4 ?_
  rw [if_neg (by omega)]
  obtain ⟨H, rfl⟩ : ∃ H : Nat, a = (H : Int) := ⟨a.toNat, by omega⟩
  obtain ⟨t, rfl⟩ : ∃ t : Nat, l = (t : Int) := ⟨l.toNat, by omega⟩
  refine Ev.bind (table_ev (H := H) (by omega)) ?_
  have hm : mn (H : Int) (t : Int) = ((min t H : Nat) : Int) := by unfold mn; split <;> omega
  refine Ev.pos (by omega) (Ev.pos (by rw [tabT_len]; omega) ?_)
  rw [hm]
  refine Ev.pos (by omega) (Ev.pos (by rw [rdL1_len (by omega)]; omega) ?_)
  rw [rdL1_tab, ent_tab (by omega) (by omega)]
  rw [show (H : Int).toNat = H from by omega, show (t : Int).toNat = t from by omega]
  exact Ev.now _
theorem ev_get {α : Type} {f : Nat → Option α} {r : α} (h : Ev f r) : ∃ k, f k = some r := by
  obtain ⟨k, hk⟩ := h
  exact ⟨k, hk k (Nat.le_refl _)⟩

set_option maxHeartbeats 800000 in
set_option maxRecDepth 100000 in
theorem grundys_calls (n l : Int) (w : World) (h0 : w.cell? ⟨0, 0, none⟩ = some (.func (.func 48) #[] #[])) (h1 : w.cell? ⟨0, 1, none⟩ = some (.func (.func 49) #[] #[])) :
    Calls Tryd.prog 3 #[.int .i64 n, .int .i64 l] w fun e w' => e = .returned (.bool true) ∧ Below w.heap.size w w' := by
  obtain ⟨k, hk⟩ := ev_get (rgrundy_ev n l)
  obtain ⟨⟨x, e⟩, hxe⟩ : ∃ p, grundyL n l = p := ⟨_, rfl⟩
  have HG := Aside0.mk (grundy_calls n l w h0 h1)
  rw [hxe] at hk HG
  have HK := Aside0.mk hk
  clear hk hxe h0 h1
  go_enter Tryd.func3, Tryd.ntmps3
  go_wp2_with (first | ((with_reducible refine gate_callee (f := 5) rfl ?_); refine goesL_ (some 12) rfl rfl Tryd.func5 (by kernel_rfl) rfl #[.int .i64 n, .int .i64 l] rfl (by (try simp only [List.map_toArray, List.map_cons, List.map_nil]); first | done | rfl) ?_; (with_reducible refine HG.out.mono ?_); rintro e w1 ⟨rfl, hb1⟩; refine ⟨_, rfl, ?_⟩; have HB1 := Aside0.mk hb1; clear hb1) | ((with_reducible refine gate_callee (f := 6) rfl ?_); refine goesL_ (some 18) rfl rfl Tryd.func6 (by kernel_rfl) rfl #[.int .i64 n, .int .i64 l] rfl (by (try simp only [List.map_toArray, List.map_cons, List.map_nil]); first | done | rfl) ?_; (with_reducible refine (P.drovewayref07_Grundy.calls k n l x e _ HK.out).mono ?_); rintro e w2 ⟨rfl, hb2⟩; refine ⟨_, rfl, ?_⟩; have HB2 := Aside0.mk (below_step HB1.out hb2); clear hb2) | fail)
  refine (P.drovewaylaw07_alive.calls true _ rfl).mono ?_
  rintro e w8 ⟨rfl, hb8⟩
  have HB8 := Aside0.mk (below_step HB2.out hb8)
  clear hb8
  go_wp2
  go_ret
  exact ⟨rfl, HB8.out⟩

theorem grundy_ok {n l : Int} (hn : 0 ≤ n ∧ n ≤ 200) (hl : 0 ≤ l ∧ l ≤ 1099511627776) : grundyL n l = ((val n.toNat (min l.toNat n.toNat) : Int), 0) := by
  unfold grundyL
  rw [if_neg (by omega)]
theorem num_facts {n l m : Int} (hn : 0 ≤ n ∧ n ≤ 200) (hl : 0 ≤ l ∧ l ≤ 1099511627776) (hm : 0 ≤ m ∧ m ≤ 1099511627776) (hlm : m = l + 1 ∨ m = l) :
    ∃ g k x E : Int, grundyL n l = (g, 0) ∧ grundyL n m = (k, 0) ∧ nimS n l = (x, E) ∧ ((g == 0) == (E == 10)) = true ∧ 0 ≤ g ∧ g ≤ l ∧ g ≤ n ∧ g ≤ k := by
  obtain ⟨h, rfl⟩ : ∃ h : Nat, n = (h : Int) := ⟨n.toNat, by omega⟩
  obtain ⟨t, rfl⟩ : ∃ t : Nat, l = (t : Int) := ⟨l.toNat, by omega⟩
  obtain ⟨s, rfl⟩ : ∃ s : Nat, m = (s : Int) := ⟨m.toNat, by omega⟩
  have h1 := val_le h (min t h)
  have h2 := val_tail (h + 1) h (min t h) (by omega) (Nat.min_le_right _ _) (by omega)
  refine ⟨_, _, (nimS (h : Int) (t : Int)).1, (nimS (h : Int) (t : Int)).2, grundy_ok hn hl, grundy_ok hn hm, rfl, ?_, by omega, ?_, ?_, ?_⟩
  · have hE : (nimS (h : Int) (t : Int)).2 = 10 ↔ h = 0 ∨ (t : Int) < tail h := by
      unfold nimS nimIn
      rw [if_pos (by omega)]
      by_cases hz : h = 0
      · rw [if_pos (by omega)]
        exact ⟨fun _ => .inl hz, fun _ => rfl⟩
      · rw [if_neg (by omega)]
        by_cases ht : tail (h : Int) ≤ (t : Int)
        · rw [if_pos ht]
          constructor
          · intro (h : (0 : Int) = 10); exact absurd h (by decide)
          · intro h; omega
        · rw [if_neg ht]
          exact ⟨fun _ => .inr (by omega), fun _ => rfl⟩
    rw [beq_iff_eq, Bool.eq_iff_iff, beq_iff_eq, beq_iff_eq, hE]
    rw [show (h : Int).toNat = h from by omega, show (t : Int).toNat = t from by omega]
    constructor
    · intro h3
      rcases h2.1 (by omega) with h4 | h4
      · exact .inl h4
      · by_cases hz : h = 0
        · exact .inl hz
        · have hb := tl_bounds (i := 60) (n := (h : Int)) (by omega) (heap_lt (by omega))
          unfold tail at *
          right
          omega
    · intro h3
      have := h2.2 (by
        rcases h3 with h3 | h3
        · exact .inl h3
        · right; omega)
      omega
  · rw [show (h : Int).toNat = h from by omega, show (t : Int).toNat = t from by omega]
    omega
  · rw [show (h : Int).toNat = h from by omega, show (t : Int).toNat = t from by omega]
    omega
  · rw [show (h : Int).toNat = h from by omega, show (t : Int).toNat = t from by omega, show (s : Int).toNat = s from by omega]
    rcases hlm with e | e
    · rcases Nat.lt_or_ge t h with h3 | h3
      · rw [show min t h = t from by omega, show min s h = t + 1 from by omega]
        have := val_mono h t (by omega)
        omega
      · rw [show min t h = h from by omega, show min s h = h from by omega]
        exact Int.le_refl _
    · rw [show s = t from by omega]
      exact Int.le_refl _

set_option maxHeartbeats 800000 in
set_option maxRecDepth 100000 in
theorem numbers_calls (a b : Int) (ha : 0 ≤ a ∧ a ≤ 255) (hb : 0 ≤ b) (w : World) (h0 : w.cell? ⟨0, 0, none⟩ = some (.func (.func 48) #[] #[])) (h1 : w.cell? ⟨0, 1, none⟩ = some (.func (.func 49) #[] #[])) :
    Calls Tryd.prog 4 #[.int .u8 a, .int .u64 b] w fun e w' => e = .returned (.bool true) ∧ Below w.heap.size w w' := by
  obtain ⟨ha0, ha1⟩ := ha
  obtain ⟨H, hH⟩ : ∃ H, a % 201 = H := ⟨_, rfl⟩
  obtain ⟨L, hL⟩ : ∃ L, L = wrap64 (Int.tmod b 1099511627777) := ⟨_, rfl⟩
  have HFL := Aside0.mk (show P.drovewaylaw07_heap.f b = some L from by rw [hL]; rfl)
  have hH2 : 0 ≤ H ∧ H ≤ 200 := by omega
  have hL2 : 0 ≤ L ∧ L ≤ 1099511627776 := by
    rw [hL, Int.tmod_eq_emod_of_nonneg hb, w64 (by omega)]
    omega
  have HH := Aside0.mk hH
  have hcase : 1099511627776 < L + 1 ∨ L + 1 < 1099511627776 ∨ L = 1099511627775 := by omega
  obtain ⟨hHa, hHb⟩ := hH2
  obtain ⟨hLa, hLb⟩ := hL2
  clear hL hH
  rcases hcase with hc | hc | hc
  all_goals
    go_enter Tryd.func4, Tryd.ntmps4
    go_wp2_with fail
    rw [HH.out]
    refine (P.drovewaylaw07_heap.calls b L _ HFL.out).mono ?_
    rintro e w1 ⟨rfl, hdr⟩
    have hbw : Below w.heap.size w w1 := by
      obtain ⟨nd, rfl⟩ := hdr
      exact pw_below_drewN (Below.refl _ _) nd
    have HBW := Aside0.mk hbw
    have hb0 := hbw.block 0 (lt0 h0)
    have c0 := (World.cell?_of_block (w := w) (a := ⟨0, 0, none⟩) hb0).trans h0
    have c1 := (World.cell?_of_block (w := w) (a := ⟨0, 1, none⟩) hb0).trans h1
  · obtain rfl : L = 1099511627776 := by omega
    obtain ⟨g, k, x, E, e1, e2, e3, f1, f2, f3, f4, f5⟩ := num_facts (n := H) (l := 1099511627776) (m := 1099511627776) ⟨hHa, hHb⟩ (by omega) (by omega) (Or.inr rfl)
    have HG1 := Aside0.mk (grundy_calls H 1099511627776 w1 c0 c1)
    have HG2 := Aside0.mk (grundy_calls H 1099511627776)
    obtain ⟨kn, hkn⟩ := ev_get (Nim_ev H 1099511627776)
    rw [e1] at HG1
    rw [e2] at HG2
    rw [e3] at hkn
    have HKN := Aside0.mk hkn
    have C0 := Aside0.mk c0
    have C1 := Aside0.mk c1
    clear hdr hbw hb0 c0 c1 hkn e1 e2 e3 h0 h1
    go_wp2_with fail
    refine HG1.out.mono ?_
    rintro e w2 ⟨rfl, hb2⟩
    have hb0 := hb2.block 0 (lt0 C0.out)
    have D0 := Aside0.mk ((World.cell?_of_block (w := w1) (a := ⟨0, 0, none⟩) hb0).trans C0.out)
    have D1 := Aside0.mk ((World.cell?_of_block (w := w1) (a := ⟨0, 1, none⟩) hb0).trans C1.out)
    have HB2 := Aside0.mk (below_step HBW.out hb2)
    clear hb2 hb0 HG1 HBW C0 C1
    go_wp2_with fail
    refine (P.wager_Nim.calls kn H 1099511627776 x E _ HKN.out).mono ?_
    rintro e w3 ⟨rfl, hb3⟩
    have hb0 := hb3.block 0 (lt0 D0.out)
    have C0 := Aside0.mk ((World.cell?_of_block (w := w2) (a := ⟨0, 0, none⟩) hb0).trans D0.out)
    have C1 := Aside0.mk ((World.cell?_of_block (w := w2) (a := ⟨0, 1, none⟩) hb0).trans D1.out)
    have HB3 := Aside0.mk (below_step HB2.out hb3)
    clear hb3 hb0 HB2 D0 D1
    go_wp2_with fail
    refine (HG2.out w3 C0.out C1.out).mono ?_
    rintro e w4 ⟨rfl, hb4⟩
    have HB4 := Aside0.mk (below_step HB3.out hb4)
    clear hb4 HB3 C0 C1 HG2
    go_wp2_with fail
    refine (P.drovewaylaw07_alive.calls true _ rfl).mono ?_
    rintro e w8 ⟨rfl, hb8⟩
    have HB8 := Aside0.mk (below_step HB4.out hb8)
    clear hb8
    go_wp2
    go_ret
    exact ⟨rfl, HB8.out⟩
  · obtain ⟨g, k, x, E, e1, e2, e3, f1, f2, f3, f4, f5⟩ := num_facts (n := H) (l := L) (m := L + 1) ⟨hHa, hHb⟩ ⟨hLa, hLb⟩ (by omega) (Or.inl rfl)
    have HG1 := Aside0.mk (grundy_calls H L w1 c0 c1)
    have HG2 := Aside0.mk (grundy_calls H (L + 1))
    obtain ⟨kn, hkn⟩ := ev_get (Nim_ev H L)
    rw [e1] at HG1
    rw [e2] at HG2
    rw [e3] at hkn
    have HKN := Aside0.mk hkn
    have C0 := Aside0.mk c0
    have C1 := Aside0.mk c1
    clear hdr hbw hb0 c0 c1 hkn e1 e2 e3 h0 h1
    go_wp2_with fail
    refine HG1.out.mono ?_
    rintro e w2 ⟨rfl, hb2⟩
    have hb0 := hb2.block 0 (lt0 C0.out)
    have D0 := Aside0.mk ((World.cell?_of_block (w := w1) (a := ⟨0, 0, none⟩) hb0).trans C0.out)
    have D1 := Aside0.mk ((World.cell?_of_block (w := w1) (a := ⟨0, 1, none⟩) hb0).trans C1.out)
    have HB2 := Aside0.mk (below_step HBW.out hb2)
    clear hb2 hb0 HG1 HBW C0 C1
    go_wp2_with fail
    refine (P.wager_Nim.calls kn H L x E _ HKN.out).mono ?_
    rintro e w3 ⟨rfl, hb3⟩
    have hb0 := hb3.block 0 (lt0 D0.out)
    have C0 := Aside0.mk ((World.cell?_of_block (w := w2) (a := ⟨0, 0, none⟩) hb0).trans D0.out)
    have C1 := Aside0.mk ((World.cell?_of_block (w := w2) (a := ⟨0, 1, none⟩) hb0).trans D1.out)
    have HB3 := Aside0.mk (below_step HB2.out hb3)
    clear hb3 hb0 HB2 D0 D1
    go_wp2_with fail
    refine (HG2.out w3 C0.out C1.out).mono ?_
    rintro e w4 ⟨rfl, hb4⟩
    have HB4 := Aside0.mk (below_step HB3.out hb4)
    clear hb4 HB3 C0 C1 HG2
    go_wp2_with fail
    refine (P.drovewaylaw07_alive.calls true _ rfl).mono ?_
    rintro e w8 ⟨rfl, hb8⟩
    have HB8 := Aside0.mk (below_step HB4.out hb8)
    clear hb8
    go_wp2
    go_ret
    exact ⟨rfl, HB8.out⟩
  · subst hc
    obtain ⟨g, k, x, E, e1, e2, e3, f1, f2, f3, f4, f5⟩ := num_facts (n := H) (l := 1099511627775) (m := 1099511627776) ⟨hHa, hHb⟩ (by omega) (by omega) (Or.inl rfl)
    have HG1 := Aside0.mk (grundy_calls H 1099511627775 w1 c0 c1)
    have HG2 := Aside0.mk (grundy_calls H 1099511627776)
    obtain ⟨kn, hkn⟩ := ev_get (Nim_ev H 1099511627775)
    rw [e1] at HG1
    rw [e2] at HG2
    rw [e3] at hkn
    have HKN := Aside0.mk hkn
    have C0 := Aside0.mk c0
    have C1 := Aside0.mk c1
    clear hdr hbw hb0 c0 c1 hkn e1 e2 e3 h0 h1
    go_wp2_with fail
    refine HG1.out.mono ?_
    rintro e w2 ⟨rfl, hb2⟩
    have hb0 := hb2.block 0 (lt0 C0.out)
    have D0 := Aside0.mk ((World.cell?_of_block (w := w1) (a := ⟨0, 0, none⟩) hb0).trans C0.out)
    have D1 := Aside0.mk ((World.cell?_of_block (w := w1) (a := ⟨0, 1, none⟩) hb0).trans C1.out)
    have HB2 := Aside0.mk (below_step HBW.out hb2)
    clear hb2 hb0 HG1 HBW C0 C1
    go_wp2_with fail
    refine (P.wager_Nim.calls kn H 1099511627775 x E _ HKN.out).mono ?_
    rintro e w3 ⟨rfl, hb3⟩
    have hb0 := hb3.block 0 (lt0 D0.out)
    have C0 := Aside0.mk ((World.cell?_of_block (w := w2) (a := ⟨0, 0, none⟩) hb0).trans D0.out)
    have C1 := Aside0.mk ((World.cell?_of_block (w := w2) (a := ⟨0, 1, none⟩) hb0).trans D1.out)
    have HB3 := Aside0.mk (below_step HB2.out hb3)
    clear hb3 hb0 HB2 D0 D1
    go_wp2_with fail
    refine (HG2.out w3 C0.out C1.out).mono ?_
    rintro e w4 ⟨rfl, hb4⟩
    have HB4 := Aside0.mk (below_step HB3.out hb4)
    clear hb4 HB3 C0 C1 HG2
    go_wp2_with fail
    refine (P.drovewaylaw07_alive.calls true _ rfl).mono ?_
    rintro e w8 ⟨rfl, hb8⟩
    have HB8 := Aside0.mk (below_step HB4.out hb8)
    clear hb8
    go_wp2
    go_ret
    exact ⟨rfl, HB8.out⟩

end Go.Proofs.YtcnicogoccadnaaDoor.Gr
