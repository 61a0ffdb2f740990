/- The law WagerLosts: the call returns true, for all arguments. -/
import Derived.Test.YtcngcilinlcmeaaProg
import Derived.Below
import Derived.Deep.Draws
import Derived.Deep.AppendLies
import Derived.Maps.AppendAt
import Derived.OwnWalk
import Derived.Laws.BytesArg
import Derived.Laws.MakeOwn
import Derived.Laws.OwnMore
import Derived.Deep.OwnRows
import Derived.Tactics
import Derived.Lib.ConvBytes
import Derived.Laws.Slices
import Derived.WalkKit
import Derived.KernelRfl
import Derived.RowKit3
import Derived.Deep.LoopGhost
import Derived.Deep.QuietTactic
import Derived.BigQuiet
import Derived.WideLaws
import Derived.Deep.DeepCutAuto
import Derived.Deep.CutBlock
import Derived.Deep.RegionHeld3
import Derived.Laws.Rows
import Derived.Lib.AppendStr
import Derived.ArgAppend
import Derived.Laws.IdiomCopy
import Derived.OrdersHeld
import Derived.Laws.BitsLemmas
import Derived.RowKit
import Derived.Test.YtcngcilinlcmeaaWWords
import Derived.Test.YtcngcilinlcmeaaWLast
import Derived.Test.YtcngcilinlcmeaaWTab
import Derived.Test.YtcngcilinlcmeaaWFour
import Derived.Test.YtcngcilinlcmeaaWQPut
import Derived.Test.YtcngcilinlcmeaaWApart
import Derived.Test.YtcngcilinlcmeaaWArr
import Derived.Test.YtcngcilinlcmeaaWZeros
import Derived.Test.YtcngcilinlcmeaaWFoot
import Derived.Test.YtcngcilinlcmeaaWKept
import Derived.Test.YtcngcilinlcmeaaWShare
import Derived.Test.YtcngcilinlcmeaaWN
import Derived.Test.YtcngcilinlcmeaaWFootNe
import Derived.Test.YtcngcilinlcmeaaWAt
import Derived.Test.YtcngcilinlcmeaaWEqStruct
import Derived.Test.YtcngcilinlcmeaaWRepsOne
import Derived.Test.YtcngcilinlcmeaaWInv
import Derived.Test.YtcngcilinlcmeaaWInvWords
import Derived.Test.YtcngcilinlcmeaaWGuard
import Derived.Test.YtcngcilinlcmeaaWNEv
import Derived.Test.YtcngcilinlcmeaaWMore
import Derived.Maps.OwnOps
import Derived.DeepKeys4
import Derived.WalkSpells
import Derived.Laws.EntriesVeiled
import Derived.Deep.RegionLawGrows
import Derived.Test.YtcngcilinlcmeaaExtK
import Derived.Test.YtcngcilinlcmeaaExtL
import Derived.Test.YtcngcilinlcmeaaLostBars
import Derived.Test.YtcngcilinlcmeaaRChomp
import Derived.Test.YtcngcilinlcmeaaRFirst
import Derived.Test.YtcngcilinlcmeaaPx6
import Derived.Test.YtcngcilinlcmeaaPx7
import Derived.Test.YtcngcilinlcmeaaExtM
import Derived.Test.YtcngcilinlcmeaaPx4
import Derived.Test.YtcngcilinlcmeaaPx5
import Derived.Test.YtcngcilinlcmeaaPx8
namespace Go.Proofs.Ytcngcilinlcmeaa.Ext
open Go.RowKit Go.Proofs.YtcngcilinlcmeaaW.PrintWords Go.Proofs.YtcngcilinlcmeaaW.PrintLast Go.Proofs.YtcngcilinlcmeaaW.PrintMore
open Go.Proofs.Ytcngcilinlcmeaa.P Go.Proofs.Ytcngcilinlcmeaa.Pure
attribute [local go_sem] max2_int min2_int max_two min_two max_three min_three max_four min_four
set_option linter.unusedVariables false
set_option linter.unusedSimpArgs false

theorem same_loop (l : List Int) (hl : l.length ≤ 1000) : ∀ (r i : Nat), i + r = l.length → Ev (fun k => drovewaylaw07_same.l0 k l l (i : Int)) true
  | 0, i, h => by
    refine Ev.step (f := fun k => some true) (fun k => ?_) (Ev.now _)
    simp only [drovewaylaw07_same.l0]
    rw [if_neg (by omega)]
  | r + 1, i, h => by
    refine Ev.step (f := fun k => drovewaylaw07_same.l0 k l l ((i + 1 : Nat) : Int)) (fun k => ?_) (same_loop l hl r (i + 1) (by omega))
    simp only [drovewaylaw07_same.l0]
    rw [if_pos (by omega), if_pos (by omega), if_pos (by omega), if_pos trivial, w64 (by omega)]
    rfl
theorem same_get (l : List Int) (hl : l.length ≤ 1000) : ∃ k, drovewaylaw07_same.f k l l = some true := by
  obtain ⟨k, hk⟩ := ev_get (same_loop l hl l.length 0 (by omega))
  exact ⟨k, by unfold drovewaylaw07_same.f; rw [if_pos rfl]; exact hk⟩

/-- the rows that have not been written into yet: i on -/
structure Left (f : Nat → Nat) (B : Nat) (W : World) (A : Option Addr) (L : List (List Int)) (i : Nat) : Prop where
  rows : ∀ j z, i ≤ j → L[j]? = some z → ∃ ad g cap, A = some ad ∧ W.cell? (ad.add j) = some (.slice (some ⟨g, 0, none⟩) z.length cap) ∧ z.length ≤ cap ∧ B ≤ g ∧ g < W.heap.size ∧ f g = j ∧
    (∃ cells, W.heap[ad.block]? = some (.cells cells 25 (0, 0))) ∧ (∃ cells, W.heap[g]? = some (.cells cells 3 (0, 0))) ∧ Kd.R (Kd.int .i64) 3 W B (fun k => k = g) (.slice (some ⟨g, 0, none⟩) z.length cap) z
section
variable {f : Nat → Nat} {B : Nat} {W W1 : World} {A : Option Addr} {L : List (List Int)} {i : Nat}
theorem Left.below (h : Left f B W A L i) (hb : Below W.heap.size W W1) : Left f B W1 A L i := ⟨fun j z hj hz => by
  obtain ⟨ad, g, cap, hA, hc, hl, hB, hg, hf, ⟨c1, h25⟩, ⟨c2, h3⟩, hR⟩ := h.rows j z hj hz
  refine ⟨ad, g, cap, hA, ?_, hl, hB, Nat.lt_of_lt_of_le hg hb.size, hf, ⟨c1, (hb.block _ (blk_lt h25)).trans h25⟩, ⟨c2, (hb.block _ (blk_lt h3)).trans h3⟩, Kd.R_below hR hb⟩
  rw [← hc]
  exact World.cell?_of_block (w := W) (hb.block _ (by rw [add_block]; exact blk_lt h25))⟩
theorem Left.next (h : Left f B W A L i) {ad : Addr} {g : Nat} {z : List Int} (hA : A = some ad) (hz : L[i]? = some z) (hg : f g = i) (h3 : ∃ cells, W.heap[g]? = some (.cells cells 3 (0, 0))) (o : Nat) (v : Value) : Left f B (W.setCell ⟨g, o, none⟩ v) A L (i + 1) := ⟨fun j z hj hz => by
  obtain ⟨ad', g', cap', hA', hc, hl, hB, hg', hf, ⟨c1, h25⟩, ⟨c2, h3'⟩, hR⟩ := h.rows j z (by omega) hz
  obtain ⟨c3, h3⟩ := h3
  have hne : g' ≠ g := by rintro rfl; omega
  have hne2 : ad'.block ≠ g := by
    intro e
    rw [e, h3] at h25
    injection h25 with h25
    injection h25 with _ h25
    cases h25
  have hsz : (W.setCell ⟨g, o, none⟩ v).heap.size = W.heap.size := by simp [World.setCell]
  refine ⟨ad', g', cap', hA', ?_, hl, hB, by rw [hsz]; exact hg', hf, ⟨c1, blk_far h25 hne2 _⟩, ⟨c2, blk_far h3' hne _⟩, Kd.R_far hR (fun k hk => by rw [hk]; exact hne) _⟩
  rw [← hc]
  exact World.cell?_of_block (w := W) (Below.heap_setCell W ⟨g, o, none⟩ v _ (by rw [add_block]; exact hne2))⟩
end
theorem left_of {w : World} {B : Nat} {A : Option Addr} {c : Nat} {L : List (List Int)} {ok : Nat → Prop} (h : Kd.S kr 25 w B ok (.slice A L.length c) L) (hp : ∀ z ∈ L, 0 < z.length) : ∃ f, Left f B w A L 0 := by
  obtain ⟨f, h⟩ := h
  refine ⟨f, ⟨fun j z _ hz => ?_⟩⟩
  have hj := (List.getElem?_eq_some_iff.1 hz).1
  have hty := Kd.R_typed h
  obtain ⟨A', c', he, _, hr⟩ := OwnRow.reads h.2
  injection he with h1 h2 h3
  subst h1
  rw [List.length_zipIdx] at hr
  obtain ⟨ad, rfl, hcs⟩ := hr.2.2 (by omega)
  obtain ⟨cs, hsz, hM, hcell⟩ := hcs j (z, j) (by rw [List.getElem?_zipIdx, hz, Nat.zero_add]; rfl)
  obtain ⟨v, rfl, hR⟩ := hM
  obtain ⟨g, cap, rfl, hBg, hgl, c2, h3'⟩ := Kd.R_form hR (hp z (List.mem_of_getElem? hz))
  have h0 := hcell 0 _ rfl
  rw [show j * (Kd.tag f kr).sz + 0 = j from by show j * 1 + 0 = j; omega] at h0
  have hfg := (hR.1 g (by simp [Value.ownBlock])).2
  exact ⟨ad, g, cap, rfl, h0, (Kd.R_reads' hR).2.1, hBg, hgl, hfg, hty _ rfl, ⟨c2, h3'⟩, Kd.R_mono (Kd.R_tight rfl hR) (fun k hk => by simpa [Value.ownBlock] using hk)⟩
theorem first_cell {W : World} {B g cap : Nat} {ok : Nat → Prop} {z : List Int} (h : Kd.R (Kd.int .i64) 3 W B ok (.slice (some ⟨g, 0, none⟩) z.length cap) z) (hp : 0 < z.length) : ∃ x, W.cell? ⟨g, 0, none⟩ = some (.int .i64 x) := by
  obtain ⟨ad, h2, h3⟩ := Kd.at_int (Kd.R_reads' h).2.2 0 (by omega) (by omega)
  injection h2 with h2
  subst h2
  exact ⟨_, h3⟩
theorem lost_rows {rows cols : Int} {z : List Int} (h : z ∈ (lostL rows cols).1) : 0 < z.length ∧ z.length ≤ 6 := by
  unfold lostL at h
  split at h
  · rename_i hS
    have hbd : 1 ≤ rows ∧ rows ≤ 6 ∧ 1 ≤ cols ∧ cols ≤ 7 := by
      unfold sizedL at hS
      split at hS
      · cases hS
      · omega
    have h1 := (bars_row (n := rows.toNat) (cols := cols) (by omega) (by omega) (List.mem_filter.1 h).1).2
    omega
  · cases h
theorem lost_few (rows cols : Int) : (lostL rows cols).1.length ≤ 262144 := by
  unfold lostL
  split
  · rename_i hS
    have hbd : 1 ≤ rows ∧ rows ≤ 6 ∧ 1 ≤ cols ∧ cols ≤ 7 := by
      unfold sizedL at hS
      split at hS
      · cases hS
      · omega
    have h1 := List.length_filter_le lostP (barsFrom rows.toNat cols [])
    have h2 := bars_len rows.toNat cols [] (by omega)
    have h8 : 8 ^ rows.toNat ≤ 262144 := Nat.le_trans (Nat.pow_le_pow_right (by decide) (show rows.toNat ≤ 6 by omega)) (by decide)
    show ((barsFrom rows.toNat cols []).filter lostP).length ≤ 262144
    omega
  · simp

set_option maxHeartbeats 8000000 in
set_option maxRecDepth 100000 in
theorem losts_calls (rows cols : Int) (w : World) :
    Calls Try.prog 4 #[.int .i64 rows, .int .i64 cols] w fun e w' => e = .returned (.bool true) ∧ Below w.heap.size w w' := by
  obtain ⟨⟨L, E⟩, hLE⟩ : ∃ p, lostL rows cols = p := ⟨_, rfl⟩
  have HE := Aside0.mk hLE
  have hrows : ∀ z ∈ L, 0 < z.length ∧ z.length ≤ 6 := fun z hz => lost_rows (rows := rows) (cols := cols) (by rw [hLE]; exact hz)
  have HRW := Aside0.mk hrows
  have hfew : L.length ≤ 262144 := by have := lost_few rows cols; rw [hLE] at this; exact this
  obtain ⟨⟨p, q, r⟩, hPQ⟩ : ∃ p, firstL rows cols = p := ⟨_, rfl⟩
  obtain ⟨kf, hkf⟩ := ev_get (rfirst_ev rows cols)
  rw [hPQ] at hkf
  have HKF := Aside0.mk hkf
  have HPQ := Aside0.mk hPQ
  have HLO : ∀ w, Calls Try.prog 21 #[.int .i64 rows, .int .i64 cols] w fun e w' => ∃ v, e = .returned (.tuple #[v, .int .i64 E]) ∧ Kd.S kr 25 w' w.heap.size (fun _ => True) v L ∧ Below w.heap.size w w' := fun w => by
    have h := lost_calls rows cols w
    rw [hLE] at h
    exact h
  have HRL : ∀ w, Calls Try.prog 20 #[.int .i64 rows, .int .i64 cols] w fun e w' => ∃ v, e = .returned (.tuple #[v, .int .i64 E]) ∧ Kd.S kr 25 w' w.heap.size (fun _ => True) v L ∧ Below w.heap.size w w' := fun w => by
    have h := rlost_calls rows cols w
    rw [hLE] at h
    exact h
  have HFI : ∀ w, Calls Try.prog 22 #[.int .i64 rows, .int .i64 cols] w fun e w' => e = .returned (.tuple #[.int .i64 p, .int .i64 q, .int .i64 r]) ∧ Below w.heap.size w w' := fun w => by
    have h := first_calls rows cols w
    rw [hPQ] at h
    exact h
  have HLO := Aside0.mk HLO
  have HRL := Aside0.mk HRL
  have HFI := Aside0.mk HFI
  clear hLE hrows hkf hPQ
  go_enter Try.func4, Try.ntmps4
  go_wp2_with (first | ((with_reducible refine gate_callee (f := 20) rfl ?_); refine goesL_ (some 19) rfl rfl Try.func20 (by kernel_rfl) rfl #[.int .i64 rows, .int .i64 cols] rfl (by (try simp only [List.map_toArray, List.map_cons, List.map_nil]); first | done | rfl) ?_; (with_reducible refine (HRL.out _).mono ?_); rintro e w1 ⟨v5, rfl, hS5, hb1⟩; refine ⟨_, rfl, ?_⟩; have HB1 := Aside0.mk hb1; obtain ⟨A5, c5, e5, hlc5, hC5⟩ := Kd.S_reads hS5; subst e5; have HC5 := Aside0.mk hC5; clear hS5 hb1 hC5) | fail)
  go_loopw [7, 9] (fun v7 v9 W => ∃ (n : Nat), v7 = .int .i64 n ∧ Aside0 (n ≤ 2) ∧ Aside0 (Kd.C kr W A5 L.length L) ∧ Aside0 (Below w.heap.size w W)) (fun v7 _ _ => (2 - intOf v7).toNat)
  case atStart => exact ⟨0, rfl, ⟨by omega⟩, HC5, HB1⟩
  case round =>
    obtain ⟨n, rfl, hn, HC, HB⟩ := hrel
    have hn' := hn.out
    by_cases hlt : (n : Int) < 2
    · go_wp2_with (first | ((with_reducible refine gate_callee (f := 21) rfl ?_); refine goesL_ (some 29) rfl rfl Try.func21 (by kernel_rfl) rfl #[.int .i64 rows, .int .i64 cols] rfl (by (try simp only [List.map_toArray, List.map_cons, List.map_nil]); first | done | rfl) ?_; (with_reducible refine (HLO.out _).mono ?_); rintro e w2 ⟨v8, rfl, hS8, hb2⟩; refine ⟨_, rfl, ?_⟩; have HB2 := Aside0.mk hb2; obtain ⟨A8, c8, e8⟩ := Kd.S_slice hS8; subst e8; obtain ⟨f8, hf8⟩ := left_of hS8 (fun z hz => (HRW.out z hz).1); have HL := Aside0.mk hf8; clear hS8 hb2 hf8) | fail)
      obtain ⟨wo, rfl⟩ : ∃ wo : World, wo = wr := ⟨_, rfl⟩
      go_loopw [10] (fun v10 W => ∃ (i : Nat), v10 = .int .i64 i ∧ Aside0 (i ≤ L.length) ∧ Aside0 (Left f8 wo.heap.size W A8 L i) ∧ Aside0 (Below wo.heap.size wo W)) (fun v10 _ => ((L.length : Int) - intOf v10).toNat)
      case atStart => exact ⟨0, rfl, ⟨Nat.zero_le _⟩, HL, HB2⟩
      case round =>
        obtain ⟨i, rfl, hi, HLi, HBi⟩ := hrel
        have hi' := hi.out
        by_cases hil : i < L.length
        · obtain ⟨z, hz⟩ : ∃ z, L[i]? = some z := ⟨L[i], List.getElem?_eq_getElem hil⟩
          have hzl := HRW.out z (List.mem_of_getElem? hz)
          obtain ⟨ks, hks⟩ := same_get z (by omega)
          obtain ⟨ad, g, cap, hA8, hcell, hlc, hBg, hgl, hfg, ⟨c25, h25⟩, ⟨c3, h3⟩, hR⟩ := HLi.out.rows i z (Nat.le_refl _) hz
          subst hA8
          obtain ⟨ad5, rfl, hc5⟩ := (Kd.C_below HC.out HBi.out).2.2 (by omega)
          obtain ⟨cs5, hs5, ⟨A, c, rfl, hl5, hC5⟩, hcell5⟩ := hc5 i z hz
          have hcell5 := hcell5 0 _ rfl
          rw [show i * kr.sz + 0 = i from by show i * 1 + 0 = i; omega] at hcell5
          obtain ⟨x0, hx0⟩ := first_cell hR hzl.1
          have hfz := blk_frozen h3 0
          have HKS := Aside0.mk hks
          have HZ := Aside0.mk hz
          have HR := Aside0.mk hR
          have HC5i := Aside0.mk hC5
          have H3 := Aside0.mk h3
          have hlti : (i : Int) < (L.length : Int) := by omega
          have h0i : (0 : Int) ≤ (i : Int) := by omega
          clear hks hR hC5 hz h25 h3
          go_wp2_with fail
          go_quiet (first | (go_at_call 18; (refine (drovewaylaw07_same.calls ks _ _ z _ _ z true _ ?side1 hlc ?side2 hl5 HKS.out).mono ?_); (case side1 => repeat (first | exact (Kd.R_reads' HR.out).2.2 | (with_reducible refine Kd.C_drewN ?_ _) | (with_reducible refine Kd.C_drew ?_))); (case side2 => repeat (first | exact HC5i.out | (with_reducible refine Kd.C_drewN ?_ _) | (with_reducible refine Kd.C_drew ?_))); rintro e w5 ⟨rfl, ⟨nd, rfl⟩⟩; (try first | exact ⟨rfl, _, World.drewN_drewN _ _ _⟩ | exact ⟨rfl, _, Eq.trans (World.drewN_drewN _ _ _) (congrArg (World.drewN _) (Nat.add_assoc _ _ _))⟩)))
          go_wp2_with fail
          · refine ⟨⟨i + 1, by go_num, ⟨by omega⟩, ⟨?_⟩, ⟨?_⟩⟩, ?_⟩
            · exact Left.next (HLi.out.below (pw_below_drewN (Below.refl wr.heap.size wr) nq)) rfl HZ.out hfg ⟨c3, H3.out⟩ 0 _
            · exact (below_step HBi.out (pw_below_drewN (Below.refl wr.heap.size wr) nq)).setCell hBg _
            · simp [intOf]; omega
        · have hie : i = L.length := by omega
          have hlti : ¬ (i : Int) < (L.length : Int) := by omega
          go_wp2_with fail
          refine ⟨⟨n + 1, by go_num, ⟨by omega⟩, ⟨Kd.C_below HC.out HBi.out⟩, ⟨below_step HB.out HBi.out⟩⟩, ?_⟩
          simp [intOf]; omega
    · have hlt2 : ¬ (n : Int) < 2 := hlt
      go_wp2_with (first | ((with_reducible refine gate_callee (f := 22) rfl ?_); refine goesL_ (some 66) rfl rfl Try.func22 (by kernel_rfl) rfl #[.int .i64 rows, .int .i64 cols] rfl (by (try simp only [List.map_toArray, List.map_cons, List.map_nil]); first | done | rfl) ?_; (with_reducible refine (HFI.out _).mono ?_); rintro e w6 ⟨rfl, hb6⟩; refine ⟨_, rfl, ?_⟩; have HB6 := Aside0.mk (below_step HB.out hb6); clear hb6) | ((with_reducible refine gate_callee (f := 23) rfl ?_); refine goesL_ (some 73) rfl rfl Try.func23 (by kernel_rfl) rfl #[.int .i64 rows, .int .i64 cols] rfl (by (try simp only [List.map_toArray, List.map_cons, List.map_nil]); first | done | rfl) ?_; (with_reducible refine (drovewayref07_First.calls kf rows cols p q r _ HKF.out).mono ?_); rintro e w7 ⟨rfl, hb7⟩; refine ⟨_, rfl, ?_⟩; have HB7 := Aside0.mk (below_step HB6.out hb7); clear hb7) | fail)
      refine (drovewaylaw07_alive.calls true _ rfl).mono ?_
      rintro e w8 ⟨rfl, hb8⟩
      have HB8 := Aside0.mk (below_step HB7.out hb8)
      clear hb8
      go_wp2
      go_ret
      exact ⟨rfl, HB8.out⟩
end Go.Proofs.Ytcngcilinlcmeaa.Ext
