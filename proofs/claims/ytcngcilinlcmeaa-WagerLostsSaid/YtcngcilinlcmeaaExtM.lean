/- The contract of the reference's Lost, for all arguments. -/
import Derived.Test.YtcngcilinlcmeaaProg
import Derived.Below
import Derived.Deep.Draws
import Derived.Deep.AppendLies
import Derived.Maps.AppendAt
import Derived.OwnWalk
import Derived.Laws.BytesArg
import Derived.Laws.MakeOwn
import Derived.Laws.OwnMore
import Derived.Deep.OwnRows
import Derived.Tactics
import Derived.Lib.ConvBytes
import Derived.Laws.Slices
import Derived.WalkKit
import Derived.KernelRfl
import Derived.RowKit3
import Derived.Deep.LoopGhost
import Derived.Deep.QuietTactic
import Derived.BigQuiet
import Derived.WideLaws
import Derived.Deep.DeepCutAuto
import Derived.Deep.CutBlock
import Derived.Deep.RegionHeld3
import Derived.Laws.Rows
import Derived.Lib.AppendStr
import Derived.ArgAppend
import Derived.Laws.IdiomCopy
import Derived.OrdersHeld
import Derived.Laws.BitsLemmas
import Derived.RowKit
import Derived.Test.YtcngcilinlcmeaaWWords
import Derived.Test.YtcngcilinlcmeaaWLast
import Derived.Test.YtcngcilinlcmeaaWTab
import Derived.Test.YtcngcilinlcmeaaWFour
import Derived.Test.YtcngcilinlcmeaaWQPut
import Derived.Test.YtcngcilinlcmeaaWApart
import Derived.Test.YtcngcilinlcmeaaWArr
import Derived.Test.YtcngcilinlcmeaaWZeros
import Derived.Test.YtcngcilinlcmeaaWFoot
import Derived.Test.YtcngcilinlcmeaaWKept
import Derived.Test.YtcngcilinlcmeaaWShare
import Derived.Test.YtcngcilinlcmeaaWN
import Derived.Test.YtcngcilinlcmeaaWFootNe
import Derived.Test.YtcngcilinlcmeaaWAt
import Derived.Test.YtcngcilinlcmeaaWEqStruct
import Derived.Test.YtcngcilinlcmeaaWRepsOne
import Derived.Test.YtcngcilinlcmeaaWInv
import Derived.Test.YtcngcilinlcmeaaWInvWords
import Derived.Test.YtcngcilinlcmeaaWGuard
import Derived.Test.YtcngcilinlcmeaaWNEv
import Derived.Test.YtcngcilinlcmeaaWMore
import Derived.Maps.OwnOps
import Derived.DeepKeys4
import Derived.WalkSpells
import Derived.Laws.EntriesVeiled
import Derived.Deep.RegionLawGrows
import Derived.Test.YtcngcilinlcmeaaExtK
import Derived.Test.YtcngcilinlcmeaaExtL
import Derived.Test.YtcngcilinlcmeaaLostBars
import Derived.Test.YtcngcilinlcmeaaRChomp
import Derived.Test.YtcngcilinlcmeaaRFirst
import Derived.Test.YtcngcilinlcmeaaPx6
import Derived.Test.YtcngcilinlcmeaaPx7
namespace Go.Proofs.Ytcngcilinlcmeaa.Ext
open Go.RowKit Go.Proofs.YtcngcilinlcmeaaW.PrintWords Go.Proofs.YtcngcilinlcmeaaW.PrintLast Go.Proofs.YtcngcilinlcmeaaW.PrintMore
open Go.Proofs.Ytcngcilinlcmeaa.P Go.Proofs.Ytcngcilinlcmeaa.Pure
attribute [local go_sem] max2_int min2_int max_two min_two max_three min_three max_four min_four
set_option linter.unusedVariables false
set_option linter.unusedSimpArgs false

theorem S_of_kt {w : World} {base : Nat} {ok : Nat → Prop} {v : Value} {zs : List (List Int × Nat)} (h : Kd.R kt 25 w base ok v zs) (hn : (zs.map Prod.snd).Pairwise (· < ·)) :
    Kd.S kr 25 w base ok v (zs.map Prod.fst) := by
  obtain ⟨h0, inner, ho, hr⟩ := h
  refine ⟨fun k => (zs.map Prod.snd).idxOf k, h0, inner, by rw [List.length_zipIdx, List.length_map]; exact ho, by rw [List.length_zipIdx, List.length_map]; exact hr.1, fun j p hj => ?_⟩
  rw [List.getElem?_zipIdx, Nat.zero_add, List.getElem?_map] at hj
  obtain ⟨q, hq, rfl⟩ := Option.map_eq_some_iff.1 hj
  obtain ⟨z, hz, rfl⟩ := Option.map_eq_some_iff.1 hq
  have hM := hr.2 j z hz
  refine kr.M_mono (fun k hk => ⟨hk.1, ?_⟩) hM
  obtain ⟨hjl, hzj⟩ := List.getElem?_eq_some_iff.1 hz
  have hnd : (zs.map Prod.snd).Nodup := hn.imp (fun h => Nat.ne_of_lt h)
  have hk2 : k = (zs.map Prod.snd)[j]'(by rw [List.length_map]; exact hjl) := by rw [List.getElem_map, hzj]; exact hk.2
  show (zs.map Prod.snd).idxOf k = j
  rw [hk2]
  exact List.Nodup.idxOf_getElem hnd j _

/-- one of the rows, read -/
theorem row_at {w : World} {base c8 : Nat} {ok : Nat → Prop} {A8 : Option Addr} {zs : List (List Int × Nat)} (h : Kd.R kt 25 w base ok (.slice A8 zs.length c8) zs) {i : Nat} (hi : i < zs.length) {z : List Int × Nat} (hz : zs[i]? = some z) :
    ∃ ad A c, A8 = some ad ∧ w.cell? (ad.add i) = some (.slice A z.1.length c) ∧ z.1.length ≤ c ∧ Kd.R (Kd.int .i64) 3 w base (fun k => ok k ∧ k = z.2 ∧ ∃ cells, w.heap[k]? = some (.cells cells 3 (0, 0))) (.slice A z.1.length c) z.1 := by
  obtain ⟨A, c, he, _, hr⟩ := OwnRow.reads h.2
  injection he with h1 h2 h3
  subst h1
  obtain ⟨ad, had, hc⟩ := hr.2.2 (by omega)
  obtain ⟨cs, hsz, hM, hcell⟩ := hc i z hz
  obtain ⟨v, rfl, hR⟩ := hM
  obtain ⟨A', c', hv, hl', _⟩ := Kd.R_reads hR
  subst hv
  have h0 := hcell 0 _ rfl
  rw [show i * kt.sz + 0 = i from by show i * 1 + 0 = i; omega] at h0
  refine ⟨ad, A', c', had, h0, hl', Kd.R_mono (Kd.R_bound hR) (fun k hk => ⟨hk.1.1.1, hk.1.2, ?_⟩)⟩
  obtain ⟨_, _, _, q, hq, hcc⟩ := hk
  rcases hq with _ | ⟨_, hq⟩
  · exact hcc
  · cases hq

theorem desc_le : ∀ (l : List Int) (b : Int), b ≤ 7 → Desc b l → ∀ x ∈ l, 0 ≤ x ∧ x ≤ 7
  | [], _, _, _, x, hx => by cases hx
  | y :: ys, b, hb, h, x, hx => by
    rcases List.mem_cons.1 hx with rfl | hx
    · exact ⟨h.1, by have := h.2.1; omega⟩
    · exact desc_le ys y (by have := h.2.1; omega) h.2.2 x hx
theorem bars_row {n : Nat} {cols : Int} {l : List Int} (hn : n ≤ 6) (hc : cols ≤ 7) (h : l ∈ barsFrom n cols []) : Row l ∧ l.length = n := by
  obtain ⟨s, hl, hs, hd⟩ := (mem_bars n cols [] l).1 h
  rw [List.nil_append] at hl
  subst hl
  exact ⟨⟨by omega, desc_le l cols hc hd⟩, hs⟩
theorem lost_V {l : List Int} (h : l.length ≤ 6) : lostP l = !V l := by unfold lostP V; rw [padL_padz l h]
theorem ev_get {α : Type} {f : Nat → Option α} {r : α} (h : Ev f r) : ∃ k, f k = some r := by
  obtain ⟨k, hk⟩ := h
  exact ⟨k, by first | exact hk | exact hk k (Nat.le_refl _)⟩
def pick (zs : List (List Int × Nat)) (i : Nat) : List (List Int × Nat) := (zs.take i).filter fun z => lostP z.1
theorem pick_zero (zs : List (List Int × Nat)) : pick zs 0 = [] := rfl
theorem pick_succ {zs : List (List Int × Nat)} {i : Nat} {z : List Int × Nat} (h : zs[i]? = some z) : pick zs (i + 1) = pick zs i ++ (if lostP z.1 = true then [z] else []) := by
  unfold pick
  rw [List.take_add_one, h, List.filter_append]
  simp only [Option.toList, List.filter_cons, List.filter_nil]
theorem pick_all (zs : List (List Int × Nat)) : (pick zs zs.length).map Prod.fst = (zs.map Prod.fst).filter lostP := by
  unfold pick
  rw [List.take_length, List.filter_map]
  rfl
theorem pick_len (zs : List (List Int × Nat)) (i : Nat) : (pick zs i).length ≤ zs.length := by
  unfold pick
  exact Nat.le_trans (List.length_filter_le _ _) (by rw [List.length_take]; omega)
theorem pick_asc {zs : List (List Int × Nat)} (h : (zs.map Prod.snd).Pairwise (· < ·)) (i : Nat) : ((pick zs i).map Prod.snd).Pairwise (· < ·) := by
  unfold pick
  exact List.Pairwise.sublist (((List.filter_sublist).trans (List.take_sublist i zs)).map _) h

theorem kt_off {w : World} {base : Nat} {ok : Nat → Prop} {u v : Value} {zs : List (List Int × Nat)} (h : Kd.R kt 25 w base ok v zs) (hz : ∀ z ∈ zs, some z.2 ≠ u.ownBlock) (hv : ∀ k, v.ownBlock = some k → some k ≠ u.ownBlock) :
    Kd.R kt 25 w base (fun k => some k ≠ u.ownBlock) v zs := by
  obtain ⟨h0, inner, ho, hr⟩ := h
  refine ⟨hv, inner, ho, hr.1, fun j z hj => kr.M_mono (fun k hk => ⟨⟨?_, hk.1.2⟩, hk.2⟩) (hr.2 j z hj)⟩
  show some k ≠ u.ownBlock
  have e : k = z.2 := hk.2
  rw [e]
  exact hz z (List.mem_of_getElem? hj)

set_option maxHeartbeats 8000000 in
set_option maxRecDepth 100000 in
theorem rlost_calls (rows cols : Int) (w : World) :
    Calls Try.prog 20 #[.int .i64 rows, .int .i64 cols] w fun e w' => ∃ v, e = .returned (.tuple #[v, .int .i64 (lostL rows cols).2]) ∧ Kd.S kr 25 w' w.heap.size (fun _ => True) v (lostL rows cols).1 ∧ Below w.heap.size w w' := by
  obtain ⟨ka, hka⟩ := ev_get (asked_ev rows cols)
  by_cases hS : sizedL rows cols = 0
  · have hbd : 1 ≤ rows ∧ rows ≤ 6 ∧ 1 ≤ cols ∧ cols ≤ 7 := by
      unfold sizedL at hS
      split at hS
      · cases hS
      · omega
    obtain ⟨hr1, hr6, hc1, hc7⟩ := hbd
    obtain ⟨n, rfl⟩ : ∃ n : Nat, rows = (n : Int) := ⟨rows.toNat, by omega⟩
    obtain ⟨kt_, hkt⟩ := ev_get (tried_ev (n := n) (by omega))
    have HC := Aside0.mk (show lostL (n : Int) cols = ((barsFrom n cols []).filter lostP, 0) from by unfold lostL; rw [if_pos hS]; rfl)
    rw [hS] at hka
    have HKA := Aside0.mk hka
    have HKT := Aside0.mk hkt
    clear hS hka hkt
    go_enter Try.func20, Try.ntmps20
    go_wp2_with (first | ((with_reducible refine gate_callee (f := 44) rfl ?_); refine goesL_ (some 13) rfl rfl Try.func44 (by kernel_rfl) rfl #[.int .i64 (n : Int), .int .i64 cols] rfl (by (try simp only [List.map_toArray, List.map_cons, List.map_nil]); first | done | rfl) ?_; (with_reducible refine (drovewayref07_asked.calls ka (n : Int) cols 0 _ HKA.out).mono ?_); rintro e w' ⟨rfl, ⟨nd, rfl⟩⟩; refine ⟨_, rfl, ?_⟩) | ((with_reducible refine gate_callee (f := 45) rfl ?_); refine goesL_ (some 18) rfl rfl Try.func45 (by kernel_rfl) rfl #[.int .i64 (n : Int)] rfl (by (try simp only [List.map_toArray, List.map_cons, List.map_nil]); first | done | rfl) ?_; (with_reducible refine (drovewayref07_tried.calls kt_ (n : Int) _ _ HKT.out).mono ?_); rintro e w7 ⟨v7, rfl, ho0, hb⟩; refine ⟨_, rfl, ?_⟩; have HT := Aside0.mk ho0; have HB := Aside0.mk (below_step (pw_below_drewN (Below.refl _ _) nd) hb); clear ho0 hb) | ((with_reducible refine gate_callee (f := 46) rfl ?_); refine goesL_ (some 21) rfl rfl Try.func46 (by kernel_rfl) rfl #[.int .i64 (n : Int), .int .i64 cols, .slice none 0 0] rfl (by (try simp only [List.map_toArray, List.map_cons, List.map_nil]); first | done | rfl) ?_; refine (bars_all n (n : Int) cols none 0 [] w7.heap.size w w7 (Kd.R_nil _ _ _ _ _) HB.out (below_size HB.out) (Nat.le_refl _) (Or.inl rfl) (by simp) (by omega) (by omega) (show (0 : Int) ≤ cols by omega) (show cols ≤ 7 by omega)).mono ?_; rintro e w8 ⟨v8, zs, rfl, hR8, hF8, hI8, hb8⟩; refine ⟨_, rfl, ?_⟩) | fail)
    have HT8 := Aside0.mk (Kd.R_reok (ok := fun k => some k = v7.ownBlock) rfl (Kd.R_below (Kd.R_lower HT.out (Nat.le_refl _)) hb8) (fun k hk => hk.symm))
    have hF8' : zs.map Prod.fst = barsFrom n cols [] := hF8
    have HZ8 := Aside0.mk (kt_off (u := v7) hR8 (fun z hz => by
      have h1 := (hI8.2 z.2 (List.mem_map_of_mem hz)).1
      exact Kd.fresh' (Kd.R_lt HT.out) _ h1) (fun k hk e => by
      obtain ⟨cs, hc⟩ := Kd.R_typed hR8 k hk
      obtain ⟨cs', hc'⟩ := Kd.R_typed HT8.out k e.symm
      rw [hc] at hc'
      injection hc' with hc'
      injection hc' with _ hc'
      cases hc'))
    have HB8 := Aside0.mk (below_step HB.out hb8)
    have HF := Aside0.mk hF8'
    have HI := Aside0.mk hI8
    have hzl : zs.length ≤ 262144 := by
      have h1 := congrArg List.length hF8'
      have h2 := bars_len n cols [] (by omega)
      have h8 : 8 ^ n ≤ 262144 := Nat.le_trans (Nat.pow_le_pow_right (by decide) (show n ≤ 6 by omega)) (by decide)
      rw [List.length_map] at h1
      omega
    obtain ⟨A8, c8, e8⟩ := Kd.R_slice hR8
    subst e8
    clear hR8 hF8 hF8' hI8 hb8 HT HB
    go_wp2_with fail
    go_loopw [9, 10] (fun v9 v10 W => ∃ (i : Nat) (t : List Int), v10 = .int .i64 i ∧ Aside0 (i ≤ zs.length) ∧ Aside0 (Kd.R (Kd.int .i64) 3 W w.heap.size (fun k => some k = v7.ownBlock) v7 t) ∧ Aside0 (Pure.Good n t 1000) ∧ Aside0 (Kd.R kt 25 W w.heap.size (fun k => some k ≠ v7.ownBlock ∧ some k ≠ v9.ownBlock) (.slice A8 zs.length c8) zs) ∧ Aside0 (Kd.R kt 25 W w.heap.size (fun k => some k ≠ v7.ownBlock) v9 (pick zs i)) ∧ Aside0 (Below w.heap.size w W)) (fun _ v10 _ => ((zs.length : Int) - intOf v10).toNat)
    case atStart => exact ⟨0, _, rfl, ⟨Nat.zero_le _⟩, HT8, ⟨zeros_good n 1000⟩, ⟨Kd.R_mono HZ8.out (fun k hk => ⟨hk, by simp [Value.ownBlock]⟩)⟩, ⟨Kd.R_nil _ _ _ _ _⟩, HB8⟩
    case round =>
      obtain ⟨i, t, rfl, hi, HT, HG, HZ, HY, HB⟩ := hrel
      have hi' := hi.out
      obtain ⟨A9, c9, e9⟩ := Kd.R_slice HY.out
      subst e9
      by_cases hlt : i < zs.length
      · obtain ⟨z, hz⟩ : ∃ z, zs[i]? = some z := ⟨zs[i], List.getElem?_eq_getElem hlt⟩
        have hrow := bars_row (n := n) (cols := cols) (l := z.1) (by omega) (by omega) (by rw [← HF.out]; exact List.mem_map_of_mem (List.mem_of_getElem? hz))
        have hsum : sumN z.1 + 1 ≤ 1000 := by
          have h1 := sumN_le z.1 hrow.1.2
          have h2 := hrow.1.1
          omega
        obtain ⟨t', hev, hg', hsame⟩ := rwins_ev _ n z.1 t (Nat.le_refl _) (by omega) hrow.1 hrow.2 (HG.out.less hsum)
        obtain ⟨kw, hkw⟩ := ev_get hev
        have HG5 := Aside0.mk (HG.out.keep hg' hsame)
        have HLV := Aside0.mk (lost_V hrow.1.1)
        obtain ⟨ad, A, c, hA8, hcell, hlc, hRow⟩ := row_at HZ.out hlt hz
        subst hA8
        have HR := Aside0.mk hRow
        have HLC := Aside0.mk hlc
        have HZZ := Aside0.mk hz
        have hlti : (i : Int) < (zs.length : Int) := by omega
        have h0i : (0 : Int) ≤ (i : Int) := by omega
        clear hrow hsum hev hg' hsame HG hRow hlc hz
        cases hV : V z.1 with
        | true =>
          rw [hV] at hkw
          have HKW := Aside0.mk hkw
          have HP := Aside0.mk (show pick zs (i + 1) = pick zs i from by rw [pick_succ HZZ.out, HLV.out, hV]; simp)
          clear hkw hV
          go_wp2_with (first | ((with_reducible refine gate_callee (f := 47) rfl ?_); refine goesL_ (some 33) rfl rfl Try.func47 (by kernel_rfl) rfl #[.slice A z.1.length c, v7] rfl (by (try simp only [List.map_toArray, List.map_cons, List.map_nil]); first | done | rfl) ?_; (refine (drovewayref07_wins.calls kw A c z.1 (fun k => some k = v7.ownBlock) v7 t true t' w wr HB.out (Kd.C_kept_own HR.out (fun k hk hs => hk.1.1 hs)) HLC.out HT.out HKW.out).mono ?_); rintro e w5 ⟨rfl, hy0, hb, hkp⟩; refine ⟨_, rfl, ?_⟩; have HT5 := Aside0.mk (Kd.R_reok (ok := fun k => some k = v7.ownBlock) rfl hy0 (fun k hk => hk.symm)); have HZ5 := Aside0.mk (Kd.R_kept HZ.out hkp (fun k hk hs => hk.1 hs)); have HY5 := Aside0.mk (Kd.R_kept HY.out hkp (fun k hk hs => hk hs)); have HB5 := Aside0.mk hb; clear hy0 hb hkp hcell) | fail)
          go_roundw
          case rel => exact ⟨i + 1, t', by go_num, ⟨by omega⟩, HT5, HG5, HZ5, ⟨by rw [HP.out]; exact HY5.out⟩, HB5⟩
          case measure => simp [intOf]; omega
        | false =>
          rw [hV] at hkw
          have HKW := Aside0.mk hkw
          have HP := Aside0.mk (show pick zs (i + 1) = pick zs i ++ [z] from by rw [pick_succ HZZ.out, HLV.out, hV]; simp)
          clear hkw hV
          go_wp2_with (first | ((with_reducible refine gate_callee (f := 47) rfl ?_); refine goesL_ (some 33) rfl rfl Try.func47 (by kernel_rfl) rfl #[.slice A z.1.length c, v7] rfl (by (try simp only [List.map_toArray, List.map_cons, List.map_nil]); first | done | rfl) ?_; (refine (drovewayref07_wins.calls kw A c z.1 (fun k => some k = v7.ownBlock) v7 t false t' w wr HB.out (Kd.C_kept_own HR.out (fun k hk hs => hk.1.1 hs)) HLC.out HT.out HKW.out).mono ?_); rintro e w5 ⟨rfl, hy0, hb, hkp⟩; refine ⟨_, rfl, ?_⟩; have HT5 := Aside0.mk (Kd.R_reok (ok := fun k => some k = v7.ownBlock) rfl hy0 (fun k hk => hk.symm)); have HZ5 := Aside0.mk (Kd.R_kept HZ.out hkp (fun k hk hs => hk.1 hs)); have HY5 := Aside0.mk (Kd.R_kept HY.out hkp (fun k hk hs => hk hs)); have HB5 := Aside0.mk hb; clear hy0 hb hkp hcell; obtain ⟨ad5, A5, c5, hA5, hcell5, hlc5, hRow5⟩ := row_at HZ5.out hlt HZZ.out; (obtain rfl : ad = ad5 := by injection hA5); have HR5 := Aside0.mk hRow5; clear hRow5 hlc5 hA5) | ((with_reducible refine gate_builtin (b := .append) (xs := #[.tmp 35, .tmp 40]) rfl ?_); at_builtin; refine Kd.R_append kt (w0 := w) w.heap.size rfl (.tmp 35) (.tmp 40) 31 25 (.slice none 0 0) 24 rfl Try.underlying31 info25 rfl (by decide) (by omega) (.slice A9 (pick zs i).length c9) (pick zs i) z [.slice A5 z.1.length c5] (fun k => some k ≠ v7.ownBlock) (fun k => some k ≠ v7.ownBlock ∧ ∃ cells, w5.heap[k]? = some (.cells cells 3 (0, 0))) rfl rfl ?aP (fun k hk => ⟨hk.1, (rows_apart HY5.out k hk.2).2⟩) (Kd.fresh' (Kd.R_lt HT5.out)) HY5.out HB5.out (below_size HB5.out) ?aL ?_; (case aP => exact ⟨_, rfl, Kd.R_mono HR5.out (fun k hk => ⟨⟨hk.1.1, hk.2.2⟩, hk.2.1⟩)⟩); (case aL => have := pick_len zs i; omega)) | fail)
          intro v6 w6 hR6 hB6 hg6 hat6
          have HT6 := Aside0.mk (Kd.R_over' HT5.out (Kd.R_typed HY5.out) (by intro q hq; rcases hq with _ | ⟨_, hq⟩; decide; cases hq) hg6)
          have HZ6 := Aside0.mk (Kd.R_after (ok := fun k => some k ≠ v7.ownBlock) HZ5.out hg6 hat6)
          have HY6 := Aside0.mk hR6
          have HB6 := Aside0.mk hB6
          clear hR6 hB6 hg6 hat6 HT5 HZ5 HY5 HB5 HR5
          go_wp2
          go_roundw
          case rel => exact ⟨i + 1, t', by go_num, ⟨by omega⟩, HT6, HG5, HZ6, ⟨by rw [HP.out]; exact HY6.out⟩, HB6⟩
          case measure => simp [intOf]; omega
      · have hie : i = zs.length := by omega
        have hlti : ¬ (i : Int) < (zs.length : Int) := by omega
        subst hie
        go_wp2
        go_ret2
        exact ⟨_, by rw [HC.out]; rfl, by rw [HC.out, ← HF.out, ← pick_all]; exact Kd.S_mono (S_of_kt HY.out (pick_asc HI.out.1 _)) (fun _ _ => trivial), HB.out⟩
  · obtain ⟨e, he⟩ : ∃ e, sizedL rows cols = e := ⟨_, rfl⟩
    have HC := Aside0.mk (show lostL rows cols = ([], e) from by unfold lostL; rw [if_neg hS, he])
    have h0 : (e != 0) = true := by rw [bne_iff_ne, ← he]; exact hS
    rw [he] at hka
    have HKA := Aside0.mk hka
    clear he hS hka
    go_enter Try.func20, Try.ntmps20
    go_wp2_with (first | ((with_reducible refine gate_callee (f := 44) rfl ?_); refine goesL_ (some 13) rfl rfl Try.func44 (by kernel_rfl) rfl #[.int .i64 rows, .int .i64 cols] rfl (by (try simp only [List.map_toArray, List.map_cons, List.map_nil]); first | done | rfl) ?_; (with_reducible refine (drovewayref07_asked.calls ka rows cols e _ HKA.out).mono ?_); rintro e w' ⟨rfl, ⟨nd, rfl⟩⟩; refine ⟨_, rfl, ?_⟩) | fail)
    go_ret2
    exact ⟨_, by rw [HC.out]; rfl, by rw [HC.out]; exact Kd.S_nil _ _ _ _ _, by repeat (first | (with_reducible exact Below.refl _ _) | (with_reducible apply below_alloc) | (with_reducible apply pw_below_drewN))⟩
end Go.Proofs.Ytcngcilinlcmeaa.Ext
