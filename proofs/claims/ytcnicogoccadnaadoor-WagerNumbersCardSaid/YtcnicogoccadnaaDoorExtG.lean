/- The contracts of sized, read, Chomp and First, for all arguments. -/
import Derived.Test.YtcnicogoccadnaaDoorProg
import Derived.Below
import Derived.Deep.Draws
import Derived.Deep.AppendLies
import Derived.Maps.AppendAt
import Derived.OwnWalk
import Derived.Laws.BytesArg
import Derived.Laws.MakeOwn
import Derived.Laws.OwnMore
import Derived.Deep.OwnRows
import Derived.Tactics
import Derived.Lib.ConvBytes
import Derived.Laws.Slices
import Derived.WalkKit
import Derived.KernelRfl
import Derived.RowKit3
import Derived.Deep.LoopGhost
import Derived.Deep.QuietTactic
import Derived.BigQuiet
import Derived.WideLaws
import Derived.Deep.DeepCutAuto
import Derived.Deep.CutBlock
import Derived.Deep.RegionHeld3
import Derived.Laws.Rows
import Derived.Lib.AppendStr
import Derived.ArgAppend
import Derived.Laws.IdiomCopy
import Derived.OrdersHeld
import Derived.Laws.BitsLemmas
import Derived.RowKit
import Derived.Test.YtcnicogoccadnaaDoorWWords
import Derived.Test.YtcnicogoccadnaaDoorWLast
import Derived.Test.YtcnicogoccadnaaDoorWTab
import Derived.Test.YtcnicogoccadnaaDoorWFour
import Derived.Test.YtcnicogoccadnaaDoorWQPut
import Derived.Test.YtcnicogoccadnaaDoorWApart
import Derived.Test.YtcnicogoccadnaaDoorWArr
import Derived.Test.YtcnicogoccadnaaDoorWZeros
import Derived.Test.YtcnicogoccadnaaDoorWFoot
import Derived.Test.YtcnicogoccadnaaDoorWKept
import Derived.Test.YtcnicogoccadnaaDoorWShare
import Derived.Test.YtcnicogoccadnaaDoorWN
import Derived.Test.YtcnicogoccadnaaDoorWFootNe
import Derived.Test.YtcnicogoccadnaaDoorWAt
import Derived.Test.YtcnicogoccadnaaDoorWEqStruct
import Derived.Test.YtcnicogoccadnaaDoorWRepsOne
import Derived.Test.YtcnicogoccadnaaDoorWInv
import Derived.Test.YtcnicogoccadnaaDoorWInvWords
import Derived.Test.YtcnicogoccadnaaDoorWGuard
import Derived.Test.YtcnicogoccadnaaDoorWNEv
import Derived.Test.YtcnicogoccadnaaDoorWMore
import Derived.Maps.OwnOps
import Derived.DeepKeys4
import Derived.WalkSpells
import Derived.Test.YtcnicogoccadnaaDoorExtD
import Derived.Test.YtcnicogoccadnaaDoorExtF
import Derived.Test.YtcnicogoccadnaaDoorSpec
namespace Go.Proofs.YtcnicogoccadnaaDoor.Ext
open Go.RowKit Go.Proofs.YtcnicogoccadnaaDoorW.PrintWords Go.Proofs.YtcnicogoccadnaaDoorW.PrintLast Go.Proofs.YtcnicogoccadnaaDoorW.PrintMore
attribute [local go_sem] max2_int min2_int max_two min_two max_three min_three max_four min_four
set_option linter.unusedVariables false
set_option linter.unusedSimpArgs false

set_option maxHeartbeats 8000000 in
theorem sized_calls (rows cols : Int) (w : World) :
    Calls Tryd.prog 23 #[.int .i64 rows, .int .i64 cols] w fun e w' => e = .returned (.int .i64 (sizedL rows cols)) ∧ w = w' := by
  by_cases h : rows < 1 ∨ 6 < rows ∨ cols < 1 ∨ 7 < cols
  · have hz : sizedL rows cols = 2 := by unfold sizedL; rw [if_pos h]
    have HZ := Aside0.mk hz
    clear hz
    have key : ∀ P : Prop, P → P := fun _ h => h
    rcases (show rows < 1 ∨ (1 ≤ rows ∧ 6 < rows) ∨ (1 ≤ rows ∧ rows ≤ 6 ∧ cols < 1) ∨ (1 ≤ rows ∧ rows ≤ 6 ∧ 1 ≤ cols ∧ 7 < cols) by omega) with h1 | ⟨h1, h2⟩ | ⟨h1, h2, h3⟩ | ⟨h1, h2, h3, h4⟩ <;> clear h key
    all_goals
      go_enter Tryd.func23, Tryd.ntmps23
      go_wp2
      go_ret
      exact ⟨by rw [HZ.out]; rfl, rfl⟩
  · obtain ⟨h1, h2, h3, h4⟩ : 1 ≤ rows ∧ rows ≤ 6 ∧ 1 ≤ cols ∧ cols ≤ 7 := by omega
    have hb : 1 ≤ rows * cols ∧ rows * cols ≤ 42 := by
      rcases (show rows = 1 ∨ rows = 2 ∨ rows = 3 ∨ rows = 4 ∨ rows = 5 ∨ rows = 6 by omega) with rfl | rfl | rfl | rfl | rfl | rfl <;> omega
    obtain ⟨hb1, hb2⟩ := hb
    have hz : sizedL rows cols = if 24 < rows * cols then 8 else 0 := by unfold sizedL; rw [if_neg h]
    have hw : IntKind.i64.wrap (rows * cols) = rows * cols := IntWalk.i64_in _ (by omega)
    clear h
    by_cases h5 : 24 < rows * cols
    · rw [if_pos h5] at hz
      have HZ := Aside0.mk hz
      clear hz
      go_enter Tryd.func23, Tryd.ntmps23
      go_wp2
      go_ret
      exact ⟨by rw [HZ.out]; rfl, rfl⟩
    · rw [if_neg h5] at hz
      have HZ := Aside0.mk hz
      clear hz
      go_enter Tryd.func23, Tryd.ntmps23
      go_wp2
      go_ret
      exact ⟨by rw [HZ.out]; rfl, rfl⟩

theorem read_calls (A : Option Addr) (c : Nat) (l : List Int) (w : World) (hr : Kd.C (Kd.int .i64) w A l.length l) (hc : l.length ≤ c) :
    Calls Tryd.prog 25 #[.slice A l.length c] w fun e w' => (∃ x0 x1 x2 x3 x4 x5 : Int, (isBarL l = true → padL l = [x0, x1, x2, x3, x4, x5]) ∧ e = .returned (.tuple #[.agg #[.int .i64 x0, .int .i64 x1, .int .i64 x2, .int .i64 x3, .int .i64 x4, .int .i64 x5], .bool (isBarL l)])) ∧ Below w.heap.size w w' := by
  have key : ∀ e w', ReadPost l w e w' → (∃ x0 x1 x2 x3 x4 x5 : Int, (isBarL l = true → padL l = [x0, x1, x2, x3, x4, x5]) ∧ e = .returned (.tuple #[.agg #[.int .i64 x0, .int .i64 x1, .int .i64 x2, .int .i64 x3, .int .i64 x4, .int .i64 x5], .bool (isBarL l)])) ∧ Below w.heap.size w w' := by
    rintro e w' ⟨h | h, hb⟩
    · have hi : isBarL l = true := isBarL_iff.2 ⟨h.1, h.2.1, h.2.2.1⟩
      exact ⟨⟨_, _, _, _, _, _, fun _ => rfl, by rw [hi]; exact h.2.2.2⟩, hb⟩
    · have hi : isBarL l = false := by
        cases hq : isBarL l with
        | false => rfl
        | true => exact absurd (isBarL_iff.1 hq) h.1
      obtain ⟨xs, h1, h2⟩ := h.2
      obtain ⟨a, b, c, d, e, f, rfl⟩ := six h1
      exact ⟨⟨a, b, c, d, e, f, fun h => (by rw [hi] at h; cases h), by rw [hi]; exact h2⟩, hb⟩
  by_cases h : 1 ≤ l.length ∧ l.length ≤ 6
  · exact (read_short A c l w hr hc h.1 h.2).mono key
  · exact (read_long A c l w hr hc (by omega)).mono key

theorem winning42 (x0 x1 x2 x3 x4 x5 : Int) (hb : Bar [x0, x1, x2, x3, x4, x5]) (g : Nat) (w : World) (hM : Memo winsS w g) :
    Calls Tryd.prog 28 #[.map (some g), .agg #[.int .i64 x0, .int .i64 x1, .int .i64 x2, .int .i64 x3, .int .i64 x4, .int .i64 x5], .int .i64 42] w (WinningPost [x0, x1, x2, x3, x4, x5] 42 g w) :=
  winning_calls x0 x1 x2 x3 x4 x5 42 hb g w hM (by decide)
theorem winning1 (x0 x1 x2 x3 x4 x5 : Int) (hb : Bar [x0, x1, x2, x3, x4, x5]) (g : Nat) (w : World) (hM : Memo winsS w g) :
    Calls Tryd.prog 28 #[.map (some g), .agg #[.int .i64 x0, .int .i64 x1, .int .i64 x2, .int .i64 x3, .int .i64 x4, .int .i64 x5], .int .i64 1] w (WinningPost [x0, x1, x2, x3, x4, x5] 1 g w) :=
  winning_calls x0 x1 x2 x3 x4 x5 1 hb g w hM (by decide)

set_option maxHeartbeats 8000000 in
set_option maxRecDepth 100000 in
theorem first_calls (rows cols : Int) (w : World) :
    Calls Tryd.prog 18 #[.int .i64 rows, .int .i64 cols] w fun e w' => e = .returned (.tuple #[.int .i64 (firstL rows cols).1, .int .i64 (firstL rows cols).2.1, .int .i64 (firstL rows cols).2.2]) ∧ Below w.heap.size w w' := by
  have hu66 := Tryd.underlying61
  have hu49 := Tryd.underlying68
  have hu44 := Tryd.underlying66
  by_cases hS : sizedL rows cols = 0
  · have hbd : 1 ≤ rows ∧ rows ≤ 6 ∧ 1 ≤ cols ∧ cols ≤ 7 := by
      unfold sizedL at hS
      split at hS
      · cases hS
      · omega
    obtain ⟨hr1, hr6, hc1, hc7⟩ := hbd
    have hbar : Bar (full6 rows cols) := full6_bar (by omega)
    have HP := Aside0.mk hbar
    obtain ⟨L, hL⟩ : ∃ L, winM (full6 rows cols) 1 = L := ⟨_, rfl⟩
    have HC := Aside0.mk (show firstL rows cols = headOf L from by unfold firstL; rw [if_pos hS, hL])
    have HL := Aside0.mk hL
    have HS := Aside0.mk hS
    have HB := Aside0.mk (below_alloc (Below.refl w.heap.size w) (.cells #[.int .i64 0, .int .i64 0, .int .i64 0, .int .i64 0, .int .i64 0, .int .i64 0] 61))
    have H0 := Aside0.mk (heap_alloc_new w (.cells #[.int .i64 0, .int .i64 0, .int .i64 0, .int .i64 0, .int .i64 0, .int .i64 0] 61))
    clear hbar hL hS
    have hmm := @run_makeMap Tryd.prog
    go_enter Tryd.func18, Tryd.ntmps18
    go_wp2_with (first | (go_at_call 23; refine (sized_calls rows cols _).mono ?_; rintro e w1 ⟨rfl, rfl⟩; rw [HS.out]) | fail)
    go_loopw [18] (fun v18 W => ∃ k : Nat, v18 = .int .i64 k ∧ Aside0 ((k : Int) ≤ rows) ∧ Aside0 (W.heap[w.heap.size]? = some (.cells #[.int .i64 (fullAt k cols 0), .int .i64 (fullAt k cols 1), .int .i64 (fullAt k cols 2), .int .i64 (fullAt k cols 3), .int .i64 (fullAt k cols 4), .int .i64 (fullAt k cols 5)] 61 (0, 0))) ∧ Aside0 (Below w.heap.size w W)) (fun v18 _ => (6 - intOf v18).toNat)
    case atStart =>
      refine ⟨0, rfl, ⟨by omega⟩, ⟨?_⟩, HB⟩
      have e : ∀ i : Int, 0 ≤ i → fullAt ((0 : Nat) : Int) cols i = 0 := fun i hi => by unfold fullAt; rw [if_neg (by omega)]
      rw [e 0 (by omega), e 1 (by omega), e 2 (by omega), e 3 (by omega), e 4 (by omega), e 5 (by omega)]
      exact H0.out
    case round =>
      obtain ⟨k, rfl, hk, hb0, hB⟩ := hrel
      have hk' := hk.out
      by_cases hlt : (k : Int) < rows
      · have kc := blk_cell hb0.out k
        have kf := blk_frozen hb0.out k
        obtain ⟨z, hz⟩ : ∃ z, (#[.int .i64 (fullAt k cols 0), .int .i64 (fullAt k cols 1), .int .i64 (fullAt k cols 2), .int .i64 (fullAt k cols 3), .int .i64 (fullAt k cols 4), .int .i64 (fullAt k cols 5)] : Array Value)[k]? = some (.int .i64 z) := by
          rcases (show k = 0 ∨ k = 1 ∨ k = 2 ∨ k = 3 ∨ k = 4 ∨ k = 5 by omega) with rfl | rfl | rfl | rfl | rfl | rfl <;> exact ⟨_, rfl⟩
        rw [hz] at kc
        clear hz
        have hk6 : (k : Int) < 6 := by omega
        go_wp2
        go_roundw
        case rel =>
          refine ⟨k + 1, by go_num, ⟨by omega⟩, ⟨blk_put hb0.out k _ ?_⟩, ⟨hB.out.setCell (Nat.le_refl _) _⟩⟩
          rcases (show k = 0 ∨ k = 1 ∨ k = 2 ∨ k = 3 ∨ k = 4 ∨ k = 5 by omega) with rfl | rfl | rfl | rfl | rfl | rfl <;> simp [fullAt]
        case measure => simp [intOf]; omega
      · obtain ⟨⟨ac0, ac1, ac2, ac3, ac4, ac5⟩, af0, af1, af2, af3, af4, af5⟩ := six_at _ _ _ _ _ _ _ _ (blk_alloc hb0.out (.map #[] 0))
        have hlt0 := blk_lt hb0.out
        have hkr : (k : Int) = rows := by omega
        have HK := Aside0.mk hkr
        clear hkr
        go_wp2_with fail
        have hFull : full6 rows cols = [fullAt k cols 0, fullAt k cols 1, fullAt k cols 2, fullAt k cols 3, fullAt k cols 4, fullAt k cols 5] := by rw [HK.out]; rfl
        have hBar : Bar [fullAt k cols 0, fullAt k cols 1, fullAt k cols 2, fullAt k cols 3, fullAt k cols 4, fullAt k cols 5] := hFull ▸ HP.out
        refine (winning1 _ _ _ _ _ _ hBar _ _ (Memo.made winsS wr)).mono ?_
        rintro e w2 ⟨v, rfl, hRv, hM2, hg2⟩
        have hB2 : Below w.heap.size w (wr.alloc (.map #[] 0)) := below_alloc hB.out _
        have HB2 := Aside0.mk (hB2.grown hg2 (below_size hB2) (fun k hk => by injection hk with hk; have := hB.out.size; omega))
        rw [← hFull, HL.out] at hRv
        clear hFull hBar hM2 hg2 hB2
        cases L with
        | nil =>
          obtain ⟨A2, c2, rfl⟩ := Kd.R_slice hRv
          clear hRv
          go_wp2
          go_ret3
          exact ⟨by rw [HC.out]; rfl, HB2.out⟩
        | cons m t =>
          obtain ⟨g, cap, rfl, hg0, hg1, hblk⟩ := Kd.R_form hRv (by simp)
          have hC := Kd.C_get (Kd.R_reads' hRv).2.2 (0, 0) 0 (by omega) (by simp)
          obtain ⟨ad, cs, he, hlen, hK, hcell⟩ := hC
          cases he
          obtain ⟨c0, c1, rfl, rfl, rfl⟩ := hK
          have hx0 := hcell 0 _ rfl
          have hx1 := hcell 1 _ rfl
          have hy0 : w2.cell? ⟨g, 0, none⟩ = some (.int .i64 m.1) := hx0
          have hy1 : w2.cell? ⟨g, 1, none⟩ = some (.int .i64 m.2) := hx1
          have hl1 : (0 : Int) < ((m :: t).length : Int) := by simp
          have hl2 : ((((m :: t).length : Nat) : Int) == 0) = false := by rw [beq_eq_false_iff_ne]; omega
          have hl3 : ((m :: t).length == 0) = false := by rfl
          generalize (m :: t).length = n at hl1 hl2 hl3 ⊢
          have HCC := Aside0.mk (show firstL rows cols = (m.1, m.2, 0) from HC.out)
          clear hRv hcell hlen hx0 hx1 hblk HC HL ac0 ac1 ac2 ac3 ac4 ac5 af0 af1 af2 af3 af4 af5 HK hmm HB H0 hB hb0
          go_wp2
          go_quiet (fail)
          go_wp2
          go_ret3
          exact ⟨by rw [HCC.out]; rfl, by repeat (first | (with_reducible exact HB2.out) | apply pw_below_drewN | apply below_drew1)⟩
  · obtain ⟨e, he⟩ : ∃ e, sizedL rows cols = e := ⟨_, rfl⟩
    have HC := Aside0.mk (show firstL rows cols = (0, 0, e) from by unfold firstL; rw [if_neg hS, he])
    have h0 : (e != 0) = true := by rw [bne_iff_ne, ← he]; exact hS
    have HE := Aside0.mk he
    clear he hS
    go_enter Tryd.func18, Tryd.ntmps18
    go_wp2_with (first | (go_at_call 23; refine (sized_calls rows cols _).mono ?_; rintro e w1 ⟨rfl, rfl⟩; rw [HE.out]) | fail)
    go_ret3
    exact ⟨by rw [HC.out]; rfl, Below.refl _ _⟩
end Go.Proofs.YtcnicogoccadnaaDoor.Ext
