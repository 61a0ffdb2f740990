/- The contract of the reference's bars, for all arguments. -/
import Derived.Test.YtcngcilinlcmeaaProg
import Derived.Below
import Derived.Deep.Draws
import Derived.Deep.AppendLies
import Derived.Maps.AppendAt
import Derived.OwnWalk
import Derived.Laws.BytesArg
import Derived.Laws.MakeOwn
import Derived.Laws.OwnMore
import Derived.Deep.OwnRows
import Derived.Tactics
import Derived.Lib.ConvBytes
import Derived.Laws.Slices
import Derived.WalkKit
import Derived.KernelRfl
import Derived.RowKit3
import Derived.Deep.LoopGhost
import Derived.Deep.QuietTactic
import Derived.BigQuiet
import Derived.WideLaws
import Derived.Deep.DeepCutAuto
import Derived.Deep.CutBlock
import Derived.Deep.RegionHeld3
import Derived.Laws.Rows
import Derived.Lib.AppendStr
import Derived.ArgAppend
import Derived.Laws.IdiomCopy
import Derived.OrdersHeld
import Derived.Laws.BitsLemmas
import Derived.RowKit
import Derived.Test.YtcngcilinlcmeaaWWords
import Derived.Test.YtcngcilinlcmeaaWLast
import Derived.Test.YtcngcilinlcmeaaWTab
import Derived.Test.YtcngcilinlcmeaaWFour
import Derived.Test.YtcngcilinlcmeaaWQPut
import Derived.Test.YtcngcilinlcmeaaWApart
import Derived.Test.YtcngcilinlcmeaaWArr
import Derived.Test.YtcngcilinlcmeaaWZeros
import Derived.Test.YtcngcilinlcmeaaWFoot
import Derived.Test.YtcngcilinlcmeaaWKept
import Derived.Test.YtcngcilinlcmeaaWShare
import Derived.Test.YtcngcilinlcmeaaWN
import Derived.Test.YtcngcilinlcmeaaWFootNe
import Derived.Test.YtcngcilinlcmeaaWAt
import Derived.Test.YtcngcilinlcmeaaWEqStruct
import Derived.Test.YtcngcilinlcmeaaWRepsOne
import Derived.Test.YtcngcilinlcmeaaWInv
import Derived.Test.YtcngcilinlcmeaaWInvWords
import Derived.Test.YtcngcilinlcmeaaWGuard
import Derived.Test.YtcngcilinlcmeaaWNEv
import Derived.Test.YtcngcilinlcmeaaWMore
import Derived.Maps.OwnOps
import Derived.DeepKeys4
import Derived.WalkSpells
import Derived.Laws.EntriesVeiled
import Derived.Deep.RegionLawGrows
import Derived.Test.YtcngcilinlcmeaaExtK
namespace Go.Proofs.Ytcngcilinlcmeaa.Ext
open Go.RowKit Go.Proofs.YtcngcilinlcmeaaW.PrintWords Go.Proofs.YtcngcilinlcmeaaW.PrintLast Go.Proofs.YtcngcilinlcmeaaW.PrintMore
attribute [local go_sem] max2_int min2_int max_two min_two max_three min_three max_four min_four
set_option linter.unusedVariables false
set_option linter.unusedSimpArgs false

/-- rows of numbers, each with the block that is its own -/
abbrev kt : Kd (List Int × Nat) := Kd.tag (fun k => k) kr

/-- ascending, from a on, below b -/
def Inc (a b : Nat) (l : List Nat) : Prop := l.Pairwise (· < ·) ∧ ∀ x ∈ l, a ≤ x ∧ x < b
theorem Inc.nil (a b : Nat) : Inc a b [] := ⟨List.Pairwise.nil, fun x h => by cases h⟩
theorem Inc.wide {a b b' : Nat} {l : List Nat} (h : Inc a b l) (hb : b ≤ b') : Inc a b' l := ⟨h.1, fun x hx => ⟨(h.2 x hx).1, by have := (h.2 x hx).2; omega⟩⟩
theorem Inc.more {a b c d : Nat} {l m : List Nat} (h : Inc a b l) (h' : Inc c d m) (h1 : a ≤ b) (h2 : b ≤ c) (h3 : c ≤ d) : Inc a d (l ++ m) := by
  refine ⟨List.pairwise_append.2 ⟨h.1, h'.1, fun x hx y hy => by have := h.2 x hx; have := h'.2 y hy; omega⟩, fun x hx => ?_⟩
  rcases List.mem_append.1 hx with hx | hx
  · have := h.2 x hx; omega
  · have := h'.2 x hx; omega

theorem leaf_row {w : World} {base b0 c : Nat} {A : Option Addr} {l : List Int} (h : Kd.R (Kd.int .i64) 3 w base (fun k => k = b0) (.slice A l.length c) l) (hb : base ≤ w.heap.size) :
    Kd.R kt 25 (w.alloc (.cells #[.slice A l.length c] 25)) base (fun _ => True) (.slice (some ⟨w.heap.size, 0, none⟩) 1 1) [(l, b0)] := by
  have hr : Kd.R (Kd.int .i64) 3 (w.alloc (.cells #[.slice A l.length c] 25)) base (fun k => (True ∧ some k ≠ (Value.slice (some ⟨w.heap.size, 0, none⟩) 1 1).ownBlock) ∧ k = b0) (.slice A l.length c) l := by
    refine Kd.R_mono (Kd.R_alloc (Kd.R_bound h) _) (fun k hk => ⟨⟨trivial, ?_⟩, hk.1⟩)
    have hk3 := hk.2.2.1
    simp only [Value.ownBlock, ne_eq, Option.some.injEq]
    omega
  exact ⟨fun _ _ => trivial, OwnRow.lit (ps := [(l, b0)]) (inner := [.slice A l.length c]) w base ⟨rfl, fun j p hj => by
    rcases j with _ | j
    · simp only [List.getElem?_cons_zero, Option.some.injEq] at hj
      subst hj
      exact ⟨_, rfl, hr⟩
    · simp at hj⟩ hb (by simp)⟩

/-- what the bars come to that are tried with the first x numbers -/
def upB (n : Nat) (l : List Int) (x : Nat) : List (List Int) := (List.range x).flatMap fun (y : Nat) => barsFrom n (y : Int) (l ++ [(y : Int)])
theorem upB_succ (n : Nat) (l : List Int) (x : Nat) : upB n l (x + 1) = upB n l x ++ barsFrom n (x : Int) (l ++ [(x : Int)]) := by
  unfold upB
  rw [List.range_succ, List.flatMap_append]
  simp
theorem upB_len (n : Nat) (l : List Int) (x : Nat) (hx : x ≤ 8) : (upB n l x).length ≤ x * 8 ^ n := by
  induction x with
  | zero => simp [upB]
  | succ x ih =>
    have h1 := ih (by omega)
    have h2 := bars_len n (x : Int) (l ++ [(x : Int)]) (by omega)
    rw [upB_succ, List.length_append, Nat.succ_mul]
    omega

/-- what bars does, when n rows are still wanted -/
def BarsC (n : Nat) : Prop := ∀ (rows cols : Int) (A : Option Addr) (c : Nat) (l : List Int) (b0 : Nat) (w0 w : World),
    Kd.R (Kd.int .i64) 3 w w0.heap.size (fun k => k = b0) (.slice A l.length c) l → Below w0.heap.size w0 w → w0.heap.size ≤ b0 → b0 ≤ w.heap.size → (l.length = 0 ∨ b0 < w.heap.size) →
    (l.length : Int) + n = rows → 1 ≤ rows → rows ≤ 6 → 0 ≤ mostOf l cols → mostOf l cols ≤ 7 →
    Calls Try.prog 46 #[.int .i64 rows, .int .i64 cols, .slice A l.length c] w fun e w' => ∃ v zs, e = .returned v ∧ Kd.R kt 25 w' w0.heap.size (fun _ => True) v zs ∧ zs.map Prod.fst = barsFrom n (mostOf l cols) l ∧ Inc b0 w'.heap.size (zs.map Prod.snd) ∧ Below w.heap.size w w'

set_option maxHeartbeats 8000000 in
set_option maxRecDepth 100000 in
theorem bars_zero : BarsC 0 := by
  intro rows cols A c l b0 w0 w hl hB hb0 hb1 hb2 hn h1 h6 hm0 hm7
  have hb : ((l.length : Int) == rows) = true := by rw [beq_iff_eq]; omega
  have hb2 : b0 < w.heap.size := by omega
  have HR := Aside0.mk (leaf_row hl (below_size hB))
  clear hl hn
  go_enter Try.func46, Try.ntmps46
  go_wp2
  go_ret
  refine ⟨_, [(l, b0)], rfl, HR.out, rfl, ⟨by simp, fun x hx => ?_⟩, below_alloc (Below.refl _ _) _⟩
  simp only [List.map_cons, List.map_nil, List.mem_singleton] at hx
  subst hx
  have := asize w (.cells #[.slice A l.length c] 25)
  omega

theorem rows_of {w : World} {base : Nat} {ok : Nat → Prop} {v : Value} {zs : List (List Int × Nat)} (h : Kd.R kt 25 w base ok v zs) :
    ∃ A c, v = .slice A zs.length c ∧ ReadsRow (kt.M w base (fun k => ∃ cells, w.heap[k]? = some (.cells cells 3 (0, 0)))) 1 w A zs.length zs := by
  obtain ⟨A, c, he, _, hr⟩ := OwnRow.reads h.2
  refine ⟨A, c, he, ReadsRow.imp_ hr (Below.refl _ _) (fun x cs hM => ?_)⟩
  refine kt.M_mono (fun k hk => ?_) (kt.M_bound hM)
  obtain ⟨_, _, _, q, hq, hc⟩ := hk
  rcases hq with _ | ⟨_, hq⟩
  · exact hc
  · cases hq
theorem rows_apart {w : World} {base : Nat} {ok : Nat → Prop} {v : Value} {zs : List (List Int × Nat)} (h : Kd.R kt 25 w base ok v zs) (k : Nat) (hk : ∃ cells, w.heap[k]? = some (.cells cells 3 (0, 0))) : True ∧ some k ≠ v.ownBlock := by
  refine ⟨trivial, fun e => ?_⟩
  obtain ⟨cs, hc⟩ := Kd.R_typed h k e.symm
  obtain ⟨cs', hc'⟩ := hk
  rw [hc] at hc'
  injection hc' with hc'
  injection hc' with _ hc'
  cases hc'

set_option maxHeartbeats 8000000 in
set_option maxRecDepth 100000 in
theorem bars_succ (n : Nat) (ih : BarsC n) : BarsC (n + 1) := by
  intro rows cols A c l b0 w0 w hl hB hb0 hb1 hb2 hn h1 h6 hm0 hm7
  have h8 : 8 ^ n ≤ 262144 := Nat.le_trans (Nat.pow_le_pow_right (by decide) (show n ≤ 6 by omega)) (by decide)
  have HI := Aside0.mk ih
  have HN := Aside0.mk hn
  have HB := Aside0.mk hB
  have HL := Aside0.mk hl
  obtain ⟨m, hm⟩ : ∃ m, mostOf l cols = m := ⟨_, rfl⟩
  rw [hm] at hm0 hm7 ⊢
  have HM := Aside0.mk hm
  obtain ⟨i0, hi, hz0, hz1, hz2⟩ := info_parts info3
  have hlr : (l.length : Int) < rows := by omega
  have hb : ((l.length : Int) == rows) = false := by rw [beq_eq_false_iff_ne]; omega
  have hl0 : ∀ (h : 0 < l.length), ∃ ad, A = some ad ∧ w.cell? (ad.add (l.length - 1)) = some (.int .i64 m) := by
    intro h
    obtain ⟨ad, h2, h3⟩ := Kd.at_int (Kd.R_reads' hl).2.2 ((l.length : Int) - 1) (by omega) (by omega)
    refine ⟨ad, h2, ?_⟩
    rw [show ((l.length : Int) - 1).toNat = l.length - 1 from by omega] at h3
    rw [h3, ← hm]
    unfold mostOf
    rw [if_neg (by omega)]
  have hlc := (Kd.R_reads' hl).2.1
  clear ih hn hm hB
  have hgo : ∀ (K : Prop), (decide (0 < l.length) = false → m = cols → A = none → K) → (∀ ad, decide (0 < l.length) = false → m = cols → A = some ad → K) → (∀ ad, A = some ad → 0 < l.length → w.cell? (ad.add (l.length - 1)) = some (.int .i64 m) → K) → K := by
    intro K k0 k1 k2
    by_cases hz : l.length = 0
    · have hmc : m = cols := by rw [← HM.out]; unfold mostOf; rw [if_pos hz]
      rcases hA : A with _ | ad
      · exact k0 (by rw [hz]; rfl) hmc hA
      · exact k1 ad (by rw [hz]; rfl) hmc hA
    · obtain ⟨ad, h2, h3⟩ := hl0 (by omega)
      exact k2 ad h2 (by omega) h3
  clear hl0 hl
  refine hgo _ (fun hz cc hA => ?_) (fun ad hz cc hA => ?_) (fun ad hA hz cm => ?_)
  subst cc
  subst hA
  rotate_left
  subst cc
  subst hA
  rotate_left
  subst hA
  rotate_left
  all_goals
    clear hgo
    go_enter Try.func46, Try.ntmps46
    go_wp2_with fail
    go_loopw [7, 9] (fun v7 v9 W => ∃ (x : Nat) (zs : List (List Int × Nat)), v9 = .int .i64 x ∧ Aside0 ((x : Int) ≤ m + 1) ∧ Aside0 (Kd.R kt 25 W w0.heap.size (fun _ => True) v7 zs) ∧ Aside0 (zs.map Prod.fst = upB n l x) ∧ Aside0 (Inc b0 W.heap.size (zs.map Prod.snd)) ∧ Aside0 (Below w.heap.size w W) ∧ Aside0 (∀ k, v7.ownBlock = some k → w.heap.size ≤ k)) (fun _ v9 _ => (9 - intOf v9).toNat)
    case atStart => exact ⟨0, [], rfl, ⟨by omega⟩, ⟨Kd.R_nil _ _ _ _ _⟩, ⟨rfl⟩, ⟨Inc.nil _ _⟩, ⟨by repeat (first | (with_reducible exact Below.refl _ _) | (with_reducible apply below_alloc) | (with_reducible apply below_drew1))⟩, ⟨fun k hk => by simp [Value.ownBlock] at hk⟩⟩
    case round =>
      obtain ⟨x, zs, rfl, hxm, HZ, HF, HC, HW, HO⟩ := hrel
      have hxm' := hxm.out
      obtain ⟨A7, c7, e7⟩ := Kd.R_slice HZ.out
      subst e7
      by_cases hlt : (x : Int) < m + 1
      · have hlt2 : (x : Int) ≤ m := by omega
        have HLw := Aside0.mk (Kd.R_below HL.out HW.out)
        have HLA := Aside0.mk (Kd.R_below HLw.out (below_alloc (Below.refl wr.heap.size wr) (.cells #[.int .i64 x] 3)))
        go_wp2_with (first | ((with_reducible refine gate_builtin (b := .append) (xs := #[.tmp 39, .tmp 41]) rfl ?_); at_builtin; refine wpList_append_grows _ rfl (.tmp 39) (.tmp 41) 25 rfl 3 i0 (.int .i64 0) 1 8 Try.underlying25 hi hz0 hz1 hz2 rfl (by decide) _ l.length l.length (l.map (Value.int .i64)) rfl (hold_none HLA.out) (by simp) (hold_cells HLA.out) ⟨wr.heap.size, 0, none⟩ 1 1 [.int .i64 x] rfl rfl (hold_new wr x) (by simp [Value.oneCell']) (Nat.lt_succ_self _) (by unfold maxLen; omega) (by omega) ?_) | fail)
        intro u1 w4 hown hg
        have hgb : Below wr.heap.size wr w4 := below_step (below_alloc (Below.refl wr.heap.size wr) _) (below_of_grown hg)
        have hR4 := row_of_own hown
        obtain ⟨b1, c1, e1, hb1', hb2', _⟩ := Kd.R_form hR4 (by simp)
        subst e1
        have HR4 := Aside0.mk (Kd.R_mono (ok' := fun k => k = b1) (Kd.R_lower (Kd.R_tight rfl hR4) (Nat.le_succ_of_le (Nat.le_trans (below_size HB.out) (below_size HW.out)))) (fun k hk => by simpa [Value.ownBlock] using hk))
        have HB4 := Aside0.mk (below_step (below_step HB.out HW.out) hgb)
        have HW4 := Aside0.mk (below_step HW.out hgb)
        have HZ4 := Aside0.mk (Kd.R_below HZ.out hgb)
        have hI := HC.out
        have h4s := below_size hgb
        clear hown hg hR4 HZ HLA HLw hgb
        go_wp2_with (first | ((with_reducible refine gate_callee (f := 46) rfl ?_); first | refine goesL_ (some 43) rfl rfl Try.func46 (by kernel_rfl) rfl #[.int .i64 rows, .int .i64 m, .slice (some ⟨b1, 0, none⟩) (l ++ [(x : Int)]).length c1] rfl (by (try simp only [List.map_toArray, List.map_cons, List.map_nil]); first | done | rfl) ?_ | refine goesL_ (some 43) rfl rfl Try.func46 (by kernel_rfl) rfl #[.int .i64 rows, .int .i64 cols, .slice (some ⟨b1, 0, none⟩) (l ++ [(x : Int)]).length c1] rfl (by (try simp only [List.map_toArray, List.map_cons, List.map_nil]); first | done | rfl) ?_) | fail)
        refine (HI.out rows _ (some ⟨b1, 0, none⟩) c1 (l ++ [(x : Int)]) b1 w0 w4 HR4.out HB4.out (by have := below_size HB.out; have := below_size HW.out; omega) (by omega) (Or.inr hb2') (by have := HN.out; rw [List.length_append, List.length_singleton]; omega) h1 h6 (by rw [mostOf_snoc]; omega) (by rw [mostOf_snoc]; omega)).mono ?_
        rintro e w5 ⟨v2, zs2, rfl, hR2, hF2, hI2, hb5⟩
        rw [mostOf_snoc] at hF2
        refine ⟨_, rfl, ?_⟩
        obtain ⟨A2, c2, e2, hrd⟩ := rows_of hR2
        subst e2
        have h5s := below_size hb5
        have HZ5 := Aside0.mk (Kd.R_below HZ4.out hb5)
        have HB5 := Aside0.mk (below_step HB4.out hb5)
        have HW5 := Aside0.mk (below_step HW4.out hb5)
        have HRD := Aside0.mk hrd
        have hz1 : zs.length ≤ x * 8 ^ n := by have := congrArg List.length HF.out; rw [List.length_map] at this; rw [this]; exact upB_len n l x (by omega)
        have hz2 : zs2.length ≤ 8 ^ n := by have := congrArg List.length hF2; rw [List.length_map] at this; rw [this]; exact bars_len n (x : Int) _ (by omega)
        have hz3 : x * 8 ^ n ≤ 7 * 8 ^ n := Nat.mul_le_mul_right _ (by omega)
        have HF2 := Aside0.mk hF2
        have HI5 := Aside0.mk (Inc.more HC.out hI2 (by have := below_size HW.out; omega) (by omega) (by omega))
        clear HR4 HB4 HW4 HZ4 hI hR2 hF2 hI2 hb5 hrd
        go_wp2_with (first | ((with_reducible refine gate_builtin (b := .append) (xs := #[.tmp 31, .tmp 43]) rfl ?_); at_builtin; refine Kd.R_append_rows kt (w0 := w0) w0.heap.size rfl (.tmp 31) (.tmp 43) 31 25 (.slice none 0 0) 24 rfl Try.underlying31 info25 rfl (by decide) (by omega) (.slice A7 zs.length c7) zs zs2 A2 zs2.length c2 (fun _ => True) (fun k => ∃ cells, w5.heap[k]? = some (.cells cells 3 (0, 0))) rfl rfl HZ5.out HRD.out (fun _ _ h => h) (rows_apart HZ5.out) (fun _ _ => trivial) HB5.out (below_size HB5.out) (by omega) ?_) | fail)
        intro v6 w6 hR6 hB6 hg6 hat6
        have HZ6 := Aside0.mk hR6
        have HW6 := Aside0.mk (HW5.out.grown hg6 (below_size HW5.out) (fun k hk => HO.out k hk))
        have HO6 := Aside0.mk (show ∀ k, v6.ownBlock = some k → w.heap.size ≤ k from fun k hk => by
          rcases hat6 with h | ⟨b, h, h'⟩
          · exact HO.out k (h ▸ hk)
          · rw [h] at hk; injection hk with hk; have := below_size HW5.out; omega)
        have HI6 := Aside0.mk (Inc.wide HI5.out hg6.size)
        clear hR6 hB6 hg6 hat6 HZ5 HB5 HW5 HRD HI5
        go_wp2
        go_roundw
        case rel => exact ⟨x + 1, zs ++ zs2, by go_num, ⟨by omega⟩, HZ6, ⟨by rw [List.map_append, HF.out, HF2.out, upB_succ]⟩, ⟨by rw [List.map_append]; exact HI6.out⟩, HW6, HO6⟩
        case measure => simp [intOf]; omega
      · have hlt2 : ¬ (x : Int) ≤ m := by omega
        go_wp2
        go_ret
        have hxe : x = (m + 1).toNat := by omega
        exact ⟨_, rfl, zs, HZ.out, by rw [HF.out, hxe]; rfl, HC.out, HW.out⟩
theorem bars_all : ∀ n, BarsC n
  | 0 => bars_zero
  | n + 1 => bars_succ n (bars_all n)

end Go.Proofs.Ytcngcilinlcmeaa.Ext
