/- What Lost's closure finds, and what it does at a full list. -/
import Derived.Test.YtcnicogoccadnaaDoorProg
import Derived.Below
import Derived.Deep.Draws
import Derived.Deep.AppendLies
import Derived.Maps.AppendAt
import Derived.OwnWalk
import Derived.Laws.BytesArg
import Derived.Laws.MakeOwn
import Derived.Laws.OwnMore
import Derived.Deep.OwnRows
import Derived.Tactics
import Derived.Lib.ConvBytes
import Derived.Laws.Slices
import Derived.WalkKit
import Derived.KernelRfl
import Derived.RowKit3
import Derived.Deep.LoopGhost
import Derived.Deep.QuietTactic
import Derived.BigQuiet
import Derived.WideLaws
import Derived.Deep.DeepCutAuto
import Derived.Deep.CutBlock
import Derived.Deep.RegionHeld3
import Derived.Laws.Rows
import Derived.Lib.AppendStr
import Derived.ArgAppend
import Derived.Laws.IdiomCopy
import Derived.OrdersHeld
import Derived.Laws.BitsLemmas
import Derived.RowKit
import Derived.Test.YtcnicogoccadnaaDoorWWords
import Derived.Test.YtcnicogoccadnaaDoorWLast
import Derived.Test.YtcnicogoccadnaaDoorWTab
import Derived.Test.YtcnicogoccadnaaDoorWFour
import Derived.Test.YtcnicogoccadnaaDoorWQPut
import Derived.Test.YtcnicogoccadnaaDoorWApart
import Derived.Test.YtcnicogoccadnaaDoorWArr
import Derived.Test.YtcnicogoccadnaaDoorWZeros
import Derived.Test.YtcnicogoccadnaaDoorWFoot
import Derived.Test.YtcnicogoccadnaaDoorWKept
import Derived.Test.YtcnicogoccadnaaDoorWShare
import Derived.Test.YtcnicogoccadnaaDoorWN
import Derived.Test.YtcnicogoccadnaaDoorWFootNe
import Derived.Test.YtcnicogoccadnaaDoorWAt
import Derived.Test.YtcnicogoccadnaaDoorWEqStruct
import Derived.Test.YtcnicogoccadnaaDoorWRepsOne
import Derived.Test.YtcnicogoccadnaaDoorWInv
import Derived.Test.YtcnicogoccadnaaDoorWInvWords
import Derived.Test.YtcnicogoccadnaaDoorWGuard
import Derived.Test.YtcnicogoccadnaaDoorWNEv
import Derived.Test.YtcnicogoccadnaaDoorWMore
import Derived.Maps.OwnOps
import Derived.DeepKeys4
import Derived.WalkSpells
import Derived.Test.YtcnicogoccadnaaDoorExtG
namespace Go.Proofs.YtcnicogoccadnaaDoor.Ext
open Go.RowKit Go.Proofs.YtcnicogoccadnaaDoorW.PrintWords Go.Proofs.YtcnicogoccadnaaDoorW.PrintLast Go.Proofs.YtcnicogoccadnaaDoorW.PrintMore
attribute [local go_sem] max2_int min2_int max_two min_two max_three min_three max_four min_four
set_option linter.unusedVariables false
set_option linter.unusedSimpArgs false

abbrev kr : Kd (List Int) := Kd.slice 3 (Kd.int .i64)
def onCap (br bt bo bc bn : Nat) : Array Value := #[.pointer (some ⟨br, 0, none⟩), .pointer (some ⟨bt, 0, none⟩), .pointer (some ⟨bo, 0, none⟩), .pointer (some ⟨bc, 0, none⟩), .pointer (some ⟨bn, 0, none⟩)]

/-- the variables of Lost, the bars that were tried, and what has been found -/
structure LSt (w0 : World) (rows cols : Int) (br bt bo bc bn g : Nat) (W : World) (v : Value) (xss : List (List Int)) : Prop where
  hr : W.heap[br]? = some (.cells #[.int .i64 rows] 3 (0, 0))
  ht : W.heap[bt]? = some (.cells #[.map (some g)] 58 (0, 0))
  ho : W.heap[bo]? = some (.cells #[v] 43 (0, 0))
  hc : W.heap[bc]? = some (.cells #[.int .i64 cols] 3 (0, 0))
  hn : W.heap[bn]? = some (.cells #[.func (.func 24) #[] #[.pointer (some ⟨br, 0, none⟩), .pointer (some ⟨bt, 0, none⟩), .pointer (some ⟨bo, 0, none⟩), .pointer (some ⟨bc, 0, none⟩), .pointer (some ⟨bn, 0, none⟩)]] 59 (0, 0))
  hm : Memo winsS W g
  hv : Kd.S kr 42 W w0.heap.size (fun _ => True) v xss
  hB : Below w0.heap.size w0 W
  bo0 : w0.heap.size ≤ bo
  bg0 : w0.heap.size ≤ g

/-- rows of numbers stay as they are -/
def T3 (w w' : World) : Prop := w.heap.size ≤ w'.heap.size ∧ ∀ (k : Nat) (cells : Array Value), w.heap[k]? = some (.cells cells 3 (0, 0)) → w'.heap[k]? = some (.cells cells 3 (0, 0))
theorem T3.refl (w : World) : T3 w w := ⟨Nat.le_refl _, fun _ _ h => h⟩
theorem T3.trans {a b c : World} (h : T3 a b) (k : T3 b c) : T3 a c := ⟨Nat.le_trans h.1 k.1, fun i cs hi => k.2 i cs (h.2 i cs hi)⟩
theorem T3.below {w w' : World} (h : Below w.heap.size w w') : T3 w w' := ⟨h.size, fun k cs hk => (h.block k (blk_lt hk)).trans hk⟩
theorem T3.grown {w w' : World} {row : Option Nat} (h : w.grownBy w' row) (hr : ∀ (k : Nat) (cells : Array Value), row = some k → w.heap[k]? = some (.cells cells 3 (0, 0)) → False) : T3 w w' :=
  ⟨h.size, fun k cs hk => (h.block k (blk_lt hk) (fun e => hr k cs e.symm hk)).trans hk⟩
theorem T3.row {w w' : World} (h : T3 w w') {base : Nat} {ok : Nat → Prop} {v : Value} {l : List Int} (hR : Kd.R (Kd.int .i64) 3 w base ok v l) : Kd.R (Kd.int .i64) 3 w' base ok v l :=
  Kd.R_mono (Kd.R_move (Kd.R_bound (Kd.R_tight rfl hR)) (fun k hk => by
    obtain ⟨cells, hc⟩ := Kd.R_typed hR k hk.1.symm
    exact (h.2 k cells hc).trans hc.symm)) (fun k hk => hR.1 k hk.1.symm)

section
variable {w0 W W1 : World} {rows cols : Int} {br bt bo bc bn g : Nat} {v : Value} {xss : List (List Int)}
theorem LSt.ne_g (h : LSt w0 rows cols br bt bo bc bn g W v xss) {k t : Nat} {cs : Array Value} (hk : W.heap[k]? = some (.cells cs t (0, 0))) : k ≠ g := by
  rintro rfl
  obtain ⟨es, clock, hb, _⟩ := h.hm
  rw [hk] at hb
  cases hb
theorem LSt.below (h : LSt w0 rows cols br bt bo bc bn g W v xss) (hb : Below W.heap.size W W1) : LSt w0 rows cols br bt bo bc bn g W1 v xss :=
  ⟨blk_below h.hr hb, blk_below h.ht hb, blk_below h.ho hb, blk_below h.hc hb, blk_below h.hn hb, h.hm.below hb, Kd.S_below h.hv hb, below_step h.hB hb, h.bo0, h.bg0⟩
theorem LSt.wins (h : LSt w0 rows cols br bt bo bc bn g W v xss) (hm : Memo winsS W1 g) (hg : W.grownBy W1 (some g)) : LSt w0 rows cols br bt bo bc bn g W1 v xss := by
  have hne : ∀ {k t : Nat} {cs : Array Value}, W.heap[k]? = some (.cells cs t (0, 0)) → some k ≠ some g := fun hk e => h.ne_g hk (by injection e)
  have hS := Kd.S_bound h.hv
  refine ⟨blk_grown h.hr hg (hne h.hr), blk_grown h.ht hg (hne h.ht), blk_grown h.ho hg (hne h.ho), blk_grown h.hc hg (hne h.hc), blk_grown h.hn hg (hne h.hn), hm, ?_, h.hB.grown hg (below_size h.hB) (fun k hk => by injection hk with hk; rw [← hk]; exact h.bg0), h.bo0, h.bg0⟩
  exact Kd.S_mono (Kd.S_grown hS hg (fun k hk => by obtain ⟨_, _, _, q, _, cs, hc⟩ := hk; exact hne hc)) (fun _ _ => trivial)
/-- one more is found -/
theorem LSt.found (h : LSt w0 rows cols br bt bo bc bn g W v xss) {v1 : Value} {yss : List (List Int)} (hv1 : Kd.S kr 42 W1 w0.heap.size (fun _ => True) v1 yss) (hB : Below w0.heap.size w0 W1) (hg : W.grownBy W1 v.ownBlock) :
    LSt w0 rows cols br bt bo bc bn g (W1.setCell ⟨bo, 0, none⟩ v1) v1 yss := by
  have hty : ∀ k, v.ownBlock = some k → ∃ cells, W.heap[k]? = some (.cells cells 42 (0, 0)) := Kd.S_typed h.hv
  have hne : ∀ {k t : Nat} {cs : Array Value}, W.heap[k]? = some (.cells cs t (0, 0)) → t ≠ 42 → some k ≠ v.ownBlock := by
    intro k t cs hk ht e
    obtain ⟨cells, hc⟩ := hty k e.symm
    rw [hk] at hc
    injection hc with hc
    injection hc with _ hc
    exact ht hc
  have hr := blk_grown h.hr hg (hne h.hr (by decide))
  have ht := blk_grown h.ht hg (hne h.ht (by decide))
  have ho := blk_grown h.ho hg (hne h.ho (by decide))
  have hc := blk_grown h.hc hg (hne h.hc (by decide))
  have hn := blk_grown h.hn hg (hne h.hn (by decide))
  have hgv : some g ≠ v.ownBlock := by
    intro e
    obtain ⟨cells, hcc⟩ := hty g e.symm
    exact h.ne_g hcc rfl
  have hbo : ∀ {k t : Nat} {cs : Array Value}, W1.heap[k]? = some (.cells cs t (0, 0)) → t ≠ 43 → k ≠ bo := by
    rintro k t cs hk ht rfl
    rw [ho] at hk
    injection hk with hk
    injection hk with _ hk
    exact ht hk.symm
  have hm1 : Memo winsS W1 g := h.hm.move (hg.block g h.hm.lt hgv)
  have hgb : g ≠ bo := by
    rintro rfl
    exact h.ne_g h.ho rfl
  refine ⟨blk_far hr (hbo hr (by decide)) _, blk_far ht (hbo ht (by decide)) _, blk_put ho 0 _ rfl, blk_far hc (hbo hc (by decide)) _, blk_far hn (hbo hn (by decide)) _, hm1.move (Below.heap_setCell W1 ⟨bo, 0, none⟩ v1 g hgb), ?_, hB.setCell h.bo0 _, h.bo0, h.bg0⟩
  exact Kd.S_set hv1 ho (by intro q hq; rcases hq with _ | ⟨_, hq⟩ <;> first | decide | (rcases hq with _ | ⟨_, hq⟩ <;> first | decide | cases hq)) 0 v1
theorem LSt.T3_found (h : LSt w0 rows cols br bt bo bc bn g W v xss) {v1 : Value} (hg : W.grownBy W1 v.ownBlock) : T3 W (W1.setCell ⟨bo, 0, none⟩ v1) := by
  have hty : ∀ k, v.ownBlock = some k → ∃ cells, W.heap[k]? = some (.cells cells 42 (0, 0)) := Kd.S_typed h.hv
  refine (T3.grown hg fun k cells e hk => ?_).trans ⟨by simp [World.setCell], fun k cells hk => blk_far hk ?_ _⟩
  · obtain ⟨cs, hc⟩ := hty k e
    rw [hk] at hc
    injection hc with hc
    injection hc with _ hc
    cases hc
  · rintro rfl
    have ho := h.ho
    have : some k ≠ v.ownBlock := by
      intro e
      obtain ⟨cs, hc⟩ := hty k e.symm
      rw [ho] at hc
      injection hc with hc
      injection hc with _ hc
      cases hc
    rw [blk_grown ho hg this] at hk
    injection hk with hk
    injection hk with _ hk
    cases hk
end

theorem info25 : (Tryd.prog.info? 42).map (fun i => (i.zero, i.size, i.bytes)) = some (some (.slice none 0 0), 1, 24) := by kernel_rfl

/-- what the closure does: as a post -/
def OnPost (w0 : World) (rows cols : Int) (br bt bo bc bn g : Nat) (yss : List (List Int)) (w : World) (e : Ending) (w' : World) : Prop :=
  e = .returned (.tuple #[]) ∧ (∃ v', LSt w0 rows cols br bt bo bc bn g w' v' yss) ∧ T3 w w'

/-- a full bar: it is found if it is lost -/
def leaf (xss : List (List Int)) (l : List Int) : List (List Int) := if lostP l = true then xss ++ [l] else xss

theorem wins6 (x0 x1 x2 x3 x4 x5 : Int) (hb : Bar [x0, x1, x2, x3, x4, x5]) (g : Nat) (w : World) (hM : Memo winsS w g) :
    Calls Tryd.prog 26 #[.map (some g), .agg #[.int .i64 x0, .int .i64 x1, .int .i64 x2, .int .i64 x3, .int .i64 x4, .int .i64 x5]] w fun e w' => e = .returned (.bool (winsS [x0, x1, x2, x3, x4, x5])) ∧ Memo winsS w' g ∧ w.grownBy w' (some g) :=
  wins_calls hb g w hM

set_option maxHeartbeats 8000000 in
set_option maxRecDepth 100000 in
theorem on_leaf (w0 : World) (rows cols : Int) (br bt bo bc bn g : Nat) (A : Option Addr) (c : Nat) (l : List Int) (w : World) (v : Value) (xss : List (List Int))
    (hS : LSt w0 rows cols br bt bo bc bn g w v xss) (hl : Kd.R (Kd.int .i64) 3 w w0.heap.size (fun _ => True) (.slice A l.length c) l)
    (hlen : (l.length : Int) = rows) (hbar : isBarL l = true) (hx : xss.length ≤ 300000) :
    Calls Tryd.prog 24 #[.slice A l.length c, .pointer (some ⟨br, 0, none⟩), .pointer (some ⟨bt, 0, none⟩), .pointer (some ⟨bo, 0, none⟩), .pointer (some ⟨bc, 0, none⟩), .pointer (some ⟨bn, 0, none⟩)] w (OnPost w0 rows cols br bt bo bc bn g (leaf xss l) w) := by
  have hu66 := Tryd.underlying61
  have HS := Aside0.mk hS
  have HL := Aside0.mk hl
  have hL6 := (isBarL_iff.1 hbar).2.1
  have HB := Aside0.mk hbar
  have HP := Aside0.mk (padL_bar hbar)
  have cr := (blk_cell hS.hr 0)
  have HX := Aside0.mk hx
  simp only [List.getElem?_toArray, List.getElem?_cons_zero] at cr
  have hb : ((l.length : Int) == rows) = true := by rw [beq_iff_eq]; exact hlen
  have HN := Aside0.mk hlen
  clear hS hl hbar hx hlen
  cases hW : winsS (padL l) with
  | true =>
    have HW := Aside0.mk hW
    have HO := Aside0.mk (show leaf xss l = xss from by unfold leaf lostP; rw [hW]; rfl)
    clear hW
    go_enter Tryd.func24, Tryd.ntmps24
    go_wp2_with (first | (go_at_call 25; refine (read_calls A c l _ (Kd.R_reads' HL.out).2.2 (Kd.R_reads' HL.out).2.1).mono ?_; rintro e w1 ⟨⟨x0, x1, x2, x3, x4, x5, hxs, rfl⟩, hb1⟩; rw [HB.out]; have HXS := Aside0.mk (hxs HB.out); have HB1 := Aside0.mk hb1; have HS1 := Aside0.mk ((HS.out.below hb1).below (below_alloc (Below.refl _ _) (.cells #[.int .i64 x0, .int .i64 x1, .int .i64 x2, .int .i64 x3, .int .i64 x4, .int .i64 x5] 61))); have ct := blk_cell HS1.out.ht 0; simp only [List.getElem?_toArray, List.getElem?_cons_zero] at ct; clear hb1 hxs cr) | fail)
    have hBar : Bar [x0, x1, x2, x3, x4, x5] := by rw [← HXS.out]; exact HP.out
    have hwx : winsS [x0, x1, x2, x3, x4, x5] = true := by rw [← HXS.out]; exact HW.out
    refine (wins6 x0 x1 x2 x3 x4 x5 hBar g _ HS1.out.hm).mono ?_
    rintro e w2 ⟨rfl, hM2, hg2⟩
    rw [hwx]
    clear hBar hwx
    have HS2 := Aside0.mk (HS1.out.wins hM2 hg2)
    have HT := Aside0.mk ((T3.below (HB1.out)).trans ((T3.below (below_alloc (Below.refl _ _) (.cells #[.int .i64 x0, .int .i64 x1, .int .i64 x2, .int .i64 x3, .int .i64 x4, .int .i64 x5] 61))).trans (T3.grown hg2 (fun k cells e hk => by injection e with e; exact HS1.out.ne_g hk e.symm))))
    clear hM2 hg2 ct
    go_wp2
    go_end0
    exact ⟨rfl, ⟨_, HO.out ▸ HS2.out⟩, HT.out⟩
  | false =>
    have HW := Aside0.mk hW
    have HO := Aside0.mk (show leaf xss l = xss ++ [l] from by unfold leaf lostP; rw [hW]; rfl)
    clear hW
    go_enter Tryd.func24, Tryd.ntmps24
    go_wp2_with (first | (go_at_call 25; refine (read_calls A c l _ (Kd.R_reads' HL.out).2.2 (Kd.R_reads' HL.out).2.1).mono ?_; rintro e w1 ⟨⟨x0, x1, x2, x3, x4, x5, hxs, rfl⟩, hb1⟩; rw [HB.out]; have HXS := Aside0.mk (hxs HB.out); have HB1 := Aside0.mk hb1; have HS1 := Aside0.mk ((HS.out.below hb1).below (below_alloc (Below.refl _ _) (.cells #[.int .i64 x0, .int .i64 x1, .int .i64 x2, .int .i64 x3, .int .i64 x4, .int .i64 x5] 61))); have ct := blk_cell HS1.out.ht 0; simp only [List.getElem?_toArray, List.getElem?_cons_zero] at ct; clear hb1 hxs cr) | fail)
    have hBar : Bar [x0, x1, x2, x3, x4, x5] := by rw [← HXS.out]; exact HP.out
    have hwx : winsS [x0, x1, x2, x3, x4, x5] = false := by rw [← HXS.out]; exact HW.out
    refine (wins6 x0 x1 x2 x3 x4 x5 hBar g _ HS1.out.hm).mono ?_
    rintro e w2 ⟨rfl, hM2, hg2⟩
    rw [hwx]
    clear hBar hwx
    have HS2 := Aside0.mk (HS1.out.wins hM2 hg2)
    have HT := Aside0.mk ((T3.below (HB1.out)).trans ((T3.below (below_alloc (Below.refl _ _) (.cells #[.int .i64 x0, .int .i64 x1, .int .i64 x2, .int .i64 x3, .int .i64 x4, .int .i64 x5] 61))).trans (T3.grown hg2 (fun k cells e hk => by injection e with e; exact HS1.out.ne_g hk e.symm))))
    clear hM2 hg2 ct
    go_wp2
    have HS3 := Aside0.mk (HS2.out.below (below_drew1 (Below.refl _ _)))
    have HT3 := Aside0.mk (HT.out.trans (T3.below (below_drew1 (Below.refl w2.heap.size w2))))
    clear HS HS1 HS2 HT
    refine start_ (n := 6) (S := fun w' => w'.cell? ⟨bo, 0, none⟩ = some v) (ds := [4, 5]) #[false, false, false, false, false, false] (by kernel_rfl) rfl rfl ((blk_cell HS3.out.ho 0).trans rfl) (fun hHeld => ?_)
    generalize w2.drew = w10 at HS3 HT3 hHeld ⊢
    refine pure_ (i := 1) (N := some 25) (v := ?_) (a' := ?_) #[false, true, false, false, false, false] rfl rfl (by kernel_rfl) (fun _ _ _ h => h) (Or.inl ⟨by rfl, ?_⟩) ?_ ?_
    rotate_left
    · intro w'
      go_simp
      with_reducible rfl
    rotate_left
    · simp only [Act.put, List.setIfInBounds_toArray, List.set_cons_zero, List.set_cons_succ, i64_w, i32_w]
      rfl
    refine take_ (i := 0) (N := some 24) (v := ?_) (a' := ?_) #[true, true, false, false, false, false] rfl rfl (by kernel_rfl) (fun _ _ _ h => h) (Or.inl ⟨by rfl, ?_⟩) hHeld ?_ ?_
    rotate_left
    · rintro w' s0
      go_simp
      with_reducible rfl
    rotate_left
    · simp only [Act.put, List.setIfInBounds_toArray, List.set_cons_zero, List.set_cons_succ, i64_w, i32_w]
      rfl
    refine one_ (i := 2) (N := some 26) #[true, true, true, false, false, false] rfl rfl (by kernel_rfl) (by decide) (fun K hK => ?_)
    refine goes_ Tryd.func27 (by kernel_rfl) rfl #[.slice A l.length c] (by rfl) rfl rfl (by (try simp only [List.map_toArray, List.map_cons, List.map_nil]); first | done | rfl) ?_
    have HL3 := Aside0.mk (HT3.out.row HL.out)
    with_reducible refine (clone_calls A c l _ (Kd.R_reads' HL3.out).2.2 (by omega)).mono ?_
    rintro e w3 ⟨u, rfl, hRu, hb3⟩
    refine ⟨_, rfl, ?_⟩
    have HS4 := Aside0.mk (HS3.out.below hb3)
    have HT4 := Aside0.mk (HT3.out.trans (T3.below hb3))
    have HV := Aside0.mk (Kd.S_elder' HS3.out.hv (Kd.R_base hRu) hb3)
    have HU := Aside0.mk (Kd.R_lower hRu (below_size HS3.out.hB))
    have HUV := Aside0.mk (Kd.R_apart' HU.out (Kd.S_typed HS4.out.hv) (by decide))
    obtain ⟨Au, cu, eu⟩ := Kd.R_slice HU.out
    subst eu
    clear hRu hb3 HS3 HT3 HL3 HL
    refine hK.out _ _ ((blk_cell HS4.out.ho 0).trans rfl) (fun hHeld => ?_)
    clear hK K
    refine norm_ (a' := ?_) ?_ ?_
    rotate_left
    · show Act.put _ (some 26) _ = _
      simp only [Act.put, List.setIfInBounds_toArray, List.set_cons_zero, List.set_cons_succ, i64_w, i32_w]
      rfl
    refine one_ (i := 3) (N := some 27) #[true, true, true, true, false, false] rfl rfl (by kernel_rfl) (by decide) (fun K hK => ?_)
    refine value_ (w1 := ?_) (v := ?_) (by rfl) rfl ?_ ?_
    rotate_left 2
    · go_simp
      constructor
      · rfl
      · rfl
    refine hK.out _ _ ((blk_cell (blk_alloc HS4.out.ho _) 0).trans rfl) (fun hHeld => ?_)
    clear hK K
    refine norm_ (a' := ?_) ?_ ?_
    rotate_left
    · show Act.put _ (some 27) _ = _
      simp only [Act.put, List.setIfInBounds_toArray, List.set_cons_zero, List.set_cons_succ, i64_w, i32_w]
      rfl
    refine last_ (i := 4) (N := some 28) #[true, true, true, true, true, false] rfl rfl (by kernel_rfl) (by decide) (fun K hK => ?_)
    refine Kd.S_append_step kr (w0 := w0) w0.heap.size (by rfl) (.tmp 24) (.tmp 27) 43 42 (.slice none 0 0) 24 rfl Tryd.underlying43 info25 rfl (by decide) (by omega) v xss l [.slice Au l.length cu] (fun _ => True) (fun k_ => some k_ = (.slice Au l.length cu : Value).ownBlock) rfl rfl ?aP (fun k_ hk_ => HUV.out.1 k_ hk_.symm) ?aF ?aO ?aB ?aS ?aL ?_
    (case aP => exact Kd.M_row (Kd.R_mono (Kd.R_tight rfl HUV.out) (fun _ h_ => h_)))
    (case aB => exact HS4.out.hB)
    (case aF => exact (fun _ _ => trivial))
    (case aO => exact Kd.S_mono HV.out (fun k_ hk => ⟨trivial, fun e_ => hk.2 e_⟩))
    (case aS => exact below_size HS4.out.hB)
    (case aL => have := HX.out; omega)
    intro v1 w4 ho hb hg hat
    obtain ⟨A1, c1, e1⟩ := Kd.S_slice ho
    replace e1 : v1 = .slice A1 (xss.length + 1) c1 := by rw [e1, List.length_append, List.length_singleton]
    subst e1
    have HSF := Aside0.mk (HS4.out.found ho hb hg)
    have HTF := Aside0.mk (HT4.out.trans (HS4.out.T3_found (v1 := .slice A1 (xss.length + 1) c1) hg))
    have hne : some bo ≠ v.ownBlock := by
      intro e
      obtain ⟨cs, hc⟩ := Kd.S_typed HS4.out.hv bo e.symm
      rw [HS4.out.ho] at hc
      injection hc with hc
      injection hc with _ hc
      cases hc
    have hob := blk_grown HS4.out.ho hg hne
    have hoc := blk_cell hob 0
    simp only [List.getElem?_toArray, List.getElem?_cons_zero] at hoc
    have hof := blk_frozen hob 0
    clear ho hb hg hat hne hob HV HU HUV hHeld
    refine hK.out _ _ ?_
    clear hK K
    refine norm_ (a' := ?_) ?_ ?_
    rotate_left
    · show Act.put _ (some 28) _ = _
      simp only [Act.put, List.setIfInBounds_toArray, List.set_cons_zero, List.set_cons_succ, i64_w, i32_w]
      rfl
    refine last_ (i := 5) (N := none) #[true, true, true, true, true, true] rfl rfl (by kernel_rfl) (by decide) (fun K hK => ?_)
    refine skip_ (w1 := ?_) (by rfl) rfl ?_ ?_
    rotate_left
    · go_simp
      rfl
    refine hK.out _ _ ?_
    clear hK K
    refine done_ (by kernel_rfl) ?_
    try go_wp2
    go_end0
    exact ⟨rfl, ⟨.slice A1 (xss.length + 1) c1, by rw [HO.out]; exact HSF.out⟩, HTF.out⟩
end Go.Proofs.YtcnicogoccadnaaDoor.Ext
