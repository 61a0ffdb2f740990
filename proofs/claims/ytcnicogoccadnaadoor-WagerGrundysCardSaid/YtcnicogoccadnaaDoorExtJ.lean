/- The contract of Lost's closure, for lists that still want rows. -/
import Derived.Test.YtcnicogoccadnaaDoorProg
import Derived.Below
import Derived.Deep.Draws
import Derived.Deep.AppendLies
import Derived.Maps.AppendAt
import Derived.OwnWalk
import Derived.Laws.BytesArg
import Derived.Laws.MakeOwn
import Derived.Laws.OwnMore
import Derived.Deep.OwnRows
import Derived.Tactics
import Derived.Lib.ConvBytes
import Derived.Laws.Slices
import Derived.WalkKit
import Derived.KernelRfl
import Derived.RowKit3
import Derived.Deep.LoopGhost
import Derived.Deep.QuietTactic
import Derived.BigQuiet
import Derived.WideLaws
import Derived.Deep.DeepCutAuto
import Derived.Deep.CutBlock
import Derived.Deep.RegionHeld3
import Derived.Laws.Rows
import Derived.Lib.AppendStr
import Derived.ArgAppend
import Derived.Laws.IdiomCopy
import Derived.OrdersHeld
import Derived.Laws.BitsLemmas
import Derived.RowKit
import Derived.Test.YtcnicogoccadnaaDoorWWords
import Derived.Test.YtcnicogoccadnaaDoorWLast
import Derived.Test.YtcnicogoccadnaaDoorWTab
import Derived.Test.YtcnicogoccadnaaDoorWFour
import Derived.Test.YtcnicogoccadnaaDoorWQPut
import Derived.Test.YtcnicogoccadnaaDoorWApart
import Derived.Test.YtcnicogoccadnaaDoorWArr
import Derived.Test.YtcnicogoccadnaaDoorWZeros
import Derived.Test.YtcnicogoccadnaaDoorWFoot
import Derived.Test.YtcnicogoccadnaaDoorWKept
import Derived.Test.YtcnicogoccadnaaDoorWShare
import Derived.Test.YtcnicogoccadnaaDoorWN
import Derived.Test.YtcnicogoccadnaaDoorWFootNe
import Derived.Test.YtcnicogoccadnaaDoorWAt
import Derived.Test.YtcnicogoccadnaaDoorWEqStruct
import Derived.Test.YtcnicogoccadnaaDoorWRepsOne
import Derived.Test.YtcnicogoccadnaaDoorWInv
import Derived.Test.YtcnicogoccadnaaDoorWInvWords
import Derived.Test.YtcnicogoccadnaaDoorWGuard
import Derived.Test.YtcnicogoccadnaaDoorWNEv
import Derived.Test.YtcnicogoccadnaaDoorWMore
import Derived.Maps.OwnOps
import Derived.DeepKeys4
import Derived.WalkSpells
import Derived.Deep.RegionLawGrows
import Derived.Test.YtcnicogoccadnaaDoorExtI
namespace Go.Proofs.YtcnicogoccadnaaDoor.Ext
open Go.RowKit Go.Proofs.YtcnicogoccadnaaDoorW.PrintWords Go.Proofs.YtcnicogoccadnaaDoorW.PrintLast Go.Proofs.YtcnicogoccadnaaDoorW.PrintMore
attribute [local go_sem] max2_int min2_int max_two min_two max_three min_three max_four min_four
set_option linter.unusedVariables false
set_option linter.unusedSimpArgs false

/-- the greatest number that may follow -/
def mostOf (l : List Int) (cols : Int) : Int := if l.length = 0 then cols else rd l ((l.length : Int) - 1)
theorem rd_left {l : List Int} {x : Int} {i : Int} (h0 : 0 ≤ i) (h : i < l.length) : rd (l ++ [x]) i = rd l i := by
  unfold rd
  rw [List.getD_eq_getElem?_getD, List.getD_eq_getElem?_getD, List.getElem?_append_left (by omega)]
theorem rd_last {l : List Int} {x : Int} : rd (l ++ [x]) l.length = x := by
  unfold rd
  rw [List.getD_eq_getElem?_getD, List.getElem?_append_right (by omega)]
  simp
theorem mostOf_snoc (l : List Int) (x cols : Int) : mostOf (l ++ [x]) cols = x := by
  unfold mostOf
  rw [if_neg (by simp), show ((l ++ [x]).length : Int) - 1 = l.length from by simp, rd_last]
theorem okTo_snoc {l : List Int} {x cols : Int} (h : okTo l l.length) (h0 : 0 ≤ x) (h7 : x ≤ 7) (hm : x ≤ mostOf l cols) : okTo (l ++ [x]) (l ++ [x]).length := by
  intro i hi
  rw [List.length_append, List.length_singleton] at hi
  rcases Nat.lt_or_ge i l.length with h1 | h1
  · rw [rd_left (by omega) (by omega)]
    refine ⟨(h i h1).1, (h i h1).2.1, fun hi0 => ?_⟩
    rw [rd_left (by omega) (by omega)]
    exact (h i h1).2.2 hi0
  · obtain rfl : i = l.length := by omega
    rw [rd_last]
    refine ⟨h0, h7, fun hi0 => ?_⟩
    rw [rd_left (by omega) (by omega)]
    unfold mostOf at hm
    rwa [if_neg (by omega)] at hm

/-- what has been found when the first x numbers have been tried -/
def upTo (n : Nat) (l : List Int) (x : Nat) : List (List Int) := ((List.range x).flatMap fun (y : Nat) => barsFrom n (y : Int) (l ++ [(y : Int)])).filter lostP
theorem upTo_zero (n : Nat) (l : List Int) : upTo n l 0 = [] := rfl
theorem upTo_succ (n : Nat) (l : List Int) (x : Nat) : upTo n l (x + 1) = upTo n l x ++ (barsFrom n (x : Int) (l ++ [(x : Int)])).filter lostP := by
  unfold upTo
  rw [List.range_succ, List.flatMap_append, List.filter_append]
  simp
theorem upTo_all (n : Nat) (l : List Int) (most : Int) : upTo n l (most + 1).toNat = (barsFrom (n + 1) most l).filter lostP := rfl
theorem bars_len : ∀ (n : Nat) (most : Int) (l : List Int), most ≤ 7 → (barsFrom n most l).length ≤ 8 ^ n
  | 0, _, _, _ => by simp [barsFrom]
  | n + 1, most, l, h => by
    have key : ∀ x : Nat, x ≤ 8 → ((List.range x).flatMap fun (y : Nat) => barsFrom n (y : Int) (l ++ [(y : Int)])).length ≤ x * 8 ^ n := by
      intro x
      induction x with
      | zero => intro _; simp
      | succ x ih =>
        intro hx
        have h1 := ih (by omega)
        have h2 := bars_len n (x : Int) (l ++ [(x : Int)]) (by omega)
        rw [List.range_succ, List.flatMap_append, List.length_append, Nat.succ_mul]
        simp only [List.flatMap_cons, List.flatMap_nil, List.append_nil]
        omega
    have h1 := key (most + 1).toNat (by omega)
    have h2 : (most + 1).toNat * 8 ^ n ≤ 8 * 8 ^ n := Nat.mul_le_mul_right _ (by omega)
    rw [barsFrom, Nat.pow_succ, Nat.mul_comm]
    omega

theorem below_of_grown {w w1 : World} (hg : w.grownBy w1 none) : Below w.heap.size w w1 := (Below.refl w.heap.size w).grown hg (Nat.le_refl _) (fun k h => by cases h)
theorem bound_step {a L x n : Nat} (hL : L ≤ a + x * 8 ^ n) (hx : x ≤ 7) (hX : a + 8 ^ (n + 1) ≤ 300000) : L + 8 ^ n ≤ 300000 := by
  have h1 : (x + 1) * 8 ^ n ≤ 8 * 8 ^ n := Nat.mul_le_mul_right _ (by omega)
  rw [Nat.succ_mul] at h1
  rw [Nat.pow_succ, Nat.mul_comm] at hX
  omega
theorem hold_none {w : World} {base : Nat} {ok : Nat → Prop} {A : Option Addr} {c : Nat} {l : List Int} (h : Kd.R (Kd.int .i64) 3 w base ok (.slice A l.length c) l) (hA : A = none) : l.length = 0 ∧ l.length = 0 := by
  rcases Nat.eq_zero_or_pos l.length with h0 | h0
  · exact ⟨h0, h0⟩
  · obtain ⟨ad', h2, _⟩ := Kd.at_int (Kd.R_reads' h).2.2 0 (by omega) (by omega)
    cases hA.symm.trans h2
theorem hold_cells {w : World} {base : Nat} {ok : Nat → Prop} {A : Option Addr} {c : Nat} {l : List Int} (h : Kd.R (Kd.int .i64) 3 w base ok (.slice A l.length c) l) (b : Addr) (hA : A = some b) (j : Nat) (u : Value) (hj : (l.map (Value.int .i64))[j]? = some u) : w.cell? (b.add j) = some u := by
  have hjl : j < l.length := by have := (List.getElem?_eq_some_iff.1 hj).1; simpa using this
  obtain ⟨ad', h2, h3⟩ := Kd.at_int (Kd.R_reads' h).2.2 (j : Int) (by omega) (by omega)
  obtain rfl : b = ad' := by rw [hA] at h2; injection h2
  rw [show ((j : Int)).toNat = j from by omega] at h3
  rw [h3, ← hj, List.getElem?_map, List.getElem?_eq_getElem hjl]
  simp [rd, List.getD_eq_getElem?_getD, List.getElem?_eq_getElem hjl]
theorem hold_new (w : World) (x : Int) (j : Nat) (u : Value) (hj : [Value.int .i64 x][j]? = some u) : (w.alloc (.cells #[.int .i64 x] 3)).cell? ((⟨w.heap.size, 0, none⟩ : Addr).add j) = some u := by
  cases j with
  | zero =>
    have h := blk_cell (heap_alloc_new w (.cells #[.int .i64 x] 3)) 0
    rw [← hj]
    exact h
  | succ j => simp at hj
theorem row_of_own {w : World} {base : Nat} {v : Value} {l : List Int} {x : Int} (h : w.ownsRow base 3 1 v (l.length + 1) (l.map (Value.int .i64) ++ [.int .i64 x])) : Kd.R (Kd.int .i64) 3 w base (fun _ => True) v (l ++ [x]) :=
  Kd.R_of_own (by simpa [encs] using h) (fun _ _ => trivial)

/-- what the closure does, for bars that still want n rows -/
def OnC (n : Nat) : Prop := ∀ (w0 : World) (rows cols : Int) (br bt bo bc bn g : Nat) (A : Option Addr) (c : Nat) (l : List Int) (w : World) (v : Value) (xss : List (List Int)),
    LSt w0 rows cols br bt bo bc bn g w v xss → Kd.R (Kd.int .i64) 3 w w0.heap.size (fun _ => True) (.slice A l.length c) l →
    (l.length : Int) + n = rows → 1 ≤ rows → rows ≤ 6 → 0 ≤ cols → cols ≤ 7 → okTo l l.length → xss.length + 8 ^ n ≤ 300000 →
    Calls Tryd.prog 24 #[.slice A l.length c, .pointer (some ⟨br, 0, none⟩), .pointer (some ⟨bt, 0, none⟩), .pointer (some ⟨bo, 0, none⟩), .pointer (some ⟨bc, 0, none⟩), .pointer (some ⟨bn, 0, none⟩)] w
      (OnPost w0 rows cols br bt bo bc bn g (xss ++ (barsFrom n (mostOf l cols) l).filter lostP) w)

theorem on_zero : OnC 0 := by
  intro w0 rows cols br bt bo bc bn g A c l w v xss hS hl hn h1 h6 hc0 hc7 hok hx
  have h := on_leaf w0 rows cols br bt bo bc bn g A c l w v xss hS hl (by omega) (isBarL_iff.2 ⟨by omega, by omega, hok⟩) (by omega)
  have e : xss ++ (barsFrom 0 (mostOf l cols) l).filter lostP = leaf xss l := by
    unfold leaf barsFrom
    cases hp : lostP l <;> simp [hp]
  rw [e]
  exact h

set_option maxHeartbeats 8000000 in
set_option maxRecDepth 100000 in
theorem on_succ (n : Nat) (ih : OnC n) : OnC (n + 1) := by
  intro w0 rows cols br bt bo bc bn g A c l w v xss hS hl hn h1 h6 hc0 hc7 hok hx
  have hmost : 0 ≤ mostOf l cols ∧ mostOf l cols ≤ 7 := by
    unfold mostOf
    split
    · omega
    · have := hok (l.length - 1) (by omega)
      rw [show ((l.length - 1 : Nat) : Int) = (l.length : Int) - 1 from by omega] at this
      omega
  have HS := Aside0.mk hS
  have HL := Aside0.mk hl
  have HI := Aside0.mk ih
  have HOK := Aside0.mk hok
  have HX := Aside0.mk hx
  have HN := Aside0.mk hn
  obtain ⟨m, hm⟩ : ∃ m, mostOf l cols = m := ⟨_, rfl⟩
  rw [hm] at hmost ⊢
  have HM := Aside0.mk hm
  obtain ⟨hm0, hm7⟩ := hmost
  obtain ⟨i0, hi, hz0, hz1, hz2⟩ := info_parts info3
  have cr := (blk_cell hS.hr 0)
  simp only [List.getElem?_toArray, List.getElem?_cons_zero] at cr
  have ccols := (blk_cell hS.hc 0)
  simp only [List.getElem?_toArray, List.getElem?_cons_zero] at ccols
  have hlr : (l.length : Int) < rows := by omega
  have hb : ((l.length : Int) == rows) = false := by rw [beq_eq_false_iff_ne]; omega
  have hl0 : ∀ (h : 0 < l.length), ∃ ad, A = some ad ∧ w.cell? (ad.add (l.length - 1)) = some (.int .i64 m) := by
    intro h
    obtain ⟨ad, h2, h3⟩ := Kd.at_int (Kd.R_reads' hl).2.2 ((l.length : Int) - 1) (by omega) (by omega)
    refine ⟨ad, h2, ?_⟩
    rw [show ((l.length : Int) - 1).toNat = l.length - 1 from by omega] at h3
    rw [h3, ← hm]
    unfold mostOf
    rw [if_neg (by omega)]
  have hlc := (Kd.R_reads' hl).2.1
  clear hS ih hok hx hn hm
  have hgo : ∀ (K : Prop), (decide (0 < l.length) = false → w.cell? ⟨bc, 0, none⟩ = some (.int .i64 m) → K) → (∀ ad, A = some ad → 0 < l.length → w.cell? (ad.add (l.length - 1)) = some (.int .i64 m) → K) → K := by
    intro K k1 k2
    by_cases hz : l.length = 0
    · have hmc : cols = m := by rw [← HM.out]; unfold mostOf; rw [if_pos hz]
      exact k1 (by rw [hz]; rfl) (hmc ▸ ccols)
    · obtain ⟨ad, h2, h3⟩ := hl0 (by omega)
      exact k2 ad h2 (by omega) h3
  clear hl0 hl
  refine hgo _ (fun hz cc => ?_) (fun ad hA hz cm => ?_)
  clear ccols
  rotate_left
  subst hA
  rotate_left
  all_goals
    clear hgo
    go_enter Tryd.func24, Tryd.ntmps24
    go_wp2_with fail
    go_loopw [41] (fun v41 W => ∃ (x : Nat) (v' : Value), v41 = .int .i64 x ∧ Aside0 ((x : Int) ≤ m + 1) ∧ Aside0 (LSt w0 rows cols br bt bo bc bn g W v' (xss ++ upTo n l x)) ∧ Aside0 (T3 w W) ∧ Aside0 ((xss ++ upTo n l x).length ≤ xss.length + x * 8 ^ n)) (fun v41 _ => (9 - intOf v41).toNat)
    case atStart => exact ⟨0, v, rfl, ⟨by omega⟩, ⟨by rw [upTo_zero, List.append_nil]; exact HS.out⟩, ⟨T3.refl w⟩, ⟨by rw [upTo_zero, List.append_nil]; omega⟩⟩
    case round =>
      obtain ⟨x, v', rfl, hxm, HSx, HTx, HLx⟩ := hrel
      have hxm' := hxm.out
      by_cases hlt : (x : Int) < m + 1
      · have HS2 := Aside0.mk (HSx.out.below (below_drew1 (Below.refl wr.heap.size wr)))
        have HT2 := Aside0.mk (HTx.out.trans (T3.below (below_drew1 (Below.refl wr.heap.size wr))))
        have HL2 := Aside0.mk (HT2.out.row HL.out)
        go_wp2
        refine start_ (n := 11) (S := fun w' => w'.cell? ⟨bn, 0, none⟩ = some (.func (.func 24) #[] #[.pointer (some ⟨br, 0, none⟩), .pointer (some ⟨bt, 0, none⟩), .pointer (some ⟨bo, 0, none⟩), .pointer (some ⟨bc, 0, none⟩), .pointer (some ⟨bn, 0, none⟩)])) (ds := [10]) #[false, false, false, false, false, false, false, false, false, false, false] (by kernel_rfl) rfl rfl ((blk_cell HS2.out.hn 0).trans rfl) (fun hHeld => ?_)
        generalize wr.drew = w10 at HS2 HT2 HL2 hHeld ⊢
        refine pure_ (i := 1) (N := some 45) (v := ?_) (a' := ?_) #[false, true, false, false, false, false, false, false, false, false, false] rfl rfl (by kernel_rfl) (fun _ _ _ h => h) (Or.inl ⟨by rfl, ?_⟩) ?_ ?_
        rotate_left
        · intro w'
          go_simp
          with_reducible rfl
        rotate_left
        · simp only [Act.put, List.setIfInBounds_toArray, List.set_cons_zero, List.set_cons_succ, i64_w, i32_w]
          rfl
        refine pure_ (i := 2) (N := some 46) (v := ?_) (a' := ?_) #[false, true, true, false, false, false, false, false, false, false, false] rfl rfl (by kernel_rfl) (fun _ _ _ h => h) (Or.inl ⟨by rfl, ?_⟩) ?_ ?_
        rotate_left
        · intro w'
          go_simp
          with_reducible rfl
        rotate_left
        · simp only [Act.put, List.setIfInBounds_toArray, List.set_cons_zero, List.set_cons_succ, i64_w, i32_w]
          rfl
        refine pure_ (i := 3) (N := some 47) (v := ?_) (a' := ?_) #[false, true, true, true, false, false, false, false, false, false, false] rfl rfl (by kernel_rfl) (fun _ _ _ h => h) (Or.inl ⟨by rfl, ?_⟩) ?_ ?_
        rotate_left
        · intro w'
          go_simp
          with_reducible rfl
        rotate_left
        · simp only [Act.put, List.setIfInBounds_toArray, List.set_cons_zero, List.set_cons_succ, i64_w, i32_w]
          rfl
        refine pure_ (i := 4) (N := some 48) (v := ?_) (a' := ?_) #[false, true, true, true, true, false, false, false, false, false, false] rfl rfl (by kernel_rfl) (fun _ _ _ h => h) (Or.inl ⟨by rfl, ?_⟩) ?_ ?_
        rotate_left
        · intro w'
          go_simp
          with_reducible rfl
        rotate_left
        · simp only [Act.put, List.setIfInBounds_toArray, List.set_cons_zero, List.set_cons_succ, i64_w, i32_w]
          rfl
        refine pure_ (i := 5) (N := some 49) (v := ?_) (a' := ?_) #[false, true, true, true, true, true, false, false, false, false, false] rfl rfl (by kernel_rfl) (fun _ _ _ h => h) (Or.inl ⟨by rfl, ?_⟩) ?_ ?_
        rotate_left
        · intro w'
          go_simp
          with_reducible rfl
        rotate_left
        · simp only [Act.put, List.setIfInBounds_toArray, List.set_cons_zero, List.set_cons_succ, i64_w, i32_w]
          rfl
        refine pure_ (i := 6) (N := some 50) (v := ?_) (a' := ?_) #[false, true, true, true, true, true, true, false, false, false, false] rfl rfl (by kernel_rfl) (fun _ _ _ h => h) (Or.inl ⟨by rfl, ?_⟩) ?_ ?_
        rotate_left
        · intro w'
          go_simp
          with_reducible rfl
        rotate_left
        · simp only [Act.put, List.setIfInBounds_toArray, List.set_cons_zero, List.set_cons_succ, i64_w, i32_w]
          rfl
        refine pure_ (i := 7) (N := some 51) (v := ?_) (a' := ?_) #[false, true, true, true, true, true, true, true, false, false, false] rfl rfl (by kernel_rfl) (fun _ _ _ h => h) (Or.inl ⟨by rfl, ?_⟩) ?_ ?_
        rotate_left
        · intro w'
          go_simp
          with_reducible rfl
        rotate_left
        · simp only [Act.put, List.setIfInBounds_toArray, List.set_cons_zero, List.set_cons_succ, i64_w, i32_w]
          rfl
        refine take_ (i := 0) (N := some 44) (v := ?_) (a' := ?_) #[true, true, true, true, true, true, true, true, false, false, false] rfl rfl (by kernel_rfl) (fun _ _ _ h => h) (Or.inl ⟨by rfl, ?_⟩) hHeld ?_ ?_
        rotate_left
        · rintro w' s0
          go_simp
          with_reducible rfl
        rotate_left
        · simp only [Act.put, List.setIfInBounds_toArray, List.set_cons_zero, List.set_cons_succ, i64_w, i32_w]
          rfl
        refine one_ (i := 8) (N := some 52) #[true, true, true, true, true, true, true, true, true, false, false] rfl rfl (by kernel_rfl) (by decide) (fun K hK => ?_)
        refine value_ (w1 := ?_) (v := ?_) (by rfl) rfl ?_ ?_
        rotate_left 2
        · go_simp
          constructor
          · rfl
          · rfl
        have HS3 := Aside0.mk (HS2.out.below (below_alloc (Below.refl _ _) (.cells #[.int .i64 x] 3)))
        have HT3 := Aside0.mk (HT2.out.trans (T3.below (below_alloc (Below.refl _ _) (.cells #[.int .i64 x] 3))))
        have HL3 := Aside0.mk (HT3.out.row HL.out)
        have hnew := blk_cell (heap_alloc_new w10 (.cells #[.int .i64 x] 3)) 0
        refine hK.out _ _ ((blk_cell HS3.out.hn 0).trans rfl) (fun hHeld => ?_)
        clear hK K HS2 HT2 HL2
        refine norm_ (a' := ?_) ?_ ?_
        rotate_left
        · show Act.put _ (some 52) _ = _
          simp only [Act.put, List.setIfInBounds_toArray, List.set_cons_zero, List.set_cons_succ, i64_w, i32_w]
          rfl
        refine one_ (i := 9) (N := some 53) #[true, true, true, true, true, true, true, true, true, true, false] rfl rfl (by kernel_rfl) (by decide) (fun K hK => ?_)
        refine step_append_grows rfl (.tmp 50) (.tmp 52) 42 rfl 3 i0 (.int .i64 0) 1 8 Tryd.underlying42 hi hz0 hz1 hz2 rfl (by decide) _ l.length l.length (l.map (Value.int .i64)) rfl (hold_none HL3.out) (by simp) (hold_cells HL3.out) ⟨w10.heap.size, 0, none⟩ 1 1 [.int .i64 x] rfl rfl (hold_new w10 x) (by simp [Value.oneCell']) (Nat.lt_succ_self _) (by unfold maxLen; omega) (by omega) ?_
        intro u1 w4 hown hg
        have HR4 := Aside0.mk (Kd.R_lower (row_of_own hown) (below_size HS3.out.hB))
        have HS4 := Aside0.mk (HS3.out.below (below_of_grown hg))
        have HT4 := Aside0.mk (HT3.out.trans (T3.below (below_of_grown hg)))
        obtain ⟨A1, c1, e1⟩ := Kd.R_slice HR4.out
        subst e1
        clear hown hg HS3 HT3 HL3
        refine hK.out _ _ ((blk_cell HS4.out.hn 0).trans rfl) (fun hHeld => ?_)
        clear hK K
        refine norm_ (a' := ?_) ?_ ?_
        rotate_left
        · show Act.put _ (some 53) _ = _
          simp only [Act.put, List.setIfInBounds_toArray, List.set_cons_zero, List.set_cons_succ, i64_w, i32_w]
          rfl
        refine last_ (i := 10) (N := some 54) #[true, true, true, true, true, true, true, true, true, true, true] rfl rfl (by kernel_rfl) (by decide) (fun K hK => ?_)
        refine call_ 24 #[.slice A1 (l ++ [(x : Int)]).length c1, .pointer (some ⟨br, 0, none⟩), .pointer (some ⟨bt, 0, none⟩), .pointer (some ⟨bo, 0, none⟩), .pointer (some ⟨bc, 0, none⟩), .pointer (some ⟨bn, 0, none⟩)] (by rfl) rfl ?_ ?_
        · have he := enters_ (f := 24) Tryd.func24 (by kernel_rfl) rfl #[.slice A1 (l ++ [(x : Int)]).length c1, .pointer (some ⟨br, 0, none⟩), .pointer (some ⟨bt, 0, none⟩), .pointer (some ⟨bo, 0, none⟩), .pointer (some ⟨bc, 0, none⟩), .pointer (some ⟨bn, 0, none⟩)] w4
          unfold execOp
          simp [resolve, Deferred.ofValue, invoke, Act.eval, he]
        refine (HI.out w0 rows cols br bt bo bc bn g A1 c1 (l ++ [(x : Int)]) w4 v' (xss ++ upTo n l x) HS4.out HR4.out (by have := HN.out; rw [List.length_append, List.length_singleton]; omega) h1 h6 hc0 hc7 (okTo_snoc HOK.out (by omega) (by omega) (by rw [HM.out]; omega)) (bound_step HLx.out (by omega) HX.out)).mono ?_
        rintro e w5 ⟨rfl, ⟨v2, hS5⟩, hT5⟩
        rw [mostOf_snoc, List.append_assoc, ← upTo_succ] at hS5
        have HS5 := Aside0.mk hS5
        have HT5 := Aside0.mk (HT4.out.trans hT5)
        clear hS5 hT5 HS4 HT4 HR4
        refine ⟨_, rfl, ?_⟩
        refine hK.out _ _ ?_
        clear hK K
        refine norm_ (a' := ?_) ?_ ?_
        rotate_left
        · show Act.put _ (some 54) _ = _
          simp only [Act.put, List.setIfInBounds_toArray, List.set_cons_zero, List.set_cons_succ, i64_w, i32_w]
          rfl
        refine done_ (by kernel_rfl) ?_
        try go_wp2
        go_roundw
        case rel =>
          refine ⟨x + 1, v2, by go_num, ⟨by omega⟩, HS5, HT5, ⟨?_⟩⟩
          have hb2 := bars_len n (x : Int) (l ++ [(x : Int)]) (by omega)
          have hf := List.length_filter_le lostP (barsFrom n (x : Int) (l ++ [(x : Int)]))
          have hL := HLx.out
          rw [List.length_append] at hL ⊢
          rw [upTo_succ, List.length_append, Nat.succ_mul]
          omega
        case measure => simp [intOf]; omega
      · have hxe : x = (m + 1).toNat := by omega
        have HE := Aside0.mk hxe
        clear hxe
        go_wp2
        go_end0
        exact ⟨rfl, ⟨_, by rw [← upTo_all, ← HE.out]; exact HSx.out⟩, HTx.out⟩
end Go.Proofs.YtcnicogoccadnaaDoor.Ext
