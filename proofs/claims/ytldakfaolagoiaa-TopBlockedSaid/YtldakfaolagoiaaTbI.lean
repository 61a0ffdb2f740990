/- winner. -/
import Derived.Test.YtldakfaolagoiaaProg
import Derived.Below
import Derived.Deep.Draws
import Derived.Deep.AppendLies
import Derived.Maps.AppendAt
import Derived.OwnWalk
import Derived.Laws.BytesArg
import Derived.Laws.MakeOwn
import Derived.Laws.OwnMore
import Derived.Deep.OwnRows
import Derived.Tactics
import Derived.Lib.ConvBytes
import Derived.Laws.Slices
import Derived.WalkKit
import Derived.KernelRfl
import Derived.RowKit3
import Derived.Deep.LoopGhost
import Derived.Deep.QuietTactic
import Derived.BigQuiet
import Derived.WideLaws
import Derived.Deep.DeepCutAuto
import Derived.Deep.CutBlock
import Derived.Deep.RegionHeld3
import Derived.Laws.Rows
import Derived.Lib.AppendStr
import Derived.ArgAppend
import Derived.Laws.IdiomCopy
import Derived.OrdersHeld
import Derived.Laws.BitsLemmas
import Derived.RowKit
import Derived.Test.YtldakfaolagoiaaWWords
import Derived.Test.YtldakfaolagoiaaWLast
import Derived.Test.YtldakfaolagoiaaWTab
import Derived.Test.YtldakfaolagoiaaWFour
import Derived.Test.YtldakfaolagoiaaWQPut
import Derived.Test.YtldakfaolagoiaaWApart
import Derived.Test.YtldakfaolagoiaaWArr
import Derived.Test.YtldakfaolagoiaaWZeros
import Derived.Test.YtldakfaolagoiaaWFoot
import Derived.Test.YtldakfaolagoiaaWKept
import Derived.Test.YtldakfaolagoiaaWShare
import Derived.Test.YtldakfaolagoiaaWN
import Derived.Test.YtldakfaolagoiaaWFootNe
import Derived.Test.YtldakfaolagoiaaWAt
import Derived.Test.YtldakfaolagoiaaWEqStruct
import Derived.Test.YtldakfaolagoiaaWRepsOne
import Derived.Test.YtldakfaolagoiaaWInv
import Derived.Test.YtldakfaolagoiaaWInvWords
import Derived.Test.YtldakfaolagoiaaWGuard
import Derived.Test.YtldakfaolagoiaaWNEv
import Derived.Test.YtldakfaolagoiaaWMore
import Derived.Maps.OwnOps
import Derived.DeepKeys4
import Derived.WalkSpells
import Derived.Laws.EntriesVeiled
import Derived.Deep.RegionLawGrows
import Derived.ArgAppend
import Derived.Test.YtldakfaolagoiaaTbH
import Derived.Test.YtldakfaolagoiaaPx1
namespace Go.Proofs.Ytldakfaolagoiaa.Tb
open Go.RowKit Go.Proofs.YtldakfaolagoiaaW.PrintWords Go.Proofs.YtldakfaolagoiaaW.PrintLast Go.Proofs.YtldakfaolagoiaaW.PrintMore
attribute [local go_sem] max2_int min2_int max_two min_two max_three min_three max_four min_four
set_option linter.unusedVariables false
set_option linter.unusedSimpArgs false

/-- what winner's boxes hold -/
def Held (B : Nat) (m : Int) (A : Option Addr) (l : List Int) (c : Nat) (a b t : Int) (w : World) : Prop :=
  (w.cell? ⟨B, 0, none⟩ = some (.int .i64 m) ∧ w.cell? ⟨B, 1, none⟩ = some (.slice A l.length c)) ∧ w.cell? ⟨B + 1, 0, none⟩ = some (.int .i64 a) ∧ w.cell? ⟨B + 1, 1, none⟩ = some (.int .i64 b) ∧ w.cell? ⟨B + 1, 2, none⟩ = some (.int .i64 t)
structure Box (W : World) (g : Nat) (m : Int) (A : Option Addr) (l : List Int) (c : Nat) (a b t : Int) (w : World) : Prop where
  f : w.heap[W.heap.size]? = some (.cells #[.int .i64 m, .slice A l.length c] 36 (0, 0))
  t : w.heap[W.heap.size + 1]? = some (.cells #[.int .i64 a, .int .i64 b, .int .i64 t] 40 (0, 0))
  hm : Memo m l w g
  hr : Kd.C (Kd.int .i64) w A l.length l
  gr : W.grownBy w (some g)
theorem grown_of_below {w w' : World} {g : Nat} (h : Below w.heap.size w w') : w.grownBy w' (some g) := ⟨h.os, h.tape, h.output, h.size, fun k hk _ => h.block k hk⟩
section
variable {W : World} {g : Nat} {m : Int} {A : Option Addr} {l : List Int} {c : Nat} {a b t : Int} {w w' : World}
theorem Box.grown (h : Box W g m A l c a b t w) (hg : w.grownBy w' (some g)) (hm : Memo m l w' g) : Box W g m A l c a b t w' :=
  ⟨blk_grown hg h.hm h.f, blk_grown hg h.hm h.t, hm, C_grown hg h.hm h.hr, World.grownBy.trans h.gr hg⟩
theorem Box.below (h : Box W g m A l c a b t w) (hb : Below w.heap.size w w') : Box W g m A l c a b t w' := h.grown (grown_of_below hb) (h.hm.below hb)
theorem Box.c0 (h : Box W g m A l c a b t w) : w.cell? ⟨W.heap.size, 0, none⟩ = some (.int .i64 m) := (blk_cell h.f 0).trans rfl
theorem Box.c1 (h : Box W g m A l c a b t w) : w.cell? ⟨W.heap.size, 1, none⟩ = some (.slice A l.length c) := (blk_cell h.f 1).trans rfl
theorem Box.c2 (h : Box W g m A l c a b t w) : w.cell? ⟨W.heap.size + 1, 0, none⟩ = some (.int .i64 a) := (blk_cell h.t 0).trans rfl
theorem Box.c3 (h : Box W g m A l c a b t w) : w.cell? ⟨W.heap.size + 1, 1, none⟩ = some (.int .i64 b) := (blk_cell h.t 1).trans rfl
theorem Box.c4 (h : Box W g m A l c a b t w) : w.cell? ⟨W.heap.size + 1, 2, none⟩ = some (.int .i64 t) := (blk_cell h.t 2).trans rfl
theorem Box.S (h : Box W g m A l c a b t w) : Held W.heap.size m A l c a b t w := ⟨⟨h.c0, h.c1⟩, h.c2, h.c3, h.c4⟩
end
def WinC (n : Nat) (m : Int) (l : List Int) : Prop := ∀ a b t : Int, Turn a b t → cntF m (orI a b) < n → ∀ (W : World) (g : Nat) (A : Option Addr) (c : Nat), Memo m l W g → Kd.C (Kd.int .i64) W A l.length l → l.length ≤ c →
    Calls Try.prog 15 #[.agg #[.int .i64 m, .slice A l.length c], .agg #[.int .i64 a, .int .i64 b, .int .i64 t], .map (some g)] W fun e W' => e = .returned (.int .i64 (val m l a b t)) ∧ Memo m l W' g ∧ W.grownBy W' (some g)
def moveTo (m : Int) (l : List Int) (a b t : Int) (i : Nat) : Bool := bitI (fre m (orI a b)) i && ((if t = 1 then val m l (orI a (pt i)) b 2 else val m l a (orI b (pt i)) 1) == t)
theorem after_f {m : Int} (h1 : 1 ≤ m) (h5 : m ≤ 5) (l : List Int) {a b t : Int} (hT : Turn a b t) {i : Nat} (hi : i < 5) (hb : bitI (fre m (orI a b)) i = true) :
    ∃ q1 q2, P.ambush_position_after.f a b t (i : Int) = some (q1, q2) ∧ Turn q1 q2 (3 - t) ∧ cntF m (orI q1 q2) < cntF m (orI a b) ∧ moveTo m l a b t i = (val m l q1 q2 (3 - t) == t) := by
  unfold moveTo
  rw [hb, Bool.true_and]
  have hd := cnt_dec h1 h5 (hT.a.or hT.b) hi hb
  rcases hT.t with rfl | rfl
  · refine ⟨orI a (pt i), b, ?_, ⟨hT.a.or (Dom.pt hi), hT.b, .inr rfl⟩, ?_, rfl⟩
    · unfold P.ambush_position_after.f
      rw [if_pos rfl, if_pos (by omega)]
      rfl
    · rw [swap_l hT.a hT.b hi]; exact hd
  · refine ⟨a, orI b (pt i), ?_, ⟨hT.a, hT.b.or (Dom.pt hi), .inl rfl⟩, ?_, rfl⟩
    · unfold P.ambush_position_after.f
      rw [if_neg (by decide), if_pos (by omega)]
      rfl
    · rw [swap_r hT.a hT.b hi]; exact hd
theorem other_f {t : Int} (h : t = 1 ∨ t = 2) : P.ambush_other.f t = some (3 - t) := by
  rcases h with rfl | rfl <;> decide +kernel
theorem val_steps {m : Int} (h1 : 1 ≤ m) (h5 : m ≤ 5) (l : List Int) {a b t : Int} (hT : Turn a b t) :
    val m l a b t = if wonL l a then 1 else if fre m (orI a b) = 0 then 2 else if (List.range m.toNat).any (moveTo m l a b t) then t else 3 - t := val_eq h1 h5 l t hT.a hT.b
theorem any_at {n i : Nat} {f : Nat → Bool} (hi : i < n) (h : f i = true) : (List.range n).any f = true := List.any_eq_true.2 ⟨i, List.mem_range.2 hi, h⟩

set_option maxHeartbeats 8000000 in
set_option maxRecDepth 100000 in
theorem win_succ {n : Nat} {m : Int} (h1 : 1 ≤ m) (h5 : m ≤ 5) {l : List Int} (IH : WinC n m l) : WinC (n + 1) m l := by
  intro a b t hT hcnt W g A c hM hr hc
  have hu36 := Try.underlying36
  have hu38 := Try.underlying38
  have hu40 := Try.underlying40
  have HT := Aside0.mk hT
  have HV := Aside0.mk (val_steps h1 h5 l hT)
  have HI := Aside0.mk (show WinC n m l from IH)
  have HLC := Aside0.mk hc
  have hB1 := below_alloc (below_alloc (Below.refl W.heap.size W) (.cells #[.int .i64 m, .slice A l.length c] 36)) (.cells #[.int .i64 a, .int .i64 b, .int .i64 t] 40)
  have HX0 := Aside0.mk (show Box W g m A l c a b t ((W.alloc (.cells #[.int .i64 m, .slice A l.length c] 36)).alloc (.cells #[.int .i64 a, .int .i64 b, .int .i64 t] 40)) from
    ⟨blk_alloc (heap_alloc_new W (.cells #[.int .i64 m, .slice A l.length c] 36)) _, heap_at _ (asize _ _), hM.below hB1, Kd.C_below hr hB1, grown_of_below hB1⟩)
  have HOT := Aside0.mk (other_f hT.t)
  have HCN := Aside0.mk hcnt
  obtain ⟨F, hF⟩ : ∃ F, fre m (orI a b) = F := ⟨_, rfl⟩
  have HFD := Aside0.mk (show Dom F from hF ▸ fre_dom h1 h5 (hT.a.or hT.b))
  have HFF := Aside0.mk (show P.ambush_field_free.f m l a b = some F from by unfold P.ambush_field_free.f; rw [if_pos (by omega), ← hF]; rfl)
  have HFE := Aside0.mk hF
  have c0 := HX0.out.c0
  have c1 := HX0.out.c1
  have c2 := HX0.out.c2
  have c3 := HX0.out.c3
  have c4 := HX0.out.c4
  clear hT IH hB1 hM hr hc hcnt hF
  cases hw : wonL l a with
  | true =>
    have HVE := Aside0.mk (show val m l a b t = 1 from by rw [HV.out, hw]; rfl)
    go_enter Try.func15, Try.ntmps15
    go_wp2_with fail
    refine (won_calls m a b A c l _ HX0.out.hr HLC.out).mono ?_
    rintro e w1 ⟨rfl, hb1⟩
    have HX1 := Aside0.mk (HX0.out.below hb1)
    rw [hw]
    clear hb1 HX0
    go_wp2
    go_ret
    exact ⟨by rw [HVE.out]; first | done | rfl, HX1.out.hm, HX1.out.gr⟩
  | false =>
    go_enter Try.func15, Try.ntmps15
    go_wp2_with fail
    refine (won_calls m a b A c l _ HX0.out.hr HLC.out).mono ?_
    rintro e w1 ⟨rfl, hb1⟩
    have HX1 := Aside0.mk (HX0.out.below hb1)
    rw [hw]
    have HW := Aside0.mk hw
    have c0 := HX1.out.c0
    have c1 := HX1.out.c1
    have c2 := HX1.out.c2
    have c3 := HX1.out.c3
    have c4 := HX1.out.c4
    clear hb1 HX0 hw
    go_wp2_with fail
    refine (P.ambush_field_free.calls m A c l a b F _ HX1.out.hr HLC.out HFF.out).mono ?_
    rintro e w2 ⟨rfl, hb2⟩
    have HX2 := Aside0.mk (HX1.out.below hb2)
    clear hb2 HX1 c0 c1 c2 c3 c4
    have c0 := HX2.out.c0
    have c1 := HX2.out.c1
    have c2 := HX2.out.c2
    have c3 := HX2.out.c3
    have c4 := HX2.out.c4
    by_cases hF0 : F = 0
    · have HVE := Aside0.mk (show val m l a b t = 2 from by rw [HV.out, HW.out, HFE.out, if_neg (by simp), if_pos hF0])
      have hf0 := eq_true hF0
      have hf1 : (F == 0) = true := by rw [hF0]; rfl
      go_wp2_with fail
      go_ret
      exact ⟨by rw [HVE.out]; first | done | rfl, HX2.out.hm, HX2.out.gr⟩
    · have hf0 := eq_false hF0
      have hf1 : (F == 0) = false := by rw [beq_eq_false_iff_ne]; exact hF0
      have HVE := Aside0.mk (show val m l a b t = if (List.range m.toNat).any (moveTo m l a b t) then t else 3 - t from by rw [HV.out, HW.out, HFE.out, if_neg (by simp), if_neg hF0])
      clear hF0
      rcases HX2.out.hm.lookup HT.out with hl | hl
      case inr =>
        have hl' : (Instr.lookup 45 (.map (some g)) (.agg #[.int .i64 a, .int .i64 b, .int .i64 t]) false).run Try.prog w2 = .ok (.int .i64 (val m l a b t)) w2 := hl
        have hne : val m l a b t ≠ 0 := by
          rcases val_12 h1 h5 l HT.out.t HT.out.a HT.out.b with h | h <;> rw [h] <;> decide
        obtain ⟨V, hV⟩ : ∃ V, val m l a b t = V := ⟨_, rfl⟩
        rw [hV] at hl' hne
        have HVV := Aside0.mk hV
        have hn0 := eq_false hne
        have hn1 : (V == 0) = false := by rw [beq_eq_false_iff_ne]; exact hne
        clear hl hV hne
        go_wp2_with fail
        go_ret
        exact ⟨by rw [HVV.out]; first | done | rfl, HX2.out.hm, HX2.out.gr⟩
      case inl =>
        have hl' : (Instr.lookup 45 (.map (some g)) (.agg #[.int .i64 a, .int .i64 b, .int .i64 t]) false).run Try.prog w2 = .ok (.int .i64 0) w2 := hl
        clear hl
        go_wp2_with fail
        refine (P.ambush_other.calls t (3 - t) _ HOT.out).mono ?_
        rintro e w3 ⟨rfl, hb3⟩
        have HX3 := Aside0.mk (HX2.out.below (below_of_drawn0 hb3))
        clear hb3 HX2 hl' c0 c1 c2 c3 c4
        have c0 := HX3.out.c0
        go_wp2_with fail
        go_loopw [8, 30] (fun v8 v30 W' => ∃ (i : Nat), v30 = .int .i64 i ∧ v8 = .int .i64 (3 - t) ∧ Aside0 ((i : Int) ≤ m) ∧ Aside0 ((List.range i).any (moveTo m l a b t) = false) ∧ Aside0 (Box W g m A l c a b t W')) (fun _ v30 _ => (m - intOf v30).toNat)
        case atStart => exact ⟨0, rfl, rfl, ⟨by omega⟩, ⟨rfl⟩, HX3⟩
        case round =>
          obtain ⟨i, rfl, rfl, hi, HN, HXr⟩ := hrel
          have hi' := hi.out
          clear HX3 c0
          by_cases hlt : (i : Int) < m
          · have HI5 := Aside0.mk (show i < 5 from by omega)
            have HS := Aside0.mk (show (List.range (i + 1)).any (moveTo m l a b t) = moveTo m l a b t i from by rw [List.range_succ, List.any_append, HN.out]; simp)
            cases hbit : (Go.bits .and .i64 (F / 2 ^ i) 1 == 1) with
            | false =>
              have HS2 := Aside0.mk (show moveTo m l a b t i = false from by unfold moveTo; rw [HFE.out]; show ((Go.bits .and .i64 (F / 2 ^ i) 1 == 1) && _) = false; rw [hbit]; rfl)
              go_wp2_with fail
              refine start_ (n := 26) (S := Held W.heap.size m A l c a b t) (ds := []) #[false, false, false, false, false, false, false, false, false, false, false, false, false, false, false, false, false, false, false, false, false, false, false, false, false, false] (by kernel_rfl) rfl rfl (HXr.out.below (below_drew1 (Below.refl _ _))).S (fun hHeld => ?_)
              have HXd := Aside0.mk (HXr.out.below (below_drew1 (Below.refl _ _)))
              clear HXr
              refine take_ (i := 0) (N := some 33) (v := ?_) (a' := ?_) #[true, false, false, false, false, false, false, false, false, false, false, false, false, false, false, false, false, false, false, false, false, false, false, false, false, false] rfl rfl (by kernel_rfl) (fun _ _ _ h => h) (Or.inl ⟨by rfl, ?_⟩) hHeld ?_ ?_
              rotate_left
              · rintro w' ⟨⟨s0, s1⟩, s2, s3, s4⟩
                go_simp
                with_reducible rfl
              rotate_left
              · simp only [Act.put, List.setIfInBounds_toArray, List.set_cons_zero, List.set_cons_succ, i64_w, i32_w]
                rfl
              refine pure_ (i := 1) (N := some 34) (v := ?_) (a' := ?_) #[true, true, false, false, false, false, false, false, false, false, false, false, false, false, false, false, false, false, false, false, false, false, false, false, false, false] rfl rfl (by kernel_rfl) (fun _ _ _ h => h) (Or.inl ⟨by rfl, ?_⟩) ?_ ?_
              rotate_left
              · intro w'
                go_simp
                with_reducible rfl
              rotate_left
              · simp only [Act.put, List.setIfInBounds_toArray, List.set_cons_zero, List.set_cons_succ, i64_w, i32_w]
                rfl
              refine take_ (i := 2) (N := some 35) (v := ?_) (a' := ?_) #[true, true, true, false, false, false, false, false, false, false, false, false, false, false, false, false, false, false, false, false, false, false, false, false, false, false] rfl rfl (by kernel_rfl) (fun _ _ _ h => h) (Or.inl ⟨by rfl, ?_⟩) hHeld ?_ ?_
              rotate_left
              · rintro w' ⟨⟨s0, s1⟩, s2, s3, s4⟩
                go_simp
                with_reducible rfl
              rotate_left
              · simp only [Act.put, List.setIfInBounds_toArray, List.set_cons_zero, List.set_cons_succ, i64_w, i32_w]
                rfl
              refine pure_ (i := 4) (N := some 37) (v := ?_) (a' := ?_) #[true, true, true, false, true, false, false, false, false, false, false, false, false, false, false, false, false, false, false, false, false, false, false, false, false, false] rfl rfl (by kernel_rfl) (fun _ _ _ h => h) (Or.inl ⟨by rfl, ?_⟩) ?_ ?_
              rotate_left
              · intro w'
                go_simp
                with_reducible rfl
              rotate_left
              · simp only [Act.put, List.setIfInBounds_toArray, List.set_cons_zero, List.set_cons_succ, i64_w, i32_w]
                rfl
              refine one_ (i := 3) (N := some 36) #[true, true, true, true, true, false, false, false, false, false, false, false, false, false, false, false, false, false, false, false, false, false, false, false, false, false] rfl rfl (by kernel_rfl) (by decide) (fun K hK => ?_)
              refine goes_ Try.func22 (by kernel_rfl) rfl #[.agg #[.int .i64 m, .slice A l.length c], .agg #[.int .i64 a, .int .i64 b]] (by rfl) rfl rfl (by (try simp only [List.map_toArray, List.map_cons, List.map_nil]); first | done | rfl) ?_
              with_reducible refine (P.ambush_field_free.calls m A c l a b F _ HXd.out.hr HLC.out HFF.out).mono ?_
              rintro e w1 ⟨rfl, hb_⟩
              refine ⟨_, rfl, ?_⟩
              have HXw1 := Aside0.mk (HXd.out.below hb_)
              clear hb_ HXd
              refine hK.out _ _ HXw1.out.S (fun hHeld => ?_)
              clear hK K
              clear hHeld
              have hHeld := HXw1.out.S
              refine norm_ (a' := ?_) ?_ ?_
              rotate_left
              · show Act.put _ (some 36) _ = _
                simp only [Act.put, List.setIfInBounds_toArray, List.set_cons_zero, List.set_cons_succ, i64_w, i32_w]
                rfl
              refine pure_ (i := 5) (N := some 38) (v := ?_) (a' := ?_) #[true, true, true, true, true, true, false, false, false, false, false, false, false, false, false, false, false, false, false, false, false, false, false, false, false, false] rfl rfl (by kernel_rfl) (fun _ _ _ h => h) (Or.inl ⟨by rfl, ?_⟩) ?_ ?_
              rotate_left
              · intro w'
                go_simp
                with_reducible rfl
              rotate_left
              · simp only [Act.put, List.setIfInBounds_toArray, List.set_cons_zero, List.set_cons_succ, i64_w, i32_w]
                rfl
              refine pure_ (i := 6) (N := some 39) (v := ?_) (a' := ?_) #[true, true, true, true, true, true, true, false, false, false, false, false, false, false, false, false, false, false, false, false, false, false, false, false, false, false] rfl rfl (by kernel_rfl) (fun _ _ _ h => h) (Or.inl ⟨by rfl, ?_⟩) ?_ ?_
              rotate_left
              · intro w'
                go_simp
                with_reducible rfl
              rotate_left
              · simp only [Act.put, List.setIfInBounds_toArray, List.set_cons_zero, List.set_cons_succ, i64_w, i32_w]
                rfl
              refine pure_ (i := 7) (N := some 40) (v := ?_) (a' := ?_) #[true, true, true, true, true, true, true, true, false, false, false, false, false, false, false, false, false, false, false, false, false, false, false, false, false, false] rfl rfl (by kernel_rfl) (fun _ _ _ h => h) (Or.inl ⟨by rfl, ?_⟩) ?_ ?_
              rotate_left
              · intro w'
                go_simp
                with_reducible rfl
              rotate_left
              · simp only [Act.put, List.setIfInBounds_toArray, List.set_cons_zero, List.set_cons_succ, i64_w, i32_w]
                rfl
              refine pure_ (i := 8) (N := some 41) (v := ?_) (a' := ?_) #[true, true, true, true, true, true, true, true, true, false, false, false, false, false, false, false, false, false, false, false, false, false, false, false, false, false] rfl rfl (by kernel_rfl) (fun _ _ _ h => h) (Or.inl ⟨by rfl, ?_⟩) ?_ ?_
              rotate_left
              · intro w'
                go_simp
                with_reducible rfl
              rotate_left
              · simp only [Act.put, List.setIfInBounds_toArray, List.set_cons_zero, List.set_cons_succ, i64_w, i32_w]
                rfl
              refine pure_ (i := 9) (N := some 42) (v := undef) (a' := ?_) #[true, true, true, true, true, true, true, true, true, true, false, false, false, false, false, false, false, false, false, false, false, false, false, false, false, false] rfl rfl (by kernel_rfl) (fun _ _ _ h => h) (Or.inr ⟨by rfl, rfl⟩) ?_ ?_
              rotate_left
              · simp only [Act.put, List.setIfInBounds_toArray, List.set_cons_zero, List.set_cons_succ, i64_w, i32_w]
                rfl
              refine pure_ (i := 10) (N := some 43) (v := undef) (a' := ?_) #[true, true, true, true, true, true, true, true, true, true, true, false, false, false, false, false, false, false, false, false, false, false, false, false, false, false] rfl rfl (by kernel_rfl) (fun _ _ _ h => h) (Or.inr ⟨by rfl, rfl⟩) ?_ ?_
              rotate_left
              · simp only [Act.put, List.setIfInBounds_toArray, List.set_cons_zero, List.set_cons_succ, i64_w, i32_w]
                rfl
              refine pure_ (i := 11) (N := some 44) (v := undef) (a' := ?_) #[true, true, true, true, true, true, true, true, true, true, true, true, false, false, false, false, false, false, false, false, false, false, false, false, false, false] rfl rfl (by kernel_rfl) (fun _ _ _ h => h) (Or.inr ⟨by rfl, rfl⟩) ?_ ?_
              rotate_left
              · simp only [Act.put, List.setIfInBounds_toArray, List.set_cons_zero, List.set_cons_succ, i64_w, i32_w]
                rfl
              refine pure_ (i := 12) (N := some 45) (v := undef) (a' := ?_) #[true, true, true, true, true, true, true, true, true, true, true, true, true, false, false, false, false, false, false, false, false, false, false, false, false, false] rfl rfl (by kernel_rfl) (fun _ _ _ h => h) (Or.inr ⟨by rfl, rfl⟩) ?_ ?_
              rotate_left
              · simp only [Act.put, List.setIfInBounds_toArray, List.set_cons_zero, List.set_cons_succ, i64_w, i32_w]
                rfl
              refine pure_ (i := 13) (N := some 46) (v := undef) (a' := ?_) #[true, true, true, true, true, true, true, true, true, true, true, true, true, true, false, false, false, false, false, false, false, false, false, false, false, false] rfl rfl (by kernel_rfl) (fun _ _ _ h => h) (Or.inr ⟨by rfl, rfl⟩) ?_ ?_
              rotate_left
              · simp only [Act.put, List.setIfInBounds_toArray, List.set_cons_zero, List.set_cons_succ, i64_w, i32_w]
                rfl
              refine pure_ (i := 14) (N := some 47) (v := undef) (a' := ?_) #[true, true, true, true, true, true, true, true, true, true, true, true, true, true, true, false, false, false, false, false, false, false, false, false, false, false] rfl rfl (by kernel_rfl) (fun _ _ _ h => h) (Or.inr ⟨by rfl, rfl⟩) ?_ ?_
              rotate_left
              · simp only [Act.put, List.setIfInBounds_toArray, List.set_cons_zero, List.set_cons_succ, i64_w, i32_w]
                rfl
              refine pure_ (i := 15) (N := some 48) (v := undef) (a' := ?_) #[true, true, true, true, true, true, true, true, true, true, true, true, true, true, true, true, false, false, false, false, false, false, false, false, false, false] rfl rfl (by kernel_rfl) (fun _ _ _ h => h) (Or.inr ⟨by rfl, rfl⟩) ?_ ?_
              rotate_left
              · simp only [Act.put, List.setIfInBounds_toArray, List.set_cons_zero, List.set_cons_succ, i64_w, i32_w]
                rfl
              refine pure_ (i := 16) (N := some 49) (v := undef) (a' := ?_) #[true, true, true, true, true, true, true, true, true, true, true, true, true, true, true, true, true, false, false, false, false, false, false, false, false, false] rfl rfl (by kernel_rfl) (fun _ _ _ h => h) (Or.inr ⟨by rfl, rfl⟩) ?_ ?_
              rotate_left
              · simp only [Act.put, List.setIfInBounds_toArray, List.set_cons_zero, List.set_cons_succ, i64_w, i32_w]
                rfl
              refine pure_ (i := 17) (N := some 50) (v := undef) (a' := ?_) #[true, true, true, true, true, true, true, true, true, true, true, true, true, true, true, true, true, true, false, false, false, false, false, false, false, false] rfl rfl (by kernel_rfl) (fun _ _ _ h => h) (Or.inr ⟨by rfl, rfl⟩) ?_ ?_
              rotate_left
              · simp only [Act.put, List.setIfInBounds_toArray, List.set_cons_zero, List.set_cons_succ, i64_w, i32_w]
                rfl
              refine pure_ (i := 18) (N := some 51) (v := undef) (a' := ?_) #[true, true, true, true, true, true, true, true, true, true, true, true, true, true, true, true, true, true, true, false, false, false, false, false, false, false] rfl rfl (by kernel_rfl) (fun _ _ _ h => h) (Or.inr ⟨by rfl, rfl⟩) ?_ ?_
              rotate_left
              · simp only [Act.put, List.setIfInBounds_toArray, List.set_cons_zero, List.set_cons_succ, i64_w, i32_w]
                rfl
              refine pure_ (i := 19) (N := some 52) (v := undef) (a' := ?_) #[true, true, true, true, true, true, true, true, true, true, true, true, true, true, true, true, true, true, true, true, false, false, false, false, false, false] rfl rfl (by kernel_rfl) (fun _ _ _ h => h) (Or.inr ⟨by rfl, rfl⟩) ?_ ?_
              rotate_left
              · simp only [Act.put, List.setIfInBounds_toArray, List.set_cons_zero, List.set_cons_succ, i64_w, i32_w]
                rfl
              refine pure_ (i := 20) (N := some 53) (v := undef) (a' := ?_) #[true, true, true, true, true, true, true, true, true, true, true, true, true, true, true, true, true, true, true, true, true, false, false, false, false, false] rfl rfl (by kernel_rfl) (fun _ _ _ h => h) (Or.inr ⟨by rfl, rfl⟩) ?_ ?_
              rotate_left
              · simp only [Act.put, List.setIfInBounds_toArray, List.set_cons_zero, List.set_cons_succ, i64_w, i32_w]
                rfl
              refine pure_ (i := 21) (N := some 54) (v := undef) (a' := ?_) #[true, true, true, true, true, true, true, true, true, true, true, true, true, true, true, true, true, true, true, true, true, true, false, false, false, false] rfl rfl (by kernel_rfl) (fun _ _ _ h => h) (Or.inr ⟨by rfl, rfl⟩) ?_ ?_
              rotate_left
              · simp only [Act.put, List.setIfInBounds_toArray, List.set_cons_zero, List.set_cons_succ, i64_w, i32_w]
                rfl
              refine pure_ (i := 22) (N := some 55) (v := undef) (a' := ?_) #[true, true, true, true, true, true, true, true, true, true, true, true, true, true, true, true, true, true, true, true, true, true, true, false, false, false] rfl rfl (by kernel_rfl) (fun _ _ _ h => h) (Or.inr ⟨by rfl, rfl⟩) ?_ ?_
              rotate_left
              · simp only [Act.put, List.setIfInBounds_toArray, List.set_cons_zero, List.set_cons_succ, i64_w, i32_w]
                rfl
              refine pure_ (i := 23) (N := some 56) (v := undef) (a' := ?_) #[true, true, true, true, true, true, true, true, true, true, true, true, true, true, true, true, true, true, true, true, true, true, true, true, false, false] rfl rfl (by kernel_rfl) (fun _ _ _ h => h) (Or.inr ⟨by rfl, rfl⟩) ?_ ?_
              rotate_left
              · simp only [Act.put, List.setIfInBounds_toArray, List.set_cons_zero, List.set_cons_succ, i64_w, i32_w]
                rfl
              refine pure_ (i := 24) (N := some 57) (v := undef) (a' := ?_) #[true, true, true, true, true, true, true, true, true, true, true, true, true, true, true, true, true, true, true, true, true, true, true, true, true, false] rfl rfl (by kernel_rfl) (fun _ _ _ h => h) (Or.inr ⟨by rfl, rfl⟩) ?_ ?_
              rotate_left
              · simp only [Act.put, List.setIfInBounds_toArray, List.set_cons_zero, List.set_cons_succ, i64_w, i32_w]
                rfl
              refine pure_ (i := 25) (N := some 58) (v := ?_) (a' := ?_) #[true, true, true, true, true, true, true, true, true, true, true, true, true, true, true, true, true, true, true, true, true, true, true, true, true, true] rfl rfl (by kernel_rfl) (fun _ _ _ h => h) (Or.inl ⟨by rfl, ?_⟩) ?_ ?_
              rotate_left
              · intro w'
                go_simp
                with_reducible rfl
              rotate_left
              · simp only [Act.put, List.setIfInBounds_toArray, List.set_cons_zero, List.set_cons_succ, i64_w, i32_w]
                rfl
              refine done_ (by kernel_rfl) ?_
              go_wp2_with fail
              go_roundw
              case rel => exact ⟨i + 1, by go_num, rfl, ⟨by omega⟩, ⟨by rw [HS.out, HS2.out]⟩, HXw1⟩
              case measure => simp [intOf]; omega
            | true =>
              obtain ⟨q1, q2, haf, hTQ, hcq, hmv⟩ := after_f h1 h5 l HT.out HI5.out (show bitI (fre m (orI a b)) i = true from by rw [HFE.out]; exact hbit)
              have HAF := Aside0.mk haf
              have HTQ := Aside0.mk hTQ
              have HCQ := Aside0.mk (show cntF m (orI q1 q2) < n from by have := HCN.out; omega)
              obtain ⟨V, hV⟩ : ∃ V, val m l q1 q2 (3 - t) = V := ⟨_, rfl⟩
              have HI2 := Aside0.mk (show ∀ (W : World) (g : Nat) (A : Option Addr) (c : Nat), Memo m l W g → Kd.C (Kd.int .i64) W A l.length l → l.length ≤ c →
                Calls Try.prog 15 #[.agg #[.int .i64 m, .slice A l.length c], .agg #[.int .i64 q1, .int .i64 q2, .int .i64 (3 - t)], .map (some g)] W fun e W' => e = .returned (.int .i64 V) ∧ Memo m l W' g ∧ W.grownBy W' (some g) from hV ▸ HI.out q1 q2 (3 - t) hTQ HCQ.out)
              have HMV := Aside0.mk (show moveTo m l a b t i = (V == t) from hV ▸ hmv)
              clear haf hTQ hcq hmv hV
              by_cases hvt : V = t
              · have HFND := Aside0.mk (show (List.range m.toNat).any (moveTo m l a b t) = true from any_at (i := i) (by omega) (by rw [HMV.out, hvt]; simp))
                have hv0 := eq_true hvt
                have hv1 : (V == t) = true := by rw [hvt]; simp
                clear hvt
                go_wp2_with fail
                refine start_ (n := 26) (S := Held W.heap.size m A l c a b t) (ds := []) #[false, false, false, false, false, false, false, false, false, false, false, false, false, false, false, false, false, false, false, false, false, false, false, false, false, false] (by kernel_rfl) rfl rfl (HXr.out.below (below_drew1 (Below.refl _ _))).S (fun hHeld => ?_)
                have HXd := Aside0.mk (HXr.out.below (below_drew1 (Below.refl _ _)))
                clear HXr
                refine take_ (i := 0) (N := some 33) (v := ?_) (a' := ?_) #[true, false, false, false, false, false, false, false, false, false, false, false, false, false, false, false, false, false, false, false, false, false, false, false, false, false] rfl rfl (by kernel_rfl) (fun _ _ _ h => h) (Or.inl ⟨by rfl, ?_⟩) hHeld ?_ ?_
                rotate_left
                · rintro w' ⟨⟨s0, s1⟩, s2, s3, s4⟩
                  go_simp
                  with_reducible rfl
                rotate_left
                · simp only [Act.put, List.setIfInBounds_toArray, List.set_cons_zero, List.set_cons_succ, i64_w, i32_w]
                  rfl
                refine pure_ (i := 1) (N := some 34) (v := ?_) (a' := ?_) #[true, true, false, false, false, false, false, false, false, false, false, false, false, false, false, false, false, false, false, false, false, false, false, false, false, false] rfl rfl (by kernel_rfl) (fun _ _ _ h => h) (Or.inl ⟨by rfl, ?_⟩) ?_ ?_
                rotate_left
                · intro w'
                  go_simp
                  with_reducible rfl
                rotate_left
                · simp only [Act.put, List.setIfInBounds_toArray, List.set_cons_zero, List.set_cons_succ, i64_w, i32_w]
                  rfl
                refine take_ (i := 2) (N := some 35) (v := ?_) (a' := ?_) #[true, true, true, false, false, false, false, false, false, false, false, false, false, false, false, false, false, false, false, false, false, false, false, false, false, false] rfl rfl (by kernel_rfl) (fun _ _ _ h => h) (Or.inl ⟨by rfl, ?_⟩) hHeld ?_ ?_
                rotate_left
                · rintro w' ⟨⟨s0, s1⟩, s2, s3, s4⟩
                  go_simp
                  with_reducible rfl
                rotate_left
                · simp only [Act.put, List.setIfInBounds_toArray, List.set_cons_zero, List.set_cons_succ, i64_w, i32_w]
                  rfl
                refine pure_ (i := 4) (N := some 37) (v := ?_) (a' := ?_) #[true, true, true, false, true, false, false, false, false, false, false, false, false, false, false, false, false, false, false, false, false, false, false, false, false, false] rfl rfl (by kernel_rfl) (fun _ _ _ h => h) (Or.inl ⟨by rfl, ?_⟩) ?_ ?_
                rotate_left
                · intro w'
                  go_simp
                  with_reducible rfl
                rotate_left
                · simp only [Act.put, List.setIfInBounds_toArray, List.set_cons_zero, List.set_cons_succ, i64_w, i32_w]
                  rfl
                refine one_ (i := 3) (N := some 36) #[true, true, true, true, true, false, false, false, false, false, false, false, false, false, false, false, false, false, false, false, false, false, false, false, false, false] rfl rfl (by kernel_rfl) (by decide) (fun K hK => ?_)
                refine goes_ Try.func22 (by kernel_rfl) rfl #[.agg #[.int .i64 m, .slice A l.length c], .agg #[.int .i64 a, .int .i64 b]] (by rfl) rfl rfl (by (try simp only [List.map_toArray, List.map_cons, List.map_nil]); first | done | rfl) ?_
                with_reducible refine (P.ambush_field_free.calls m A c l a b F _ HXd.out.hr HLC.out HFF.out).mono ?_
                rintro e w1 ⟨rfl, hb_⟩
                refine ⟨_, rfl, ?_⟩
                have HXw1 := Aside0.mk (HXd.out.below hb_)
                clear hb_ HXd
                refine hK.out _ _ HXw1.out.S (fun hHeld => ?_)
                clear hK K
                clear hHeld
                have hHeld := HXw1.out.S
                refine norm_ (a' := ?_) ?_ ?_
                rotate_left
                · show Act.put _ (some 36) _ = _
                  simp only [Act.put, List.setIfInBounds_toArray, List.set_cons_zero, List.set_cons_succ, i64_w, i32_w]
                  rfl
                refine pure_ (i := 5) (N := some 38) (v := ?_) (a' := ?_) #[true, true, true, true, true, true, false, false, false, false, false, false, false, false, false, false, false, false, false, false, false, false, false, false, false, false] rfl rfl (by kernel_rfl) (fun _ _ _ h => h) (Or.inl ⟨by rfl, ?_⟩) ?_ ?_
                rotate_left
                · intro w'
                  go_simp
                  with_reducible rfl
                rotate_left
                · simp only [Act.put, List.setIfInBounds_toArray, List.set_cons_zero, List.set_cons_succ, i64_w, i32_w]
                  rfl
                refine pure_ (i := 6) (N := some 39) (v := ?_) (a' := ?_) #[true, true, true, true, true, true, true, false, false, false, false, false, false, false, false, false, false, false, false, false, false, false, false, false, false, false] rfl rfl (by kernel_rfl) (fun _ _ _ h => h) (Or.inl ⟨by rfl, ?_⟩) ?_ ?_
                rotate_left
                · intro w'
                  go_simp
                  with_reducible rfl
                rotate_left
                · simp only [Act.put, List.setIfInBounds_toArray, List.set_cons_zero, List.set_cons_succ, i64_w, i32_w]
                  rfl
                refine pure_ (i := 7) (N := some 40) (v := ?_) (a' := ?_) #[true, true, true, true, true, true, true, true, false, false, false, false, false, false, false, false, false, false, false, false, false, false, false, false, false, false] rfl rfl (by kernel_rfl) (fun _ _ _ h => h) (Or.inl ⟨by rfl, ?_⟩) ?_ ?_
                rotate_left
                · intro w'
                  go_simp
                  with_reducible rfl
                rotate_left
                · simp only [Act.put, List.setIfInBounds_toArray, List.set_cons_zero, List.set_cons_succ, i64_w, i32_w]
                  rfl
                refine pure_ (i := 8) (N := some 41) (v := ?_) (a' := ?_) #[true, true, true, true, true, true, true, true, true, false, false, false, false, false, false, false, false, false, false, false, false, false, false, false, false, false] rfl rfl (by kernel_rfl) (fun _ _ _ h => h) (Or.inl ⟨by rfl, ?_⟩) ?_ ?_
                rotate_left
                · intro w'
                  go_simp
                  with_reducible rfl
                rotate_left
                · simp only [Act.put, List.setIfInBounds_toArray, List.set_cons_zero, List.set_cons_succ, i64_w, i32_w]
                  rfl
                refine take_ (i := 9) (N := some 42) (v := ?_) (a' := ?_) #[true, true, true, true, true, true, true, true, true, true, false, false, false, false, false, false, false, false, false, false, false, false, false, false, false, false] rfl rfl (by kernel_rfl) (fun _ _ _ h => h) (Or.inl ⟨by rfl, ?_⟩) hHeld ?_ ?_
                rotate_left
                · rintro w' ⟨⟨s0, s1⟩, s2, s3, s4⟩
                  go_simp
                  with_reducible rfl
                rotate_left
                · simp only [Act.put, List.setIfInBounds_toArray, List.set_cons_zero, List.set_cons_succ, i64_w, i32_w]
                  rfl
                refine pure_ (i := 10) (N := some 43) (v := ?_) (a' := ?_) #[true, true, true, true, true, true, true, true, true, true, true, false, false, false, false, false, false, false, false, false, false, false, false, false, false, false] rfl rfl (by kernel_rfl) (fun _ _ _ h => h) (Or.inl ⟨by rfl, ?_⟩) ?_ ?_
                rotate_left
                · intro w'
                  go_simp
                  with_reducible rfl
                rotate_left
                · simp only [Act.put, List.setIfInBounds_toArray, List.set_cons_zero, List.set_cons_succ, i64_w, i32_w]
                  rfl
                refine take_ (i := 11) (N := some 44) (v := ?_) (a' := ?_) #[true, true, true, true, true, true, true, true, true, true, true, true, false, false, false, false, false, false, false, false, false, false, false, false, false, false] rfl rfl (by kernel_rfl) (fun _ _ _ h => h) (Or.inl ⟨by rfl, ?_⟩) hHeld ?_ ?_
                rotate_left
                · rintro w' ⟨⟨s0, s1⟩, s2, s3, s4⟩
                  go_simp
                  with_reducible rfl
                rotate_left
                · simp only [Act.put, List.setIfInBounds_toArray, List.set_cons_zero, List.set_cons_succ, i64_w, i32_w]
                  rfl
                refine pure_ (i := 12) (N := some 45) (v := ?_) (a' := ?_) #[true, true, true, true, true, true, true, true, true, true, true, true, true, false, false, false, false, false, false, false, false, false, false, false, false, false] rfl rfl (by kernel_rfl) (fun _ _ _ h => h) (Or.inl ⟨by rfl, ?_⟩) ?_ ?_
                rotate_left
                · intro w'
                  go_simp
                  with_reducible rfl
                rotate_left
                · simp only [Act.put, List.setIfInBounds_toArray, List.set_cons_zero, List.set_cons_succ, i64_w, i32_w]
                  rfl
                refine take_ (i := 13) (N := some 46) (v := ?_) (a' := ?_) #[true, true, true, true, true, true, true, true, true, true, true, true, true, true, false, false, false, false, false, false, false, false, false, false, false, false] rfl rfl (by kernel_rfl) (fun _ _ _ h => h) (Or.inl ⟨by rfl, ?_⟩) hHeld ?_ ?_
                rotate_left
                · rintro w' ⟨⟨s0, s1⟩, s2, s3, s4⟩
                  go_simp
                  with_reducible rfl
                rotate_left
                · simp only [Act.put, List.setIfInBounds_toArray, List.set_cons_zero, List.set_cons_succ, i64_w, i32_w]
                  rfl
                refine pure_ (i := 14) (N := some 47) (v := ?_) (a' := ?_) #[true, true, true, true, true, true, true, true, true, true, true, true, true, true, true, false, false, false, false, false, false, false, false, false, false, false] rfl rfl (by kernel_rfl) (fun _ _ _ h => h) (Or.inl ⟨by rfl, ?_⟩) ?_ ?_
                rotate_left
                · intro w'
                  go_simp
                  with_reducible rfl
                rotate_left
                · simp only [Act.put, List.setIfInBounds_toArray, List.set_cons_zero, List.set_cons_succ, i64_w, i32_w]
                  rfl
                refine pure_ (i := 16) (N := some 49) (v := ?_) (a' := ?_) #[true, true, true, true, true, true, true, true, true, true, true, true, true, true, true, false, true, false, false, false, false, false, false, false, false, false] rfl rfl (by kernel_rfl) (fun _ _ _ h => h) (Or.inl ⟨by rfl, ?_⟩) ?_ ?_
                rotate_left
                · intro w'
                  go_simp
                  with_reducible rfl
                rotate_left
                · simp only [Act.put, List.setIfInBounds_toArray, List.set_cons_zero, List.set_cons_succ, i64_w, i32_w]
                  rfl
                refine take_ (i := 17) (N := some 50) (v := ?_) (a' := ?_) #[true, true, true, true, true, true, true, true, true, true, true, true, true, true, true, false, true, true, false, false, false, false, false, false, false, false] rfl rfl (by kernel_rfl) (fun _ _ _ h => h) (Or.inl ⟨by rfl, ?_⟩) hHeld ?_ ?_
                rotate_left
                · rintro w' ⟨⟨s0, s1⟩, s2, s3, s4⟩
                  go_simp
                  with_reducible rfl
                rotate_left
                · simp only [Act.put, List.setIfInBounds_toArray, List.set_cons_zero, List.set_cons_succ, i64_w, i32_w]
                  rfl
                refine pure_ (i := 22) (N := some 55) (v := ?_) (a' := ?_) #[true, true, true, true, true, true, true, true, true, true, true, true, true, true, true, false, true, true, false, false, false, false, true, false, false, false] rfl rfl (by kernel_rfl) (fun _ _ _ h => h) (Or.inl ⟨by rfl, ?_⟩) ?_ ?_
                rotate_left
                · intro w'
                  go_simp
                  with_reducible rfl
                rotate_left
                · simp only [Act.put, List.setIfInBounds_toArray, List.set_cons_zero, List.set_cons_succ, i64_w, i32_w]
                  rfl
                refine take_ (i := 23) (N := some 56) (v := ?_) (a' := ?_) #[true, true, true, true, true, true, true, true, true, true, true, true, true, true, true, false, true, true, false, false, false, false, true, true, false, false] rfl rfl (by kernel_rfl) (fun _ _ _ h => h) (Or.inl ⟨by rfl, ?_⟩) hHeld ?_ ?_
                rotate_left
                · rintro w' ⟨⟨s0, s1⟩, s2, s3, s4⟩
                  go_simp
                  with_reducible rfl
                rotate_left
                · simp only [Act.put, List.setIfInBounds_toArray, List.set_cons_zero, List.set_cons_succ, i64_w, i32_w]
                  rfl
                refine pure_ (i := 20) (N := some 53) (v := ?_) (a' := ?_) #[true, true, true, true, true, true, true, true, true, true, true, true, true, true, true, false, true, true, false, false, true, false, true, true, false, false] rfl rfl (by kernel_rfl) (fun _ _ _ h => h) (Or.inl ⟨by rfl, ?_⟩) ?_ ?_
                rotate_left
                · intro w'
                  go_simp
                  with_reducible rfl
                rotate_left
                · simp only [Act.put, List.setIfInBounds_toArray, List.set_cons_zero, List.set_cons_succ, i64_w, i32_w]
                  rfl
                refine one_ (i := 15) (N := some 48) #[true, true, true, true, true, true, true, true, true, true, true, true, true, true, true, true, true, true, false, false, true, false, true, true, false, false] rfl rfl (by kernel_rfl) (by decide) (fun K hK => ?_)
                refine goes_ Try.func24 (by kernel_rfl) rfl #[.agg #[.int .i64 a, .int .i64 b], .int .i64 t, .int .i64 (i : Int)] (by rfl) rfl rfl (by (try simp only [List.map_toArray, List.map_cons, List.map_nil]); first | done | rfl) ?_
                with_reducible refine (P.ambush_position_after.calls a b t (i : Int) q1 q2 _ HAF.out).mono ?_
                rintro e w2 ⟨rfl, hb_⟩
                refine ⟨_, rfl, ?_⟩
                have HXw2 := Aside0.mk (HXw1.out.below hb_)
                clear hb_ HXw1
                refine hK.out _ _ HXw2.out.S (fun hHeld => ?_)
                clear hK K
                clear hHeld
                have hHeld := HXw2.out.S
                refine norm_ (a' := ?_) ?_ ?_
                rotate_left
                · show Act.put _ (some 48) _ = _
                  simp only [Act.put, List.setIfInBounds_toArray, List.set_cons_zero, List.set_cons_succ, i64_w, i32_w]
                  rfl
                refine one_ (i := 18) (N := some 51) #[true, true, true, true, true, true, true, true, true, true, true, true, true, true, true, true, true, true, true, false, true, false, true, true, false, false] rfl rfl (by kernel_rfl) (by decide) (fun K hK => ?_)
                refine goes_ Try.func23 (by kernel_rfl) rfl #[.int .i64 t] (by rfl) rfl rfl (by (try simp only [List.map_toArray, List.map_cons, List.map_nil]); first | done | rfl) ?_
                with_reducible refine (P.ambush_other.calls t (3 - t) _ HOT.out).mono ?_
                rintro e w3 ⟨rfl, hb_⟩
                refine ⟨_, rfl, ?_⟩
                have HXw3 := Aside0.mk (HXw2.out.below (below_of_drawn0 hb_))
                clear hb_ HXw2
                refine hK.out _ _ HXw3.out.S (fun hHeld => ?_)
                clear hK K
                clear hHeld
                have hHeld := HXw3.out.S
                refine norm_ (a' := ?_) ?_ ?_
                rotate_left
                · show Act.put _ (some 51) _ = _
                  simp only [Act.put, List.setIfInBounds_toArray, List.set_cons_zero, List.set_cons_succ, i64_w, i32_w]
                  rfl
                refine pure_ (i := 19) (N := some 52) (v := ?_) (a' := ?_) #[true, true, true, true, true, true, true, true, true, true, true, true, true, true, true, true, true, true, true, true, true, false, true, true, false, false] rfl rfl (by kernel_rfl) (fun _ _ _ h => h) (Or.inl ⟨by rfl, ?_⟩) ?_ ?_
                rotate_left
                · intro w'
                  go_simp
                  with_reducible rfl
                rotate_left
                · simp only [Act.put, List.setIfInBounds_toArray, List.set_cons_zero, List.set_cons_succ, i64_w, i32_w]
                  rfl
                refine one_ (i := 21) (N := some 54) #[true, true, true, true, true, true, true, true, true, true, true, true, true, true, true, true, true, true, true, true, true, true, true, true, false, false] rfl rfl (by kernel_rfl) (by decide) (fun K hK => ?_)
                refine goes_ Try.func15 (by kernel_rfl) rfl #[.agg #[.int .i64 m, .slice A l.length c], .agg #[.int .i64 q1, .int .i64 q2, .int .i64 (3 - t)], .map (some g)] (by rfl) rfl rfl (by (try simp only [List.map_toArray, List.map_cons, List.map_nil]); first | done | rfl) ?_
                with_reducible refine (HI2.out _ g A c HXw3.out.hm HXw3.out.hr HLC.out).mono ?_
                rintro e w4 ⟨rfl, hm_, hg_⟩
                refine ⟨_, rfl, ?_⟩
                have HXw4 := Aside0.mk (HXw3.out.grown hg_ hm_)
                clear HXw3 hm_ hg_
                refine hK.out _ _ HXw4.out.S (fun hHeld => ?_)
                clear hK K
                clear hHeld
                have hHeld := HXw4.out.S
                refine norm_ (a' := ?_) ?_ ?_
                rotate_left
                · show Act.put _ (some 54) _ = _
                  simp only [Act.put, List.setIfInBounds_toArray, List.set_cons_zero, List.set_cons_succ, i64_w, i32_w]
                  rfl
                refine pure_ (i := 24) (N := some 57) (v := ?_) (a' := ?_) #[true, true, true, true, true, true, true, true, true, true, true, true, true, true, true, true, true, true, true, true, true, true, true, true, true, false] rfl rfl (by kernel_rfl) (fun _ _ _ h => h) (Or.inl ⟨by rfl, ?_⟩) ?_ ?_
                rotate_left
                · intro w'
                  go_simp
                  with_reducible rfl
                rotate_left
                · simp only [Act.put, List.setIfInBounds_toArray, List.set_cons_zero, List.set_cons_succ, i64_w, i32_w]
                  rfl
                refine pure_ (i := 25) (N := some 58) (v := ?_) (a' := ?_) #[true, true, true, true, true, true, true, true, true, true, true, true, true, true, true, true, true, true, true, true, true, true, true, true, true, true] rfl rfl (by kernel_rfl) (fun _ _ _ h => h) (Or.inl ⟨by rfl, ?_⟩) ?_ ?_
                rotate_left
                · intro w'
                  go_simp
                  with_reducible rfl
                rotate_left
                · simp only [Act.put, List.setIfInBounds_toArray, List.set_cons_zero, List.set_cons_succ, i64_w, i32_w]
                  rfl
                refine done_ (by kernel_rfl) ?_
                clear hv0 hv1
                have HVX := Aside0.mk (show val m l a b t = t from by rw [HVE.out, HFND.out]; rfl)
                clear HVE
                obtain ⟨wu, hu, hMu, hgu⟩ := HXw4.out.hm.update HT.out
                rw [HVX.out] at hu
                have hu' : (Instr.mapUpdate 45 (.map (some g)) (.agg #[.int .i64 a, .int .i64 b, .int .i64 t]) (.int .i64 (t))).run Try.prog _ = .ok () wu := hu
                have HMU := Aside0.mk hMu
                have HGU := Aside0.mk (World.grownBy.trans HXw4.out.gr hgu)
                have uc0 := HXw4.out.c2
                have uc1 := HXw4.out.c3
                have uc2 := HXw4.out.c4
                clear hu hMu hgu
                go_wp2_with fail
                go_ret
                exact ⟨by rw [HVX.out]; first | done | rfl, HMU.out, HGU.out⟩
              · have hv0 := eq_false hvt
                have hv1 : (V == t) = false := by rw [beq_eq_false_iff_ne]; exact hvt
                have HS2 := Aside0.mk (show moveTo m l a b t i = false from by rw [HMV.out, hv1])
                clear hvt
                go_wp2_with fail
                refine start_ (n := 26) (S := Held W.heap.size m A l c a b t) (ds := []) #[false, false, false, false, false, false, false, false, false, false, false, false, false, false, false, false, false, false, false, false, false, false, false, false, false, false] (by kernel_rfl) rfl rfl (HXr.out.below (below_drew1 (Below.refl _ _))).S (fun hHeld => ?_)
                have HXd := Aside0.mk (HXr.out.below (below_drew1 (Below.refl _ _)))
                clear HXr
                refine take_ (i := 0) (N := some 33) (v := ?_) (a' := ?_) #[true, false, false, false, false, false, false, false, false, false, false, false, false, false, false, false, false, false, false, false, false, false, false, false, false, false] rfl rfl (by kernel_rfl) (fun _ _ _ h => h) (Or.inl ⟨by rfl, ?_⟩) hHeld ?_ ?_
                rotate_left
                · rintro w' ⟨⟨s0, s1⟩, s2, s3, s4⟩
                  go_simp
                  with_reducible rfl
                rotate_left
                · simp only [Act.put, List.setIfInBounds_toArray, List.set_cons_zero, List.set_cons_succ, i64_w, i32_w]
                  rfl
                refine pure_ (i := 1) (N := some 34) (v := ?_) (a' := ?_) #[true, true, false, false, false, false, false, false, false, false, false, false, false, false, false, false, false, false, false, false, false, false, false, false, false, false] rfl rfl (by kernel_rfl) (fun _ _ _ h => h) (Or.inl ⟨by rfl, ?_⟩) ?_ ?_
                rotate_left
                · intro w'
                  go_simp
                  with_reducible rfl
                rotate_left
                · simp only [Act.put, List.setIfInBounds_toArray, List.set_cons_zero, List.set_cons_succ, i64_w, i32_w]
                  rfl
                refine take_ (i := 2) (N := some 35) (v := ?_) (a' := ?_) #[true, true, true, false, false, false, false, false, false, false, false, false, false, false, false, false, false, false, false, false, false, false, false, false, false, false] rfl rfl (by kernel_rfl) (fun _ _ _ h => h) (Or.inl ⟨by rfl, ?_⟩) hHeld ?_ ?_
                rotate_left
                · rintro w' ⟨⟨s0, s1⟩, s2, s3, s4⟩
                  go_simp
                  with_reducible rfl
                rotate_left
                · simp only [Act.put, List.setIfInBounds_toArray, List.set_cons_zero, List.set_cons_succ, i64_w, i32_w]
                  rfl
                refine pure_ (i := 4) (N := some 37) (v := ?_) (a' := ?_) #[true, true, true, false, true, false, false, false, false, false, false, false, false, false, false, false, false, false, false, false, false, false, false, false, false, false] rfl rfl (by kernel_rfl) (fun _ _ _ h => h) (Or.inl ⟨by rfl, ?_⟩) ?_ ?_
                rotate_left
                · intro w'
                  go_simp
                  with_reducible rfl
                rotate_left
                · simp only [Act.put, List.setIfInBounds_toArray, List.set_cons_zero, List.set_cons_succ, i64_w, i32_w]
                  rfl
                refine one_ (i := 3) (N := some 36) #[true, true, true, true, true, false, false, false, false, false, false, false, false, false, false, false, false, false, false, false, false, false, false, false, false, false] rfl rfl (by kernel_rfl) (by decide) (fun K hK => ?_)
                refine goes_ Try.func22 (by kernel_rfl) rfl #[.agg #[.int .i64 m, .slice A l.length c], .agg #[.int .i64 a, .int .i64 b]] (by rfl) rfl rfl (by (try simp only [List.map_toArray, List.map_cons, List.map_nil]); first | done | rfl) ?_
                with_reducible refine (P.ambush_field_free.calls m A c l a b F _ HXd.out.hr HLC.out HFF.out).mono ?_
                rintro e w1 ⟨rfl, hb_⟩
                refine ⟨_, rfl, ?_⟩
                have HXw1 := Aside0.mk (HXd.out.below hb_)
                clear hb_ HXd
                refine hK.out _ _ HXw1.out.S (fun hHeld => ?_)
                clear hK K
                clear hHeld
                have hHeld := HXw1.out.S
                refine norm_ (a' := ?_) ?_ ?_
                rotate_left
                · show Act.put _ (some 36) _ = _
                  simp only [Act.put, List.setIfInBounds_toArray, List.set_cons_zero, List.set_cons_succ, i64_w, i32_w]
                  rfl
                refine pure_ (i := 5) (N := some 38) (v := ?_) (a' := ?_) #[true, true, true, true, true, true, false, false, false, false, false, false, false, false, false, false, false, false, false, false, false, false, false, false, false, false] rfl rfl (by kernel_rfl) (fun _ _ _ h => h) (Or.inl ⟨by rfl, ?_⟩) ?_ ?_
                rotate_left
                · intro w'
                  go_simp
                  with_reducible rfl
                rotate_left
                · simp only [Act.put, List.setIfInBounds_toArray, List.set_cons_zero, List.set_cons_succ, i64_w, i32_w]
                  rfl
                refine pure_ (i := 6) (N := some 39) (v := ?_) (a' := ?_) #[true, true, true, true, true, true, true, false, false, false, false, false, false, false, false, false, false, false, false, false, false, false, false, false, false, false] rfl rfl (by kernel_rfl) (fun _ _ _ h => h) (Or.inl ⟨by rfl, ?_⟩) ?_ ?_
                rotate_left
                · intro w'
                  go_simp
                  with_reducible rfl
                rotate_left
                · simp only [Act.put, List.setIfInBounds_toArray, List.set_cons_zero, List.set_cons_succ, i64_w, i32_w]
                  rfl
                refine pure_ (i := 7) (N := some 40) (v := ?_) (a' := ?_) #[true, true, true, true, true, true, true, true, false, false, false, false, false, false, false, false, false, false, false, false, false, false, false, false, false, false] rfl rfl (by kernel_rfl) (fun _ _ _ h => h) (Or.inl ⟨by rfl, ?_⟩) ?_ ?_
                rotate_left
                · intro w'
                  go_simp
                  with_reducible rfl
                rotate_left
                · simp only [Act.put, List.setIfInBounds_toArray, List.set_cons_zero, List.set_cons_succ, i64_w, i32_w]
                  rfl
                refine pure_ (i := 8) (N := some 41) (v := ?_) (a' := ?_) #[true, true, true, true, true, true, true, true, true, false, false, false, false, false, false, false, false, false, false, false, false, false, false, false, false, false] rfl rfl (by kernel_rfl) (fun _ _ _ h => h) (Or.inl ⟨by rfl, ?_⟩) ?_ ?_
                rotate_left
                · intro w'
                  go_simp
                  with_reducible rfl
                rotate_left
                · simp only [Act.put, List.setIfInBounds_toArray, List.set_cons_zero, List.set_cons_succ, i64_w, i32_w]
                  rfl
                refine take_ (i := 9) (N := some 42) (v := ?_) (a' := ?_) #[true, true, true, true, true, true, true, true, true, true, false, false, false, false, false, false, false, false, false, false, false, false, false, false, false, false] rfl rfl (by kernel_rfl) (fun _ _ _ h => h) (Or.inl ⟨by rfl, ?_⟩) hHeld ?_ ?_
                rotate_left
                · rintro w' ⟨⟨s0, s1⟩, s2, s3, s4⟩
                  go_simp
                  with_reducible rfl
                rotate_left
                · simp only [Act.put, List.setIfInBounds_toArray, List.set_cons_zero, List.set_cons_succ, i64_w, i32_w]
                  rfl
                refine pure_ (i := 10) (N := some 43) (v := ?_) (a' := ?_) #[true, true, true, true, true, true, true, true, true, true, true, false, false, false, false, false, false, false, false, false, false, false, false, false, false, false] rfl rfl (by kernel_rfl) (fun _ _ _ h => h) (Or.inl ⟨by rfl, ?_⟩) ?_ ?_
                rotate_left
                · intro w'
                  go_simp
                  with_reducible rfl
                rotate_left
                · simp only [Act.put, List.setIfInBounds_toArray, List.set_cons_zero, List.set_cons_succ, i64_w, i32_w]
                  rfl
                refine take_ (i := 11) (N := some 44) (v := ?_) (a' := ?_) #[true, true, true, true, true, true, true, true, true, true, true, true, false, false, false, false, false, false, false, false, false, false, false, false, false, false] rfl rfl (by kernel_rfl) (fun _ _ _ h => h) (Or.inl ⟨by rfl, ?_⟩) hHeld ?_ ?_
                rotate_left
                · rintro w' ⟨⟨s0, s1⟩, s2, s3, s4⟩
                  go_simp
                  with_reducible rfl
                rotate_left
                · simp only [Act.put, List.setIfInBounds_toArray, List.set_cons_zero, List.set_cons_succ, i64_w, i32_w]
                  rfl
                refine pure_ (i := 12) (N := some 45) (v := ?_) (a' := ?_) #[true, true, true, true, true, true, true, true, true, true, true, true, true, false, false, false, false, false, false, false, false, false, false, false, false, false] rfl rfl (by kernel_rfl) (fun _ _ _ h => h) (Or.inl ⟨by rfl, ?_⟩) ?_ ?_
                rotate_left
                · intro w'
                  go_simp
                  with_reducible rfl
                rotate_left
                · simp only [Act.put, List.setIfInBounds_toArray, List.set_cons_zero, List.set_cons_succ, i64_w, i32_w]
                  rfl
                refine take_ (i := 13) (N := some 46) (v := ?_) (a' := ?_) #[true, true, true, true, true, true, true, true, true, true, true, true, true, true, false, false, false, false, false, false, false, false, false, false, false, false] rfl rfl (by kernel_rfl) (fun _ _ _ h => h) (Or.inl ⟨by rfl, ?_⟩) hHeld ?_ ?_
                rotate_left
                · rintro w' ⟨⟨s0, s1⟩, s2, s3, s4⟩
                  go_simp
                  with_reducible rfl
                rotate_left
                · simp only [Act.put, List.setIfInBounds_toArray, List.set_cons_zero, List.set_cons_succ, i64_w, i32_w]
                  rfl
                refine pure_ (i := 14) (N := some 47) (v := ?_) (a' := ?_) #[true, true, true, true, true, true, true, true, true, true, true, true, true, true, true, false, false, false, false, false, false, false, false, false, false, false] rfl rfl (by kernel_rfl) (fun _ _ _ h => h) (Or.inl ⟨by rfl, ?_⟩) ?_ ?_
                rotate_left
                · intro w'
                  go_simp
                  with_reducible rfl
                rotate_left
                · simp only [Act.put, List.setIfInBounds_toArray, List.set_cons_zero, List.set_cons_succ, i64_w, i32_w]
                  rfl
                refine pure_ (i := 16) (N := some 49) (v := ?_) (a' := ?_) #[true, true, true, true, true, true, true, true, true, true, true, true, true, true, true, false, true, false, false, false, false, false, false, false, false, false] rfl rfl (by kernel_rfl) (fun _ _ _ h => h) (Or.inl ⟨by rfl, ?_⟩) ?_ ?_
                rotate_left
                · intro w'
                  go_simp
                  with_reducible rfl
                rotate_left
                · simp only [Act.put, List.setIfInBounds_toArray, List.set_cons_zero, List.set_cons_succ, i64_w, i32_w]
                  rfl
                refine take_ (i := 17) (N := some 50) (v := ?_) (a' := ?_) #[true, true, true, true, true, true, true, true, true, true, true, true, true, true, true, false, true, true, false, false, false, false, false, false, false, false] rfl rfl (by kernel_rfl) (fun _ _ _ h => h) (Or.inl ⟨by rfl, ?_⟩) hHeld ?_ ?_
                rotate_left
                · rintro w' ⟨⟨s0, s1⟩, s2, s3, s4⟩
                  go_simp
                  with_reducible rfl
                rotate_left
                · simp only [Act.put, List.setIfInBounds_toArray, List.set_cons_zero, List.set_cons_succ, i64_w, i32_w]
                  rfl
                refine pure_ (i := 22) (N := some 55) (v := ?_) (a' := ?_) #[true, true, true, true, true, true, true, true, true, true, true, true, true, true, true, false, true, true, false, false, false, false, true, false, false, false] rfl rfl (by kernel_rfl) (fun _ _ _ h => h) (Or.inl ⟨by rfl, ?_⟩) ?_ ?_
                rotate_left
                · intro w'
                  go_simp
                  with_reducible rfl
                rotate_left
                · simp only [Act.put, List.setIfInBounds_toArray, List.set_cons_zero, List.set_cons_succ, i64_w, i32_w]
                  rfl
                refine take_ (i := 23) (N := some 56) (v := ?_) (a' := ?_) #[true, true, true, true, true, true, true, true, true, true, true, true, true, true, true, false, true, true, false, false, false, false, true, true, false, false] rfl rfl (by kernel_rfl) (fun _ _ _ h => h) (Or.inl ⟨by rfl, ?_⟩) hHeld ?_ ?_
                rotate_left
                · rintro w' ⟨⟨s0, s1⟩, s2, s3, s4⟩
                  go_simp
                  with_reducible rfl
                rotate_left
                · simp only [Act.put, List.setIfInBounds_toArray, List.set_cons_zero, List.set_cons_succ, i64_w, i32_w]
                  rfl
                refine pure_ (i := 20) (N := some 53) (v := ?_) (a' := ?_) #[true, true, true, true, true, true, true, true, true, true, true, true, true, true, true, false, true, true, false, false, true, false, true, true, false, false] rfl rfl (by kernel_rfl) (fun _ _ _ h => h) (Or.inl ⟨by rfl, ?_⟩) ?_ ?_
                rotate_left
                · intro w'
                  go_simp
                  with_reducible rfl
                rotate_left
                · simp only [Act.put, List.setIfInBounds_toArray, List.set_cons_zero, List.set_cons_succ, i64_w, i32_w]
                  rfl
                refine one_ (i := 15) (N := some 48) #[true, true, true, true, true, true, true, true, true, true, true, true, true, true, true, true, true, true, false, false, true, false, true, true, false, false] rfl rfl (by kernel_rfl) (by decide) (fun K hK => ?_)
                refine goes_ Try.func24 (by kernel_rfl) rfl #[.agg #[.int .i64 a, .int .i64 b], .int .i64 t, .int .i64 (i : Int)] (by rfl) rfl rfl (by (try simp only [List.map_toArray, List.map_cons, List.map_nil]); first | done | rfl) ?_
                with_reducible refine (P.ambush_position_after.calls a b t (i : Int) q1 q2 _ HAF.out).mono ?_
                rintro e w2 ⟨rfl, hb_⟩
                refine ⟨_, rfl, ?_⟩
                have HXw2 := Aside0.mk (HXw1.out.below hb_)
                clear hb_ HXw1
                refine hK.out _ _ HXw2.out.S (fun hHeld => ?_)
                clear hK K
                clear hHeld
                have hHeld := HXw2.out.S
                refine norm_ (a' := ?_) ?_ ?_
                rotate_left
                · show Act.put _ (some 48) _ = _
                  simp only [Act.put, List.setIfInBounds_toArray, List.set_cons_zero, List.set_cons_succ, i64_w, i32_w]
                  rfl
                refine one_ (i := 18) (N := some 51) #[true, true, true, true, true, true, true, true, true, true, true, true, true, true, true, true, true, true, true, false, true, false, true, true, false, false] rfl rfl (by kernel_rfl) (by decide) (fun K hK => ?_)
                refine goes_ Try.func23 (by kernel_rfl) rfl #[.int .i64 t] (by rfl) rfl rfl (by (try simp only [List.map_toArray, List.map_cons, List.map_nil]); first | done | rfl) ?_
                with_reducible refine (P.ambush_other.calls t (3 - t) _ HOT.out).mono ?_
                rintro e w3 ⟨rfl, hb_⟩
                refine ⟨_, rfl, ?_⟩
                have HXw3 := Aside0.mk (HXw2.out.below (below_of_drawn0 hb_))
                clear hb_ HXw2
                refine hK.out _ _ HXw3.out.S (fun hHeld => ?_)
                clear hK K
                clear hHeld
                have hHeld := HXw3.out.S
                refine norm_ (a' := ?_) ?_ ?_
                rotate_left
                · show Act.put _ (some 51) _ = _
                  simp only [Act.put, List.setIfInBounds_toArray, List.set_cons_zero, List.set_cons_succ, i64_w, i32_w]
                  rfl
                refine pure_ (i := 19) (N := some 52) (v := ?_) (a' := ?_) #[true, true, true, true, true, true, true, true, true, true, true, true, true, true, true, true, true, true, true, true, true, false, true, true, false, false] rfl rfl (by kernel_rfl) (fun _ _ _ h => h) (Or.inl ⟨by rfl, ?_⟩) ?_ ?_
                rotate_left
                · intro w'
                  go_simp
                  with_reducible rfl
                rotate_left
                · simp only [Act.put, List.setIfInBounds_toArray, List.set_cons_zero, List.set_cons_succ, i64_w, i32_w]
                  rfl
                refine one_ (i := 21) (N := some 54) #[true, true, true, true, true, true, true, true, true, true, true, true, true, true, true, true, true, true, true, true, true, true, true, true, false, false] rfl rfl (by kernel_rfl) (by decide) (fun K hK => ?_)
                refine goes_ Try.func15 (by kernel_rfl) rfl #[.agg #[.int .i64 m, .slice A l.length c], .agg #[.int .i64 q1, .int .i64 q2, .int .i64 (3 - t)], .map (some g)] (by rfl) rfl rfl (by (try simp only [List.map_toArray, List.map_cons, List.map_nil]); first | done | rfl) ?_
                with_reducible refine (HI2.out _ g A c HXw3.out.hm HXw3.out.hr HLC.out).mono ?_
                rintro e w4 ⟨rfl, hm_, hg_⟩
                refine ⟨_, rfl, ?_⟩
                have HXw4 := Aside0.mk (HXw3.out.grown hg_ hm_)
                clear HXw3 hm_ hg_
                refine hK.out _ _ HXw4.out.S (fun hHeld => ?_)
                clear hK K
                clear hHeld
                have hHeld := HXw4.out.S
                refine norm_ (a' := ?_) ?_ ?_
                rotate_left
                · show Act.put _ (some 54) _ = _
                  simp only [Act.put, List.setIfInBounds_toArray, List.set_cons_zero, List.set_cons_succ, i64_w, i32_w]
                  rfl
                refine pure_ (i := 24) (N := some 57) (v := ?_) (a' := ?_) #[true, true, true, true, true, true, true, true, true, true, true, true, true, true, true, true, true, true, true, true, true, true, true, true, true, false] rfl rfl (by kernel_rfl) (fun _ _ _ h => h) (Or.inl ⟨by rfl, ?_⟩) ?_ ?_
                rotate_left
                · intro w'
                  go_simp
                  with_reducible rfl
                rotate_left
                · simp only [Act.put, List.setIfInBounds_toArray, List.set_cons_zero, List.set_cons_succ, i64_w, i32_w]
                  rfl
                refine pure_ (i := 25) (N := some 58) (v := ?_) (a' := ?_) #[true, true, true, true, true, true, true, true, true, true, true, true, true, true, true, true, true, true, true, true, true, true, true, true, true, true] rfl rfl (by kernel_rfl) (fun _ _ _ h => h) (Or.inl ⟨by rfl, ?_⟩) ?_ ?_
                rotate_left
                · intro w'
                  go_simp
                  with_reducible rfl
                rotate_left
                · simp only [Act.put, List.setIfInBounds_toArray, List.set_cons_zero, List.set_cons_succ, i64_w, i32_w]
                  rfl
                refine done_ (by kernel_rfl) ?_
                clear hv0 hv1
                go_wp2_with fail
                go_roundw
                case rel => exact ⟨i + 1, by go_num, rfl, ⟨by omega⟩, ⟨by rw [HS.out, HS2.out]⟩, HXw4⟩
                case measure => simp [intOf]; omega
          · have hie := Aside0.mk (show i = m.toNat from by omega)
            have HVX := Aside0.mk (show val m l a b t = 3 - t from by rw [HVE.out, ← hie.out, HN.out]; rfl)
            clear HVE
            obtain ⟨wu, hu, hMu, hgu⟩ := HXr.out.hm.update HT.out
            rw [HVX.out] at hu
            have hu' : (Instr.mapUpdate 45 (.map (some g)) (.agg #[.int .i64 a, .int .i64 b, .int .i64 t]) (.int .i64 (3 - t))).run Try.prog _ = .ok () wu := hu
            have HMU := Aside0.mk hMu
            have HGU := Aside0.mk (World.grownBy.trans HXr.out.gr hgu)
            have uc0 := HXr.out.c2
            have uc1 := HXr.out.c3
            have uc2 := HXr.out.c4
            clear hu hMu hgu
            go_wp2_with fail
            go_ret
            exact ⟨by rw [HVX.out]; first | done | rfl, HMU.out, HGU.out⟩
theorem win_all {m : Int} (h1 : 1 ≤ m) (h5 : m ≤ 5) (l : List Int) : ∀ n, WinC n m l
  | 0 => fun a b t _ h => absurd h (Nat.not_lt_zero _)
  | n + 1 => win_succ h1 h5 (win_all h1 h5 l n)
end Go.Proofs.Ytldakfaolagoiaa.Tb
