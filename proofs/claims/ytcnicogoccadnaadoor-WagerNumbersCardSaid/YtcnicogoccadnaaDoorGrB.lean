/- Grundy: its closures and what they come to. -/
import Derived.Test.YtcnicogoccadnaaDoorProg
import Derived.Below
import Derived.Deep.Draws
import Derived.Deep.AppendLies
import Derived.Maps.AppendAt
import Derived.OwnWalk
import Derived.Laws.BytesArg
import Derived.Laws.MakeOwn
import Derived.Laws.OwnMore
import Derived.Deep.OwnRows
import Derived.Tactics
import Derived.Lib.ConvBytes
import Derived.Laws.Slices
import Derived.WalkKit
import Derived.KernelRfl
import Derived.RowKit3
import Derived.Deep.LoopGhost
import Derived.Deep.QuietTactic
import Derived.BigQuiet
import Derived.WideLaws
import Derived.Deep.DeepCutAuto
import Derived.Deep.CutBlock
import Derived.Deep.RegionHeld3
import Derived.Laws.Rows
import Derived.Lib.AppendStr
import Derived.ArgAppend
import Derived.Laws.IdiomCopy
import Derived.OrdersHeld
import Derived.Laws.BitsLemmas
import Derived.RowKit
import Derived.Test.YtcnicogoccadnaaDoorWWords
import Derived.Test.YtcnicogoccadnaaDoorWLast
import Derived.Test.YtcnicogoccadnaaDoorWTab
import Derived.Test.YtcnicogoccadnaaDoorWFour
import Derived.Test.YtcnicogoccadnaaDoorWQPut
import Derived.Test.YtcnicogoccadnaaDoorWApart
import Derived.Test.YtcnicogoccadnaaDoorWArr
import Derived.Test.YtcnicogoccadnaaDoorWZeros
import Derived.Test.YtcnicogoccadnaaDoorWFoot
import Derived.Test.YtcnicogoccadnaaDoorWKept
import Derived.Test.YtcnicogoccadnaaDoorWShare
import Derived.Test.YtcnicogoccadnaaDoorWN
import Derived.Test.YtcnicogoccadnaaDoorWFootNe
import Derived.Test.YtcnicogoccadnaaDoorWAt
import Derived.Test.YtcnicogoccadnaaDoorWEqStruct
import Derived.Test.YtcnicogoccadnaaDoorWRepsOne
import Derived.Test.YtcnicogoccadnaaDoorWInv
import Derived.Test.YtcnicogoccadnaaDoorWInvWords
import Derived.Test.YtcnicogoccadnaaDoorWGuard
import Derived.Test.YtcnicogoccadnaaDoorWNEv
import Derived.Test.YtcnicogoccadnaaDoorWMore
import Derived.Maps.OwnOps
import Derived.DeepKeys4
import Derived.WalkSpells
import Derived.Laws.EntriesVeiled
import Derived.Deep.RegionLawGrows
import Derived.Test.YtcnicogoccadnaaDoorGrA
import Derived.Test.YtcnicogoccadnaaDoorExtC
namespace Go.Proofs.YtcnicogoccadnaaDoor.Gr
open Go.RowKit Go.Proofs.YtcnicogoccadnaaDoorW.PrintWords Go.Proofs.YtcnicogoccadnaaDoorW.PrintLast Go.Proofs.YtcnicogoccadnaaDoorW.PrintMore
open Go.Proofs.YtcnicogoccadnaaDoor.Ext Go.Proofs.YtcnicogoccadnaaDoor.Pure
attribute [local go_sem] max2_int min2_int max_two min_two max_three min_three max_four min_four
set_option linter.unusedVariables false
set_option linter.unusedSimpArgs false

/-- the package's variable nim, and the variables of Grundy -/
structure St (W : World) (bk bn g : Nat) : Prop where
  hk : W.heap[bk]? = some (.cells #[.map (some g)] 31 (0, 0))
  hn : W.heap[bn]? = some (.cells #[.func (.func 11) #[] #[.pointer (some ⟨bk, 0, none⟩), .pointer (some ⟨bn, 0, none⟩)]] 32 (0, 0))
  hm : Memo W g
  n0 : W.cell? ⟨0, 0, none⟩ = some (.func (.func 48) #[] #[])
  n1 : W.cell? ⟨0, 1, none⟩ = some (.func (.func 49) #[] #[])
theorem map_ne {W : World} {g k t : Nat} {es : Array MapEntry} {cl : Nat} {cs : Array Value} (hg : W.heap[g]? = some (.map es cl)) (hk : W.heap[k]? = some (.cells cs t (0, 0))) : k ≠ g := by
  rintro rfl
  rw [hg] at hk
  cases hk
theorem map_ne0 {W : World} {g : Nat} {es : Array MapEntry} {cl : Nat} {v : Value} (hg : W.heap[g]? = some (.map es cl)) (h0 : W.cell? ⟨0, 0, none⟩ = some v) : 0 ≠ g := by
  rintro rfl
  simp [World.cell?, hg] at h0
theorem lt0 {W : World} {o : Nat} {v : Value} (h0 : W.cell? ⟨0, o, none⟩ = some v) : 0 < W.heap.size := World.block_lt_of_cell? W _ h0
section
variable {W W' : World} {bk bn g m : Nat}
theorem St.two (h : St W bk bn g) (ht : Two W W' g m) (hm : Memo W' g) (h1 : bk ≠ m) (h2 : bn ≠ m) (h0 : 0 ≠ m) : St W' bk bn g := by
  obtain ⟨es, cl, hg, _⟩ := h.hm
  have hb := ht.block 0 (lt0 h.n0) (map_ne0 hg h.n0) h0
  exact ⟨ht.blk h.hk (map_ne hg h.hk) h1, ht.blk h.hn (map_ne hg h.hn) h2, hm, (World.cell?_of_block (w := W) hb).trans h.n0, (World.cell?_of_block (w := W) hb).trans h.n1⟩
theorem St.grown (h : St W bk bn g) (ht : W.grownBy W' (some g)) (hm : Memo W' g) : St W' bk bn g := by
  obtain ⟨es, cl, hg, _⟩ := h.hm
  have hb := ht.block 0 (lt0 h.n0) (fun e => map_ne0 hg h.n0 (by injection e))
  exact ⟨blk_grown h.hk ht (fun e => map_ne hg h.hk (by injection e)), blk_grown h.hn ht (fun e => map_ne hg h.hn (by injection e)), hm, (World.cell?_of_block (w := W) hb).trans h.n0, (World.cell?_of_block (w := W) hb).trans h.n1⟩
theorem St.below (h : St W bk bn g) (ht : Below W.heap.size W W') : St W' bk bn g := by
  have hb := ht.block 0 (lt0 h.n0)
  exact ⟨blk_below h.hk ht, blk_below h.hn ht, h.hm.move (ht.block g h.hm.lt), (World.cell?_of_block (w := W) hb).trans h.n0, (World.cell?_of_block (w := W) hb).trans h.n1⟩
end

theorem mn_heap {a b : Nat} (h : b ≤ a) : mn (a : Int) (b : Int) = (b : Int) := by unfold mn; split <;> omega

set_option maxHeartbeats 8000000 in
theorem over_calls {a b : Nat} (h : Heap a b) (w : World) :
    Calls Tryd.prog 49 #[.agg #[.int .i64 (a : Int), .int .i64 (b : Int)]] w fun e w' => e = .returned (.bool (decide (b = 0))) ∧ Below w.heap.size w w' := by
  have hu34 := Tryd.underlying34
  have ac := heap_alloc_new w (.cells #[.int .i64 (a : Int), .int .i64 (b : Int)] 34)
  have ac0 := blk_cell ac 0
  have ac1 := blk_cell ac 1
  simp only [List.getElem?_toArray, List.getElem?_cons_zero, List.getElem?_cons_succ] at ac0 ac1
  have HA := Aside0.mk (below_alloc (Below.refl w.heap.size w) (.cells #[.int .i64 (a : Int), .int .i64 (b : Int)] 34))
  have hle := h.1
  clear ac h
  have hb : ((b : Int) == 0) = decide (b = 0) := by
    rw [Bool.eq_iff_iff, beq_iff_eq, decide_eq_true_iff]; omega
  have HBE := Aside0.mk hb
  clear hb
  rcases Nat.lt_or_ge b a with hlt | hge
  · go_enter Tryd.func49, Tryd.ntmps49
    go_wp2
    go_ret
    exact ⟨by rw [← HBE.out]; rfl, HA.out⟩
  · obtain rfl : a = b := by omega
    go_enter Tryd.func49, Tryd.ntmps49
    go_wp2
    go_ret
    exact ⟨by rw [← HBE.out]; rfl, HA.out⟩

/-- number: for heaps below n -/
def NumC (n : Nat) : Prop := ∀ (a b : Nat), Heap a b → a < n → ∀ (W : World) (bk bn g : Nat), St W bk bn g →
  Calls Tryd.prog 11 #[.agg #[.int .i64 (a : Int), .int .i64 (b : Int)], .pointer (some ⟨bk, 0, none⟩), .pointer (some ⟨bn, 0, none⟩)] W fun e W' => e = .returned (.int .i64 (val a b : Int)) ∧ Memo W' g ∧ W.grownBy W' (some g)

set_option maxHeartbeats 8000000 in
set_option maxRecDepth 100000 in
theorem found_calls {n : Nat} (IH : NumC n) {a b : Nat} (h : Heap a b) (han : a < n) (W : World) (bk bn g bm m : Nat) (S : List Int) (hS : St W bk bn g)
    (hbm : W.heap[bm]? = some (.cells #[.map (some m)] 40 (0, 0))) (hM : Met W m S) (hgm : g ≠ m) :
    Calls Tryd.prog 12 #[.agg #[.int .i64 (a : Int), .int .i64 (b : Int)], .pointer (some ⟨bm, 0, none⟩), .pointer (some ⟨bn, 0, none⟩)] W fun e W' =>
      e = .returned (.tuple #[]) ∧ Memo W' g ∧ Met W' m (S ++ [(val a b : Int)]) ∧ Two W W' g m := by
  have hu34 := Tryd.underlying34
  have hB1 := below_alloc (Below.refl W.heap.size W) (.cells #[.int .i64 (a : Int), .int .i64 (b : Int)] 34)
  have HB1 := Aside0.mk hB1
  have HS1 := Aside0.mk (hS.below hB1)
  have hbox := heap_alloc_new W (.cells #[.int .i64 (a : Int), .int .i64 (b : Int)] 34)
  have hbm1 := blk_below hbm hB1
  have HM1 := Aside0.mk (hM.move (hB1.block m hM.lt))
  have HI := Aside0.mk IH
  have HH := Aside0.mk h
  have HBM := Aside0.mk hbm
  have HMm := Aside0.mk hM
  clear hB1 hS IH h hbm hM
  go_enter Tryd.func12, Tryd.ntmps12
  go_wp2_with fail
  refine start_ (n := 5) (S := fun w' => w'.cell? ⟨bm, 0, none⟩ = some (.map (some m)) ∧ w'.cell? ⟨bn, 0, none⟩ = some (.func (.func 11) #[] #[.pointer (some ⟨bk, 0, none⟩), .pointer (some ⟨bn, 0, none⟩)]) ∧ w'.cell? ⟨W.heap.size, 0, none⟩ = some (.int .i64 (a : Int)) ∧ w'.cell? ⟨W.heap.size, 1, none⟩ = some (.int .i64 (b : Int))) (ds := [4]) #[false, false, false, false, false] (by kernel_rfl) rfl rfl ⟨(blk_cell hbm1 0).trans rfl, (blk_cell HS1.out.hn 0).trans rfl, (blk_cell hbox 0).trans rfl, (blk_cell hbox 1).trans rfl⟩ (fun hHeld => ?_)
  have HS2 := Aside0.mk (HS1.out.below (below_drew1 (Below.refl _ _)))
  have HM2 := Aside0.mk (HM1.out.move (rfl : (W.alloc (.cells #[.int .i64 (a : Int), .int .i64 (b : Int)] 34)).drew.heap[m]? = _))
  have HB2 := Aside0.mk (below_drew1 (below_alloc (Below.refl W.heap.size W) (.cells #[.int .i64 (a : Int), .int .i64 (b : Int)] 34)))
  have HBM2 := Aside0.mk (blk_below hbm1 (below_drew1 (Below.refl _ _)))
  have HBX2 := Aside0.mk (blk_below hbox (below_drew1 (Below.refl _ _)))
  clear HS1 HM1 HB1 hbm1 hbox
  generalize (W.alloc (.cells #[.int .i64 (a : Int), .int .i64 (b : Int)] 34)).drew = w10 at HS2 HM2 HB2 HBM2 HBX2 hHeld ⊢
  refine take_ (i := 0) (N := some 4) (v := ?_) (a' := ?_) #[true, false, false, false, false] rfl rfl (by kernel_rfl) (fun _ _ _ h => h) (Or.inl ⟨by rfl, ?_⟩) hHeld ?_ ?_
  rotate_left
  · rintro w' ⟨s0, s1, s2, s3⟩
    go_simp
    with_reducible rfl
  rotate_left
  · simp only [Act.put, List.setIfInBounds_toArray, List.set_cons_zero, List.set_cons_succ, i64_w, i32_w]
    rfl
  refine take_ (i := 1) (N := some 5) (v := ?_) (a' := ?_) #[true, true, false, false, false] rfl rfl (by kernel_rfl) (fun _ _ _ h => h) (Or.inl ⟨by rfl, ?_⟩) hHeld ?_ ?_
  rotate_left
  · rintro w' ⟨s0, s1, s2, s3⟩
    go_simp
    with_reducible rfl
  rotate_left
  · simp only [Act.put, List.setIfInBounds_toArray, List.set_cons_zero, List.set_cons_succ, i64_w, i32_w]
    rfl
  refine take_ (i := 2) (N := some 6) (v := ?_) (a' := ?_) #[true, true, true, false, false] rfl rfl (by kernel_rfl) (fun _ _ _ h => h) (Or.inl ⟨by rfl, ?_⟩) hHeld ?_ ?_
  rotate_left
  · rintro w' ⟨s0, s1, s2, s3⟩
    go_simp
    with_reducible rfl
  rotate_left
  · simp only [Act.put, List.setIfInBounds_toArray, List.set_cons_zero, List.set_cons_succ, i64_w, i32_w]
    rfl
  refine one_ (i := 3) (N := some 7) #[true, true, true, true, false] rfl rfl (by kernel_rfl) (by decide) (fun K hK => ?_)
  refine call_ 11 #[.agg #[.int .i64 (a : Int), .int .i64 (b : Int)], .pointer (some ⟨bk, 0, none⟩), .pointer (some ⟨bn, 0, none⟩)] (by rfl) rfl ?_ ?_
  · have he := enters_ (f := 11) Tryd.func11 (by kernel_rfl) rfl #[.agg #[.int .i64 (a : Int), .int .i64 (b : Int)], .pointer (some ⟨bk, 0, none⟩), .pointer (some ⟨bn, 0, none⟩)] w10
    unfold execOp
    simp [resolve, Deferred.ofValue, invoke, Act.eval, he]
  refine (HI.out a b HH.out han w10 bk bn g HS2.out).mono ?_
  rintro e w5 ⟨rfl, hm5, hg5⟩
  refine ⟨_, rfl, ?_⟩
  obtain ⟨es, cl, hgb, _⟩ := HS2.out.hm
  have HBM5 := Aside0.mk (blk_grown HBM2.out hg5 (fun e => map_ne hgb HBM2.out (by injection e)))
  have HBX5 := Aside0.mk (blk_grown HBX2.out hg5 (fun e => map_ne hgb HBX2.out (by injection e)))
  have HS5 := Aside0.mk (HS2.out.grown hg5 hm5)
  have HM5 := Aside0.mk (HM2.out.move (hg5.block m HM2.out.lt (fun e => hgm (by injection e with e; exact e.symm))))
  have HT5 := Aside0.mk ((Two.below HB2.out).trans (Two.of1 (m := m) hg5))
  have hvf := val_few HH.out
  obtain ⟨w6, hu, hM6, hg6⟩ := HM5.out.update (x := (val a b : Int)) (by omega)
  obtain ⟨es5, cl5, hgb5, _⟩ := HM5.out
  have HM6 := Aside0.mk hM6
  have HME6 := Aside0.mk (HS5.out.hm.move (hg6.block g HS5.out.hm.lt (fun e => hgm (by injection e))))
  have HT6 := Aside0.mk (HT5.out.trans (Two.of2 (g := g) hg6))
  clear hm5 hg5 hgb hM6 hg6 hgb5
  refine hK.out _ _ ⟨(blk_cell HBM5.out 0).trans rfl, (blk_cell HS5.out.hn 0).trans rfl, (blk_cell HBX5.out 0).trans rfl, (blk_cell HBX5.out 1).trans rfl⟩ (fun hHeld => ?_)
  clear hK K
  refine norm_ (a' := ?_) ?_ ?_
  rotate_left
  · show Act.put _ (some 7) _ = _
    simp only [Act.put, List.setIfInBounds_toArray, List.set_cons_zero, List.set_cons_succ, i64_w, i32_w]
    rfl
  refine last_ (i := 4) (N := none) #[true, true, true, true, true] rfl rfl (by kernel_rfl) (by decide) (fun K hK => ?_)
  refine skip_ (w1 := ?_) (by rfl) rfl ?_ ?_
  rotate_left
  · go_simp
    rfl
  refine hK.out _ _ ?_
  clear hK K
  refine done_ (by kernel_rfl) ?_
  try go_wp2
  go_end0
  exact ⟨rfl, HME6.out, HM6.out, HT6.out⟩

theorem q_opts_succ (out : List (List Int)) (h l : Nat) : opts out h (l + 1) = opts out h l ++ [ent out (h - (l + 1)) (min (2 * (l + 1)) (h - (l + 1)))] := by
  unfold opts
  rw [List.range_succ, List.map_append]
  rfl

theorem found_at {a b t : Nat} {x y : Int} (IH : NumC a) (h : Heap a b) (hlb : t < b) (hx : x = ((a - (t + 1) : Nat) : Int)) (hy : y = ((min (2 * (t + 1)) (a - (t + 1)) : Nat) : Int)) (W : World) (bk bn g bm m : Nat) (hS : St W bk bn g)
    (hbm : W.heap[bm]? = some (.cells #[.map (some m)] 40 (0, 0))) (hM : Met W m (opts (tabT a) a t)) (hgm : g ≠ m) :
    Calls Tryd.prog 12 #[.agg #[.int .i64 x, .int .i64 y], .pointer (some ⟨bm, 0, none⟩), .pointer (some ⟨bn, 0, none⟩)] W fun e W' =>
      e = .returned (.tuple #[]) ∧ Memo W' g ∧ Met W' m (opts (tabT a) a (t + 1)) ∧ Two W W' g m := by
  subst hx hy
  have h1 := h.1
  have h2 := h.2
  have hh : Heap (a - (t + 1)) (min (2 * (t + 1)) (a - (t + 1))) := ⟨Nat.min_le_right _ _, by omega⟩
  have hc := found_calls IH hh (by omega) W bk bn g bm m _ hS hbm hM hgm
  rw [← ent_tab (n := a) (show a - (t + 1) < a by omega) hh.1, ← q_opts_succ] at hc
  exact hc

set_option maxHeartbeats 8000000 in
set_option maxRecDepth 100000 in
theorem moves_calls {a b : Nat} (IH : NumC a) (h : Heap a b) (W : World) (bk bn g bm m : Nat) (hS : St W bk bn g)
    (hbm : W.heap[bm]? = some (.cells #[.map (some m)] 40 (0, 0))) (hM : Met W m []) (hgm : g ≠ m) :
    Calls Tryd.prog 48 #[.agg #[.int .i64 (a : Int), .int .i64 (b : Int)], .func (.func 12) #[] #[.pointer (some ⟨bm, 0, none⟩), .pointer (some ⟨bn, 0, none⟩)]] W fun e W' =>
      e = .returned (.tuple #[]) ∧ Memo W' g ∧ Met W' m (opts (tabT a) a b) ∧ Two W W' g m := by
  have hu34 := Tryd.underlying34
  have hB1 := below_alloc (Below.refl W.heap.size W) (.cells #[.int .i64 (a : Int), .int .i64 (b : Int)] 34)
  have HS1 := Aside0.mk (hS.below hB1)
  have HBX1 := Aside0.mk (heap_alloc_new W (.cells #[.int .i64 (a : Int), .int .i64 (b : Int)] 34))
  have HBM1 := Aside0.mk (blk_below hbm hB1)
  have HM1 := Aside0.mk (hM.move (hB1.block m hM.lt))
  have HT1 := Aside0.mk (Two.below (g := g) (m := m) hB1)
  have HI := Aside0.mk IH
  have HH := Aside0.mk h
  have hle := h.1
  have h200 := h.2
  clear hB1 hS IH h hbm hM
  have hcase : b < a ∨ ¬ b < a := by omega
  rcases hcase with hlt | hlt
  all_goals
    go_enter Tryd.func48, Tryd.ntmps48
    go_wp2_with fail
    go_loopw [4] (fun v4 W' => ∃ (t : Nat), v4 = .int .i64 ((t : Int) + 1) ∧ Aside0 (t ≤ b) ∧ Aside0 (St W' bk bn g) ∧ Aside0 (W'.heap[W.heap.size]? = some (.cells #[.int .i64 (a : Int), .int .i64 (b : Int)] 34 (0, 0))) ∧ Aside0 (W'.heap[bm]? = some (.cells #[.map (some m)] 40 (0, 0))) ∧ Aside0 (Met W' m (opts (tabT a) a t)) ∧ Aside0 (Two W W' g m)) (fun v4 _ => (202 - intOf v4).toNat)
    case atStart => exact ⟨0, rfl, ⟨Nat.zero_le _⟩, HS1, HBX1, HBM1, HM1, HT1⟩
    case round =>
      clear HS1 HBX1 HBM1 HM1 HT1
      obtain ⟨t, rfl, ht, HS, HBX, HBM, HM, HT⟩ := hrel
      have ht' := ht.out
      have ac0 := blk_cell HBX.out 0
      have ac1 := blk_cell HBX.out 1
      simp only [List.getElem?_toArray, List.getElem?_cons_zero, List.getElem?_cons_succ] at ac0 ac1
      by_cases hlb : t < b
      · have hlb2 : (t : Int) + 1 ≤ (b : Int) := by omega
        go_wp2_with fail
        all_goals
          refine (found_at HI.out HH.out hlb (by omega) (by omega) wr bk bn g bm m HS.out HBM.out HM.out hgm).mono ?_
          rintro e w5 ⟨rfl, hm5, hM5, ht5⟩
          obtain ⟨es, cl, hgb, _⟩ := HS.out.hm
          obtain ⟨es5, cl5, hmb, _⟩ := HM.out
          have HS5 := Aside0.mk (HS.out.two ht5 hm5 (map_ne hmb HS.out.hk) (map_ne hmb HS.out.hn) (map_ne0 hmb HS.out.n0))
          have HBX5 := Aside0.mk (ht5.blk HBX.out (map_ne hgb HBX.out) (map_ne hmb HBX.out))
          have HBM5 := Aside0.mk (ht5.blk HBM.out (map_ne hgb HBM.out) (map_ne hmb HBM.out))
          have HM5 := Aside0.mk hM5
          have HT5 := Aside0.mk (HT.out.trans ht5)
          clear hm5 hM5 ht5 hgb hmb HS HBX HBM HM HT ac0 ac1
          go_wp2
          go_roundw
          case rel => exact ⟨t + 1, by go_num, ⟨by omega⟩, HS5, HBX5, HBM5, HM5, HT5⟩
          case measure => simp [intOf]; omega
      · have hlb2 : ¬ (t : Int) + 1 ≤ (b : Int) := by omega
        have hte : t = b := by omega
        go_wp2_with fail
        go_end0
        exact ⟨rfl, HS.out.hm, by rw [← hte]; exact HM.out, HT.out⟩

end Go.Proofs.YtcnicogoccadnaaDoor.Gr
