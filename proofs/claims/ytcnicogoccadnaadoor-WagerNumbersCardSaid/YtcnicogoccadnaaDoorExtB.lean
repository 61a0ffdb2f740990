/- A memo of won bars: what a lookup and a store in it do. -/
import Derived.Test.YtcnicogoccadnaaDoorProg
import Derived.Below
import Derived.Deep.Draws
import Derived.Deep.AppendLies
import Derived.Maps.AppendAt
import Derived.OwnWalk
import Derived.Laws.BytesArg
import Derived.Laws.MakeOwn
import Derived.Laws.OwnMore
import Derived.Deep.OwnRows
import Derived.Tactics
import Derived.Lib.ConvBytes
import Derived.Laws.Slices
import Derived.WalkKit
import Derived.KernelRfl
import Derived.RowKit3
import Derived.Deep.LoopGhost
import Derived.Deep.QuietTactic
import Derived.BigQuiet
import Derived.WideLaws
import Derived.Deep.DeepCutAuto
import Derived.Deep.CutBlock
import Derived.Deep.RegionHeld3
import Derived.Laws.Rows
import Derived.Lib.AppendStr
import Derived.ArgAppend
import Derived.Laws.IdiomCopy
import Derived.OrdersHeld
import Derived.Laws.BitsLemmas
import Derived.RowKit
import Derived.Test.YtcnicogoccadnaaDoorWWords
import Derived.Test.YtcnicogoccadnaaDoorWLast
import Derived.Test.YtcnicogoccadnaaDoorWTab
import Derived.Test.YtcnicogoccadnaaDoorWFour
import Derived.Test.YtcnicogoccadnaaDoorWQPut
import Derived.Test.YtcnicogoccadnaaDoorWApart
import Derived.Test.YtcnicogoccadnaaDoorWArr
import Derived.Test.YtcnicogoccadnaaDoorWZeros
import Derived.Test.YtcnicogoccadnaaDoorWFoot
import Derived.Test.YtcnicogoccadnaaDoorWKept
import Derived.Test.YtcnicogoccadnaaDoorWShare
import Derived.Test.YtcnicogoccadnaaDoorWN
import Derived.Test.YtcnicogoccadnaaDoorWFootNe
import Derived.Test.YtcnicogoccadnaaDoorWAt
import Derived.Test.YtcnicogoccadnaaDoorWEqStruct
import Derived.Test.YtcnicogoccadnaaDoorWRepsOne
import Derived.Test.YtcnicogoccadnaaDoorWInv
import Derived.Test.YtcnicogoccadnaaDoorWInvWords
import Derived.Test.YtcnicogoccadnaaDoorWGuard
import Derived.Test.YtcnicogoccadnaaDoorWNEv
import Derived.Test.YtcnicogoccadnaaDoorWMore
import Derived.Maps.OwnOps
import Derived.DeepKeys4
import Derived.Test.YtcnicogoccadnaaDoorExtA
import Derived.Test.YtcnicogoccadnaaDoorChomp
namespace Go.Proofs.YtcnicogoccadnaaDoor.Ext
open Go.RowKit Go.Proofs.YtcnicogoccadnaaDoorW.PrintWords Go.Proofs.YtcnicogoccadnaaDoorW.PrintLast Go.Proofs.YtcnicogoccadnaaDoorW.PrintMore
set_option linter.unusedVariables false
set_option linter.unusedSimpArgs false

/-- a bar as the machine holds it -/
def bv (xs : List Int) : Value := .agg (xs.map (Value.int .i64)).toArray
theorem laidOutP : laidOutB Tryd.prog = true := by kernel_rfl

theorem barKeyed : Go.Maps.Keyed Tryd.prog 61 :=
  Go.Maps.Keyed.of_law (deep_law_laid laidOutP (m := 2) (by decide) (of_decide_eq_true (by kernel_rfl)) (by kernel_rfl) (by kernel_rfl))

theorem key_int {x : Int} (h : 0 ≤ x ∧ x ≤ 7) (d : Nat) : Tryd.prog.keyLits (d + 1) 3 [.int .i64 x] = some [.int .i64 x] := by
  have hw : (Lit.int .i64 x).wf = true := by
    have h1 : IntKind.i64.min = -9223372036854775808 := by decide
    have h2 : IntKind.i64.max = 9223372036854775807 := by decide
    simp only [Lit.wf, h1, h2, Bool.and_eq_true, decide_eq_true_eq]
    omega
  simp [Program.keyLits, Tryd.underlying3, hw]

theorem bar_key {xs : List Int} (h : Bar xs) : ∃ l, keyOf Tryd.prog 61 (bv xs) = some l := by
  obtain ⟨a, b, c, d, e, f, rfl⟩ := six h.1
  have hk : ∀ x ∈ [a, b, c, d, e, f], ∀ D, Tryd.prog.keyLits (D + 1) 3 [.int .i64 x] = some [.int .i64 x] := fun x hx => key_int (h.2 x hx)
  have ha := hk a (by simp)
  have hb := hk b (by simp)
  have hc := hk c (by simp)
  have hd := hk d (by simp)
  have he := hk e (by simp)
  have hf := hk f (by simp)
  have ht : Tryd.prog.keyType 61 = true := by kernel_rfl
  have hfo : (bv [a, b, c, d, e, f]).formed Tryd.prog 61 = true := by kernel_rfl
  have hs : Tryd.prog.types.size = 88 := by kernel_rfl
  have c6 : Tryd.prog.cellsOf 61 = 6 := by kernel_rfl
  have c3 : Tryd.prog.cellsOf 3 = 1 := by kernel_rfl
  have hl : Tryd.prog.keyLits (88 + 1) 61 (bv [a, b, c, d, e, f]).cells.toList = some [.int .i64 a, .int .i64 b, .int .i64 c, .int .i64 d, .int .i64 e, .int .i64 f] := by
    show Tryd.prog.keyLits (88 + 1) 61 [.int .i64 a, .int .i64 b, .int .i64 c, .int .i64 d, .int .i64 e, .int .i64 f] = _
    unfold Program.keyLits
    simp [Tryd.underlying61, c6, c3, List.range_succ, ha, hb, hc, hd, he, hf]
  refine ⟨.string (keyBytes [.int .i64 a, .int .i64 b, .int .i64 c, .int .i64 d, .int .i64 e, .int .i64 f]), ?_⟩
  unfold keyOf
  rw [Tryd.underlying61]
  simp only [ht, hfo, Bool.and_self, if_true, hs, hl, Option.map_some]

theorem bv_inj {xs ys : List Int} (h : bv xs = bv ys) : xs = ys := by
  unfold bv at h
  injection h with h
  have h2 : xs.map (Value.int .i64) = ys.map (Value.int .i64) := by simpa using congrArg Array.toList h
  clear h
  induction xs generalizing ys with
  | nil => cases ys with
    | nil => rfl
    | cons y ys => simp at h2
  | cons x xs ih => cases ys with
    | nil => simp at h2
    | cons y ys =>
      simp only [List.map_cons, List.cons.injEq, Value.int.injEq, true_and] at h2
      rw [h2.1, ih h2.2]

/-- block g is a map from bars to bools, each told by F -/
def Memo (F : List Int → Bool) (w : World) (g : Nat) : Prop :=
  ∃ es clock, w.heap[g]? = some (.map es clock) ∧ ∀ e ∈ es.toList, ∃ xs, Bar xs ∧ e.key = bv xs ∧ e.val = .bool (F xs)

theorem Memo.made (F : List Int → Bool) (w : World) : Memo F (w.alloc (.map #[] 0)) w.heap.size :=
  ⟨#[], 0, heap_alloc_new _ _, by simp⟩
theorem Memo.lt {F : List Int → Bool} {w : World} {g : Nat} (h : Memo F w g) : g < w.heap.size := by
  obtain ⟨es, clock, hb, _⟩ := h
  exact blk_lt hb
theorem Memo.move {F : List Int → Bool} {w w1 : World} {g : Nat} (h : Memo F w g) (hm : w1.heap[g]? = w.heap[g]?) : Memo F w1 g := by
  obtain ⟨es, clock, hb, r⟩ := h
  exact ⟨es, clock, hm.trans hb, r⟩
theorem Memo.below {F : List Int → Bool} {w w1 : World} {g : Nat} (h : Memo F w g) (hb : Below w.heap.size w w1) : Memo F w1 g :=
  h.move (hb.block g h.lt)

theorem Memo.keys {F : List Int → Bool} {es : Array MapEntry} (r : ∀ e ∈ es.toList, ∃ xs, Bar xs ∧ e.key = bv xs ∧ e.val = .bool (F xs)) : ∀ e ∈ es.toList, ∃ l, keyOf Tryd.prog 61 e.key = some l := by
  intro e he
  obtain ⟨xs, hb, hk, _⟩ := r e he
  rw [hk]; exact bar_key hb

/-- 'w, is := t[b]' -/
theorem Memo.lookup {F : List Int → Bool} {w : World} {g : Nat} (h : Memo F w g) {xs : List Int} (hx : Bar xs) :
    (Instr.lookup 58 (.map (some g)) (bv xs) true).run Tryd.prog w = .ok (.tuple #[.bool false, .bool false]) w ∨
    (Instr.lookup 58 (.map (some g)) (bv xs) true).run Tryd.prog w = .ok (.tuple #[.bool (F xs), .bool true]) w := by
  obtain ⟨es, clock, hb, r⟩ := h
  obtain ⟨l, hl⟩ := bar_key hx
  have hz : (zeroValue 4).run Tryd.prog w = .ok (.bool false) w := by kernel_rfl
  have K := barKeyed
  rcases K.find w hl es.toList (Memo.keys r) with ⟨h1, _⟩ | ⟨j, e0, h1, h2, h3⟩
  · left
    simp [Instr.lookup, run_underlying Tryd.underlying58, MapKept.run_getObj_map hb, K.check w _ hl, h1, hz, Result.andThen]
  · right
    obtain ⟨ys, hy, hk, hv⟩ := r e0 (List.mem_of_getElem? h2)
    have e : ys = xs := bv_inj (hk.symm.trans h3)
    subst e
    simp [Instr.lookup, run_underlying Tryd.underlying58, MapKept.run_getObj_map hb, K.check w _ hl, h1, hv, Result.andThen]

/-- 't[b] = w' -/
theorem Memo.update {F : List Int → Bool} {w : World} {g : Nat} (h : Memo F w g) {xs : List Int} (hx : Bar xs) :
    ∃ w', (Instr.mapUpdate 58 (.map (some g)) (bv xs) (.bool (F xs))).run Tryd.prog w = .ok () w' ∧ Memo F w' g ∧ w.grownBy w' (some g) := by
  obtain ⟨es, clock, hb, r⟩ := h
  obtain ⟨l, hl⟩ := bar_key hx
  have K := barKeyed
  have hg : ∀ o : Obj, w.grownBy (Go.ChangeMaps.setBlock w g o) (some g) := fun o =>
    ⟨rfl, rfl, rfl, by simp [Go.ChangeMaps.setBlock], fun i hi hne => by
      have : g ≠ i := fun e => hne (by rw [e])
      simp [Go.ChangeMaps.setBlock, Array.getElem?_setIfInBounds, this]⟩
  have hat : ∀ o : Obj, (Go.ChangeMaps.setBlock w g o).heap[g]? = some o := fun o => by
    have := blk_lt hb
    simp [Go.ChangeMaps.setBlock, Array.getElem?_setIfInBounds, this]
  rcases K.find w hl es.toList (Memo.keys r) with ⟨h1, _⟩ | ⟨j, e0, h1, h2, h3⟩
  · refine ⟨Go.ChangeMaps.setBlock w g (.map (es.push { key := bv xs, val := .bool (F xs), born := clock }) (clock + 1)), ?_, ⟨_, _, hat _, ?_⟩, hg _⟩
    · simp [Instr.mapUpdate, run_underlying Tryd.underlying58, MapKept.run_getObj_map hb, K.check w _ hl, h1, MapKept.run_setObj_map _ hb, Result.andThen, Go.ChangeMaps.setBlock]
    · intro e he
      simp only [Array.toList_push, List.mem_append, List.mem_singleton] at he
      rcases he with he | rfl
      · exact r e he
      · exact ⟨xs, hx, rfl, rfl⟩
  · have hj : es[j]? = some e0 := by simpa using h2
    refine ⟨Go.ChangeMaps.setBlock w g (.map (es.modify j fun e => { e with key := bv xs, val := .bool (F xs) }) clock), ?_, ⟨_, _, hat _, ?_⟩, hg _⟩
    · simp [Instr.mapUpdate, run_underlying Tryd.underlying58, MapKept.run_getObj_map hb, K.check w _ hl, h1, hj, h3, K.stays w hl, MapKept.run_setObj_map _ hb, Result.andThen, Go.ChangeMaps.setBlock]
    · intro e he
      rw [Array.toList_modify] at he
      rcases List.mem_iff_getElem?.1 he with ⟨i, hi⟩
      rw [List.getElem?_modify] at hi
      cases hq : es.toList[i]? with
      | none => rw [hq] at hi; simp at hi
      | some q =>
        rw [hq] at hi
        by_cases hji : j = i
        · simp [hji] at hi
          subst hi
          exact ⟨xs, hx, rfl, rfl⟩
        · simp [hji] at hi
          subst hi
          exact r q (List.mem_of_getElem? hq)

end Go.Proofs.YtcnicogoccadnaaDoor.Ext
