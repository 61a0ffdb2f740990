/- The memory of Grundy: its maps of heaps and of numbers, and which blocks may change. -/
import Derived.Test.YtcnicogoccadnaaDoorProg
import Derived.Below
import Derived.Deep.Draws
import Derived.Deep.AppendLies
import Derived.Maps.AppendAt
import Derived.OwnWalk
import Derived.Laws.BytesArg
import Derived.Laws.MakeOwn
import Derived.Laws.OwnMore
import Derived.Deep.OwnRows
import Derived.Tactics
import Derived.Lib.ConvBytes
import Derived.Laws.Slices
import Derived.WalkKit
import Derived.KernelRfl
import Derived.RowKit3
import Derived.Deep.LoopGhost
import Derived.Deep.QuietTactic
import Derived.BigQuiet
import Derived.WideLaws
import Derived.Deep.DeepCutAuto
import Derived.Deep.CutBlock
import Derived.Deep.RegionHeld3
import Derived.Laws.Rows
import Derived.Lib.AppendStr
import Derived.ArgAppend
import Derived.Laws.IdiomCopy
import Derived.OrdersHeld
import Derived.Laws.BitsLemmas
import Derived.RowKit
import Derived.Test.YtcnicogoccadnaaDoorWWords
import Derived.Test.YtcnicogoccadnaaDoorWLast
import Derived.Test.YtcnicogoccadnaaDoorWTab
import Derived.Test.YtcnicogoccadnaaDoorWFour
import Derived.Test.YtcnicogoccadnaaDoorWQPut
import Derived.Test.YtcnicogoccadnaaDoorWApart
import Derived.Test.YtcnicogoccadnaaDoorWArr
import Derived.Test.YtcnicogoccadnaaDoorWZeros
import Derived.Test.YtcnicogoccadnaaDoorWFoot
import Derived.Test.YtcnicogoccadnaaDoorWKept
import Derived.Test.YtcnicogoccadnaaDoorWShare
import Derived.Test.YtcnicogoccadnaaDoorWN
import Derived.Test.YtcnicogoccadnaaDoorWFootNe
import Derived.Test.YtcnicogoccadnaaDoorWAt
import Derived.Test.YtcnicogoccadnaaDoorWEqStruct
import Derived.Test.YtcnicogoccadnaaDoorWRepsOne
import Derived.Test.YtcnicogoccadnaaDoorWInv
import Derived.Test.YtcnicogoccadnaaDoorWInvWords
import Derived.Test.YtcnicogoccadnaaDoorWGuard
import Derived.Test.YtcnicogoccadnaaDoorWNEv
import Derived.Test.YtcnicogoccadnaaDoorWMore
import Derived.Maps.OwnOps
import Derived.DeepKeys4
import Derived.WalkSpells
import Derived.Laws.EntriesVeiled
import Derived.Deep.RegionLawGrows
import Derived.Maps.Keyed
import Derived.Test.YtcnicogoccadnaaDoorExtB
import Derived.Test.YtcnicogoccadnaaDoorTab
namespace Go.Proofs.YtcnicogoccadnaaDoor.Gr
open Go.RowKit Go.Proofs.YtcnicogoccadnaaDoorW.PrintWords Go.Proofs.YtcnicogoccadnaaDoorW.PrintLast Go.Proofs.YtcnicogoccadnaaDoorW.PrintMore
open Go.Proofs.YtcnicogoccadnaaDoor.Ext Go.Proofs.YtcnicogoccadnaaDoor.Pure
set_option linter.unusedVariables false
set_option linter.unusedSimpArgs false

/-- two heaps as the machine holds them -/
def hv (a b : Int) : Value := .agg #[.int .i64 a, .int .i64 b]
theorem hv_inj {a b c d : Int} (h : hv a b = hv c d) : a = c ∧ b = d := by
  unfold hv at h
  injection h with h
  have h2 : [Value.int .i64 a, .int .i64 b] = [.int .i64 c, .int .i64 d] := by simpa using congrArg Array.toList h
  simp only [List.cons.injEq, Value.int.injEq, true_and, and_true] at h2
  exact h2
theorem hKeyed : Go.Maps.Keyed Tryd.prog 34 :=
  Go.Maps.Keyed.of_law (deep_law_laid laidOutP (m := 2) (by decide) (of_decide_eq_true (by kernel_rfl)) (by kernel_rfl) (by kernel_rfl))
theorem iKeyed : Go.Maps.Keyed Tryd.prog 3 := Go.Maps.int_keyed Tryd.underlying3
theorem wf64 {x : Int} (h : 0 ≤ x ∧ x ≤ 100000) : (Lit.int .i64 x).wf = true := by
  have h1 : IntKind.i64.min = -9223372036854775808 := by decide
  have h2 : IntKind.i64.max = 9223372036854775807 := by decide
  simp only [Lit.wf, h1, h2, Bool.and_eq_true, decide_eq_true_eq]
  omega
theorem key_num {x : Int} (h : 0 ≤ x ∧ x ≤ 100000) (d : Nat) : Tryd.prog.keyLits (d + 1) 3 [.int .i64 x] = some [.int .i64 x] := by
  simp [Program.keyLits, Tryd.underlying3, wf64 h]
theorem hv_key {a b : Int} (ha : 0 ≤ a ∧ a ≤ 100000) (hb : 0 ≤ b ∧ b ≤ 100000) : ∃ l, keyOf Tryd.prog 34 (hv a b) = some l := by
  have ka := fun D => key_num ha D
  have kb := fun D => key_num hb D
  have ht : Tryd.prog.keyType 34 = true := by kernel_rfl
  have hfo : (hv a b).formed Tryd.prog 34 = true := by kernel_rfl
  have hs : Tryd.prog.types.size = 88 := by kernel_rfl
  have c6 : Tryd.prog.cellsOf 34 = 2 := by kernel_rfl
  have c3 : Tryd.prog.cellsOf 3 = 1 := by kernel_rfl
  have hl : Tryd.prog.keyLits (88 + 1) 34 (hv a b).cells.toList = some [.int .i64 a, .int .i64 b] := by
    show Tryd.prog.keyLits (88 + 1) 34 [.int .i64 a, .int .i64 b] = _
    unfold Program.keyLits
    simp [Tryd.underlying34, c6, c3, List.range_succ, ka, kb]
  refine ⟨.string (keyBytes [.int .i64 a, .int .i64 b]), ?_⟩
  unfold keyOf
  rw [Tryd.underlying34]
  simp only [ht, hfo, Bool.and_self, if_true, hs, hl, Option.map_some]
theorem num_key {x : Int} (h : 0 ≤ x ∧ x ≤ 100000) : ∃ l, keyOf Tryd.prog 3 (.int .i64 x) = some l := by
  have ht : Tryd.prog.keyType 3 = true := by kernel_rfl
  have hfo : (Value.int .i64 x).formed Tryd.prog 3 = true := by kernel_rfl
  have hw := wf64 h
  unfold keyOf
  rw [Tryd.underlying3]
  simp [ht, hfo, hw, mapKey, Tryd.underlying3]

/-- the heaps of the game -/
def Heap (a b : Nat) : Prop := b ≤ a ∧ a ≤ 200
theorem val_few {a b : Nat} (h : Heap a b) : val a b ≤ 200 := Nat.le_trans (val_le a b) (Nat.le_trans h.1 h.2)

/-- block g is a map from heaps to their numbers -/
def Memo (w : World) (g : Nat) : Prop :=
  ∃ es clock, w.heap[g]? = some (.map es clock) ∧ ∀ e ∈ es.toList, ∃ a b : Nat, Heap a b ∧ e.key = hv (a : Int) (b : Int) ∧ e.val = .int .i64 (val a b : Int)
theorem Memo.made (w : World) : Memo (w.alloc (.map #[] 0)) w.heap.size := ⟨#[], 0, heap_alloc_new _ _, by simp⟩
theorem Memo.lt {w : World} {g : Nat} (h : Memo w g) : g < w.heap.size := by
  obtain ⟨es, clock, hb, _⟩ := h
  exact blk_lt hb
theorem Memo.move {w w1 : World} {g : Nat} (h : Memo w g) (hm : w1.heap[g]? = w.heap[g]?) : Memo w1 g := by
  obtain ⟨es, clock, hb, r⟩ := h
  exact ⟨es, clock, hm.trans hb, r⟩
theorem heap_key {a b : Nat} (h : Heap a b) : ∃ l, keyOf Tryd.prog 34 (hv (a : Int) (b : Int)) = some l := hv_key (by have := h.2; omega) (by have := h.1; have := h.2; omega)
theorem Memo.keys {es : Array MapEntry} (r : ∀ e ∈ es.toList, ∃ a b : Nat, Heap a b ∧ e.key = hv (a : Int) (b : Int) ∧ e.val = .int .i64 (val a b : Int)) : ∀ e ∈ es.toList, ∃ l, keyOf Tryd.prog 34 e.key = some l := by
  intro e he
  obtain ⟨a, b, h, hk, _⟩ := r e he
  rw [hk]; exact heap_key h
/-- 'x, is := known[h]' -/
theorem Memo.lookup {w : World} {g : Nat} (h : Memo w g) {a b : Nat} (hx : Heap a b) :
    (Instr.lookup 31 (.map (some g)) (hv (a : Int) (b : Int)) true).run Tryd.prog w = .ok (.tuple #[.int .i64 0, .bool false]) w ∨
    (Instr.lookup 31 (.map (some g)) (hv (a : Int) (b : Int)) true).run Tryd.prog w = .ok (.tuple #[.int .i64 (val a b : Int), .bool true]) w := by
  obtain ⟨es, clock, hb, r⟩ := h
  obtain ⟨l, hl⟩ := heap_key hx
  have hz : (zeroValue 3).run Tryd.prog w = .ok (.int .i64 0) w := by kernel_rfl
  have K := hKeyed
  rcases K.find w hl es.toList (Memo.keys r) with ⟨h1, _⟩ | ⟨j, e0, h1, h2, h3⟩
  · left
    simp [Instr.lookup, run_underlying Tryd.underlying31, MapKept.run_getObj_map hb, K.check w _ hl, h1, hz, Result.andThen]
  · right
    obtain ⟨a', b', hy, hk, hv'⟩ := r e0 (List.mem_of_getElem? h2)
    obtain ⟨ea, eb⟩ := hv_inj (hk.symm.trans h3)
    obtain rfl : a' = a := by omega
    obtain rfl : b' = b := by omega
    simp [Instr.lookup, run_underlying Tryd.underlying31, MapKept.run_getObj_map hb, K.check w _ hl, h1, hv', Result.andThen]

/-- one block, or two, may have been written into -/
structure Two (w w' : World) (g m : Nat) : Prop where
  os : w'.os = w.os
  tape : w'.tape = w.tape
  output : w'.output = w.output
  size : w.heap.size ≤ w'.heap.size
  block : ∀ k, k < w.heap.size → k ≠ g → k ≠ m → w'.heap[k]? = w.heap[k]?
theorem Two.refl (w : World) (g m : Nat) : Two w w g m := ⟨rfl, rfl, rfl, Nat.le_refl _, fun _ _ _ _ => rfl⟩
theorem Two.trans {w w' w'' : World} {g m : Nat} (h : Two w w' g m) (h' : Two w' w'' g m) : Two w w'' g m :=
  ⟨h'.os.trans h.os, h'.tape.trans h.tape, h'.output.trans h.output, Nat.le_trans h.size h'.size, fun k hk h1 h2 => (h'.block k (Nat.lt_of_lt_of_le hk h.size) h1 h2).trans (h.block k hk h1 h2)⟩
theorem Two.of1 {w w' : World} {g m : Nat} (h : w.grownBy w' (some g)) : Two w w' g m := ⟨h.os, h.tape, h.output, h.size, fun k hk h1 _ => h.block k hk (fun e => h1 (by injection e))⟩
theorem Two.of2 {w w' : World} {g m : Nat} (h : w.grownBy w' (some m)) : Two w w' g m := ⟨h.os, h.tape, h.output, h.size, fun k hk _ h2 => h.block k hk (fun e => h2 (by injection e))⟩
theorem Two.below {w w' : World} {g m : Nat} (h : Below w.heap.size w w') : Two w w' g m := ⟨h.os, h.tape, h.output, h.size, fun k hk _ _ => h.block k hk⟩
theorem Two.one {w w' : World} {g m : Nat} (h : Two w w' g m) (hm : w.heap.size ≤ m) : w.grownBy w' (some g) := ⟨h.os, h.tape, h.output, h.size, fun k hk h1 => h.block k hk (fun e => h1 (by rw [e])) (by omega)⟩
theorem Two.blk {w w' : World} {g m k : Nat} {o : Obj} (h : Two w w' g m) (hk : w.heap[k]? = some o) (h1 : k ≠ g) (h2 : k ≠ m) : w'.heap[k]? = some o := (h.block k (blk_lt hk) h1 h2).trans hk

theorem set_grown {w : World} {g : Nat} {o0 : Obj} (hb : w.heap[g]? = some o0) (o : Obj) : w.grownBy (Go.ChangeMaps.setBlock w g o) (some g) :=
  ⟨rfl, rfl, rfl, by simp [Go.ChangeMaps.setBlock], fun i hi hne => by
    have : g ≠ i := fun e => hne (by rw [e])
    simp [Go.ChangeMaps.setBlock, Array.getElem?_setIfInBounds, this]⟩
theorem set_at {w : World} {g : Nat} {o0 : Obj} (hb : w.heap[g]? = some o0) (o : Obj) : (Go.ChangeMaps.setBlock w g o).heap[g]? = some o := by
  have := blk_lt hb
  simp [Go.ChangeMaps.setBlock, Array.getElem?_setIfInBounds, this]
theorem modify_mem {es : Array MapEntry} {j : Nat} {f : MapEntry → MapEntry} {e : MapEntry} (he : e ∈ (es.modify j f).toList) : (∃ e0, es.toList[j]? = some e0 ∧ e = f e0) ∨ e ∈ es.toList := by
  rw [Array.toList_modify] at he
  rcases List.mem_iff_getElem?.1 he with ⟨i, hi⟩
  rw [List.getElem?_modify] at hi
  cases hq : es.toList[i]? with
  | none => rw [hq] at hi; simp at hi
  | some q =>
    rw [hq] at hi
    by_cases hji : j = i
    · simp [hji] at hi
      exact .inl ⟨q, by rw [hji]; exact hq, hi.symm⟩
    · simp [hji] at hi
      subst hi
      exact .inr (List.mem_of_getElem? hq)

/-- 'known[h] = x' -/
theorem Memo.update {w : World} {g : Nat} (h : Memo w g) {a b : Nat} (hx : Heap a b) :
    ∃ w', (Instr.mapUpdate 31 (.map (some g)) (hv (a : Int) (b : Int)) (.int .i64 (val a b : Int))).run Tryd.prog w = .ok () w' ∧ Memo w' g ∧ w.grownBy w' (some g) := by
  obtain ⟨es, clock, hb, r⟩ := h
  obtain ⟨l, hl⟩ := heap_key hx
  have K := hKeyed
  rcases K.find w hl es.toList (Memo.keys r) with ⟨h1, _⟩ | ⟨j, e0, h1, h2, h3⟩
  · refine ⟨Go.ChangeMaps.setBlock w g (.map (es.push { key := hv (a : Int) (b : Int), val := .int .i64 (val a b : Int), born := clock }) (clock + 1)), ?_, ⟨_, _, set_at hb _, ?_⟩, set_grown hb _⟩
    · simp [Instr.mapUpdate, run_underlying Tryd.underlying31, MapKept.run_getObj_map hb, K.check w _ hl, h1, MapKept.run_setObj_map _ hb, Result.andThen, Go.ChangeMaps.setBlock]
    · intro e he
      simp only [Array.toList_push, List.mem_append, List.mem_singleton] at he
      rcases he with he | rfl
      · exact r e he
      · exact ⟨a, b, hx, rfl, rfl⟩
  · have hj : es[j]? = some e0 := by simpa using h2
    refine ⟨Go.ChangeMaps.setBlock w g (.map (es.modify j fun e => { e with key := hv (a : Int) (b : Int), val := .int .i64 (val a b : Int) }) clock), ?_, ⟨_, _, set_at hb _, ?_⟩, set_grown hb _⟩
    · simp [Instr.mapUpdate, run_underlying Tryd.underlying31, MapKept.run_getObj_map hb, K.check w _ hl, h1, hj, h3, K.stays w hl, MapKept.run_setObj_map _ hb, Result.andThen, Go.ChangeMaps.setBlock]
    · intro e he
      rcases modify_mem he with ⟨q, _, rfl⟩ | he
      · exact ⟨a, b, hx, rfl, rfl⟩
      · exact r e he

/-- block g is a map that holds true for the numbers of a list, and for no others -/
def Met (w : World) (g : Nat) (S : List Int) : Prop :=
  ∃ es clock, w.heap[g]? = some (.map es clock) ∧ (∀ e ∈ es.toList, ∃ x : Int, (0 ≤ x ∧ x ≤ 1000) ∧ x ∈ S ∧ e.key = .int .i64 x ∧ e.val = .bool true) ∧ ∀ x ∈ S, ∃ e ∈ es.toList, e.key = .int .i64 x
theorem Met.made (w : World) : Met (w.alloc (.map #[] 0)) w.heap.size [] := ⟨#[], 0, heap_alloc_new _ _, by simp, by simp⟩
theorem Met.lt {w : World} {g : Nat} {S : List Int} (h : Met w g S) : g < w.heap.size := by
  obtain ⟨es, clock, hb, _⟩ := h
  exact blk_lt hb
theorem Met.move {w w1 : World} {g : Nat} {S : List Int} (h : Met w g S) (hm : w1.heap[g]? = w.heap[g]?) : Met w1 g S := by
  obtain ⟨es, clock, hb, r⟩ := h
  exact ⟨es, clock, hm.trans hb, r⟩
theorem Met.keys {es : Array MapEntry} {S : List Int} (r : ∀ e ∈ es.toList, ∃ x : Int, (0 ≤ x ∧ x ≤ 1000) ∧ x ∈ S ∧ e.key = .int .i64 x ∧ e.val = .bool true) : ∀ e ∈ es.toList, ∃ l, keyOf Tryd.prog 3 e.key = some l := by
  intro e he
  obtain ⟨x, h, _, hk, _⟩ := r e he
  rw [hk]; exact num_key (by omega)
/-- 'met[x]' -/
theorem Met.lookup {w : World} {g : Nat} {S : List Int} (h : Met w g S) {x : Int} (hx : 0 ≤ x ∧ x ≤ 1000) :
    (Instr.lookup 40 (.map (some g)) (.int .i64 x) false).run Tryd.prog w = .ok (.bool (decide (x ∈ S))) w := by
  obtain ⟨es, clock, hb, r, r2⟩ := h
  obtain ⟨l, hl⟩ := num_key (x := x) (by omega)
  have hz : (zeroValue 4).run Tryd.prog w = .ok (.bool false) w := by kernel_rfl
  have K := iKeyed
  rcases K.find w hl es.toList (Met.keys r) with ⟨h1, hn⟩ | ⟨j, e0, h1, h2, h3⟩
  · have hS : decide (x ∈ S) = false := by
      rw [decide_eq_false_iff_not]
      intro hin
      obtain ⟨e, he, hk⟩ := r2 x hin
      exact hn e he hk
    rw [hS]
    simp [Instr.lookup, run_underlying Tryd.underlying40, MapKept.run_getObj_map hb, K.check w _ hl, h1, hz, Result.andThen]
  · obtain ⟨y, hy, hin, hk, hv'⟩ := r e0 (List.mem_of_getElem? h2)
    have e : y = x := by have := hk.symm.trans h3; injection this
    subst e
    rw [decide_eq_true hin]
    simp [Instr.lookup, run_underlying Tryd.underlying40, MapKept.run_getObj_map hb, K.check w _ hl, h1, hv', Result.andThen]
/-- 'met[x] = true' -/
theorem Met.update {w : World} {g : Nat} {S : List Int} (h : Met w g S) {x : Int} (hx : 0 ≤ x ∧ x ≤ 1000) :
    ∃ w', (Instr.mapUpdate 40 (.map (some g)) (.int .i64 x) (.bool true)).run Tryd.prog w = .ok () w' ∧ Met w' g (S ++ [x]) ∧ w.grownBy w' (some g) := by
  obtain ⟨es, clock, hb, r, r2⟩ := h
  obtain ⟨l, hl⟩ := num_key (x := x) (by omega)
  have K := iKeyed
  rcases K.find w hl es.toList (Met.keys r) with ⟨h1, _⟩ | ⟨j, e0, h1, h2, h3⟩
  · refine ⟨Go.ChangeMaps.setBlock w g (.map (es.push { key := .int .i64 x, val := .bool true, born := clock }) (clock + 1)), ?_, ⟨_, _, set_at hb _, ?_, ?_⟩, set_grown hb _⟩
    · simp [Instr.mapUpdate, run_underlying Tryd.underlying40, MapKept.run_getObj_map hb, K.check w _ hl, h1, MapKept.run_setObj_map _ hb, Result.andThen, Go.ChangeMaps.setBlock]
    · intro e he
      simp only [Array.toList_push, List.mem_append, List.mem_singleton] at he
      rcases he with he | rfl
      · obtain ⟨y, h1, h2, h3⟩ := r e he
        exact ⟨y, h1, List.mem_append_left _ h2, h3⟩
      · exact ⟨x, hx, by simp, rfl, rfl⟩
    · intro y hy
      rcases List.mem_append.1 hy with hy | hy
      · obtain ⟨e, he, hk⟩ := r2 y hy
        exact ⟨e, by simp [he], hk⟩
      · rw [List.mem_singleton.1 hy]
        exact ⟨_, by simp only [Array.toList_push, List.mem_append, List.mem_singleton]; exact .inr rfl, rfl⟩
  · have hj : es[j]? = some e0 := by simpa using h2
    have hin : x ∈ S := by
      obtain ⟨y, hy, hin, hk, hv'⟩ := r e0 (List.mem_of_getElem? h2)
      have e : y = x := by have := hk.symm.trans h3; injection this
      exact e ▸ hin
    refine ⟨Go.ChangeMaps.setBlock w g (.map (es.modify j fun e => { e with key := .int .i64 x, val := .bool true }) clock), ?_, ⟨_, _, set_at hb _, ?_, ?_⟩, set_grown hb _⟩
    · simp [Instr.mapUpdate, run_underlying Tryd.underlying40, MapKept.run_getObj_map hb, K.check w _ hl, h1, hj, h3, K.stays w hl, MapKept.run_setObj_map _ hb, Result.andThen, Go.ChangeMaps.setBlock]
    · intro e he
      rcases modify_mem he with ⟨q, _, rfl⟩ | he
      · exact ⟨x, hx, by simp, rfl, rfl⟩
      · obtain ⟨y, h1, h2, h3⟩ := r e he
        exact ⟨y, h1, List.mem_append_left _ h2, h3⟩
    · intro y hy
      have hyS : y ∈ S := by
        rcases List.mem_append.1 hy with hy | hy
        · exact hy
        · rw [List.mem_singleton.1 hy]; exact hin
      obtain ⟨e, he, hk⟩ := r2 y hyS
      obtain ⟨i, hi⟩ := List.mem_iff_getElem?.1 he
      rw [Array.toList_modify]
      by_cases hji : j = i
      · subst hji
        refine ⟨_, List.mem_of_getElem? (i := j) (by rw [List.getElem?_modify, hi]; simp; rfl), ?_⟩
        have : e = e0 := by rw [h2] at hi; injection hi with hi; exact hi.symm
        subst this
        exact h3.symm.trans hk
      · exact ⟨e, List.mem_of_getElem? (i := i) (by rw [List.getElem?_modify, hi]; simp [hji]), hk⟩
end Go.Proofs.YtcnicogoccadnaaDoor.Gr
