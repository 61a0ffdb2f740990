/- The value of a turn, and the memory of turns. -/
import Derived.Test.YtldakfaolagoiaaProg
import Derived.Below
import Derived.Deep.Draws
import Derived.Deep.AppendLies
import Derived.Maps.AppendAt
import Derived.OwnWalk
import Derived.Laws.BytesArg
import Derived.Laws.MakeOwn
import Derived.Laws.OwnMore
import Derived.Deep.OwnRows
import Derived.Tactics
import Derived.Lib.ConvBytes
import Derived.Laws.Slices
import Derived.WalkKit
import Derived.KernelRfl
import Derived.RowKit3
import Derived.Deep.LoopGhost
import Derived.Deep.QuietTactic
import Derived.BigQuiet
import Derived.WideLaws
import Derived.Deep.DeepCutAuto
import Derived.Deep.CutBlock
import Derived.Deep.RegionHeld3
import Derived.Laws.Rows
import Derived.Lib.AppendStr
import Derived.ArgAppend
import Derived.Laws.IdiomCopy
import Derived.OrdersHeld
import Derived.Laws.BitsLemmas
import Derived.RowKit
import Derived.Test.YtldakfaolagoiaaWWords
import Derived.Test.YtldakfaolagoiaaWLast
import Derived.Test.YtldakfaolagoiaaWTab
import Derived.Test.YtldakfaolagoiaaWFour
import Derived.Test.YtldakfaolagoiaaWQPut
import Derived.Test.YtldakfaolagoiaaWApart
import Derived.Test.YtldakfaolagoiaaWArr
import Derived.Test.YtldakfaolagoiaaWZeros
import Derived.Test.YtldakfaolagoiaaWFoot
import Derived.Test.YtldakfaolagoiaaWKept
import Derived.Test.YtldakfaolagoiaaWShare
import Derived.Test.YtldakfaolagoiaaWN
import Derived.Test.YtldakfaolagoiaaWFootNe
import Derived.Test.YtldakfaolagoiaaWAt
import Derived.Test.YtldakfaolagoiaaWEqStruct
import Derived.Test.YtldakfaolagoiaaWRepsOne
import Derived.Test.YtldakfaolagoiaaWInv
import Derived.Test.YtldakfaolagoiaaWInvWords
import Derived.Test.YtldakfaolagoiaaWGuard
import Derived.Test.YtldakfaolagoiaaWNEv
import Derived.Test.YtldakfaolagoiaaWMore
import Derived.Maps.OwnOps
import Derived.DeepKeys4
import Derived.WalkSpells
import Derived.Laws.EntriesVeiled
import Derived.Deep.RegionLawGrows
import Derived.ArgAppend
import Derived.Test.YtldakfaolagoiaaTbG
namespace Go.Proofs.Ytldakfaolagoiaa.Tb
open Go.RowKit Go.Proofs.YtldakfaolagoiaaW.PrintWords Go.Proofs.YtldakfaolagoiaaW.PrintLast Go.Proofs.YtldakfaolagoiaaW.PrintMore
attribute [local go_sem] max2_int min2_int max_two min_two max_three min_three max_four min_four
set_option linter.unusedVariables false
set_option linter.unusedSimpArgs false

/-- the free spots -/
def fre (m u : Int) : Int := Go.bits .andNot .i64 (wrap64 ((shl .i64 1 m) - 1)) u
def orI (a b : Int) : Int := Go.bits .or .i64 a b
def bitI (x : Int) (i : Nat) : Bool := Go.bits .and .i64 (x / 2 ^ i) 1 == 1
def pt (i : Nat) : Int := shl .i64 1 (i : Int)
def valK : Nat → Int → List Int → Int → Int → Int → Int
  | 0, _, _, _, _, _ => 0
  | k + 1, m, l, a, b, t => if wonL l a then 1 else if fre m (orI a b) = 0 then 2 else
      if (List.range m.toNat).any (fun i => bitI (fre m (orI a b)) i && ((if t = 1 then valK k m l (orI a (pt i)) b 2 else valK k m l a (orI b (pt i)) 1) == t)) then t else 3 - t
def val (m : Int) (l : List Int) (a b t : Int) : Int := valK 6 m l a b t
def cntF (m u : Int) : Nat := ((List.range 5).filter (fun i => bitI (fre m u) i)).length
theorem cnt_le (m u : Int) : cntF m u ≤ 5 := Nat.le_trans (List.length_filter_le _ _) (by simp)
theorem or_fin : ∀ (a b : Fin 32), 0 ≤ orI a.val b.val ∧ orI a.val b.val < 32 := by decide +kernel
theorem pt_fin : ∀ (i : Fin 5), 0 ≤ pt i.val ∧ pt i.val < 32 := by decide +kernel
theorem swap_fin : ∀ (a b : Fin 32) (i : Fin 5), orI (orI a.val (pt i.val)) b.val = orI (orI a.val b.val) (pt i.val) ∧ orI a.val (orI b.val (pt i.val)) = orI (orI a.val b.val) (pt i.val) := by decide +kernel
theorem dec_fin : ∀ (m : Fin 5) (u : Fin 32) (i : Fin 5), bitI (fre ((m.val : Int) + 1) u.val) i.val = true → cntF ((m.val : Int) + 1) (orI u.val (pt i.val)) < cntF ((m.val : Int) + 1) u.val := by decide +kernel
theorem fre_fin : ∀ (m : Fin 5) (u : Fin 32), 0 ≤ fre ((m.val : Int) + 1) u.val ∧ fre ((m.val : Int) + 1) u.val < 32 := by decide +kernel
structure Dom (a : Int) : Prop where
  lo : 0 ≤ a
  hi : a < 32
theorem Dom.fin {a : Int} (h : Dom a) : ∃ x : Fin 32, a = (x.val : Int) := ⟨⟨a.toNat, by have := h.lo; have := h.hi; omega⟩, by have := h.lo; simp; omega⟩
theorem Dom.or {a b : Int} (ha : Dom a) (hb : Dom b) : Dom (orI a b) := by
  obtain ⟨x, rfl⟩ := ha.fin
  obtain ⟨y, rfl⟩ := hb.fin
  exact ⟨(or_fin x y).1, (or_fin x y).2⟩
theorem Dom.pt {i : Nat} (h : i < 5) : Dom (pt i) := ⟨(pt_fin ⟨i, h⟩).1, (pt_fin ⟨i, h⟩).2⟩
theorem swap_l {a b : Int} (ha : Dom a) (hb : Dom b) {i : Nat} (h : i < 5) : orI (orI a (Tb.pt i)) b = orI (orI a b) (Tb.pt i) := by
  obtain ⟨x, rfl⟩ := ha.fin
  obtain ⟨y, rfl⟩ := hb.fin
  exact (swap_fin x y ⟨i, h⟩).1
theorem swap_r {a b : Int} (ha : Dom a) (hb : Dom b) {i : Nat} (h : i < 5) : orI a (orI b (Tb.pt i)) = orI (orI a b) (Tb.pt i) := by
  obtain ⟨x, rfl⟩ := ha.fin
  obtain ⟨y, rfl⟩ := hb.fin
  exact (swap_fin x y ⟨i, h⟩).2
theorem cnt_dec {m u : Int} (h1 : 1 ≤ m) (h5 : m ≤ 5) (hu : Dom u) {i : Nat} (h : i < 5) (hb : bitI (fre m u) i = true) : cntF m (orI u (Tb.pt i)) < cntF m u := by
  obtain ⟨x, rfl⟩ := hu.fin
  obtain ⟨y, rfl⟩ : ∃ y : Fin 5, m = (y.val : Int) + 1 := ⟨⟨(m - 1).toNat, by omega⟩, by simp; omega⟩
  exact dec_fin y x ⟨i, h⟩ hb
theorem fre_dom {m u : Int} (h1 : 1 ≤ m) (h5 : m ≤ 5) (hu : Dom u) : Dom (fre m u) := by
  obtain ⟨x, rfl⟩ := hu.fin
  obtain ⟨y, rfl⟩ : ∃ y : Fin 5, m = (y.val : Int) + 1 := ⟨⟨(m - 1).toNat, by omega⟩, by simp; omega⟩
  exact ⟨(fre_fin y x).1, (fre_fin y x).2⟩
theorem any_congr' {α : Type} {l : List α} {f g : α → Bool} (h : ∀ x ∈ l, f x = g x) : l.any f = l.any g := by
  induction l with
  | nil => rfl
  | cons x l ih => rw [List.any_cons, List.any_cons, h x (List.mem_cons_self ..), ih (fun y hy => h y (List.mem_cons_of_mem _ hy))]
theorem val_stay {m : Int} (h1 : 1 ≤ m) (h5 : m ≤ 5) (l : List Int) : ∀ (k : Nat) (a b t : Int), Dom a → Dom b → cntF m (orI a b) < k → valK (k + 1) m l a b t = valK k m l a b t
  | 0, _, _, _, _, _, h => absurd h (Nat.not_lt_zero _)
  | k + 1, a, b, t, ha, hb, hk => by
    rw [valK, valK.eq_def (k + 1)]
    show _ = (if wonL l a then 1 else if fre m (orI a b) = 0 then 2 else _)
    have key : (List.range m.toNat).any (fun i => bitI (fre m (orI a b)) i && ((if t = 1 then valK (k + 1) m l (orI a (pt i)) b 2 else valK (k + 1) m l a (orI b (pt i)) 1) == t)) = (List.range m.toNat).any (fun i => bitI (fre m (orI a b)) i && ((if t = 1 then valK k m l (orI a (pt i)) b 2 else valK k m l a (orI b (pt i)) 1) == t)) := by
      refine any_congr' fun i hi => ?_
      have hi5 : i < 5 := by have := List.mem_range.1 hi; omega
      cases hbit : bitI (fre m (orI a b)) i with
      | false => rfl
      | true =>
        have hd := cnt_dec h1 h5 (ha.or hb) hi5 hbit
        rw [val_stay h1 h5 l k (orI a (pt i)) b 2 (ha.or (Dom.pt hi5)) hb (by rw [swap_l ha hb hi5]; omega), val_stay h1 h5 l k a (orI b (pt i)) 1 ha (hb.or (Dom.pt hi5)) (by rw [swap_r ha hb hi5]; omega)]
    rw [key]
theorem val_eq {m : Int} (h1 : 1 ≤ m) (h5 : m ≤ 5) (l : List Int) {a b : Int} (t : Int) (ha : Dom a) (hb : Dom b) :
    val m l a b t = if wonL l a then 1 else if fre m (orI a b) = 0 then 2 else
      if (List.range m.toNat).any (fun i => bitI (fre m (orI a b)) i && ((if t = 1 then val m l (orI a (pt i)) b 2 else val m l a (orI b (pt i)) 1) == t)) then t else 3 - t := by
  unfold val
  rw [← val_stay h1 h5 l 6 a b t ha hb (by have := cnt_le m (orI a b); omega)]
  rfl
theorem val_12 {m : Int} (h1 : 1 ≤ m) (h5 : m ≤ 5) (l : List Int) {a b t : Int} (ht : t = 1 ∨ t = 2) (ha : Dom a) (hb : Dom b) : val m l a b t = 1 ∨ val m l a b t = 2 := by
  rw [val_eq h1 h5 l t ha hb]
  split
  · exact .inl rfl
  · split
    · exact .inr rfl
    · split <;> omega

/-- a turn as the machine holds it -/
def kv (a b t : Int) : Value := .agg #[.int .i64 a, .int .i64 b, .int .i64 t]
theorem kv_inj {a b t a' b' t' : Int} (h : kv a b t = kv a' b' t') : a = a' ∧ b = b' ∧ t = t' := by
  unfold kv at h
  injection h with h
  have h2 : [Value.int .i64 a, .int .i64 b, .int .i64 t] = [.int .i64 a', .int .i64 b', .int .i64 t'] := by simpa using congrArg Array.toList h
  simp only [List.cons.injEq, Value.int.injEq, true_and, and_true] at h2
  exact h2
theorem laidOutP : laidOutB Try.prog = true := by kernel_rfl
theorem kKeyed : Go.Maps.Keyed Try.prog 40 :=
  Go.Maps.Keyed.of_law (deep_law_laid laidOutP (m := 3) (by decide) (of_decide_eq_true (by kernel_rfl)) (by kernel_rfl) (by kernel_rfl))
theorem wf64 {x : Int} (h : 0 ≤ x ∧ x ≤ 100000) : (Lit.int .i64 x).wf = true := by
  have h1 : IntKind.i64.min = -9223372036854775808 := by decide
  have h2 : IntKind.i64.max = 9223372036854775807 := by decide
  simp only [Lit.wf, h1, h2, Bool.and_eq_true, decide_eq_true_eq]
  omega
theorem key_num {x : Int} (h : 0 ≤ x ∧ x ≤ 100000) (d : Nat) : Try.prog.keyLits (d + 1) 3 [.int .i64 x] = some [.int .i64 x] := by
  simp [Program.keyLits, Try.underlying3, wf64 h]
theorem key_two {a b : Int} (ha : 0 ≤ a ∧ a ≤ 100000) (hb : 0 ≤ b ∧ b ≤ 100000) (d : Nat) : Try.prog.keyLits (d + 2) 38 [.int .i64 a, .int .i64 b] = some [.int .i64 a, .int .i64 b] := by
  have ka := key_num ha d
  have kb := key_num hb d
  have c3 : Try.prog.cellsOf 3 = 1 := by kernel_rfl
  have c38 : Try.prog.cellsOf 38 = 2 := by kernel_rfl
  unfold Program.keyLits
  simp [Try.underlying38, c3, c38, ka, kb, List.range_succ]
theorem kv_key {a b t : Int} (ha : 0 ≤ a ∧ a ≤ 100000) (hb : 0 ≤ b ∧ b ≤ 100000) (ht : 0 ≤ t ∧ t ≤ 100000) : ∃ l, keyOf Try.prog 40 (kv a b t) = some l := by
  have hk : Try.prog.keyType 40 = true := by kernel_rfl
  have hfo : (kv a b t).formed Try.prog 40 = true := by kernel_rfl
  obtain ⟨n, hs⟩ : ∃ n, Try.prog.types.size = n + 2 := ⟨Try.prog.types.size - 2, by kernel_rfl⟩
  have c38 : Try.prog.cellsOf 38 = 2 := by kernel_rfl
  have c3 : Try.prog.cellsOf 3 = 1 := by kernel_rfl
  have c40 : Try.prog.cellsOf 40 = 3 := by kernel_rfl
  have kt := fun D => key_num ht D
  have k2 := fun D => key_two ha hb D
  have hl : Try.prog.keyLits (n + 2 + 1) 40 (kv a b t).cells.toList = some [.int .i64 a, .int .i64 b, .int .i64 t] := by
    show Try.prog.keyLits (n + 2 + 1) 40 [.int .i64 a, .int .i64 b, .int .i64 t] = _
    unfold Program.keyLits
    simp [Try.underlying40, c38, c3, c40, List.range_succ, kt, k2]
  refine ⟨.string (keyBytes [.int .i64 a, .int .i64 b, .int .i64 t]), ?_⟩
  unfold keyOf
  rw [Try.underlying40]
  simp only [hk, hfo, Bool.and_self, if_true, hs, hl, Option.map_some]

/-- the turns of the game -/
structure Turn (a b t : Int) : Prop where
  a : Dom a
  b : Dom b
  t : t = 1 ∨ t = 2
theorem Turn.key {a b t : Int} (h : Turn a b t) : ∃ l, keyOf Try.prog 40 (kv a b t) = some l :=
  kv_key ⟨h.a.lo, by have := h.a.hi; omega⟩ ⟨h.b.lo, by have := h.b.hi; omega⟩ (by rcases h.t with h | h <;> omega)
/-- block g is a map from turns to their winners -/
def Memo (m : Int) (l : List Int) (w : World) (g : Nat) : Prop :=
  ∃ es clock, w.heap[g]? = some (.map es clock) ∧ ∀ e ∈ es.toList, ∃ a b t : Int, Turn a b t ∧ e.key = kv a b t ∧ e.val = .int .i64 (val m l a b t)
theorem Memo.made (m : Int) (l : List Int) (w : World) : Memo m l (w.alloc (.map #[] 0)) w.heap.size := ⟨#[], 0, heap_alloc_new _ _, by simp⟩
section
variable {m : Int} {l : List Int}
theorem Memo.lt {w : World} {g : Nat} (h : Memo m l w g) : g < w.heap.size := by
  obtain ⟨es, clock, hb, _⟩ := h
  exact blk_lt hb
theorem Memo.move {w w1 : World} {g : Nat} (h : Memo m l w g) (hm : w1.heap[g]? = w.heap[g]?) : Memo m l w1 g := by
  obtain ⟨es, clock, hb, r⟩ := h
  exact ⟨es, clock, hm.trans hb, r⟩
theorem Memo.below {w w1 : World} {g : Nat} (h : Memo m l w g) (hb : Below w.heap.size w w1) : Memo m l w1 g := h.move (hb.block _ h.lt)
theorem Memo.keys {es : Array MapEntry} (r : ∀ e ∈ es.toList, ∃ a b t : Int, Turn a b t ∧ e.key = kv a b t ∧ e.val = .int .i64 (val m l a b t)) : ∀ e ∈ es.toList, ∃ q, keyOf Try.prog 40 e.key = some q := by
  intro e he
  obtain ⟨a, b, t, h, hk, _⟩ := r e he
  rw [hk]; exact h.key
/-- 'w := known[t]' -/
theorem Memo.lookup {w : World} {g : Nat} (h : Memo m l w g) {a b t : Int} (hx : Turn a b t) :
    (Instr.lookup 45 (.map (some g)) (kv a b t) false).run Try.prog w = .ok (.int .i64 0) w ∨
    (Instr.lookup 45 (.map (some g)) (kv a b t) false).run Try.prog w = .ok (.int .i64 (val m l a b t)) w := by
  obtain ⟨es, clock, hb, r⟩ := h
  obtain ⟨q, hl⟩ := hx.key
  have hz : (zeroValue 3).run Try.prog w = .ok (.int .i64 0) w := by kernel_rfl
  have K := kKeyed
  rcases K.find w hl es.toList (Memo.keys r) with ⟨h1, _⟩ | ⟨j, e0, h1, h2, h3⟩
  · left
    simp [Instr.lookup, run_underlying Try.underlying45, MapKept.run_getObj_map hb, K.check w _ hl, h1, hz, Result.andThen]
  · right
    obtain ⟨a', b', t', hy, hk, hv'⟩ := r e0 (List.mem_of_getElem? h2)
    obtain ⟨rfl, rfl, rfl⟩ := kv_inj (hk.symm.trans h3)
    simp [Instr.lookup, run_underlying Try.underlying45, MapKept.run_getObj_map hb, K.check w _ hl, h1, hv', Result.andThen]

theorem set_grown {w : World} {g : Nat} {o0 : Obj} (hb : w.heap[g]? = some o0) (o : Obj) : w.grownBy (Go.ChangeMaps.setBlock w g o) (some g) :=
  ⟨rfl, rfl, rfl, by simp [Go.ChangeMaps.setBlock], fun i hi hne => by
    have : g ≠ i := fun e => hne (by rw [e])
    simp [Go.ChangeMaps.setBlock, Array.getElem?_setIfInBounds, this]⟩
theorem set_at {w : World} {g : Nat} {o0 : Obj} (hb : w.heap[g]? = some o0) (o : Obj) : (Go.ChangeMaps.setBlock w g o).heap[g]? = some o := by
  have := blk_lt hb
  simp [Go.ChangeMaps.setBlock, Array.getElem?_setIfInBounds, this]
theorem modify_mem {es : Array MapEntry} {j : Nat} {f : MapEntry → MapEntry} {e : MapEntry} (he : e ∈ (es.modify j f).toList) : (∃ e0, es.toList[j]? = some e0 ∧ e = f e0) ∨ e ∈ es.toList := by
  rw [Array.toList_modify] at he
  rcases List.mem_iff_getElem?.1 he with ⟨i, hi⟩
  rw [List.getElem?_modify] at hi
  cases hq : es.toList[i]? with
  | none => rw [hq] at hi; simp at hi
  | some q =>
    rw [hq] at hi
    by_cases hji : j = i
    · simp [hji] at hi
      exact .inl ⟨q, by rw [hji]; exact hq, hi.symm⟩
    · simp [hji] at hi
      subst hi
      exact .inr (List.mem_of_getElem? hq)

/-- 'known[t] = w' -/
theorem Memo.update {w : World} {g : Nat} (h : Memo m l w g) {a b t : Int} (hx : Turn a b t) :
    ∃ w', (Instr.mapUpdate 45 (.map (some g)) (kv a b t) (.int .i64 (val m l a b t))).run Try.prog w = .ok () w' ∧ Memo m l w' g ∧ w.grownBy w' (some g) := by
  obtain ⟨es, clock, hb, r⟩ := h
  obtain ⟨q, hl⟩ := hx.key
  have K := kKeyed
  rcases K.find w hl es.toList (Memo.keys r) with ⟨h1, _⟩ | ⟨j, e0, h1, h2, h3⟩
  · refine ⟨Go.ChangeMaps.setBlock w g (.map (es.push { key := kv a b t, val := .int .i64 (val m l a b t), born := clock }) (clock + 1)), ?_, ⟨_, _, set_at hb _, ?_⟩, set_grown hb _⟩
    · simp [Instr.mapUpdate, run_underlying Try.underlying45, MapKept.run_getObj_map hb, K.check w _ hl, h1, MapKept.run_setObj_map _ hb, Result.andThen, Go.ChangeMaps.setBlock]
    · intro e he
      simp only [Array.toList_push, List.mem_append, List.mem_singleton] at he
      rcases he with he | rfl
      · exact r e he
      · exact ⟨a, b, t, hx, rfl, rfl⟩
  · have hj : es[j]? = some e0 := by simpa using h2
    refine ⟨Go.ChangeMaps.setBlock w g (.map (es.modify j fun e => { e with key := kv a b t, val := .int .i64 (val m l a b t) }) clock), ?_, ⟨_, _, set_at hb _, ?_⟩, set_grown hb _⟩
    · simp [Instr.mapUpdate, run_underlying Try.underlying45, MapKept.run_getObj_map hb, K.check w _ hl, h1, hj, h3, K.stays w hl, MapKept.run_setObj_map _ hb, Result.andThen, Go.ChangeMaps.setBlock]
    · intro e he
      rcases modify_mem he with ⟨q, _, rfl⟩ | he
      · exact ⟨a, b, t, hx, rfl, rfl⟩
      · exact r e he
end

/-- a map may have been written into: cells stay -/
theorem cell_grown {w w' : World} {g : Nat} (h : w.grownBy w' (some g)) {es : Array MapEntry} {cl : Nat} (hg : w.heap[g]? = some (.map es cl)) {p : Addr} {u : Value} (hp : w.cell? p = some u) : w'.cell? p = some u := by
  have hne : p.block ≠ g := by
    intro e
    unfold World.cell? at hp
    rw [e, hg] at hp
    simp at hp
  have hb := h.block p.block (World.block_lt_of_cell? w p hp) (fun e => hne (by injection e))
  exact (World.cell?_of_block (w := w) hb).trans hp
theorem C_grown {w w' : World} {g : Nat} (h : w.grownBy w' (some g)) {m : Int} {l0 : List Int} (hm : Memo m l0 w g) {A : Option Addr} {n : Nat} {l : List Int} (hr : Kd.C (Kd.int .i64) w A n l) : Kd.C (Kd.int .i64) w' A n l := by
  obtain ⟨es, cl, hg, _⟩ := hm
  refine ⟨hr.1, hr.2.1, fun hn => ?_⟩
  obtain ⟨ad, e, hc⟩ := hr.2.2 hn
  refine ⟨ad, e, fun j p hj => ?_⟩
  obtain ⟨c, hs, hrr, hcell⟩ := hc j p hj
  exact ⟨c, hs, hrr, fun i u hu => cell_grown h hg (hcell i u hu)⟩
theorem blk_grown {w w' : World} {g k : Nat} (h : w.grownBy w' (some g)) {m : Int} {l0 : List Int} (hm : Memo m l0 w g) {cs : Array Value} {t : TypeId} {z : Nat × Nat} (hk : w.heap[k]? = some (.cells cs t z)) : w'.heap[k]? = some (.cells cs t z) := by
  obtain ⟨es, cl, hg, _⟩ := hm
  refine (h.block k (blk_lt hk) (fun e => ?_)).trans hk
  injection e with e
  subst e
  rw [hg] at hk
  cases hk
end Go.Proofs.Ytldakfaolagoiaa.Tb
