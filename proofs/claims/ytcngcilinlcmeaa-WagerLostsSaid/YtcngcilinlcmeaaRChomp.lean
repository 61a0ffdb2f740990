/- The reference's Chomp, Bitten and IsBar in plain Lean: its table of known bars holds what is true of them. -/
import Derived.Test.YtcngcilinlcmeaaPx8
import Derived.Test.YtcngcilinlcmeaaPxChomp
import Derived.Test.YtcngcilinlcmeaaGames
import Derived.Test.YtcngcilinlcmeaaIdx
import Derived.Test.YtcngcilinlcmeaaEuc
namespace Go.Proofs.Ytcngcilinlcmeaa.Pure
open Go.RowKit Go.Proofs.Ytcngcilinlcmeaa.P Go.Proofs.YtcngcilinlcmeaaW.PrintWords Go.Proofs.YtcngcilinlcmeaaW.PrintLast
open Go.Proofs.Ytcngcilinlcmeaa.Ext
set_option linter.unusedVariables false

def Row (l : List Int) : Prop := l.length ≤ 6 ∧ ∀ x ∈ l, 0 ≤ x ∧ x ≤ 7
def padz (l : List Int) : List Int := l ++ List.replicate (6 - l.length) 0
theorem biteGo_append (r c : Int) : ∀ (xs ys : List Int) (i : Int), biteGo r c i (xs ++ ys) = biteGo r c i xs ++ biteGo r c (i + xs.length) ys
  | [], ys, i => by simp [biteGo]
  | x :: xs, ys, i => by
    rw [List.cons_append, biteGo, biteGo, biteGo_append r c xs ys (i + 1), List.cons_append, List.length_cons]
    rw [show i + 1 + (xs.length : Int) = i + ((xs.length + 1 : Nat) : Int) by omega]
theorem biteGo_zeros {r c : Int} (hc : 0 ≤ c) : ∀ (n : Nat) (i : Int), biteGo r c i (List.replicate n 0) = List.replicate n 0
  | 0, i => rfl
  | n + 1, i => by
    rw [List.replicate_succ, biteGo, biteGo_zeros hc n (i + 1)]
    congr 1
    unfold bitC mn
    repeat (first | omega | split)
theorem bite_len (r c : Int) (l : List Int) : (bite l r c).length = l.length := biteGo_length r c l 0
theorem bite_padz {r c : Int} (hc : 0 ≤ c) (l : List Int) : bite (padz l) r c = padz (bite l r c) := by
  show biteGo r c 0 (padz l) = _
  unfold padz
  rw [biteGo_append, biteGo_zeros hc, bite_len]
  rfl
theorem movesGo_append : ∀ (xs ys : List Int) (i : Int), movesGo i (xs ++ ys) = movesGo i xs ++ movesGo (i + xs.length) ys
  | [], ys, i => by simp [movesGo]
  | x :: xs, ys, i => by
    rw [List.cons_append, movesGo, movesGo, movesGo_append xs ys (i + 1), List.append_assoc, List.length_cons]
    rw [show i + 1 + (xs.length : Int) = i + ((xs.length + 1 : Nat) : Int) by omega]
theorem movesGo_zeros : ∀ (n : Nat) (i : Int), movesGo i (List.replicate n 0) = []
  | 0, i => rfl
  | n + 1, i => by
    rw [List.replicate_succ, movesGo, movesGo_zeros n (i + 1)]
    rfl
theorem moves_padz (l : List Int) : moves (padz l) = moves l := by
  show movesGo 0 (padz l) = _
  unfold padz
  rw [movesGo_append, movesGo_zeros, List.append_nil]
  rfl
theorem padz_bar {l : List Int} (h : Row l) : Bar (padz l) := by
  refine ⟨?_, ?_⟩
  · unfold padz
    rw [List.length_append, List.length_replicate]
    have := h.1
    omega
  · intro x hx
    unfold padz at hx
    rw [List.mem_append] at hx
    rcases hx with hx | hx
    · exact h.2 x hx
    · rw [(List.mem_replicate.1 hx).2]; omega
theorem padL_padz : ∀ (l : List Int), l.length ≤ 6 → padL l = padz l
  | [], _ => rfl
  | [_], _ => rfl
  | [_, _], _ => rfl
  | [_, _, _], _ => rfl
  | [_, _, _, _], _ => rfl
  | [_, _, _, _, _], _ => rfl
  | [_, _, _, _, _, _], _ => rfl
  | _ :: _ :: _ :: _ :: _ :: _ :: _ :: _, h => by simp only [List.length_cons] at h; omega
theorem padz_head (l : List Int) : (padz l).headD 0 = l.headD 0 := by
  cases l with
  | nil => rfl
  | cons x t => rfl
def V (l : List Int) : Bool := winsS (padz l)
theorem V_head {l : List Int} (h : Row l) (h0 : l.headD 0 = 0) : V l = true := wins_head (padz_bar h) ((padz_head l).trans h0)
theorem V_eq {l : List Int} (h : Row l) (h0 : l.headD 0 ≠ 0) : V l = (moves l).any fun m => !V (bite l m.1 m.2) := by
  unfold V
  rw [winsS_eq (padz_bar h), if_neg (by rw [padz_head]; exact h0), moves_padz]
  refine any_congr fun m hm => ?_
  rw [bite_padz (movesGo_pos l 0 hm)]
theorem Row.bite {l : List Int} (h : Row l) (r : Int) {c : Int} (hc : 0 ≤ c) : Row (bite l r c) :=
  ⟨by rw [bite_len]; exact h.1, biteGo_mem r c hc l 0 h.2⟩

theorem bitten_l (r c : Int) : ∀ (s pre : List Int), pre.length + s.length ≤ 1000 →
    Ev (fun k => drovewayref07_bitten.l0 k (pre ++ s) r c (biteGo r c 0 pre) (pre.length : Int)) (biteGo r c 0 (pre ++ s))
  | [], pre, hl => by
    refine Ev.step (f := fun k => some (biteGo r c 0 pre)) (fun k => ?_) (by rw [List.append_nil]; exact Ev.now _)
    simp only [drovewayref07_bitten.l0]
    rw [if_neg (by simp)]
  | x :: s, pre, hl => by
    simp only [List.length_cons] at hl
    have ih := bitten_l r c s (pre ++ [x]) (by simp; omega)
    rw [List.append_assoc, List.singleton_append, List.length_append, List.length_singleton, biteGo_append, Int.zero_add] at ih
    refine Ev.step (f := fun k => drovewayref07_bitten.l0 k (pre ++ x :: s) r c (biteGo r c 0 pre ++ biteGo r c (pre.length : Int) [x]) ((pre.length + 1 : Nat) : Int)) (fun k => ?_) ih
    have hg : rd (pre ++ x :: s) (pre.length : Int) = x := by
      rw [rd_get _ _ (by simp)]
      simp
    have hbl := biteGo_length r c pre 0
    have e : biteGo r c (pre.length : Int) [x] = [bitC r c x pre.length] := rfl
    rw [e]
    unfold bitC
    by_cases h : r ≤ (pre.length : Int)
    · simp only [drovewayref07_bitten.l0]
      rw [if_pos (by simp; omega), if_pos (by omega), hg, if_pos h, if_pos (by omega), w64 (by omega), if_pos h]
      rfl
    · simp only [drovewayref07_bitten.l0]
      rw [if_pos (by simp; omega), if_pos (by omega), hg, if_neg h, if_pos (by omega), w64 (by omega), if_neg h]
      rfl
theorem bitten_ev (l : List Int) (r c : Int) (hl : l.length ≤ 1000) : Ev (fun k => drovewayref07_bitten.f k l r c) (bite l r c) :=
  bitten_l r c l [] (by simpa using hl)

/-! the place of a bar -/
def sz : Nat → Int
  | 0 => 1
  | n + 1 => sz n * 8
theorem sz_le : ∀ (n : Nat), n ≤ 6 → 1 ≤ sz n ∧ sz n ≤ 262144
  | 0, _ => by decide
  | 1, _ => by decide
  | 2, _ => by decide
  | 3, _ => by decide
  | 4, _ => by decide
  | 5, _ => by decide
  | 6, _ => by decide
  | n + 7, h => by omega
def plc : Int → List Int → Int
  | a, [] => a
  | a, x :: xs => plc (a * 8 + x) xs
theorem plc_lt : ∀ (l : List Int) (a : Int) (n : Nat), (∀ x ∈ l, 0 ≤ x ∧ x ≤ 7) → 0 ≤ a → a < sz n → 0 ≤ plc a l ∧ plc a l < sz (n + l.length)
  | [], a, n, _, h1, h2 => ⟨h1, h2⟩
  | x :: xs, a, n, h, h1, h2 => by
    have hx := h x (by simp)
    have e : sz (n + 1) = sz n * 8 := rfl
    have := plc_lt xs (a * 8 + x) (n + 1) (fun z hz => h z (by simp [hz])) (by omega) (by omega)
    rw [List.length_cons, show n + (xs.length + 1) = n + 1 + xs.length by omega]
    exact this
theorem plc_inj : ∀ (l l' : List Int) (a b : Int), l.length = l'.length → (∀ x ∈ l, 0 ≤ x ∧ x ≤ 7) → (∀ x ∈ l', 0 ≤ x ∧ x ≤ 7) → plc a l = plc b l' → a = b ∧ l = l'
  | [], [], a, b, _, _, _, h => ⟨h, rfl⟩
  | [], y :: ys, a, b, h, _, _, _ => by simp at h
  | x :: xs, [], a, b, h, _, _, _ => by simp at h
  | x :: xs, y :: ys, a, b, hl, h1, h2, h => by
    have := plc_inj xs ys _ _ (by simpa using hl) (fun z hz => h1 z (by simp [hz])) (fun z hz => h2 z (by simp [hz])) h
    have hx := h1 x (by simp)
    have hy := h2 y (by simp)
    exact ⟨by omega, by rw [this.2]; congr 1; omega⟩
theorem place_l : ∀ (s pre : List Int) (a : Int), Row (pre ++ s) → 0 ≤ a → a < sz pre.length → Ev (fun k => drovewayref07_place.l0 k (pre ++ s) a (pre.length : Int)) (plc a s)
  | [], pre, a, h, h1, h2 => by
    refine Ev.step (f := fun k => some a) (fun k => ?_) (Ev.now _)
    simp only [drovewayref07_place.l0]
    rw [if_neg (by simp)]
  | x :: s, pre, a, h, h1, h2 => by
    have hx := h.2 x (by simp)
    have hlen := h.1
    simp only [List.length_append, List.length_cons] at hlen
    have hs := sz_le pre.length (by omega)
    have e : sz (pre.length + 1) = sz pre.length * 8 := rfl
    have ih := place_l s (pre ++ [x]) (a * 8 + x) (by rw [List.append_assoc]; exact h) (by omega) (by rw [List.length_append, List.length_singleton, e]; omega)
    rw [List.append_assoc, List.singleton_append, List.length_append, List.length_singleton] at ih
    refine Ev.step (f := fun k => drovewayref07_place.l0 k (pre ++ x :: s) (a * 8 + x) ((pre.length + 1 : Nat) : Int)) (fun k => ?_) ih
    have hg : rd (pre ++ x :: s) (pre.length : Int) = x := by
      rw [rd_get _ _ (by simp)]
      simp
    simp only [drovewayref07_place.l0]
    rw [if_pos (by simp; omega), if_pos (by omega), hg, w64 (n := a * 8) (by omega), w64 (n := a * 8 + x) (by omega), w64 (by omega)]
    rfl
theorem place_ev {l : List Int} (h : Row l) : Ev (fun k => drovewayref07_place.f k l) (plc 0 l) := place_l l [] 0 h (by omega) (by decide)
theorem tried_l {n : Nat} (hn : n ≤ 6) : ∀ (r i : Nat), i + r = n → Ev (fun k => drovewayref07_tried.l0 k (n : Int) (sz i) (i : Int)) (List.replicate (sz n).toNat 0)
  | 0, i, h => by
    have hs := sz_le i (by omega)
    refine Ev.step (f := fun k => some (List.replicate (sz i).toNat 0)) (fun k => ?_) (by rw [← h, Nat.add_zero]; exact Ev.now _)
    simp only [drovewayref07_tried.l0]
    rw [if_neg (by omega), if_pos (by omega), if_pos (by omega)]
  | r + 1, i, h => by
    have hs := sz_le i (by omega)
    have ih := tried_l hn r (i + 1) (by omega)
    refine Ev.step (f := fun k => drovewayref07_tried.l0 k (n : Int) (sz (i + 1)) ((i + 1 : Nat) : Int)) (fun k => ?_) ih
    simp only [drovewayref07_tried.l0]
    rw [if_pos (by omega), w64 (n := sz i * 8) (by omega), w64 (by omega)]
    rfl
theorem tried_ev {n : Nat} (hn : n ≤ 6) : Ev (fun k => drovewayref07_tried.f k (n : Int)) (List.replicate (sz n).toNat 0) := tried_l hn n 0 (by omega)

theorem rd_set {t : List Int} {a b v : Int} (ha : 0 ≤ a ∧ a < t.length) (hb : 0 ≤ b ∧ b < t.length) : rd (t.set a.toNat v) b = if a = b then v else rd t b := by
  obtain ⟨i, rfl⟩ : ∃ i : Nat, a = (i : Int) := ⟨a.toNat, by omega⟩
  obtain ⟨j, rfl⟩ : ∃ j : Nat, b = (j : Int) := ⟨b.toNat, by omega⟩
  rw [rd_get _ _ (by rw [List.length_set]; omega), rd_get _ _ (by omega), Int.toNat_natCast, List.getElem_set]
  by_cases h : i = j
  · rw [if_pos h, if_pos (by omega)]
  · rw [if_neg h, if_neg (by omega)]

/-! the table -/
def val (l : List Int) : Int := if V l = true then 1 else -1
def Good (n : Nat) (t : List Int) (s : Nat) : Prop := t.length = (sz n).toNat ∧ ∀ l, Row l → l.length = n → sumN l < s → rd t (plc 0 l) = 0 ∨ rd t (plc 0 l) = val l
theorem plc_in {l : List Int} {n : Nat} (h : Row l) (hn : l.length = n) : 0 ≤ plc 0 l ∧ plc 0 l < ((sz n).toNat : Int) := by
  have h1 := plc_lt l 0 0 h.2 (by omega) (by decide)
  rw [hn, Nat.zero_add] at h1
  omega
theorem plc_ne {l l' : List Int} (h : Row l) (h' : Row l') (hl : l.length = l'.length) (hne : l' ≠ l) : plc 0 l ≠ plc 0 l' := fun e => hne (plc_inj l l' 0 0 hl h.2 h'.2 e).2.symm
/-- what does not change while a bar is looked at -/
def Same (n : Nat) (l : List Int) (t t' : List Int) : Prop := ∀ l', Row l' → l'.length = n → sumN l ≤ sumN l' → l' ≠ l → rd t' (plc 0 l') = rd t (plc 0 l')
theorem Good.keep {n s : Nat} {t t' l : List Int} (h : Good n t s) (h' : Good n t' (sumN l + 1)) (hs : Same n l t t') : Good n t' s := by
  refine ⟨h'.1, ?_⟩
  intro l' hr hn hlt
  by_cases h2 : sumN l' < sumN l + 1
  · exact h'.2 l' hr hn h2
  · rw [hs l' hr hn (by omega) (by rintro rfl; omega)]
    exact h.2 l' hr hn hlt
theorem Good.less {n s s' : Nat} {t : List Int} (h : Good n t s) (hs : s' ≤ s) : Good n t s' := ⟨h.1, fun l hr hn hlt => h.2 l hr hn (by omega)⟩

/-- the state of the loop over a bar's pieces -/
structure St (n : Nat) (l t0 t : List Int) (d : Bool) : Prop where
  good : Good n t (sumN l)
  here : rd t (plc 0 l) = if d = true then 1 else -1
  same : Same n l t0 t

def rowF (i : Int) : Int → Nat → List (Int × Int)
  | _, 0 => []
  | j, r + 1 => (i, j) :: rowF i (j + 1) r
theorem rowF_eq (i : Int) : ∀ (r : Nat) (j : Int), rowF i j r = (List.range r).map fun (c : Nat) => (i, j + (c : Int))
  | 0, j => rfl
  | r + 1, j => by
    rw [rowF, rowF_eq i r (j + 1), List.range_succ_eq_map, List.map_cons, List.map_map]
    congr 1
    · simp
    · apply List.map_congr_left
      intro c _
      show (i, j + 1 + (c : Int)) = (i, j + ((c + 1 : Nat) : Int))
      congr 1
      omega
theorem rowMoves_eq (i x : Int) : rowMoves i x = rowF i 0 x.toNat := by
  rw [rowF_eq]
  unfold rowMoves
  simp
theorem drop_eq {l : List Int} {i : Nat} (h : i < l.length) : l.drop i = rd l (i : Int) :: l.drop (i + 1) := by
  rw [rd_get _ _ h]
  exact List.drop_eq_getElem_cons h
theorem mem_moves_of {l : List Int} {i : Nat} {c : Int} (h : i < l.length) (hc : 0 ≤ c ∧ c < rd l (i : Int)) : ((i : Int), c) ∈ moves l := by
  have e : l = l.take i ++ l.drop i := (List.take_append_drop i l).symm
  unfold moves
  rw [e, movesGo_append, List.mem_append]
  right
  have hl : (l.take i).length = i := by rw [List.length_take]; omega
  rw [hl, drop_eq h, movesGo, List.mem_append]
  left
  rw [mem_rowMoves]
  exact ⟨by simp, hc.1, hc.2⟩
theorem row_less {l : List Int} (h : Row l) {i : Nat} {c : Int} (hi : i < l.length) (hc : 0 ≤ c ∧ c < rd l (i : Int)) : sumN (bite l (i : Int) c) < sumN l :=
  biteGo_less _ _ hc.1 l 0 h.2 (mem_moves_of hi hc)
theorem rd_mem {l : List Int} {i : Nat} (h : i < l.length) : rd l (i : Int) ∈ l := by rw [rd_get _ _ h]; exact List.getElem_mem h

abbrev Pm (l : List Int) (m : Int × Int) : Bool := !V (bite l m.1 m.2)

theorem rwins_ev : ∀ (s n : Nat) (l t : List Int), sumN l ≤ s → 1 ≤ n → Row l → l.length = n → Good n t (sumN l + 1) →
    ∃ t', Ev (fun k => drovewayref07_wins.f k l t) (V l, t') ∧ Good n t' (sumN l + 1) ∧ Same n l t t' := by
  intro s
  induction s with
  | zero =>
    intro n l t hs hn hr hl hg
    -- the first row is empty
    have h0 : l.headD 0 = 0 := by
      cases l with
      | nil => rfl
      | cons x u =>
        have hx := hr.2 x (by simp)
        simp only [sumN, List.map_cons, List.sum_cons] at hs
        show x = 0
        omega
    refine ⟨t, ?_, hg, fun _ _ _ _ _ => rfl⟩
    have hz : rd l 0 = 0 := by
      cases l with
      | nil => rfl
      | cons x u => exact h0
    refine Ev.step (f := fun k => some (true, t)) (fun k => ?_) (by rw [V_head hr h0]; exact Ev.now _)
    simp only [drovewayref07_wins.f]
    rw [if_pos (by omega), if_pos hz]
  | succ s ih =>
    intro n l t hs hn hr hl hg
    have hn6 : n ≤ 6 := by rw [← hl]; exact hr.1
    have hsz := sz_le n hn6
    have hz : rd l 0 = l.headD 0 := by
      cases l with
      | nil => rfl
      | cons x u => rfl
    by_cases h0 : l.headD 0 = 0
    · refine ⟨t, ?_, hg, fun _ _ _ _ _ => rfl⟩
      refine Ev.step (f := fun k => some (true, t)) (fun k => ?_) (by rw [V_head hr h0]; exact Ev.now _)
      simp only [drovewayref07_wins.f]
      rw [if_pos (by omega), if_pos (by rw [hz]; exact h0)]
    · have hp := plc_in hr hl
      have start : ∀ R, Ev (fun k => (if (rd t (plc 0 l)) = 0 then (drovewayref07_wins.l0 k l (t.set (plc 0 l).toNat (-1)) (plc 0 l) 0) else (some (decide ((rd t (plc 0 l)) > 0), t)))) R → Ev (fun k => drovewayref07_wins.f k l t) R := by
        intro R hR
        refine Ev.step (f := fun k => (drovewayref07_place.f k l).bind fun t177 => (if 0 ≤ t177 then (if t177 < (t.length : Int) then (if (rd t t177) = 0 then (drovewayref07_wins.l0 k l (t.set (t177 : Int).toNat (-1)) t177 0) else (some (decide ((rd t t177) > 0), t))) else (none)) else (none))) (fun k => ?_) ?_
        · simp only [drovewayref07_wins.f]
          rw [if_pos (by omega), if_neg (by rw [hz]; exact h0)]
        · exact Ev.bind (place_ev hr) (Ev.pos hp.1 (Ev.pos (by rw [hg.1]; exact hp.2) hR))
      by_cases he : rd t (plc 0 l) = 0
      · -- not known yet
        have hlt : plc 0 l < (t.length : Int) := by rw [hg.1]; exact hp.2
        have st0 : St n l t (t.set (plc 0 l).toNat (-1)) false := by
          refine ⟨⟨by rw [List.length_set]; exact hg.1, ?_⟩, ?_, ?_⟩
          · intro l' hr' hl' hs'
            have hp' := plc_in hr' hl'
            rw [rd_set ⟨hp.1, hlt⟩ (by rw [hg.1]; exact hp'), if_neg (plc_ne hr hr' (by omega) (by rintro rfl; omega))]
            exact hg.2 l' hr' hl' (by omega)
          · rw [rd_set ⟨hp.1, hlt⟩ ⟨hp.1, hlt⟩, if_pos rfl]
            rfl
          · intro l' hr' hl' _ hne
            have hp' := plc_in hr' hl'
            rw [rd_set ⟨hp.1, hlt⟩ (by rw [hg.1]; exact hp'), if_neg (plc_ne hr hr' (by omega) hne)]
        -- one row
        have row : ∀ (i : Nat) (A : Bool), i < n → (∀ t1 d, St n l t t1 d → ∃ t2, Ev (fun k => drovewayref07_wins.l0 k l t1 (plc 0 l) ((i + 1 : Nat) : Int)) (decide (rd t2 (plc 0 l) > 0), t2) ∧ St n l t t2 (d || A)) →
            ∀ (r j : Nat) (t1 : List Int) (d : Bool), j + r = (rd l (i : Int)).toNat → St n l t t1 d → ∃ t2, Ev (fun k => drovewayref07_wins.l1 k l t1 (plc 0 l) (i : Int) (j : Int)) (decide (rd t2 (plc 0 l) > 0), t2) ∧ St n l t t2 (d || ((rowF (i : Int) (j : Int) r).any (Pm l) || A)) := by
          intro i A hi next r
          have hx := hr.2 _ (rd_mem (l := l) (i := i) (by omega))
          induction r with
          | zero =>
            intro j t1 d hj st
            obtain ⟨t2, h1, h2⟩ := next t1 d st
            refine ⟨t2, ?_, by simpa [rowF] using h2⟩
            refine Ev.step (f := fun k => drovewayref07_wins.l0 k l t1 (plc 0 l) ((i + 1 : Nat) : Int)) (fun k => ?_) h1
            simp only [drovewayref07_wins.l1]
            rw [if_pos (by omega), if_pos (by omega), if_neg (by omega), w64 (by omega)]
            rfl
          | succ r ihr =>
            intro j t1 d hj st
            have hless := row_less hr (i := i) (c := (j : Int)) (by omega) (by omega)
            have hrb := hr.bite (i : Int) (c := (j : Int)) (by omega)
            have hlb : (bite l (i : Int) (j : Int)).length = n := by rw [bite_len]; exact hl
            obtain ⟨t3, he3, hg3, hs3⟩ := ih n (bite l (i : Int) (j : Int)) t1 (by omega) hn hrb hlb (st.good.less (by omega))
            have hne : l ≠ bite l (i : Int) (j : Int) := by intro h; rw [← h] at hless; omega
            have st3 : St n l t t3 d := by
              refine ⟨st.good.keep hg3 hs3, ?_, ?_⟩
              · rw [hs3 l hr hl (by omega) hne]; exact st.here
              · intro l' hr' hl' hle hne'
                rw [hs3 l' hr' hl' (by omega) (by rintro rfl; omega)]
                exact st.same l' hr' hl' hle hne'
            have go : ∀ t2 d2, Ev (fun k => (if V (bite l (i : Int) (j : Int)) = true then (drovewayref07_wins.l1 k l t3 (plc 0 l) (i : Int) ((j + 1 : Nat) : Int)) else (drovewayref07_wins.l1 k l (t3.set (plc 0 l).toNat 1) (plc 0 l) (i : Int) ((j + 1 : Nat) : Int)))) (d2, t2) → Ev (fun k => drovewayref07_wins.l1 k l t1 (plc 0 l) (i : Int) (j : Int)) (d2, t2) := by
              intro t2 d2 h
              refine Ev.step (f := fun k => (drovewayref07_bitten.f k l (i : Int) (j : Int)).bind fun t182 => ((drovewayref07_wins.f k t182 t1).bind fun bt185 => (if bt185.1 = true then (drovewayref07_wins.l1 k l bt185.2 (plc 0 l) (i : Int) ((j + 1 : Nat) : Int)) else (if 0 ≤ plc 0 l then (if plc 0 l < (t1.length : Int) then (drovewayref07_wins.l1 k l (bt185.2.set (plc 0 l).toNat 1) (plc 0 l) (i : Int) ((j + 1 : Nat) : Int)) else (none)) else (none))))) (fun k => ?_) ?_
              · simp only [drovewayref07_wins.l1]
                rw [if_pos (by omega), if_pos (by omega), if_pos (by omega), w64 (n := (j : Int) + 1) (by omega)]
                rfl
              · refine Ev.bind (bitten_ev l _ _ (by omega)) (Ev.bind he3 ?_)
                have c2 : plc 0 l < (t1.length : Int) := by rw [st.good.1]; exact hp.2
                refine Ev.congr (fun k => ?_) h
                simp only [if_pos hp.1, if_pos c2]
            cases hV : V (bite l (i : Int) (j : Int)) with
            | true =>
              obtain ⟨t2, h1, h2⟩ := ihr (j + 1) t3 d (by omega) st3
              refine ⟨t2, go _ _ (Ev.pos hV h1), ?_⟩
              rw [rowF, List.any_cons, Pm, hV, Bool.not_true, Bool.false_or]
              exact h2
            | false =>
              have hlt3 : plc 0 l < (t3.length : Int) := by rw [hg3.1]; exact hp.2
              have st4 : St n l t (t3.set (plc 0 l).toNat 1) true := by
                refine ⟨⟨by rw [List.length_set]; exact hg3.1, ?_⟩, ?_, ?_⟩
                · intro l' hr' hl' hs'
                  have hp' := plc_in hr' hl'
                  rw [rd_set ⟨hp.1, hlt3⟩ (by rw [hg3.1]; exact hp'), if_neg (plc_ne hr hr' (by omega) (by rintro rfl; omega))]
                  exact st3.good.2 l' hr' hl' hs'
                · rw [rd_set ⟨hp.1, hlt3⟩ ⟨hp.1, hlt3⟩, if_pos rfl]
                  rfl
                · intro l' hr' hl' hle hne'
                  have hp' := plc_in hr' hl'
                  rw [rd_set ⟨hp.1, hlt3⟩ (by rw [hg3.1]; exact hp'), if_neg (plc_ne hr hr' (by omega) hne')]
                  exact st3.same l' hr' hl' hle hne'
              obtain ⟨t2, h1, h2⟩ := ihr (j + 1) _ true (by omega) st4
              refine ⟨t2, go _ _ (Ev.neg (by rw [hV]; decide) h1), ?_⟩
              rw [rowF, List.any_cons, Pm, hV, Bool.not_false, Bool.true_or, Bool.true_or, Bool.or_true]
              rw [Bool.true_or] at h2
              exact h2
        -- all rows
        have all : ∀ (r i : Nat) (t1 : List Int) (d : Bool), i + r = n → St n l t t1 d → ∃ t2, Ev (fun k => drovewayref07_wins.l0 k l t1 (plc 0 l) (i : Int)) (decide (rd t2 (plc 0 l) > 0), t2) ∧ St n l t t2 (d || (movesGo (i : Int) (l.drop i)).any (Pm l)) := by
          intro r
          induction r with
          | zero =>
            intro i t1 d hi st
            refine ⟨t1, ?_, ?_⟩
            · refine Ev.step (f := fun k => some (decide (rd t1 (plc 0 l) > 0), t1)) (fun k => ?_) (Ev.now _)
              simp only [drovewayref07_wins.l0]
              rw [if_neg (by omega), if_pos hp.1, if_pos (by rw [st.good.1]; exact hp.2)]
            · rw [List.drop_of_length_le (by omega), movesGo, List.any_nil, Bool.or_false]
              exact st
          | succ r ihr =>
            intro i t1 d hi st
            have hil : i < l.length := by omega
            obtain ⟨t2, h1, h2⟩ := row i _ (by omega) (fun t1 d st => ihr (i + 1) t1 d (by omega) st) (rd l (i : Int)).toNat 0 t1 d (by omega) st
            refine ⟨t2, ?_, ?_⟩
            · refine Ev.step (f := fun k => drovewayref07_wins.l1 k l t1 (plc 0 l) (i : Int) ((0 : Nat) : Int)) (fun k => ?_) h1
              simp only [drovewayref07_wins.l0]
              rw [if_pos (by omega)]
              rfl
            · rw [drop_eq hil, movesGo, List.any_append, rowMoves_eq]
              exact h2
        obtain ⟨t2, h1, h2⟩ := all n 0 _ false (by omega) st0
        have hany : (false || (movesGo ((0 : Nat) : Int) (l.drop 0)).any (Pm l)) = V l := by
          rw [Bool.false_or, V_eq hr h0]
          rfl
        rw [hany] at h2
        have hv : decide (rd t2 (plc 0 l) > 0) = V l := by
          rw [h2.here]
          cases V l <;> decide
        rw [hv] at h1
        refine ⟨t2, start _ (Ev.pos he h1), ⟨h2.good.1, ?_⟩, h2.same⟩
        intro l' hr' hl' hs'
        by_cases hlt' : sumN l' < sumN l
        · exact h2.good.2 l' hr' hl' hlt'
        · by_cases hll : l' = l
          · right
            rw [hll]
            exact h2.here
          · rw [h2.same l' hr' hl' (by omega) hll]
            exact hg.2 l' hr' hl' hs'
      · -- known
        refine ⟨t, start _ (Ev.neg he ?_), hg, fun _ _ _ _ _ => rfl⟩
        have hv := (hg.2 l hr hl (by omega)).resolve_left he
        have e : decide (rd t (plc 0 l) > 0) = V l := by
          rw [hv]
          unfold val
          cases V l <;> decide
        rw [e]
        exact Ev.now _

/-! IsBar and Chomp of the reference -/
theorem isbar_l (l : List Int) (hl : l.length ≤ 1000) : ∀ (r i : Nat), i + r = l.length → okTo l i → Ev (fun k => drovewayref07_IsBar.l0 k l (i : Int)) (isBarL l)
  | 0, i, h, hok => by
    have hi : i = l.length := by omega
    subst hi
    refine Ev.step (f := fun k => some (isBarL l)) (fun k => ?_) (Ev.now _)
    simp only [drovewayref07_IsBar.l0]
    rw [if_neg (by omega)]
    by_cases h1 : (l.length : Int) ≥ 1
    · rw [if_pos h1]
      congr 1
      unfold isBarL
      rw [decide_eq_decide]
      constructor
      · intro h2; exact ⟨by omega, by omega, hok⟩
      · intro h2; omega
    · rw [if_neg h1]
      congr 1
      symm
      unfold isBarL
      rw [decide_eq_false_iff_not]
      omega
  | r + 1, i, h, hok => by
    have bad : ¬ (0 ≤ rd l (i : Int) ∧ rd l (i : Int) ≤ 7 ∧ (0 < i → rd l (i : Int) ≤ rd l ((i : Int) - 1))) → isBarL l = false := by
      intro hb
      unfold isBarL
      rw [decide_eq_false_iff_not]
      intro h2
      exact hb (h2.2.2 i (by omega))
    by_cases h0 : rd l (i : Int) < 0
    · refine Ev.step (f := fun k => some false) (fun k => ?_) (by rw [bad (by omega)]; exact Ev.now _)
      simp only [drovewayref07_IsBar.l0]
      rw [if_pos (by omega), if_pos (by omega), if_pos h0]
    · by_cases h7 : rd l (i : Int) > 7
      · refine Ev.step (f := fun k => some false) (fun k => ?_) (by rw [bad (by omega)]; exact Ev.now _)
        simp only [drovewayref07_IsBar.l0]
        rw [if_pos (by omega), if_pos (by omega), if_neg h0, if_pos h7]
      · by_cases hi : 0 < i
        · by_cases hd : rd l (i : Int) > rd l ((i : Int) - 1)
          · refine Ev.step (f := fun k => some false) (fun k => ?_) (by rw [bad (by intro h2; have := h2.2.2 hi; omega)]; exact Ev.now _)
            simp only [drovewayref07_IsBar.l0]
            rw [if_pos (by omega), if_pos (by omega), if_neg h0, if_neg h7, if_pos (by omega), w64 (by omega), if_pos (by omega), if_pos (by omega), if_pos hd]
          · have ih := isbar_l l hl r (i + 1) (by omega) (by
              intro j hj
              by_cases hji : j < i
              · exact hok j hji
              · obtain rfl : j = i := by omega
                exact ⟨by omega, by omega, fun _ => by omega⟩)
            refine Ev.step (f := fun k => drovewayref07_IsBar.l0 k l ((i + 1 : Nat) : Int)) (fun k => ?_) ih
            simp only [drovewayref07_IsBar.l0]
            rw [if_pos (by omega), if_pos (by omega), if_neg h0, if_neg h7, if_pos (by omega), w64 (n := (i : Int) - 1) (by omega), if_pos (by omega), if_pos (by omega), if_neg hd, w64 (by omega)]
            rfl
        · obtain rfl : i = 0 := by omega
          have ih := isbar_l l hl r (0 + 1) (by omega) (by
              intro j hj
              obtain rfl : j = 0 := by omega
              exact ⟨by omega, by omega, fun h => absurd h (by omega)⟩)
          refine Ev.step (f := fun k => drovewayref07_IsBar.l0 k l ((0 + 1 : Nat) : Int)) (fun k => ?_) ih
          simp only [drovewayref07_IsBar.l0]
          rw [if_pos (by omega), if_pos (by omega), if_neg h0, if_neg h7, if_neg (by omega), w64 (by omega)]
          rfl
theorem isbar_ev (l : List Int) (hl : l.length ≤ 1000) : Ev (fun k => drovewayref07_IsBar.f k l) (isBarL l) := isbar_l l hl l.length 0 (by omega) (fun j hj => absurd hj (by omega))

theorem row_of {l : List Int} (h : isBarL l = true) : Row l := by
  have h2 := isBarL_iff.1 h
  refine ⟨h2.2.1, ?_⟩
  intro x hx
  obtain ⟨i, hi, rfl⟩ := List.mem_iff_getElem.1 hx
  have h3 := h2.2.2 i hi
  rw [rd_get _ _ hi] at h3
  exact ⟨h3.1, h3.2.1⟩

def fin (o : List S49) : List S49 × Int := if o.length = 0 then ([], 10) else (o, 0)
theorem chomp_row {l : List Int} {n i : Nat} (hn : 1 ≤ n) (hr : Row l) (hl : l.length = n) (hi : i < n) (A : List (Int × Int))
    (next : ∀ t out, Good n t (sumN l) → out.length ≤ 7 * (i + 1) → Ev (fun k => drovewayref07_Chomp.l0 k l t out ((i + 1 : Nat) : Int)) (fin (out ++ (A.filter (Pm l)).map mk49))) :
    ∀ (r j : Nat) (t : List Int) (out : List S49), j + r = (rd l (i : Int)).toNat → Good n t (sumN l) → out.length ≤ 7 * i + j →
      Ev (fun k => drovewayref07_Chomp.l1 k l t out (i : Int) (j : Int)) (fin (out ++ ((rowF (i : Int) (j : Int) r ++ A).filter (Pm l)).map mk49)) := by
  have hx := hr.2 _ (rd_mem (l := l) (i := i) (by omega))
  have hn6 : n ≤ 6 := by rw [← hl]; exact hr.1
  intro r
  induction r with
  | zero =>
    intro j t out hj hg ho
    have h1 := next t out hg (by omega)
    refine Ev.step (f := fun k => drovewayref07_Chomp.l0 k l t out ((i + 1 : Nat) : Int)) (fun k => ?_) (by rw [rowF, List.nil_append]; exact h1)
    simp only [drovewayref07_Chomp.l1]
    rw [if_pos (by omega), if_pos (by omega), if_neg (by omega), w64 (by omega)]
    rfl
  | succ r ihr =>
    intro j t out hj hg ho
    have hless := row_less hr (i := i) (c := (j : Int)) (by omega) (by omega)
    have hrb := hr.bite (i : Int) (c := (j : Int)) (by omega)
    have hlb : (bite l (i : Int) (j : Int)).length = n := by rw [bite_len]; exact hl
    obtain ⟨t3, he3, hg3, hs3⟩ := rwins_ev _ n (bite l (i : Int) (j : Int)) t (Nat.le_refl _) hn hrb hlb (hg.less (by omega))
    have hg4 := hg.keep hg3 hs3
    have go : ∀ R, Ev (fun k => (if V (bite l (i : Int) (j : Int)) = true then (drovewayref07_Chomp.l1 k l t3 out (i : Int) ((j + 1 : Nat) : Int)) else (drovewayref07_Chomp.l1 k l t3 (out ++ [(⟨(i : Int), (j : Int)⟩ : S49)]) (i : Int) ((j + 1 : Nat) : Int)))) R → Ev (fun k => drovewayref07_Chomp.l1 k l t out (i : Int) (j : Int)) R := by
      intro R h
      refine Ev.step (f := fun k => (drovewayref07_bitten.f k l (i : Int) (j : Int)).bind fun t205 => ((drovewayref07_wins.f k t205 t).bind fun bt208 => (if bt208.1 = true then (drovewayref07_Chomp.l1 k l bt208.2 out (i : Int) ((j + 1 : Nat) : Int)) else (drovewayref07_Chomp.l1 k l bt208.2 (out ++ [(⟨(i : Int), (j : Int)⟩ : S49)]) (i : Int) ((j + 1 : Nat) : Int))))) (fun k => ?_) ?_
      · simp only [drovewayref07_Chomp.l1]
        have c1 : out.length < 8796093022208 := by omega
        rw [if_pos (by omega), if_pos (by omega), if_pos (by omega), w64 (n := (j : Int) + 1) (by omega)]
        simp only [if_pos c1]
        rfl
      · exact Ev.bind (bitten_ev l _ _ (by omega)) (Ev.bind he3 h)
    cases hV : V (bite l (i : Int) (j : Int)) with
    | true =>
      have h1 := ihr (j + 1) t3 out (by omega) hg4 (by omega)
      refine go _ (Ev.pos hV ?_)
      rw [rowF, List.cons_append, List.filter_cons, if_neg (by rw [Pm, hV]; decide)]
      exact h1
    | false =>
      have h1 := ihr (j + 1) t3 (out ++ [(⟨(i : Int), (j : Int)⟩ : S49)]) (by omega) hg4 (by rw [List.length_append, List.length_singleton]; omega)
      refine go _ (Ev.neg (by rw [hV]; decide) ?_)
      rw [rowF, List.cons_append, List.filter_cons, if_pos (by rw [Pm, hV]; decide), List.map_cons]
      rw [List.append_assoc, List.singleton_append] at h1
      exact h1
theorem chomp_all {l : List Int} {n : Nat} (hn : 1 ≤ n) (hr : Row l) (hl : l.length = n) : ∀ (r i : Nat) (t : List Int) (out : List S49), i + r = n → Good n t (sumN l) → out.length ≤ 7 * i →
    Ev (fun k => drovewayref07_Chomp.l0 k l t out (i : Int)) (fin (out ++ ((movesGo (i : Int) (l.drop i)).filter (Pm l)).map mk49)) := by
  have hn6 : n ≤ 6 := by rw [← hl]; exact hr.1
  intro r
  induction r with
  | zero =>
    intro i t out hi hg ho
    refine Ev.step (f := fun k => some (fin out)) (fun k => ?_) (by rw [List.drop_of_length_le (by omega), movesGo, List.filter_nil, List.map_nil, List.append_nil]; exact Ev.now _)
    simp only [drovewayref07_Chomp.l0]
    rw [if_neg (by omega)]
    unfold fin
    by_cases h0 : out.length = 0
    · rw [if_pos (by omega), if_pos h0]
    · rw [if_neg (by omega), if_neg h0]
  | succ r ihr =>
    intro i t out hi hg ho
    have hil : i < l.length := by omega
    have h1 := chomp_row hn hr hl (by omega) (movesGo ((i + 1 : Nat) : Int) (l.drop (i + 1))) (fun t out hg ho => ihr (i + 1) t out (by omega) hg ho) (rd l (i : Int)).toNat 0 t out (by omega) hg (by omega)
    refine Ev.step (f := fun k => drovewayref07_Chomp.l1 k l t out (i : Int) ((0 : Nat) : Int)) (fun k => ?_) ?_
    · simp only [drovewayref07_Chomp.l0]
      rw [if_pos (by omega)]
      rfl
    · rw [drop_eq hil, movesGo, rowMoves_eq]
      exact h1

theorem rowMoves_len (i x : Int) : (rowMoves i x).length = x.toNat := by unfold rowMoves; rw [List.length_map, List.length_range]
theorem movesGo_len : ∀ (xs : List Int) (i : Int), (movesGo i xs).length = sumN xs
  | [], _ => rfl
  | x :: xs, i => by rw [movesGo, List.length_append, rowMoves_len, movesGo_len xs (i + 1)]; simp [sumN]
theorem sumN_le : ∀ (xs : List Int), (∀ x ∈ xs, 0 ≤ x ∧ x ≤ 7) → sumN xs ≤ 7 * xs.length
  | [], _ => by simp [sumN]
  | x :: xs, h => by
    have h1 := sumN_le xs (fun z hz => h z (by simp [hz]))
    have h2 := h x (by simp)
    simp only [sumN, List.map_cons, List.sum_cons, List.length_cons] at *
    omega
theorem winM_padL {l : List Int} (h : isBarL l = true) : winM (padL l) 42 = (moves l).filter (Pm l) := by
  have hr := row_of h
  rw [padL_padz l hr.1]
  unfold winM
  rw [moves_padz]
  have e : (moves l).filter (fun m => !winsS (bite (padz l) m.1 m.2)) = (moves l).filter (Pm l) := by
    refine List.filter_congr fun m hm => ?_
    rw [bite_padz (movesGo_pos l 0 hm)]
    rfl
  rw [e]
  refine List.take_of_length_le ?_
  have h1 := List.length_filter_le (Pm l) (moves l)
  have h2 : (moves l).length = sumN l := movesGo_len l 0
  have h3 := sumN_le l hr.2
  have h4 := hr.1
  omega

theorem zeros_good (n s : Nat) : Good n (List.replicate (sz n).toNat 0) s := by
  refine ⟨List.length_replicate, ?_⟩
  intro l hr hl _
  left
  have hp := plc_in hr hl
  obtain ⟨j, hj⟩ : ∃ j : Nat, plc 0 l = (j : Int) := ⟨(plc 0 l).toNat, by omega⟩
  rw [hj, rd_get _ _ (by rw [List.length_replicate]; omega)]
  exact List.getElem_replicate _
theorem rchomp_ev (l : List Int) (hl : l.length ≤ 1000) : Ev (fun k => drovewayref07_Chomp.f k l) ((chompL l).1.map mk49, (chompL l).2) := by
  unfold drovewayref07_Chomp.f
  refine Ev.bind (isbar_ev l hl) ?_
  by_cases h : isBarL l = true
  · refine Ev.pos h ?_
    have hb := isBarL_iff.1 h
    have hr := row_of h
    refine Ev.bind (tried_ev hr.1) ?_
    have h1 := chomp_all hb.1 hr rfl l.length 0 _ [] (by omega) (zeros_good l.length (sumN l)) (by simp)
    have e : fin ([] ++ ((movesGo ((0 : Nat) : Int) (l.drop 0)).filter (Pm l)).map mk49) = ((chompL l).1.map mk49, (chompL l).2) := by
      unfold chompL
      rw [if_pos h, winM_padL h, List.nil_append]
      show fin (((moves l).filter (Pm l)).map mk49) = _
      unfold fin
      rw [List.length_map]
      by_cases h0 : ((moves l).filter (Pm l)).length = 0
      · rw [if_pos h0, if_pos h0]; rfl
      · rw [if_neg h0, if_neg h0]
    rw [e] at h1
    exact h1
  · refine Ev.neg h ?_
    unfold chompL
    rw [if_neg h]
    exact Ev.now _
end Go.Proofs.Ytcngcilinlcmeaa.Pure
