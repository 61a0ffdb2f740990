/- WagerLosing holds: from a bar of Lost no move leads to a bar of Lost, from every other bar with a piece some move does, and Chomp tells just these moves. -/
import Derived.Test.YtcngcilinlcmeaaPx19
import Derived.Test.YtcngcilinlcmeaaRChomp
namespace Go.Proofs.Ytcngcilinlcmeaa.Pure
open Go.RowKit Go.Proofs.Ytcngcilinlcmeaa.P Go.Proofs.YtcngcilinlcmeaaW.PrintWords Go.Proofs.YtcngcilinlcmeaaW.PrintLast

open Go.Proofs.Ytcngcilinlcmeaa.Ext
set_option linter.unusedVariables false

/-- each at most the one before it, the first at most b -/
def Desc : Int → List Int → Prop
  | _, [] => True
  | b, x :: xs => 0 ≤ x ∧ x ≤ b ∧ Desc x xs
theorem mem_bars : ∀ (n : Nat) (b : Int) (pre l : List Int), l ∈ barsFrom n b pre ↔ ∃ s, l = pre ++ s ∧ s.length = n ∧ Desc b s
  | 0, b, pre, l => by
    rw [barsFrom, List.mem_singleton]
    constructor
    · rintro rfl; exact ⟨[], by simp, rfl, trivial⟩
    · rintro ⟨s, rfl, hs, _⟩
      rw [List.length_eq_zero_iff.1 hs, List.append_nil]
  | n + 1, b, pre, l => by
    rw [barsFrom, List.mem_flatMap]
    constructor
    · rintro ⟨x, hx, h⟩
      rw [List.mem_range] at hx
      obtain ⟨s, hl, hs, hd⟩ := (mem_bars n (x : Int) (pre ++ [(x : Int)]) l).1 h
      exact ⟨(x : Int) :: s, by rw [hl]; simp, by simp [hs], by omega, by omega, hd⟩
    · rintro ⟨s, hl, hs, hd⟩
      match s, hs, hd with
      | x :: s, hs, hd =>
        refine ⟨x.toNat, List.mem_range.2 (by have := hd.1; have := hd.2.1; omega), ?_⟩
        have hx : ((x.toNat : Nat) : Int) = x := by have := hd.1; omega
        rw [hx]
        exact (mem_bars n x (pre ++ [x]) l).2 ⟨s, by rw [hl]; simp, by simpa using hs, hd.2.2⟩
theorem flat_len {α β : Type} (f : α → List β) (m : Nat) : ∀ (l : List α), (∀ x ∈ l, (f x).length ≤ m) → (l.flatMap f).length ≤ l.length * m
  | [], _ => by simp
  | x :: l, h => by
    have h1 := h x (by simp)
    have h2 := flat_len f m l (fun y hy => h y (by simp [hy]))
    rw [List.flatMap_cons, List.length_append, List.length_cons, Nat.add_mul, Nat.one_mul]
    omega
theorem bars_few : ∀ (n : Nat) (b : Int) (pre : List Int), b ≤ 7 → (barsFrom n b pre).length ≤ 8 ^ n
  | 0, b, pre, h => by simp [barsFrom]
  | n + 1, b, pre, h => by
    rw [barsFrom]
    have h1 := flat_len (fun (x : Nat) => barsFrom n (x : Int) (pre ++ [(x : Int)])) (8 ^ n) (List.range (b + 1).toNat) (fun x hx => by
      rw [List.mem_range] at hx
      exact bars_few n (x : Int) _ (by omega))
    rw [List.length_range] at h1
    have h2 : (b + 1).toNat * 8 ^ n ≤ 8 * 8 ^ n := Nat.mul_le_mul_right _ (by omega)
    rw [Nat.pow_succ, Nat.mul_comm (8 ^ n) 8]
    omega
theorem okTo_tail {x : Int} {xs : List Int} (h : okTo (x :: xs) (xs.length + 1)) : okTo xs xs.length := by
  intro i hi
  have h1 := h (i + 1) (by omega)
  have e1 : rd (x :: xs) ((i + 1 : Nat) : Int) = rd xs (i : Int) := by
    unfold rd
    rw [show ((i + 1 : Nat) : Int).toNat = i + 1 by omega, show (i : Int).toNat = i by omega]
    rfl
  rw [e1] at h1
  refine ⟨h1.1, h1.2.1, ?_⟩
  intro h0
  have h2 := h1.2.2 (by omega)
  obtain ⟨j, rfl⟩ : ∃ j, i = j + 1 := ⟨i - 1, by omega⟩
  have e2 : rd (x :: xs) (((j + 1 + 1 : Nat) : Int) - 1) = rd xs (((j + 1 : Nat) : Int) - 1) := by
    unfold rd
    rw [show (((j + 1 + 1 : Nat) : Int) - 1).toNat = j + 1 by omega, show (((j + 1 : Nat) : Int) - 1).toNat = j by omega]
    rfl
  rw [e2] at h2
  exact h2
theorem desc_of : ∀ (l : List Int) (b : Int), okTo l l.length → rd l 0 ≤ b → Desc b l
  | [], b, _, _ => trivial
  | x :: xs, b, h, hb => by
    have h0 := h 0 (by simp)
    refine ⟨h0.1, hb, desc_of xs x (okTo_tail h) ?_⟩
    cases xs with
    | nil => exact h0.1
    | cons y ys => exact (h 1 (by simp)).2.2 (by omega)

theorem u8_bounds {a : Int} (h : (Lit.int .u8 a).wf = true) : 0 ≤ a ∧ a ≤ 255 := by
  have h1 : IntKind.u8.min = 0 := by decide
  have h2 : IntKind.u8.max = 255 := by decide
  simp only [Lit.wf, h1, h2, Bool.and_eq_true, decide_eq_true_eq] at h
  omega
theorem size_in {r c : Int} (hr : 1 ≤ r ∧ r ≤ 6) (hc : 1 ≤ c ∧ c ≤ 7) : sizedL r c = if 24 < r * c then 8 else 0 := by
  unfold sizedL
  rw [if_neg (by omega)]
theorem desc_bite (r c : Int) (hc : 0 ≤ c) : ∀ (l : List Int) (i b b' : Int), Desc b l → (b' = b ∨ (r ≤ i ∧ b' = mn b c)) → Desc b' (biteGo r c i l)
  | [], _, _, _, _, _ => trivial
  | x :: xs, i, b, b', h, hb => by
    obtain ⟨h1, h2, h3⟩ := h
    rw [biteGo]
    by_cases hr : r ≤ i
    · have e : bitC r c x i = mn x c := by unfold bitC; rw [if_pos hr]
      rw [e]
      refine ⟨by unfold mn; split <;> omega, ?_, desc_bite r c hc xs (i + 1) x _ h3 (.inr ⟨by omega, rfl⟩)⟩
      rcases hb with rfl | ⟨_, rfl⟩
      · unfold mn; split <;> omega
      · unfold mn; split <;> split <;> omega
    · have e : bitC r c x i = x := by unfold bitC; rw [if_neg hr]
      rw [e]
      exact ⟨h1, by omega, desc_bite r c hc xs (i + 1) x _ h3 (.inl rfl)⟩
theorem chomp_of {l : List Int} (hb : isBarL l = true) : (chompL l).1 = (moves l).filter (Pm l) := by
  unfold chompL
  rw [if_pos hb, winM_padL hb]
  split
  · rename_i h; rw [List.length_eq_zero_iff.1 h]
  · rfl
theorem none_iff {l : List Int} (hr : Row l) (h0 : l.headD 0 ≠ 0) : ((moves l).filter (Pm l)).length = 0 ↔ V l = false := by
  rw [V_eq hr h0, List.length_eq_zero_iff, List.filter_eq_nil_iff, List.any_eq_false]
theorem chomp_err {l : List Int} (hb : isBarL l = true) (h0 : l.headD 0 ≠ 0) : (chompL l).2 = if V l = true then 0 else 10 := by
  have h := none_iff (row_of hb) h0
  unfold chompL
  rw [if_pos hb, winM_padL hb]
  cases hw : V l with
  | true =>
    rw [if_neg (fun h2 => by rw [h.1 h2] at hw; cases hw)]
    rfl
  | false =>
    rw [if_pos (h.2 hw)]
    rfl

theorem rd_L1_get {L : List (List Int)} {i : Nat} (h : i < L.length) : rd_L1 L (i : Int) = L[i] := by
  unfold rd_L1
  rw [Int.toNat_natCast, List.getD_eq_getElem?_getD, List.getElem?_eq_getElem h]
  rfl
theorem inside_l {L : List (List Int)} {x : List Int} (hL : L.length ≤ 1000000) (hy : ∀ y ∈ L, y.length ≤ 1000) : ∀ (r i : Nat), i + r = L.length → Ev (fun k => drovewaylaw07_inside.l0 k L x (i : Int)) (decide (x ∈ L.drop i))
  | 0, i, h => by
    refine Ev.step (f := fun k => some false) (fun k => ?_) ?_
    · simp only [drovewaylaw07_inside.l0]
      rw [if_neg (by omega)]
    · rw [List.drop_of_length_le (by omega), decide_eq_false (by simp)]
      exact Ev.now _
  | r + 1, i, h => by
    have hi : i < L.length := by omega
    have ih := inside_l (x := x) hL hy r (i + 1) (by omega)
    have e : L.drop i = L[i] :: L.drop (i + 1) := List.drop_eq_getElem_cons hi
    refine Ev.step (f := fun k => (drovewaylaw07_same.f k (rd_L1 L (i : Int)) x).bind fun t424 => (if t424 = true then (some true) else (drovewaylaw07_inside.l0 k L x ((i + 1 : Nat) : Int)))) (fun k => ?_) ?_
    · simp only [drovewaylaw07_inside.l0]
      rw [if_pos (by omega), if_pos (by omega), w64 (by omega)]
      rfl
    · rw [rd_L1_get hi, e]
      refine Ev.bind (same_ev _ _ (by have := hy _ (List.getElem_mem hi); omega)) ?_
      by_cases hx : L[i] = x
      · refine Ev.pos (by rw [decide_eq_true hx]) ?_
        rw [decide_eq_true (by rw [hx]; simp)]
        exact Ev.now _
      · refine Ev.neg (by rw [decide_eq_false hx]; decide) ?_
        rw [show decide (x ∈ L[i] :: L.drop (i + 1)) = decide (x ∈ L.drop (i + 1)) from by
          rw [decide_eq_decide, List.mem_cons]
          exact ⟨fun h => h.resolve_left (fun h2 => hx h2.symm), .inr⟩]
        exact ih
theorem inside_ev {L : List (List Int)} (x : List Int) (hL : L.length ≤ 1000000) (hy : ∀ y ∈ L, y.length ≤ 1000) : Ev (fun k => drovewaylaw07_inside.f k L x) (decide (x ∈ L)) :=
  inside_l hL hy L.length 0 (by omega)

abbrev lostOf (r c : Int) : List (List Int) := (barsFrom r.toNat c []).filter lostP
theorem lost_mem {r c : Int} {x : List Int} (hr : 1 ≤ r ∧ r ≤ 6) (hx : (x.length : Int) = r) (hd : Desc c x) : decide (x ∈ lostOf r c) = !V x := by
  have h1 : x ∈ lostOf r c ↔ V x = false := by
    rw [List.mem_filter, mem_bars]
    have e : lostP x = !V x := by
      unfold lostP V
      rw [padL_padz x (by omega)]
    rw [e]
    constructor
    · rintro ⟨_, h⟩; simpa using h
    · intro h; exact ⟨⟨x, by simp, by omega, hd⟩, by simpa using h⟩
  cases hv : V x with
  | true => rw [decide_eq_false (fun h => by rw [h1.1 h] at hv; cases hv)]; rfl
  | false => rw [decide_eq_true (h1.2 hv)]; rfl
theorem lost_few {r c : Int} (hr : 1 ≤ r ∧ r ≤ 6) (hc : c ≤ 7) : (lostOf r c).length ≤ 1000000 ∧ ∀ y ∈ lostOf r c, y.length ≤ 1000 := by
  constructor
  · have h1 := List.length_filter_le lostP (barsFrom r.toNat c [])
    have h2 := bars_few r.toNat c [] hc
    have h3 : 8 ^ r.toNat ≤ 8 ^ 6 := Nat.pow_le_pow_right (by omega) (by omega)
    have h4 : (8 : Nat) ^ 6 = 262144 := by decide
    show (List.filter lostP (barsFrom r.toNat c [])).length ≤ 1000000
    omega
  · intro y hy
    obtain ⟨s, hs, hl, _⟩ := (mem_bars _ _ _ _).1 (List.mem_filter.1 hy).1
    rw [hs, List.nil_append, hl]
    omega

theorem rd49 {M : List (Int × Int)} {D : List (Int × Int)} {m : Int × Int} {t : List (Int × Int)} (h : M = D ++ m :: t) : rd_T49 (M.map mk49) (D.length : Int) = mk49 m := by
  unfold rd_T49
  rw [h, Int.toNat_natCast, List.getD_eq_getElem?_getD, List.map_append, List.getElem?_append_right (by rw [List.length_map]; omega), List.length_map, Nat.sub_self]
  rfl

section
variable {r c : Int} {bar : List Int} (hr : 1 ≤ r ∧ r ≤ 6) (hc : 1 ≤ c ∧ c ≤ 7) (hl : (bar.length : Int) = r) (hb : isBarL bar = true) (hd : Desc c bar) {lost : Bool} {M0 : List (Int × Int)}
include hr hc hl hb hd

theorem losing_row {i : Nat} (hi : i < bar.length) (A : List (Int × Int)) (hM : M0.length ≤ 1000)
    (next : ∀ D, M0 = D ++ A.filter (Pm bar) → Ev (fun k => drovewaylaw07_WagerLosing.l0 k bar r (lostOf r c) lost (M0.map mk49) (D.length : Int) ((i + 1 : Nat) : Int)) true) :
    ∀ (n j : Nat) (D : List (Int × Int)), j + n = (rd bar (i : Int)).toNat → M0 = D ++ (rowF (i : Int) (j : Int) n ++ A).filter (Pm bar) →
      Ev (fun k => drovewaylaw07_WagerLosing.l1 k bar r (lostOf r c) lost (M0.map mk49) (D.length : Int) (i : Int) (j : Int)) true := by
  have hrow := row_of hb
  have hx := hrow.2 _ (rd_mem hi)
  have hf := lost_few hr hc.2
  intro n
  induction n with
  | zero =>
    intro j D hj hD
    have h1 := next D (by simpa [rowF] using hD)
    refine Ev.step (f := fun k => drovewaylaw07_WagerLosing.l0 k bar r (lostOf r c) lost (M0.map mk49) (D.length : Int) ((i + 1 : Nat) : Int)) (fun k => ?_) h1
    simp only [drovewaylaw07_WagerLosing.l1]
    rw [if_pos (by omega), if_pos (by omega), if_neg (by omega), w64 (by omega)]
    rfl
  | succ n ih =>
    intro j D hj hD
    have hjx : (j : Int) < rd bar (i : Int) := by omega
    have eb : bittenL bar (i : Int) (j : Int) = (bite bar (i : Int) (j : Int), 0) := by
      unfold bittenL
      rw [if_pos hb, if_neg (by omega)]
      have e : (bite (padL bar) (i : Int) (j : Int)).take bar.length = bite bar (i : Int) (j : Int) := by
        rw [padL_padz bar hrow.1, bite_padz (by omega)]
        unfold padz
        rw [List.take_left' (bite_len (i : Int) (j : Int) bar)]
      rw [e]
    have hin := inside_ev (bite bar (i : Int) (j : Int)) hf.1 hf.2
    have hmem : decide (bite bar (i : Int) (j : Int) ∈ lostOf r c) = !V (bite bar (i : Int) (j : Int)) := lost_mem hr (by rw [bite_len]; exact hl) (desc_bite (i : Int) (j : Int) (by omega) bar 0 c c hd (.inl rfl))
    rw [hmem] at hin
    have hDl : D.length ≤ 1000 := by
      have := congrArg List.length hD
      rw [List.length_append] at this
      omega
    cases hV : V (bite bar (i : Int) (j : Int)) with
    | true =>
      rw [rowF, List.cons_append, List.filter_cons, if_neg (by rw [Pm, hV]; decide)] at hD
      have h1 := ih (j + 1) D (by omega) hD
      rw [hV] at hin
      refine Ev.step (f := fun k => (drovewaylaw07_inside.f k (lostOf r c) (bite bar (i : Int) (j : Int))).bind fun t445 => (if t445 = true then (if (D.length : Int) ≥ ((M0.map mk49).length : Int) then (some false) else (if 0 ≤ (D.length : Int) then (if (D.length : Int) < ((M0.map mk49).length : Int) then (if (!(((rd_T49 (M0.map mk49) (D.length : Int)).f0) == (i : Int)) || (!(((rd_T49 (M0.map mk49) (D.length : Int)).f1) == (j : Int)))) = true then (some false) else (drovewaylaw07_WagerLosing.l1 k bar r (lostOf r c) lost (M0.map mk49) (wrap64 ((D.length : Int) + 1)) (i : Int) (wrap64 ((j : Int) + 1)))) else (none)) else (none))) else (drovewaylaw07_WagerLosing.l1 k bar r (lostOf r c) lost (M0.map mk49) (D.length : Int) (i : Int) ((j + 1 : Nat) : Int)))) (fun k => ?_) ?_
      · simp only [drovewaylaw07_WagerLosing.l1]
        rw [if_pos (by omega), if_pos (by omega), if_pos hjx]
        unfold wager_Bitten.f
        simp only [Option.bind_some]
        rw [eb, if_pos rfl, w64 (n := (j : Int) + 1) (by omega)]
        rfl
      · exact Ev.bind hin (Ev.neg (by decide) h1)
    | false =>
      rw [rowF, List.cons_append, List.filter_cons, if_pos (by rw [Pm, hV]; decide)] at hD
      have h1 := ih (j + 1) (D ++ [((i : Int), (j : Int))]) (by omega) (by rw [List.append_assoc, List.singleton_append]; exact hD)
      rw [hV] at hin
      have hlt : (D.length : Int) < ((M0.map mk49).length : Int) := by
        have := congrArg List.length hD
        rw [List.length_append, List.length_cons] at this
        rw [List.length_map]
        omega
      have h49 := rd49 hD
      rw [List.length_append, List.length_singleton] at h1
      refine Ev.step (f := fun k => (drovewaylaw07_inside.f k (lostOf r c) (bite bar (i : Int) (j : Int))).bind fun t445 => (if t445 = true then (drovewaylaw07_WagerLosing.l1 k bar r (lostOf r c) lost (M0.map mk49) ((D.length + 1 : Nat) : Int) (i : Int) ((j + 1 : Nat) : Int)) else (drovewaylaw07_WagerLosing.l1 k bar r (lostOf r c) lost (M0.map mk49) (D.length : Int) (i : Int) ((j + 1 : Nat) : Int)))) (fun k => ?_) ?_
      · simp only [drovewaylaw07_WagerLosing.l1]
        rw [if_pos (by omega), if_pos (by omega), if_pos hjx]
        unfold wager_Bitten.f
        simp only [Option.bind_some]
        rw [eb, if_pos rfl, w64 (n := (j : Int) + 1) (by omega), w64 (n := (D.length : Int) + 1) (by omega), h49]
        have e1 : (!((mk49 ((i : Int), (j : Int))).f0 == (i : Int)) || !((mk49 ((i : Int), (j : Int))).f1 == (j : Int))) = false := by
          show (!((i : Int) == (i : Int)) || !((j : Int) == (j : Int))) = false
          simp
        rw [e1]
        simp only [if_neg (show ¬ (D.length : Int) ≥ ((M0.map mk49).length : Int) by omega), if_pos (show 0 ≤ (D.length : Int) by omega), if_pos hlt, Bool.false_eq_true, if_false]
        rfl
      · exact Ev.bind hin (Ev.pos (by decide) h1)

theorem losing_all (hM : M0.length ≤ 1000) (hlost : (M0.length = 0) ↔ lost = true) : ∀ (n i : Nat) (D : List (Int × Int)), i + n = bar.length → M0 = D ++ (movesGo (i : Int) (bar.drop i)).filter (Pm bar) →
    Ev (fun k => drovewaylaw07_WagerLosing.l0 k bar r (lostOf r c) lost (M0.map mk49) (D.length : Int) (i : Int)) true := by
  intro n
  induction n with
  | zero =>
    intro i D hi hD
    rw [List.drop_of_length_le (by omega), movesGo, List.filter_nil, List.append_nil] at hD
    refine Ev.step (f := fun k => (drovewaylaw07_alive.f).bind fun t439 => (some t439)) (fun k => ?_) alive_ev
    simp only [drovewaylaw07_WagerLosing.l0]
    rw [if_neg (by omega), if_pos (by rw [List.length_map, hD]), if_pos]
    rw [← hD]
    cases lost with
    | true => rw [hlost.2 rfl]; rfl
    | false =>
      have : M0.length ≠ 0 := fun h => by have := hlost.1 h; cases this
      rw [show ((M0.length : Int) == 0) = false from beq_eq_false_iff_ne.2 (by omega)]
      rfl
  | succ n ih =>
    intro i D hi hD
    have hil : i < bar.length := by omega
    rw [drop_eq hil, movesGo, rowMoves_eq] at hD
    have h1 := losing_row (lost := lost) hr hc hl hb hd hil (movesGo ((i + 1 : Nat) : Int) (bar.drop (i + 1))) hM (fun D hD => ih (i + 1) D (by omega) hD) (rd bar (i : Int)).toNat 0 D (by omega) hD
    refine Ev.step (f := fun k => drovewaylaw07_WagerLosing.l1 k bar r (lostOf r c) lost (M0.map mk49) (D.length : Int) (i : Int) ((0 : Nat) : Int)) (fun k => ?_) h1
    simp only [drovewaylaw07_WagerLosing.l0]
    rw [if_pos (by omega)]
    rfl
end

theorem losing_j0 {r c : Int} {bar : List Int} (hr : 1 ≤ r ∧ r ≤ 6) (hc : 1 ≤ c ∧ c ≤ 7) (hl : (bar.length : Int) = r) (hb : isBarL bar = true) (hd : Desc c bar) (h0 : bar.headD 0 ≠ 0) :
    Ev (fun k => drovewaylaw07_WagerLosing.j0 k bar r (lostOf r c) false) true := by
  have hrow := row_of hb
  have hf := lost_few hr hc.2
  have hin := inside_ev bar hf.1 hf.2
  rw [lost_mem hr hl hd] at hin
  have hce := chomp_err hb h0
  have hM : ((moves bar).filter (Pm bar)).length ≤ 1000 := by
    have h1 := List.length_filter_le (Pm bar) (moves bar)
    have h2 : (moves bar).length = sumN bar := movesGo_len bar 0
    have h3 := sumN_le bar hrow.2
    have h4 := hrow.1
    omega
  have hall := losing_all (M0 := (moves bar).filter (Pm bar)) (lost := !V bar) hr hc hl hb hd hM (by rw [none_iff hrow h0]; cases V bar <;> simp) bar.length 0 [] (by omega) rfl
  refine Ev.step (f := fun k => (drovewaylaw07_inside.f k (lostOf r c) bar).bind fun t434 => ((wager_Chomp.f bar).bind fun bt435 => (if ((bt435.2 == 10) != t434) = true then (drovewaylaw07_WagerLosing.j1 k bar r (lostOf r c) t434 bt435.1 true) else (if bt435.2 = 0 then (drovewaylaw07_WagerLosing.j1 k bar r (lostOf r c) t434 bt435.1 false) else (drovewaylaw07_WagerLosing.j1 k bar r (lostOf r c) t434 bt435.1 (bt435.2 != 10)))))) (fun k => ?_) ?_
  · simp only [drovewaylaw07_WagerLosing.j0, Bool.false_eq_true, if_false]
  · refine Ev.bind hin (Ev.bind (g := fun _ => wager_Chomp.f bar) (Ev.now _) ?_)
    simp only
    rw [chomp_of hb, hce]
    have hj : Ev (fun k => drovewaylaw07_WagerLosing.j1 k bar r (lostOf r c) (!V bar) (((moves bar).filter (Pm bar)).map mk49) false) true := by
      refine Ev.step (f := fun k => drovewaylaw07_WagerLosing.l0 k bar r (lostOf r c) (!V bar) (((moves bar).filter (Pm bar)).map mk49) (([] : List (Int × Int)).length : Int) ((0 : Nat) : Int)) (fun k => ?_) hall
      simp only [drovewaylaw07_WagerLosing.j1, Bool.false_eq_true, if_false]
      rfl
    cases hv : V bar with
    | true =>
      rw [hv] at hj
      exact Ev.neg (by decide) (Ev.pos (by decide) hj)
    | false =>
      rw [hv] at hj
      exact Ev.neg (by decide) (Ev.neg (by decide) hj)

theorem WagerLosing : drovewaylaw07_WagerLosing.Pure := by
  intro a0 a1 bar h0 h1 _ _ _
  have b0 := u8_bounds h0
  have b1 := u8_bounds h1
  apply Ev.rounds
  obtain ⟨r, hr⟩ : ∃ r, 1 + a0 % 6 = r := ⟨_, rfl⟩
  obtain ⟨c, hc⟩ : ∃ c, 1 + a1 % 7 = c := ⟨_, rfl⟩
  have er : wrap64 (1 + wrap64 (Int.tmod a0 6)) = r := by rw [tmod' b0.1, w64 (n := a0 % 6) (by omega), w64 (by omega), hr]
  have ec : wrap64 (1 + wrap64 (Int.tmod a1 7)) = c := by rw [tmod' b1.1, w64 (n := a1 % 7) (by omega), w64 (by omega), hc]
  have br : 1 ≤ r ∧ r ≤ 6 := by omega
  have bc : 1 ≤ c ∧ c ≤ 7 := by omega
  have m1 : 1 * c ≤ r * c := Int.mul_le_mul_of_nonneg_right br.1 (by omega)
  have m2 : r * c ≤ 6 * c := Int.mul_le_mul_of_nonneg_right br.2 (by omega)
  have em : wrap64 (r * c) = r * c := w64 (by omega)
  unfold drovewaylaw07_WagerLosing.f
  rw [er, ec]
  refine Ev.bind (g := fun _ => wager_Lost.f r c) (Ev.now _) ?_
  have hs := size_in br bc
  rw [em]
  by_cases hbig : r * c > 24
  · rw [if_pos (show 24 < r * c from hbig)] at hs
    have e : lostL r c = ([], 8) := by unfold lostL; rw [hs]; rfl
    rw [e]
    exact Ev.pos hbig (Ev.pos rfl (Ev.pos rfl alive_ev))
  · rw [if_neg (show ¬ 24 < r * c from hbig)] at hs
    have e : lostL r c = (lostOf r c, 0) := by unfold lostL; rw [if_pos hs]
    rw [e]
    refine Ev.neg hbig (Ev.pos rfl ?_)
    have out : Ev (fun k => drovewaylaw07_WagerLosing.j0 k bar r (lostOf r c) true) true := by
      refine Ev.step (f := fun k => (drovewaylaw07_alive.f).bind fun t433 => (some t433)) (fun k => ?_) alive_ev
      simp only [drovewaylaw07_WagerLosing.j0]
      rw [if_pos trivial]
    by_cases hlen : (bar.length : Int) = r
    · refine Ev.pos hlen (Ev.bind (isbar_ev bar (by omega)) ?_)
      by_cases hb : isBarL bar = true
      · refine Ev.pos hb (Ev.pos (by omega) ?_)
        by_cases hgc : rd bar 0 > c
        · exact Ev.pos hgc out
        · refine Ev.neg hgc ?_
          have hhd : bar.headD 0 = rd bar 0 := by
            cases bar with
            | nil => rfl
            | cons x u => rfl
          by_cases hz : rd bar 0 = 0
          · rw [show (rd bar 0 == 0) = true from beq_iff_eq.2 hz]
            exact out
          · rw [show (rd bar 0 == 0) = false from beq_eq_false_iff_ne.2 hz]
            exact losing_j0 br bc hlen hb (desc_of bar c (isBarL_iff.1 hb).2.2 (by omega)) (by rw [hhd]; exact hz)
      · exact Ev.neg hb out
    · exact Ev.neg hlen out

end Go.Proofs.Ytcngcilinlcmeaa.Pure
