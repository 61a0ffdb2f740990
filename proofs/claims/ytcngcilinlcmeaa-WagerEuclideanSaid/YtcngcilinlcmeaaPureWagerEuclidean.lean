/- WagerEuclidean holds: for all numbers, Euclid's move takes a multiple of the lesser heap and leaves heaps from which nobody wins, and no smaller multiple does. -/
import Derived.Test.YtcngcilinlcmeaaPx12
import Derived.Test.YtcngcilinlcmeaaCole
import Derived.Test.YtcngcilinlcmeaaIdx
namespace Go.Proofs.Ytcngcilinlcmeaa.Pure
open Go.RowKit Go.Proofs.Ytcngcilinlcmeaa.P Go.Proofs.YtcngcilinlcmeaaW.PrintWords Go.Proofs.YtcngcilinlcmeaaW.PrintLast

set_option linter.unusedVariables false
theorem eucl_err {a b : Int} (ha : 0 < a ∧ a ≤ 1099511627776) (hb : 0 < b ∧ b ≤ 1099511627776) : (euclS a b).2.2 = if W (mx a b) (mn a b) = true then 0 else 10 := by
  have hmm := mx_mn a b
  obtain ⟨x, hx⟩ : ∃ x, mx a b = x := ⟨_, rfl⟩
  obtain ⟨y, hy⟩ : ∃ y, mn a b = y := ⟨_, rfl⟩
  unfold euclS
  rw [hx, hy] at hmm ⊢
  have hyp : 0 < y := by omega
  have hg := gold y.toNat x y (Nat.le_refl _) hyp (by omega)
  rw [if_neg (by omega), if_neg (by omega)]
  by_cases heq : a = b
  · rw [if_pos heq, if_pos (hg.2 (.inl (by omega)))]
  · rw [if_neg heq]
    have hpn := pick_none hyp (show y ≤ x by omega)
    cases hp : pick x y with
    | none =>
      rw [hpn.1 hp]
      rfl
    | some r =>
      have : W x y = true := by
        cases hw : W x y with
        | true => rfl
        | false => rw [hpn.2 hw] at hp; cases hp
      rw [this]
      simp only
      split <;> rfl
theorem eucl_zero {a b : Int} (ha : 0 ≤ a ∧ a ≤ 1099511627776) (hb : 0 ≤ b ∧ b ≤ 1099511627776) (h : a = 0 ∨ b = 0) : euclS a b = (0, 0, 10) := by
  unfold euclS
  rw [if_neg (by omega), if_pos h]
theorem pick_some {x y r : Int} (h : pick x y = some r) : (1 < x / y ∧ 0 < x % y ∧ W (y + x % y) y = false ∧ r = y + x % y) ∨ (¬ (1 < x / y ∧ 0 < x % y ∧ W (y + x % y) y = false) ∧ (x % y = 0 ∨ W y (x % y) = false) ∧ r = x % y) := by
  unfold pick at h
  split at h
  · rename_i h1
    exact .inl ⟨h1.1, h1.2.1, h1.2.2, by injection h with h; exact h.symm⟩
  · rename_i h1
    split at h
    · rename_i h2
      exact .inr ⟨h1, h2, by injection h with h; exact h.symm⟩
    · cases h
theorem mx_of {a b : Int} (h : b ≤ a) : mx a b = a ∧ mn a b = b := by unfold mx mn; split <;> split <;> omega
theorem mx_of' {a b : Int} (h : a ≤ b) : mx a b = b ∧ mn a b = a := by unfold mx mn; split <;> split <;> omega
theorem W_quot {y j r : Int} (hy : 0 < y) (hj : 1 ≤ j) (h0 : 0 ≤ r) (h : r < y) : W (y * j + r) y = if 1 < j ∨ r = 0 then true else !W y r := by
  have e1 : (y * j + r) % y = r := by rw [Int.add_comm, Int.add_mul_emod_self_left, Int.emod_eq_of_lt h0 h]
  have e2 : (y * j + r) / y = j := by rw [Int.add_comm, Int.add_mul_ediv_left _ _ (by omega), Int.ediv_eq_zero_of_lt h0 h]; omega
  rw [W_pos hy, e1, e2]
theorem mul_b {Y K X : Int} (hY : 0 < Y) (hK : 1 ≤ K) {q : Int} (hq : K ≤ q) (hX : Y * q ≤ X) : Y ≤ Y * K ∧ Y * K ≤ X := by
  have h1 : Y * 1 ≤ Y * K := Int.mul_le_mul_of_nonneg_left hK (by omega)
  have h2 : Y * K ≤ Y * q := Int.mul_le_mul_of_nonneg_left hq (by omega)
  omega

theorem j3_end {x9 x10 Y K T : Int} {L : Bool} (h : (euclS x9 x10).2.2 = 10) (hK : wrap64 (K * Y) = Y * K) (hL : L = true → T ≤ Y * K) :
    Ev (fun k => drovewaylaw07_WagerEuclidean.j3 k x9 x10 Y K L T false) true := by
  refine Ev.step (f := fun k => (wager_Euclid.f k x9 x10).bind fun bt279 => (if bt279.2.2 = 10 then (if L = true then (if (wrap64 (K * Y)) ≥ T then ((drovewaylaw07_alive.f).bind fun t282 => (some t282)) else (some false)) else ((drovewaylaw07_alive.f).bind fun t283 => (some t283))) else (some false))) (fun k => by simp only [drovewaylaw07_WagerEuclidean.j3, Bool.false_eq_true, if_false]) ?_
  refine Ev.bind (eucl_ev x9 x10) ?_
  refine Ev.pos h ?_
  by_cases hl : L = true
  · refine Ev.pos hl (Ev.pos ?_ alive_ev)
    rw [hK]
    exact hL hl
  · exact Ev.neg hl alive_ev

theorem j2_end {a b e1 e2 e3 X Y K q r0 : Int} {L : Bool} (ha : 0 < a ∧ a ≤ 1099511627776) (hb : 0 < b ∧ b ≤ 1099511627776) (hmm : (X = a ∧ Y = b ∧ b ≤ a) ∨ (X = b ∧ Y = a ∧ a ≤ b)) (hx : mx a b = X) (hy : mn a b = Y)
    (he : euclS a b = (e1, e2, e3)) (hq : X / Y = q) (hr : X % Y = r0) (hdm : Y * q + r0 = X) (hr0 : 0 ≤ r0 ∧ r0 < Y) (hq1 : 1 ≤ q) (hk : 1 ≤ K ∧ K ≤ q)
    (hP : ∃ P, P = Y * (q - K) + r0 ∧ (L = true ↔ P = 0 ∨ W (mx P Y) (mn P Y) = false)) :
    Ev (fun k => drovewaylaw07_WagerEuclidean.j2 k a b e1 e2 e3 X Y K L false) true := by
  obtain ⟨P, hP, hL⟩ := hP
  have hY : 0 < Y := by omega
  have hb2 := mul_b hY hk.1 hk.2 (show Y * q ≤ X by omega)
  have hsub : Y * (q - K) = Y * q - Y * K := Int.mul_sub Y q K
  have hKY : K * Y = Y * K := Int.mul_comm K Y
  have hwK : wrap64 (K * Y) = Y * K := by rw [hKY, w64 (by omega)]
  have herr := eucl_err ha hb
  rw [he, hx, hy] at herr
  simp only at herr
  -- a smaller multiple leaves heaps from which who is next wins
  have hsmall : ∀ j : Int, j = q - K → 2 ≤ j → L = true → False := by
    intro j hj h2 hl
    rw [← hj] at hP
    have h4 : Y * 2 ≤ Y * j := Int.mul_le_mul_of_nonneg_left h2 (by omega)
    rw [(mx_of (show Y ≤ P by omega)).1, (mx_of (show Y ≤ P by omega)).2, hP, W_quot hY (by omega) hr0.1 hr0.2, if_pos (by omega)] at hL
    rcases hL.1 hl with h5 | h5
    · omega
    · cases h5
  by_cases h3 : e3 = 0
  · have hW : W X Y = true := by
      cases hw : W X Y with
      | true => rfl
      | false => rw [hw, h3] at herr; simp at herr
    by_cases hab : a = b
    · have h5 : euclS a b = (a, 0, 0) := by
        unfold euclS
        rw [if_neg (by omega), if_neg (by omega), if_pos hab]
      rw [h5] at he
      simp only [Prod.mk.injEq] at he
      refine Ev.step (f := fun k => (drovewaylaw07_alive.f).bind fun t278 => (some t278)) (fun k => ?_) alive_ev
      simp only [drovewaylaw07_WagerEuclidean.j2, Bool.false_eq_true, if_false]
      rw [if_pos h3, if_pos hab, if_pos he.1.symm, if_pos he.2.1.symm]
    · obtain ⟨r, hp⟩ : ∃ r, pick X Y = some r := by
        cases hp : pick X Y with
        | none => rw [(pick_none hY (by omega)).1 hp] at hW; cases hW
        | some r => exact ⟨r, rfl⟩
      have h5 : euclS a b = if b < a then (r, b, 0) else (a, r, 0) := by
        unfold euclS
        rw [if_neg (by omega), if_neg (by omega), if_neg hab, hx, hy, hp]
      have hps := pick_some hp
      rw [hq, hr] at hps
      have hd2 : Y * (q - 1) = Y * q - Y := by rw [Int.mul_sub, Int.mul_one]
      have hm1 : X - r = Y * q ∨ (X - r = Y * (q - 1) ∧ 1 < q) := by
        rcases hps with h | h
        · right; constructor <;> omega
        · left; omega
      have hrr : 0 ≤ r ∧ r ≤ 1099511627776 ∧ Y ≤ X - r := by
        have h7 : Y * 1 ≤ Y * q := Int.mul_le_mul_of_nonneg_left hq1 (by omega)
        rcases hps with h | h
        · have h6 : Y * 2 ≤ Y * q := Int.mul_le_mul_of_nonneg_left (by omega) (by omega)
          omega
        · omega
      have hmod : Int.tmod (X - r) Y = 0 := by
        rw [tmod' (by omega)]
        rcases hm1 with h | h
        · rw [h]; exact Int.mul_emod_right Y q
        · rw [h.1]; exact Int.mul_emod_right Y (q - 1)
      have hend : (euclS r Y).2.2 = 10 ∧ (euclS Y r).2.2 = 10 := by
        by_cases h0 : r = 0
        · rw [eucl_zero (by omega) (by omega) (.inl h0), eucl_zero (by omega) (by omega) (.inr h0)]
          exact ⟨rfl, rfl⟩
        · have e1 := eucl_err (a := r) (b := Y) (by omega) (by omega)
          have e2 := eucl_err (a := Y) (b := r) (by omega) (by omega)
          rcases hps with h | h
          · rw [(mx_of (show Y ≤ r by omega)).1, (mx_of (show Y ≤ r by omega)).2, h.2.2.2, h.2.2.1] at e1
            rw [(mx_of' (show Y ≤ r by omega)).1, (mx_of' (show Y ≤ r by omega)).2, h.2.2.2, h.2.2.1] at e2
            rw [h.2.2.2]
            exact ⟨e1, e2⟩
          · have h8 : W Y r0 = false := by
              rcases h.2.1 with h9 | h9
              · omega
              · exact h9
            rw [(mx_of' (show r ≤ Y by omega)).1, (mx_of' (show r ≤ Y by omega)).2, h.2.2, h8] at e1
            rw [(mx_of (show r ≤ Y by omega)).1, (mx_of (show r ≤ Y by omega)).2, h.2.2, h8] at e2
            rw [h.2.2]
            exact ⟨e1, e2⟩
      have hLT : L = true → X - r ≤ Y * K := by
        intro hl
        by_cases hk2 : 2 ≤ q - K
        · exact (hsmall _ rfl hk2 hl).elim
        · by_cases hkq : K = q
          · subst hkq
            rcases hps with h | h <;> omega
          · have hk1 : K = q - 1 := by omega
            rcases hps with h | h
            · rw [hk1]; omega
            · exfalso
              have hPY : P = Y * 1 + r0 := by rw [hP]; congr 2; omega
              rw [(mx_of (show Y ≤ P by omega)).1, (mx_of (show Y ≤ P by omega)).2, hPY] at hL
              rcases hL.1 hl with h9 | h9
              · omega
              · by_cases h0 : r0 = 0
                · rw [W_quot hY (by omega) hr0.1 hr0.2, if_pos (.inr h0)] at h9
                  cases h9
                · refine h.1 ⟨by omega, by omega, ?_⟩
                  rw [Int.mul_one] at h9
                  exact h9
      rcases hmm with hm | hm
      · have hlt : b < a := by omega
        rw [h5, if_pos hlt] at he
        simp only [Prod.mk.injEq] at he
        have eT : wrap64 (wrap64 (wrap64 (a - e1) + b) - e2) = X - r := by
          rw [w64 (n := a - e1) (by omega), w64 (n := a - e1 + b) (by omega), w64 (by omega)]
          omega
        refine Ev.step (f := fun k => drovewaylaw07_WagerEuclidean.j3 k e1 e2 Y K L (X - r) false) (fun k => ?_) (j3_end (by rw [← he.1, ← he.2.1, ← hm.2.1]; exact hend.1) hwK hLT)
        simp only [drovewaylaw07_WagerEuclidean.j2, Bool.false_eq_true, if_false, eT]
        rw [if_pos h3, if_neg hab, if_neg (by omega), if_neg (by omega), if_pos (by omega), if_pos (by omega), if_neg (by omega), if_neg (by omega), if_neg (by omega), if_pos hmod, decide_eq_false (by omega)]
      · have hlt : ¬ b < a := by omega
        rw [h5, if_neg hlt] at he
        simp only [Prod.mk.injEq] at he
        have eT : wrap64 (wrap64 (wrap64 (a - e1) + b) - e2) = X - r := by
          rw [w64 (n := a - e1) (by omega), w64 (n := a - e1 + b) (by omega), w64 (by omega)]
          omega
        refine Ev.step (f := fun k => drovewaylaw07_WagerEuclidean.j3 k e1 e2 Y K L (X - r) false) (fun k => ?_) (j3_end (by rw [← he.1, ← he.2.1, ← hm.2.1]; exact hend.2) hwK hLT)
        simp only [drovewaylaw07_WagerEuclidean.j2, Bool.false_eq_true, if_false, eT]
        rw [if_pos h3, if_neg hab, if_neg (by omega), if_neg (by omega), if_neg (by omega), if_pos (by omega), if_pos (by omega), if_neg (by omega), if_neg (by omega), if_pos hmod, decide_eq_false (by omega)]
  · have hW : W X Y = false := by
      cases hw : W X Y with
      | true => rw [hw] at herr; simp at herr; exact absurd herr h3
      | false => rfl
    rw [hW] at herr
    simp only [Bool.false_eq_true, if_false] at herr
    -- heaps from which nobody wins: one multiple only, and it leaves a won place
    have hw2 := hW
    rw [W_pos hY, hq, hr] at hw2
    have hn : ¬ (1 < q ∨ r0 = 0) := by
      intro h6
      rw [if_pos h6] at hw2
      cases hw2
    rw [if_neg hn] at hw2
    have hK1 : K = q := by omega
    have hPr : P = r0 := by rw [hP, hK1]; simp
    have hLf : L = false := by
      cases hl : L with
      | false => rfl
      | true =>
        exfalso
        rw [hPr, (mx_of' (show r0 ≤ Y by omega)).1, (mx_of' (show r0 ≤ Y by omega)).2] at hL
        rcases hL.1 hl with h9 | h9
        · omega
        · rw [h9] at hw2; cases hw2
    have h5 : euclS a b = (0, 0, 10) := by
      unfold euclS
      have hab : a ≠ b := by
        intro h6
        have h7 : X = Y * 1 := by omega
        have h8 : Y * q + r0 = Y * 1 := by omega
        have h9 : q = 1 := by omega
        rw [h9] at h8
        omega
      rw [if_neg (by omega), if_neg (by omega), if_neg hab, hx, hy, (pick_none hY (by omega)).2 hW]
    rw [h5] at he
    simp only [Prod.mk.injEq] at he
    refine Ev.step (f := fun k => (drovewaylaw07_alive.f).bind fun t277 => (some t277)) (fun k => ?_) alive_ev
    simp only [drovewaylaw07_WagerEuclidean.j2, Bool.false_eq_true, if_false]
    rw [if_neg h3, if_pos herr, if_pos he.1.symm, if_pos he.2.1.symm, hLf]
    simp

theorem WagerEuclidean : drovewaylaw07_WagerEuclidean.Pure := by
  intro a0 b0 t0 ha0 hb0 ht0
  obtain ⟨a, ha, a0', a1⟩ := heap_some ha0
  obtain ⟨b, hb, b0', b1⟩ := heap_some hb0
  have ht := u64_bounds ht0
  apply Ev.rounds
  unfold drovewaylaw07_WagerEuclidean.f
  rw [ha, hb]
  simp only [Option.bind_some]
  refine Ev.bind (eucl_ev a b) ?_
  obtain ⟨e1, e2, e3, he⟩ : ∃ p1 p2 p3, euclS a b = (p1, p2, p3) := ⟨_, _, _, rfl⟩
  by_cases hz : a = 0 ∨ b = 0
  · have h10 : (euclS a b).2.2 = 10 := by rw [eucl_zero (by omega) (by omega) hz]
    have fin0 : Ev (fun k => drovewaylaw07_WagerEuclidean.j0 k t0 a b (euclS a b).1 (euclS a b).2.1 (euclS a b).2.2 true) true := by
      refine Ev.step (f := fun k => (drovewaylaw07_alive.f).bind fun t273 => (some t273)) (fun k => ?_) alive_ev
      simp only [drovewaylaw07_WagerEuclidean.j0]
      rw [if_pos trivial, if_pos h10]
    by_cases h0 : a = 0
    · exact Ev.pos h0 fin0
    · refine Ev.neg h0 ?_
      rw [show (b == 0) = true from by rw [beq_iff_eq]; omega]
      exact fin0
  · rw [he]
    refine Ev.neg (by omega) ?_
    rw [show (b == 0) = false from by rw [beq_eq_false_iff_ne]; omega]
    have hmm := mx_mn a b
    obtain ⟨X, hx⟩ : ∃ x, mx a b = x := ⟨_, rfl⟩
    obtain ⟨Y, hy⟩ : ∃ y, mn a b = y := ⟨_, rfl⟩
    rw [hx, hy] at hmm
    have hY : 0 < Y := by omega
    obtain ⟨q, hq⟩ : ∃ q, X / Y = q := ⟨_, rfl⟩
    obtain ⟨r0, hr⟩ : ∃ q, X % Y = q := ⟨_, rfl⟩
    have hdm := Int.mul_ediv_add_emod X Y
    have hr0 := mod_lt' X hY
    have hq1 : 1 ≤ X / Y := (Int.le_ediv_iff_mul_le hY).2 (by omega)
    have hq2 := div_le_self' (show 0 ≤ X by omega) hY
    rw [hq, hr] at hdm
    rw [hr] at hr0
    rw [hq] at hq1 hq2
    have eQ : IntKind.u64.wrap (wrap64 (Int.tdiv X Y)) = q := by
      rw [wdiv (by omega) (by omega) hY, hq, IntKind.wrap_u64]
      omega
    obtain ⟨K, hK⟩ : ∃ K, 1 + t0 % q = K := ⟨_, rfl⟩
    have htq := mod_lt' t0 (show 0 < q by omega)
    have eK : wrap64 (1 + wrap64 (Int.tmod t0 q)) = K := by
      rw [tmod' ht.1, w64 (n := t0 % q) (by omega), w64 (by omega), hK]
    have hb2 := mul_b hY (show 1 ≤ K by omega) (show K ≤ q by omega) (show Y * q ≤ X by omega)
    have hsub : Y * (q - K) = Y * q - Y * K := Int.mul_sub Y q K
    have hKY : K * Y = Y * K := Int.mul_comm K Y
    obtain ⟨P, hP⟩ : ∃ P, Y * (q - K) + r0 = P := ⟨_, rfl⟩
    have eP : wrap64 (X - wrap64 (K * Y)) = P := by
      rw [hKY, w64 (n := Y * K) (by omega), w64 (by omega)]
      omega
    have hP0 : 0 ≤ P ∧ P ≤ 1099511627776 := by omega
    refine Ev.step (f := fun k => (wager_Euclid.f k P Y).bind fun bt274 => (if P = 0 then (drovewaylaw07_WagerEuclidean.j1 k a b e1 e2 e3 X Y K bt274.2.2 true) else (drovewaylaw07_WagerEuclidean.j1 k a b e1 e2 e3 X Y K bt274.2.2 (bt274.2.2 == 10)))) (fun k => ?_) ?_
    · simp only [drovewaylaw07_WagerEuclidean.j0, Bool.false_eq_true, if_false, hx, hy, eQ, eK, eP]
      rw [if_neg (by omega), if_neg (by omega)]
    refine Ev.bind (eucl_ev P Y) ?_
    have fin : ∀ (g : Int) (L : Bool), (g = 0 ∨ g = 10) → (L = true ↔ P = 0 ∨ W (mx P Y) (mn P Y) = false) → Ev (fun k => drovewaylaw07_WagerEuclidean.j1 k a b e1 e2 e3 X Y K g L) true := by
      intro g L hg hL
      have h2 := j2_end (L := L) (K := K) (by omega) (by omega) (by omega) hx hy he hq hr hdm hr0 hq1 ⟨by omega, by omega⟩ ⟨P, hP.symm, hL⟩
      refine Ev.step (f := fun k => drovewaylaw07_WagerEuclidean.j2 k a b e1 e2 e3 X Y K L false) (fun k => ?_) h2
      simp only [drovewaylaw07_WagerEuclidean.j1]
      rcases hg with hg | hg
      · rw [if_pos hg]
      · rw [if_neg (by omega), hg, show ((10 : Int) != 10) = false from by decide]
    by_cases hp0 : P = 0
    · refine Ev.pos hp0 (fin _ _ (.inr ?_) ⟨fun _ => .inl hp0, fun _ => rfl⟩)
      rw [eucl_zero (by omega) (by omega) (.inl hp0)]
    · refine Ev.neg hp0 ?_
      have hge := eucl_err (a := P) (b := Y) (by omega) (by omega)
      cases hw : W (mx P Y) (mn P Y) with
      | true =>
        rw [hw, if_pos rfl] at hge
        rw [hge]
        refine fin _ _ (.inl rfl) ?_
        rw [hw]
        simp
        exact hp0
      | false =>
        rw [hw] at hge
        simp only [Bool.false_eq_true, if_false] at hge
        rw [hge]
        refine fin _ _ (.inr rfl) ?_
        rw [hw]
        simp

end Go.Proofs.Ytcngcilinlcmeaa.Pure
