/- The dual game. -/
import Derived.Test.YtldakfaolagoiaaProg
import Derived.Below
import Derived.Deep.Draws
import Derived.Deep.AppendLies
import Derived.Maps.AppendAt
import Derived.OwnWalk
import Derived.Laws.BytesArg
import Derived.Laws.MakeOwn
import Derived.Laws.OwnMore
import Derived.Deep.OwnRows
import Derived.Tactics
import Derived.Lib.ConvBytes
import Derived.Laws.Slices
import Derived.WalkKit
import Derived.KernelRfl
import Derived.RowKit3
import Derived.Deep.LoopGhost
import Derived.Deep.QuietTactic
import Derived.BigQuiet
import Derived.WideLaws
import Derived.Deep.DeepCutAuto
import Derived.Deep.CutBlock
import Derived.Deep.RegionHeld3
import Derived.Laws.Rows
import Derived.Lib.AppendStr
import Derived.ArgAppend
import Derived.Laws.IdiomCopy
import Derived.OrdersHeld
import Derived.Laws.BitsLemmas
import Derived.RowKit
import Derived.Test.YtldakfaolagoiaaWWords
import Derived.Test.YtldakfaolagoiaaWLast
import Derived.Test.YtldakfaolagoiaaWTab
import Derived.Test.YtldakfaolagoiaaWFour
import Derived.Test.YtldakfaolagoiaaWQPut
import Derived.Test.YtldakfaolagoiaaWApart
import Derived.Test.YtldakfaolagoiaaWArr
import Derived.Test.YtldakfaolagoiaaWZeros
import Derived.Test.YtldakfaolagoiaaWFoot
import Derived.Test.YtldakfaolagoiaaWKept
import Derived.Test.YtldakfaolagoiaaWShare
import Derived.Test.YtldakfaolagoiaaWN
import Derived.Test.YtldakfaolagoiaaWFootNe
import Derived.Test.YtldakfaolagoiaaWAt
import Derived.Test.YtldakfaolagoiaaWEqStruct
import Derived.Test.YtldakfaolagoiaaWRepsOne
import Derived.Test.YtldakfaolagoiaaWInv
import Derived.Test.YtldakfaolagoiaaWInvWords
import Derived.Test.YtldakfaolagoiaaWGuard
import Derived.Test.YtldakfaolagoiaaWNEv
import Derived.Test.YtldakfaolagoiaaWMore
import Derived.Maps.OwnOps
import Derived.DeepKeys4
import Derived.WalkSpells
import Derived.Laws.EntriesVeiled
import Derived.Deep.RegionLawGrows
import Derived.ArgAppend
import Derived.Test.YtldakfaolagoiaaTbM
namespace Go.Proofs.Ytldakfaolagoiaa.Tb
open Go.RowKit Go.Proofs.YtldakfaolagoiaaW.PrintWords Go.Proofs.YtldakfaolagoiaaW.PrintLast Go.Proofs.YtldakfaolagoiaaW.PrintMore
attribute [local go_sem] max2_int min2_int max_two min_two max_three min_three max_four min_four
set_option linter.unusedVariables false
set_option linter.unusedSimpArgs false

set_option linter.unusedSectionVars false
/-- a set with more in it -/
theorem win_mono {l : List Int} (hl : ∀ x ∈ l, Dom x) {s s' : Int} (h : Dom s) (h' : Dom s') (hs : sub s s' = true) (hw : win l s = true) : win l s' = true := by
  unfold win at hw ⊢
  obtain ⟨x, hx, e⟩ := List.any_eq_true.1 hw
  refine List.any_eq_true.2 ⟨x, hx, ?_⟩
  obtain ⟨X, rfl⟩ := (hl x hx).fin
  obtain ⟨Y, rfl⟩ := h.fin
  obtain ⟨Z, rfl⟩ := h'.fin
  exact trans_fin X Y Z e hs
theorem won_win {l : List Int} (hl : ∀ x ∈ l, Dom x) {s : Int} (h : Dom s) : wonL l s = win l s := by
  unfold wonL win
  refine any_congr' fun x hx => ?_
  obtain ⟨X, rfl⟩ := (hl x hx).fin
  obtain ⟨Y, rfl⟩ := h.fin
  exact won_fin X Y
section
variable {n : Int} (h1 : 1 ≤ n) (h5 : n ≤ 5)
include h1 h5
theorem Inv.comm {a b : Int} (h : Inv n a b) : Inv n b a := by
  refine ⟨h.db, h.da, h.bin, h.ain, ?_⟩
  obtain ⟨A, hA⟩ := h.da.fin
  obtain ⟨B, hB⟩ := h.db.fin
  have := h.apart
  rw [hA, hB] at this ⊢
  rw [← (comm_fin A B).2]
  exact this
theorem or_comm' {a b : Int} (ha : Dom a) (hb : Dom b) : orI a b = orI b a := by
  obtain ⟨A, rfl⟩ := ha.fin
  obtain ⟨B, rfl⟩ := hb.fin
  exact (comm_fin A B).1
theorem Inv.left {a b : Int} (h : Inv n a b) {i : Nat} (hi : i < 5) (hb : bitI (fre n (orI a b)) i = true) : Inv n (orI a (pt i)) b := by
  obtain ⟨y, rfl⟩ := n_fin h1 h5
  have hd := h.da.or (Dom.pt hi)
  have h' := h
  obtain ⟨A, rfl⟩ := h.da.fin
  obtain ⟨B, rfl⟩ := h.db.fin
  have := step_fin y ⟨i, hi⟩ A B h.apart hb h.ain
  exact ⟨hd, h.db, this.1, h.bin, this.2⟩
theorem Inv.right {a b : Int} (h : Inv n a b) {i : Nat} (hi : i < 5) (hb : bitI (fre n (orI a b)) i = true) : Inv n a (orI b (pt i)) :=
  ((h.comm h1 h5).left h1 h5 hi (by rw [← or_comm' h1 h5 h.da h.db]; exact hb)).comm h1 h5
theorem full {a b : Int} (h : Inv n a b) (hf : fre n (orI a b) = 0) : restOf n b = a := by
  obtain ⟨y, rfl⟩ := n_fin h1 h5
  have hx := h.ain
  have hy := h.apart
  obtain ⟨A, rfl⟩ := h.da.fin
  obtain ⟨B, rfl⟩ := h.db.fin
  exact full_fin y A B hx hy hf
theorem some_free {a b : Int} (h : Inv n a b) (hf : fre n (orI a b) ≠ 0) : ∃ i, i < n.toNat ∧ bitI (fre n (orI a b)) i = true := by
  obtain ⟨y, rfl⟩ := n_fin h1 h5
  obtain ⟨U, hU⟩ := (h.da.or h.db).fin
  rw [hU] at hf ⊢
  obtain ⟨i, hi, e⟩ := List.any_eq_true.1 (some_fin y U hf)
  exact ⟨i, by have := List.mem_range.1 hi; omega, e⟩
theorem rest_dom {s : Int} (h : Dom s) : Dom (restOf n s) := by
  obtain ⟨y, rfl⟩ := n_fin h1 h5
  obtain ⟨U, rfl⟩ := h.fin
  exact ⟨(rdom_fin y U).1, (rdom_fin y U).2⟩
theorem rest_anti {x s : Int} (hx : Dom x) (hs : Dom s) (h : sub x s = true) : sub (restOf n s) (restOf n x) = true := by
  obtain ⟨y, rfl⟩ := n_fin h1 h5
  obtain ⟨U, rfl⟩ := hx.fin
  obtain ⟨V, rfl⟩ := hs.fin
  exact rest_fin y U V h
end

/-- the game that is played to its end -/
def full? : Nat → Int → (Int → Bool) → Int → Int → Int → Int
  | 0, _, _, _, _, _ => 0
  | k + 1, m, P, a, b, t => if fre m (orI a b) = 0 then (if P a then 1 else 2) else
      if (List.range m.toNat).any (fun i => bitI (fre m (orI a b)) i && ((if t = 1 then full? k m P (orI a (pt i)) b 2 else full? k m P a (orI b (pt i)) 1) == t)) then t else 3 - t
section
variable {m : Int} (h1 : 1 ≤ m) (h5 : m ≤ 5)
include h1 h5
theorem full_12 (P : Int → Bool) : ∀ (k : Nat) (a b t : Int), (t = 1 ∨ t = 2) → full? (k + 1) m P a b t = 1 ∨ full? (k + 1) m P a b t = 2 := by
  intro k a b t ht
  rw [full?]
  split
  · split
    · exact .inl rfl
    · exact .inr rfl
  · split <;> omega
theorem full_won {P : Int → Bool} (hP : ∀ (a : Int) (i : Nat), Dom a → i < 5 → P a = true → P (orI a (pt i)) = true) : ∀ (k : Nat) (a b t : Int), Inv m a b → cntF m (orI a b) < k → (t = 1 ∨ t = 2) → P a = true → full? k m P a b t = 1
  | 0, _, _, _, _, h, _, _ => absurd h (Nat.not_lt_zero _)
  | k + 1, a, b, t, hI, hk, ht, hp => by
    rw [full?]
    by_cases hf : fre m (orI a b) = 0
    · rw [if_pos hf, if_pos hp]
    · rw [if_neg hf]
      have next : ∀ i, i < m.toNat → bitI (fre m (orI a b)) i = true → (if t = 1 then full? k m P (orI a (pt i)) b 2 else full? k m P a (orI b (pt i)) 1) = 1 := by
        intro i hi hb
        have hi5 : i < 5 := by omega
        have hd := cnt_dec h1 h5 (hI.da.or hI.db) hi5 hb
        rcases ht with rfl | rfl
        · rw [if_pos rfl]
          exact full_won hP k _ _ _ (hI.left h1 h5 hi5 hb) (by rw [swap_l hI.da hI.db hi5]; omega) (.inr rfl) (hP a i hI.da hi5 hp)
        · rw [if_neg (by decide)]
          exact full_won hP k _ _ _ (hI.right h1 h5 hi5 hb) (by rw [swap_r hI.da hI.db hi5]; omega) (.inl rfl) hp
      rcases ht with rfl | rfl
      · obtain ⟨i, hi, hb⟩ := some_free h1 h5 hI hf
        rw [if_pos (any_at hi (by rw [hb, next i hi hb]; rfl))]
      · rw [if_neg]
        · rfl
        · intro h
          obtain ⟨i, hi, e⟩ := List.any_eq_true.1 h
          cases hb : bitI (fre m (orI a b)) i with
          | false => rw [hb] at e; simp at e
          | true => rw [hb, next i (List.mem_range.1 hi) hb] at e; simp at e
theorem val_full {l : List Int} (hl : ∀ x ∈ l, Dom x) : ∀ (k : Nat) (a b t : Int), Inv m a b → cntF m (orI a b) < k → (t = 1 ∨ t = 2) → valK k m l a b t = full? k m (win l) a b t
  | 0, _, _, _, _, h, _ => absurd h (Nat.not_lt_zero _)
  | k + 1, a, b, t, hI, hk, ht => by
    have hP : ∀ (a : Int) (i : Nat), Dom a → i < 5 → win l a = true → win l (orI a (pt i)) = true := by
      intro a i ha hi hw
      refine win_mono hl ha (ha.or (Dom.pt hi)) ?_ hw
      obtain ⟨A, rfl⟩ := ha.fin
      exact grow_fin A ⟨i, hi⟩
    cases hw : wonL l a with
    | true =>
      rw [full_won h1 h5 hP (k + 1) a b t hI hk ht (by rw [← won_win hl hI.da]; exact hw), valK, if_pos hw]
    | false =>
      rw [valK, full?, hw, ← won_win hl hI.da, hw, if_neg (by simp)]
      by_cases hf : fre m (orI a b) = 0
      · rw [if_pos hf, if_pos hf, if_neg (by simp)]
      · rw [if_neg hf, if_neg hf]
        have key : (List.range m.toNat).any (fun i => bitI (fre m (orI a b)) i && ((if t = 1 then valK k m l (orI a (pt i)) b 2 else valK k m l a (orI b (pt i)) 1) == t)) = (List.range m.toNat).any (fun i => bitI (fre m (orI a b)) i && ((if t = 1 then full? k m (win l) (orI a (pt i)) b 2 else full? k m (win l) a (orI b (pt i)) 1) == t)) := by
          refine any_congr' fun i hi => ?_
          have hi5 : i < 5 := by have := List.mem_range.1 hi; omega
          cases hb : bitI (fre m (orI a b)) i with
          | false => rfl
          | true =>
            have hd := cnt_dec h1 h5 (hI.da.or hI.db) hi5 hb
            rw [val_full hl k _ _ 2 (hI.left h1 h5 hi5 hb) (by rw [swap_l hI.da hI.db hi5]; omega) (.inr rfl), val_full hl k _ _ 1 (hI.right h1 h5 hi5 hb) (by rw [swap_r hI.da hI.db hi5]; omega) (.inl rfl)]
        rw [key]
omit h1 h5 in
theorem flip_a (v : Int) : (true && (3 - v == 3 - 1)) = (true && (v == 1)) := by
  rw [Bool.true_and, Bool.true_and, Bool.eq_iff_iff, beq_iff_eq, beq_iff_eq]
  omega
omit h1 h5 in
theorem flip_b (v : Int) : (true && (3 - v == 3 - 2)) = (true && (v == 2)) := by
  rw [Bool.true_and, Bool.true_and, Bool.eq_iff_iff, beq_iff_eq, beq_iff_eq]
  omega
theorem full_dual {P P' : Int → Bool} (hPP : ∀ s, Dom s → landNot s (wrap64 (pw m - 1)) = 0 → P' s = !(P (restOf m s))) : ∀ (k : Nat) (a b t : Int), Inv m a b → cntF m (orI a b) < k → (t = 1 ∨ t = 2) → full? k m P' b a (3 - t) = 3 - full? k m P a b t := by
  intro k
  induction k with
  | zero => exact fun _ _ _ _ h _ => absurd h (Nat.not_lt_zero _)
  | succ k ih =>
    intro a b t hI hk ht
    rw [full?, full?, ← or_comm' h1 h5 hI.da hI.db]
    by_cases hf : fre m (orI a b) = 0
    · rw [if_pos hf, if_pos hf, hPP b hI.db hI.bin, full h1 h5 hI hf]
      cases P a <;> simp
    · rw [if_neg hf, if_neg hf]
      have key : (List.range m.toNat).any (fun i => bitI (fre m (orI a b)) i && ((if 3 - t = 1 then full? k m P' (orI b (pt i)) a 2 else full? k m P' b (orI a (pt i)) 1) == 3 - t)) = (List.range m.toNat).any (fun i => bitI (fre m (orI a b)) i && ((if t = 1 then full? k m P (orI a (pt i)) b 2 else full? k m P a (orI b (pt i)) 1) == t)) := by
        refine any_congr' fun i hi => ?_
        have hi5 : i < 5 := by have := List.mem_range.1 hi; omega
        cases hb : bitI (fre m (orI a b)) i with
        | false => rw [Bool.false_and, Bool.false_and]
        | true =>
          have hd := cnt_dec h1 h5 (hI.da.or hI.db) hi5 hb
          rcases ht with rfl | rfl
          · rw [if_neg (by decide), if_pos rfl]
            have e := ih _ _ 2 (hI.left h1 h5 hi5 hb) (by rw [swap_l hI.da hI.db hi5]; omega) (.inr rfl)
            rw [show (3 : Int) - 2 = 1 from rfl] at e
            rw [e]
            exact flip_a _
          · rw [if_pos (by decide), if_neg (by decide)]
            have e := ih _ _ 1 (hI.right h1 h5 hi5 hb) (by rw [swap_r hI.da hI.db hi5]; omega) (.inl rfl)
            rw [show (3 : Int) - 1 = 2 from rfl] at e
            rw [e]
            exact flip_b _
      rw [key]
      generalize (List.range m.toNat).any _ = X
      cases X
      · simp
      · simp
end
/-! ### the other rule -/
section
variable {n : Int} (h1 : 1 ≤ n) (h5 : n ≤ 5)
include h1 h5
theorem least_dom (p : Int → Bool) : ∀ x ∈ leastL n p, Dom x ∧ p x = true ∧ x < pw n := by
  intro x hx
  unfold leastL at hx
  obtain ⟨h, hp⟩ := List.mem_filter.1 hx
  obtain ⟨y, hy, rfl⟩ := List.mem_map.1 h
  have hy := List.mem_range.1 hy
  obtain ⟨e, e2⟩ := pw_eq h1 h5
  simp only [Bool.and_eq_true] at hp
  exact ⟨⟨by omega, by omega⟩, hp.1, by omega⟩
theorem least_some {p : Int → Bool} : ∀ (k : Nat) (s : Nat), s < k → s < 2 ^ n.toNat → p s = true → ∃ x ∈ leastL n p, sub x s = true
  | 0, _, h, _, _ => absurd h (Nat.not_lt_zero _)
  | k + 1, s, hk, hs, hp => by
    obtain ⟨e, e2⟩ := pw_eq h1 h5
    by_cases ha : (List.range n.toNat).all (stay p s) = true
    · refine ⟨s, ?_, ?_⟩
      · unfold leastL
        refine List.mem_filter.2 ⟨List.mem_map.2 ⟨s, List.mem_range.2 hs, rfl⟩, ?_⟩
        rw [hp, ha]; rfl
      · exact (by decide +kernel : ∀ x : Fin 32, sub x.val x.val = true) ⟨s, by omega⟩
    · have ha' : ∃ i, i < n.toNat ∧ stay p s i = false := by
        rw [Bool.not_eq_true, List.all_eq_false] at ha
        obtain ⟨i, hi, h⟩ := ha
        exact ⟨i, List.mem_range.1 hi, by simpa using h⟩
      obtain ⟨i, hi, hst⟩ := ha'
      have hi5 : i < 5 := by omega
      unfold stay at hst
      simp only [Bool.or_eq_false_iff, Bool.not_eq_false'] at hst
      obtain ⟨hbit, hpd⟩ := hst
      have hf := (by decide +kernel : ∀ (x : Fin 32) (i : Fin 5), (land ((x.val : Int) / 2 ^ i.val) 1 == 0) = false → (0 ≤ landNot (x.val : Int) (wrap64 (2 ^ i.val)) ∧ landNot (x.val : Int) (wrap64 (2 ^ i.val)) < x.val) ∧ sub (landNot (x.val : Int) (wrap64 (2 ^ i.val))) x.val = true) ⟨s, by omega⟩ ⟨i, hi5⟩ hbit
      obtain ⟨⟨g0, g1⟩, g2⟩ := hf
      obtain ⟨s', hs'⟩ : ∃ s' : Nat, landNot (s : Int) (wrap64 (2 ^ i)) = (s' : Int) := ⟨(landNot (s : Int) (wrap64 (2 ^ i))).toNat, by have : (0 : Int) ≤ landNot (s : Int) (wrap64 (2 ^ i)) := g0; omega⟩
      have g1' : landNot (s : Int) (wrap64 (2 ^ i)) < (s : Int) := g1
      have g2' : sub (landNot (s : Int) (wrap64 (2 ^ i))) (s : Int) = true := g2
      rw [hs'] at g1' g2' hpd
      obtain ⟨x, hx, hsx⟩ := least_some k s' (by omega) (by omega) hpd
      refine ⟨x, hx, ?_⟩
      obtain ⟨X, rfl⟩ := (least_dom h1 h5 p x hx).1.fin
      exact trans_fin X ⟨s', by omega⟩ ⟨s, by omega⟩ hsx g2'
theorem other_win {l : List Int} (hl : ∀ x ∈ l, Dom x) {s : Int} (hs : Dom s) (hp : s < pw n) : win (otherL n l) s = !(win l (restOf n s)) := by
  obtain ⟨e, e2⟩ := pw_eq h1 h5
  rw [Bool.eq_iff_iff]
  constructor
  · intro h
    unfold win at h
    obtain ⟨x, hx, hxs⟩ := List.any_eq_true.1 h
    obtain ⟨dx, px, _⟩ := least_dom h1 h5 _ x hx
    cases hw : win l (restOf n s) with
    | false => rfl
    | true =>
      have := win_mono hl (rest_dom h1 h5 hs) (rest_dom h1 h5 dx) (rest_anti h1 h5 dx hs hxs) hw
      rw [this] at px
      cases px
  · intro h
    obtain ⟨k, rfl⟩ : ∃ k : Nat, s = (k : Int) := ⟨s.toNat, by have := hs.lo; omega⟩
    obtain ⟨x, hx, hxs⟩ := least_some h1 h5 (p := fun s => !(win l (restOf n s))) (k + 1) k (Nat.lt_succ_self _) (by omega) h
    exact List.any_eq_true.2 ⟨x, hx, hxs⟩
end
theorem lt_fin : ∀ (n : Fin 5) (s : Fin 32), landNot (s.val : Int) (wrap64 (pw ((n.val : Int) + 1) - 1)) = 0 → (s.val : Int) < pw ((n.val : Int) + 1) := by decide +kernel
theorem zero_inv : ∀ (n : Fin 5), landNot 0 (wrap64 (pw ((n.val : Int) + 1) - 1)) = 0 := by decide +kernel
/-- the dogs of a rule's field win where the wolves of the other rule's field would -/
theorem val_dual {n : Int} {l : List Int} (h : RuleOK n l) {t : Int} (ht : t = 1 ∨ t = 2) : val n (otherL n l) 0 0 (3 - t) = 3 - val n l 0 0 t := by
  have h1 := h.n1
  have h5 := h.n5
  obtain ⟨e, e2⟩ := pw_eq h1 h5
  have hl : ∀ x ∈ l, Dom x := by
    intro x hx
    obtain ⟨i, hi, rfl⟩ := List.mem_iff_getElem.1 hx
    have hr : rd l i = l[i] := by
      unfold rd
      rw [List.getD_eq_getElem?_getD, show ((i : Int)).toNat = i from by omega, List.getElem?_eq_getElem hi]
      rfl
    have := h.lo i hi
    have := h.hi i hi
    rw [hr] at *
    exact ⟨by omega, by omega⟩
  have ho : ∀ x ∈ otherL n l, Dom x := fun x hx => (least_dom h1 h5 _ x hx).1
  have hz : landNot 0 (wrap64 (pw n - 1)) = 0 := by
    obtain ⟨y, rfl⟩ := n_fin h1 h5
    exact zero_inv y
  have hI : Inv n 0 0 := ⟨⟨by decide, by decide⟩, ⟨by decide, by decide⟩, hz, hz, by decide +kernel⟩
  have hc := Nat.lt_succ_of_le (cnt_le n (orI 0 0))
  unfold val
  rw [val_full h1 h5 hl 6 0 0 t hI hc ht, val_full h1 h5 ho 6 0 0 (3 - t) hI hc (by omega)]
  refine full_dual h1 h5 (fun s hs hb => ?_) 6 0 0 t hI hc ht
  refine other_win h1 h5 hl hs ?_
  obtain ⟨y, rfl⟩ := n_fin h1 h5
  obtain ⟨S, rfl⟩ := hs.fin
  exact lt_fin y S hb
theorem rule_field {n : Int} {l : List Int} (h : RuleOK n l) (h12 : l.length ≤ 12) : FieldOK n l := by
  refine ⟨h.n1, h.n5, h12, fun x hx => ?_⟩
  obtain ⟨i, hi, rfl⟩ := List.mem_iff_getElem.1 hx
  have hr : rd l i = l[i] := by
    unfold rd
    rw [List.getD_eq_getElem?_getD, show ((i : Int)).toNat = i from by omega, List.getElem?_eq_getElem hi]
    rfl
  have := h.lo i hi
  have := h.hi i hi
  rw [hr] at *
  exact ⟨by omega, by omega⟩
theorem rest0_fin : ∀ (n : Fin 5) (x : Fin 32), (x.val : Int) < pw ((n.val : Int) + 1) → land (x.val : Int) (restOf ((n.val : Int) + 1) 0) = x.val := by decide +kernel
theorem other_field {n : Int} {l : List Int} (h : RuleOK n l) (h12 : (otherL n l).length ≤ 12) : FieldOK n (otherL n l) := by
  have h1 := h.n1
  have h5 := h.n5
  obtain ⟨e, e2⟩ := pw_eq h1 h5
  refine ⟨h1, h5, h12, fun x hx => ?_⟩
  obtain ⟨d, hp, hlt⟩ := least_dom h1 h5 _ x hx
  refine ⟨?_, hlt⟩
  by_cases h0 : x = 0
  · exfalso
    subst h0
    have hw : win l (restOf n 0) = true := by
      obtain ⟨y, hy⟩ := List.exists_mem_of_ne_nil l h.ne
      refine List.any_eq_true.2 ⟨y, hy, ?_⟩
      rw [beq_iff_eq]
      obtain ⟨i, hi, rfl⟩ := List.mem_iff_getElem.1 hy
      have hr : rd l i = l[i] := by
        unfold rd
        rw [List.getD_eq_getElem?_getD, show ((i : Int)).toNat = i from by omega, List.getElem?_eq_getElem hi]
        rfl
      have h3 := h.lo i hi
      have h4 := h.hi i hi
      rw [hr] at h3 h4
      obtain ⟨N, rfl⟩ := n_fin h1 h5
      obtain ⟨Y, hY⟩ := (show Dom l[i] from ⟨by omega, by omega⟩).fin
      rw [hY] at h4 ⊢
      exact rest0_fin N Y h4
    rw [hw] at hp
    cases hp
  · have := d.lo
    omega
end Go.Proofs.Ytldakfaolagoiaa.Tb
