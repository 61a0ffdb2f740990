/- Chomp in plain Lean: full bars are won, bars of two rows, bars of one row and one column, the first winning piece. -/
import Derived.Test.YtcngcilinlcmeaaSpec
namespace Go.Proofs.Ytcngcilinlcmeaa.Ext
open Go.Proofs.YtcngcilinlcmeaaW.PrintWords Go.Proofs.YtcngcilinlcmeaaW.PrintLast Go.Proofs.YtcngcilinlcmeaaW.PrintMore
set_option linter.unusedVariables false

theorem mem_moves6 {a b c d e f : Int} {m : Int × Int} : m ∈ moves [a, b, c, d, e, f] ↔ 0 ≤ m.2 ∧ (m.1 = 0 ∧ m.2 < a ∨ m.1 = 1 ∧ m.2 < b ∨ m.1 = 2 ∧ m.2 < c ∨ m.1 = 3 ∧ m.2 < d ∨ m.1 = 4 ∧ m.2 < e ∨ m.1 = 5 ∧ m.2 < f) := by
  unfold moves
  simp only [movesGo, List.mem_append, mem_rowMoves, List.not_mem_nil, or_false]
  omega
theorem wins_iff {xs : List Int} (h : Bar xs) (h0 : xs.headD 0 ≠ 0) : winsS xs = true ↔ ∃ m ∈ moves xs, winsS (bite xs m.1 m.2) = false := by
  rw [winsS_eq h, if_neg h0, List.any_eq_true]
  constructor
  · rintro ⟨m, h1, h2⟩; exact ⟨m, h1, by simpa using h2⟩
  · rintro ⟨m, h1, h2⟩; exact ⟨m, h1, by simpa using h2⟩
theorem loses_iff {xs : List Int} (h : Bar xs) (h0 : xs.headD 0 ≠ 0) : winsS xs = false ↔ ∀ m ∈ moves xs, winsS (bite xs m.1 m.2) = true := by
  constructor
  · intro hw m hm
    cases hb : winsS (bite xs m.1 m.2) with
    | true => rfl
    | false => rw [(wins_iff h h0).2 ⟨m, hm, hb⟩] at hw; cases hw
  · intro ha
    cases hw : winsS xs with
    | false => rfl
    | true =>
      obtain ⟨m, hm, hb⟩ := (wins_iff h h0).1 hw
      rw [ha m hm] at hb
      cases hb
theorem wins_head {xs : List Int} (h : Bar xs) (h0 : xs.headD 0 = 0) : winsS xs = true := by rw [winsS_eq h, if_pos h0]
theorem winM_any {xs : List Int} (h : Bar xs) (h0 : ¬ xs.headD 0 = 0) (n : Nat) (hn : 0 < n) : (winM xs n).length = 0 ↔ winsS xs = false := by
  have h1 := winM_one h h0
  have h2 : ∀ k : Nat, 0 < k → ((winM xs k).length = 0 ↔ ((moves xs).filter fun m => !winsS (bite xs m.1 m.2)).length = 0) := by
    intro k hk
    unfold winM
    rw [List.length_take]
    omega
  rw [h2 n hn, ← h2 1 (by omega), h1, decide_eq_false_iff_not]
  omega

theorem bar6 {a b c d e f : Int} (h : (0 ≤ a ∧ a ≤ 7) ∧ (0 ≤ b ∧ b ≤ 7) ∧ (0 ≤ c ∧ c ≤ 7) ∧ (0 ≤ d ∧ d ≤ 7) ∧ (0 ≤ e ∧ e ≤ 7) ∧ (0 ≤ f ∧ f ≤ 7)) : Bar [a, b, c, d, e, f] := by
  refine ⟨rfl, ?_⟩
  intro x hx
  simp only [List.mem_cons, List.not_mem_nil, or_false] at hx
  rcases hx with rfl | rfl | rfl | rfl | rfl | rfl <;> omega

/-- taking the last piece of a full bar helps nobody -/
theorem steal (r c m1 m2 i : Int) (h1 : m1 ≤ r - 1) (h2 : 0 ≤ m2 ∧ m2 ≤ c - 1) : bitC m1 m2 (bitC (r - 1) (c - 1) (fullAt r c i) i) i = bitC m1 m2 (fullAt r c i) i := by
  unfold bitC fullAt mn
  repeat (first | omega | split)
theorem full_wins {r c : Int} (hr : 1 ≤ r ∧ r ≤ 6) (hc : 1 ≤ c ∧ c ≤ 7) (h : r ≠ 1 ∨ c ≠ 1) : winsS (full6 r c) = true := by
  have hb := full6_bar (rows := r) (cols := c) (by omega)
  have h0 : (full6 r c).headD 0 ≠ 0 := by
    show fullAt r c 0 ≠ 0
    unfold fullAt
    rw [if_pos (by omega)]
    omega
  cases hw : winsS (full6 r c) with
  | true => rfl
  | false =>
    exfalso
    have hall := (loses_iff hb h0).1 hw
    have hm0 : (r - 1, c - 1) ∈ moves (full6 r c) := by
      unfold full6
      rw [mem_moves6]
      simp only [fullAt]
      omega
    have hX := hall _ hm0
    have hbX := hb.bite (r - 1) (c := c - 1) (by omega)
    simp only at hX
    have hX0 : (bite (full6 r c) (r - 1) (c - 1)).headD 0 ≠ 0 := by
      unfold full6
      rw [bite_six]
      show bitC (r - 1) (c - 1) (fullAt r c 0) 0 ≠ 0
      unfold bitC fullAt mn
      repeat (first | omega | split)
    obtain ⟨m, hm, hl⟩ := (wins_iff hbX hX0).1 hX
    have hm2 := hm
    unfold full6 at hm2
    rw [bite_six, mem_moves6] at hm2
    simp only [bitC, fullAt, mn] at hm2
    have hmf : m ∈ moves (full6 r c) := by
      unfold full6
      rw [mem_moves6]
      simp only [fullAt]
      omega
    have hmm := hmf
    unfold full6 at hmm
    rw [mem_moves6] at hmm
    simp only [fullAt] at hmm
    have he : bite (bite (full6 r c) (r - 1) (c - 1)) m.1 m.2 = bite (full6 r c) m.1 m.2 := by
      unfold full6
      rw [bite_six, bite_six, bite_six]
      rw [steal r c m.1 m.2 0 (by omega) (by omega), steal r c m.1 m.2 1 (by omega) (by omega), steal r c m.1 m.2 2 (by omega) (by omega), steal r c m.1 m.2 3 (by omega) (by omega), steal r c m.1 m.2 4 (by omega) (by omega), steal r c m.1 m.2 5 (by omega) (by omega)]
    rw [he, hall m hmf] at hl
    cases hl

/-- two rows -/
theorem two_rows : ∀ (n : Nat) (a b : Int), (a + b).toNat ≤ n → 1 ≤ a ∧ a ≤ 7 → 0 ≤ b ∧ b ≤ a → winsS [a, b, 0, 0, 0, 0] = decide (a ≠ b + 1)
  | 0, a, b, hn, ha, hb => by omega
  | n + 1, a, b, hn, ha, hb => by
    have hB : Bar [a, b, 0, 0, 0, 0] := bar6 (by omega)
    have h0 : ([a, b, 0, 0, 0, 0] : List Int).headD 0 ≠ 0 := by show a ≠ 0; omega
    have up : ∀ c : Int, 0 ≤ c → c < a → bite [a, b, 0, 0, 0, 0] 0 c = [c, mn b c, 0, 0, 0, 0] := by
      intro c h1 h2
      rw [bite_six]
      simp only [bitC, mn]
      congr 1
      · repeat (first | omega | split)
      · congr 1
        repeat (first | (simp; omega) | simp | split)
    have low : ∀ c : Int, 0 ≤ c → c < b → bite [a, b, 0, 0, 0, 0] 1 c = [a, c, 0, 0, 0, 0] := by
      intro c h1 h2
      rw [bite_six]
      simp only [bitC, mn]
      congr 1
      congr 1
      · repeat (first | omega | split)
      · repeat (first | (simp; omega) | simp | split)
    by_cases he : a = b + 1
    · rw [decide_eq_false (by omega)]
      rw [loses_iff hB h0]
      intro m hm
      rw [mem_moves6] at hm
      by_cases hm1 : m.1 = 0
      · rw [hm1, up m.2 (by omega) (by omega)]
        by_cases hm2 : m.2 = 0
        · refine wins_head (bar6 ?_) hm2
          unfold mn; split <;> omega
        · have e1 : mn b m.2 = m.2 := by unfold mn; split <;> omega
          rw [e1, two_rows n m.2 m.2 (by omega) (by omega) (by omega), decide_eq_true (by omega)]
      · have hm2 : m.1 = 1 := by omega
        rw [hm2, low m.2 (by omega) (by omega), two_rows n a m.2 (by omega) (by omega) (by omega), decide_eq_true (by omega)]
    · rw [decide_eq_true (by omega), wins_iff hB h0]
      by_cases hab : a = b
      · refine ⟨(1, b - 1), ?_, ?_⟩
        · rw [mem_moves6]
          exact ⟨by show 0 ≤ b - 1; omega, .inr (.inl ⟨rfl, by show b - 1 < b; omega⟩)⟩
        · simp only
          rw [low (b - 1) (by omega) (by omega), two_rows n a (b - 1) (by omega) (by omega) (by omega), decide_eq_false (by omega)]
      · refine ⟨(0, b + 1), ?_, ?_⟩
        · rw [mem_moves6]
          exact ⟨by show 0 ≤ b + 1; omega, .inl ⟨rfl, by show b + 1 < a; omega⟩⟩
        · simp only
          have e1 : mn b (b + 1) = b := by unfold mn; split <;> omega
          rw [up (b + 1) (by omega) (by omega), e1, two_rows n (b + 1) b (by omega) (by omega) (by omega), decide_eq_false (by omega)]

/-- one row and one column -/
def arm (r i : Int) : Int := if i < r then 1 else 0
def lsh (a r : Int) : List Int := [a, arm r 1, arm r 2, arm r 3, arm r 4, arm r 5]
theorem lsh_bar {a r : Int} (ha : 0 ≤ a ∧ a ≤ 7) : Bar (lsh a r) := by
  have hp : ∀ i : Int, 0 ≤ arm r i ∧ arm r i ≤ 7 := by intro i; unfold arm; split <;> omega
  exact bar6 ⟨ha, hp _, hp _, hp _, hp _, hp _⟩
theorem bit_arm {r m c i : Int} (h : 0 ≤ i) : bitC m c (arm r i) i = if c ≤ 0 then (if m ≤ i then (if c ≤ arm r i then c else arm r i) else arm r i) else arm r i := by
  unfold bitC arm mn
  repeat (first | omega | split)
theorem lsh_up {a r c : Int} (h1 : 0 < c) (h2 : c < a) : bite (lsh a r) 0 c = lsh c r := by
  unfold lsh
  rw [bite_six, bit_arm (by omega), bit_arm (by omega), bit_arm (by omega), bit_arm (by omega), bit_arm (by omega)]
  rw [if_neg (by omega), if_neg (by omega), if_neg (by omega), if_neg (by omega), if_neg (by omega)]
  congr 1
  unfold bitC mn
  repeat (first | omega | split)
theorem lsh_low {a r i : Int} (h1 : 0 < i) (h2 : i < r) (h3 : 1 ≤ a) : bite (lsh a r) i 0 = lsh a i := by
  have e : ∀ j : Int, bitC i 0 (arm r j) j = arm i j := by
    intro j
    unfold bitC arm mn
    repeat (first | omega | split)
  unfold lsh
  rw [bite_six, e, e, e, e, e]
  congr 1
  unfold bitC
  rw [if_neg (by omega)]
theorem l_shape : ∀ (n : Nat) (a r : Int), (a + r).toNat ≤ n → 1 ≤ a ∧ a ≤ 7 → 1 ≤ r ∧ r ≤ 6 → winsS (lsh a r) = decide (a ≠ r)
  | 0, a, r, hn, ha, hr => by omega
  | n + 1, a, r, hn, ha, hr => by
    have hB : Bar (lsh a r) := lsh_bar (by omega)
    have h0 : (lsh a r).headD 0 ≠ 0 := by show a ≠ 0; omega
    by_cases he : a = r
    · rw [decide_eq_false (by omega)]
      rw [loses_iff hB h0]
      intro m hm
      have hm' := hm
      unfold lsh at hm
      rw [mem_moves6] at hm
      simp only [arm] at hm
      by_cases hm1 : m.1 = 0
      · by_cases hm2 : m.2 = 0
        · refine wins_head (hB.bite m.1 (by omega)) ?_
          rw [hm1, hm2]
          unfold lsh
          rw [bite_six]
          show bitC 0 0 a 0 = 0
          unfold bitC mn
          repeat (first | omega | split)
        · rw [hm1, lsh_up (by omega) (by omega), l_shape n m.2 r (by omega) (by omega) (by omega), decide_eq_true (by omega)]
      · have hm2 : m.2 = 0 := by
          repeat (first | omega | split at hm)
        have hm3 : 0 < m.1 ∧ m.1 < r := by
          repeat (first | omega | split at hm)
        rw [hm2, lsh_low hm3.1 hm3.2 (by omega), l_shape n a m.1 (by omega) (by omega) (by omega), decide_eq_true (by omega)]
    · rw [decide_eq_true (by omega), wins_iff hB h0]
      by_cases har : r < a
      · refine ⟨(0, r), ?_, ?_⟩
        · unfold lsh
          rw [mem_moves6]
          exact ⟨by show 0 ≤ r; omega, .inl ⟨rfl, har⟩⟩
        · simp only
          rw [lsh_up (by omega) har, l_shape n r r (by omega) (by omega) (by omega), decide_eq_false (by omega)]
      · refine ⟨(a, 0), ?_, ?_⟩
        · unfold lsh; rw [mem_moves6]; simp only [arm]
          repeat (first | omega | split)
        · simp only
          rw [lsh_low (by omega) (by omega) (by omega), l_shape n a a (by omega) (by omega) (by omega), decide_eq_false (by omega)]

/-! the first winning piece -/
theorem rowMoves_split (r : Int) {k x : Int} (h : 0 ≤ k ∧ k < x) : ∃ rest, rowMoves r x = rowMoves r k ++ (r, k) :: rest := by
  unfold rowMoves
  obtain ⟨n, hn⟩ : ∃ n : Nat, x.toNat = k.toNat + (n + 1) := ⟨x.toNat - k.toNat - 1, by omega⟩
  rw [hn, List.range_add, List.map_append, List.range_succ_eq_map]
  refine ⟨List.map (fun c : Nat => (r, (c : Int))) (List.map (fun x => k.toNat + x) (List.map Nat.succ (List.range n))), ?_⟩
  congr 1
  rw [List.map_cons, List.map_cons]
  congr 1
  simp only [Nat.add_zero]
  congr 1
  omega
theorem first_in {p : Int × Int → Bool} {pre rest : List (Int × Int)} {m : Int × Int} (h1 : ∀ x ∈ pre, p x = false) (h2 : p m = true) : ((pre ++ m :: rest).filter p).take 1 = [m] := by
  have e : pre.filter p = [] := by
    rw [List.filter_eq_nil_iff]
    intro x hx
    rw [h1 x hx]
    decide
  rw [List.filter_append, e, List.nil_append, List.filter_cons, if_pos h2]
  rfl
theorem first_row {xs : List Int} {pre post : List (Int × Int)} {r k x : Int} (hm : moves xs = pre ++ (rowMoves r x ++ post)) (h : 0 ≤ k ∧ k < x)
    (h1 : ∀ m ∈ pre, winsS (bite xs m.1 m.2) = true) (h2 : ∀ c : Int, 0 ≤ c → c < k → winsS (bite xs r c) = true) (h3 : winsS (bite xs r k) = false) : winM xs 1 = [(r, k)] := by
  obtain ⟨rest, hr⟩ := rowMoves_split r h
  unfold winM
  rw [hm, hr, show pre ++ (rowMoves r k ++ (r, k) :: rest ++ post) = (pre ++ rowMoves r k) ++ (r, k) :: (rest ++ post) by simp]
  refine first_in ?_ ?_
  · intro m hm
    rw [List.mem_append] at hm
    rcases hm with hm | hm
    · rw [h1 m hm]; rfl
    · have h4 := mem_rowMoves.1 hm
      rw [h4.1, h2 m.2 h4.2.1 h4.2.2]
      rfl
  · simp only
    rw [h3]
    rfl
theorem bit_full {r c k : Int} (hk : 0 ≤ k ∧ k < c) (i : Int) (hi : 0 ≤ i) : bitC 0 k (fullAt r c i) i = fullAt r k i := by
  unfold bitC fullAt mn
  repeat (first | omega | split)
theorem full_bite0 {r c k : Int} (hk : 0 ≤ k ∧ k < c) : bite (full6 r c) 0 k = full6 r k := by
  unfold full6
  rw [bite_six, bit_full hk 0 (by omega), bit_full hk 1 (by omega), bit_full hk 2 (by omega), bit_full hk 3 (by omega), bit_full hk 4 (by omega), bit_full hk 5 (by omega)]
/-- the first row of a full bar of two rows or more is no winning move -/
theorem full_row0 {r c k : Int} (hr : 2 ≤ r ∧ r ≤ 6) (hc : 1 ≤ c ∧ c ≤ 7) (hk : 0 ≤ k ∧ k < c) : winsS (bite (full6 r c) 0 k) = true := by
  rw [full_bite0 hk]
  by_cases h0 : k = 0
  · refine wins_head (full6_bar (by omega)) ?_
    show fullAt r k 0 = 0
    unfold fullAt
    split <;> omega
  · exact full_wins (by omega) (by omega) (.inl (by omega))
theorem moves_full (r c : Int) : moves (full6 r c) = rowMoves 0 (fullAt r c 0) ++ (rowMoves 1 (fullAt r c 1) ++ (rowMoves 2 (fullAt r c 2) ++ (rowMoves 3 (fullAt r c 3) ++ (rowMoves 4 (fullAt r c 4) ++ (rowMoves 5 (fullAt r c 5) ++ []))))) := rfl
theorem first_square {r : Int} (hr : 2 ≤ r ∧ r ≤ 6) : winM (full6 r r) 1 = [(1, 1)] := by
  have e0 : fullAt r r 0 = r := by unfold fullAt; rw [if_pos (by omega)]
  have e1 : fullAt r r 1 = r := by unfold fullAt; rw [if_pos (by omega)]
  refine first_row (k := 1) (x := fullAt r r 1) (moves_full r r) (by omega) ?_ ?_ ?_
  · intro m hm
    have h := mem_rowMoves.1 hm
    rw [h.1]
    exact full_row0 hr (by omega) (by omega)
  · intro c h1 h2
    obtain rfl : c = 0 := by omega
    have e : bite (full6 r r) 1 0 = [r, 0, 0, 0, 0, 0] := by
      have h : ∀ i : Int, 1 ≤ i → bitC 1 0 (fullAt r r i) i = 0 := by
        intro i hi
        unfold bitC fullAt mn
        repeat (first | omega | split)
      unfold full6
      rw [bite_six, h 1 (by omega), h 2 (by omega), h 3 (by omega), h 4 (by omega), h 5 (by omega), e0]
      rfl
    rw [e, two_rows (r + 0).toNat r 0 (Nat.le_refl _) (by omega) (by omega), decide_eq_true (by omega)]
  · have e : bite (full6 r r) 1 1 = lsh r r := by
      have h : ∀ i : Int, 1 ≤ i → bitC 1 1 (fullAt r r i) i = arm r i := by
        intro i hi
        unfold bitC fullAt mn arm
        repeat (first | omega | split)
      unfold full6 lsh
      rw [bite_six, h 1 (by omega), h 2 (by omega), h 3 (by omega), h 4 (by omega), h 5 (by omega), e0]
      rfl
    rw [e, l_shape (r + r).toNat r r (Nat.le_refl _) (by omega) (by omega), decide_eq_false (by omega)]
theorem first_two {c : Int} (hc : 1 ≤ c ∧ c ≤ 7) : winM (full6 2 c) 1 = [(1, c - 1)] := by
  have e1 : fullAt 2 c 1 = c := by unfold fullAt; rw [if_pos (by omega)]
  have ef : full6 2 c = [c, c, 0, 0, 0, 0] := by
    unfold full6 fullAt
    simp
  have low : ∀ k : Int, 0 ≤ k → k < c → bite (full6 2 c) 1 k = [c, k, 0, 0, 0, 0] := by
    intro k h1 h2
    rw [ef, bite_six]
    simp only [bitC, mn]
    congr 1
    congr 1
    · repeat (first | omega | split)
    · repeat (first | (simp; omega) | simp | split)
  refine first_row (k := c - 1) (x := fullAt 2 c 1) (moves_full 2 c) (by omega) ?_ ?_ ?_
  · intro m hm
    have h := mem_rowMoves.1 hm
    rw [show fullAt 2 c 0 = c from by unfold fullAt; rw [if_pos (by omega)]] at h
    rw [h.1]
    exact full_row0 (by omega) hc (by omega)
  · intro k h1 h2
    rw [low k h1 (by omega), two_rows (c + k).toNat c k (Nat.le_refl _) (by omega) (by omega), decide_eq_true (by omega)]
  · rw [low (c - 1) (by omega) (by omega), two_rows (c + (c - 1)).toNat c (c - 1) (Nat.le_refl _) (by omega) (by omega), decide_eq_false (by omega)]
end Go.Proofs.Ytcngcilinlcmeaa.Ext
