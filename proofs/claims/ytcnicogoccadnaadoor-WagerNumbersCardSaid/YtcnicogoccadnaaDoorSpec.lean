/- What Lost, First, Chomp and Bitten come to, in plain Lean. -/
import Derived.Test.YtcnicogoccadnaaDoorChomp
import Derived.Test.YtcnicogoccadnaaDoorExtE
namespace Go.Proofs.YtcnicogoccadnaaDoor.Ext
open Go.Proofs.YtcnicogoccadnaaDoorW.PrintWords Go.Proofs.YtcnicogoccadnaaDoorW.PrintLast Go.Proofs.YtcnicogoccadnaaDoorW.PrintMore
set_option linter.unusedVariables false

instance (l : List Int) (k : Nat) : Decidable (okTo l k) := by unfold okTo; infer_instance
/-- is it a bar, in a list of at most six rows? -/
def isBarL (l : List Int) : Bool := decide (1 ≤ l.length ∧ l.length ≤ 6 ∧ okTo l l.length)
def padL (l : List Int) : List Int := pad6 l l.length
theorem isBarL_iff {l : List Int} : isBarL l = true ↔ 1 ≤ l.length ∧ l.length ≤ 6 ∧ okTo l l.length := by unfold isBarL; exact decide_eq_true_iff

theorem padL_bar {l : List Int} (h : isBarL l = true) : Bar (padL l) := by
  obtain ⟨h1, h2, h3⟩ := isBarL_iff.1 h
  refine ⟨rfl, ?_⟩
  have hp : ∀ i : Nat, 0 ≤ padAt l l.length i ∧ padAt l l.length i ≤ 7 := by
    intro i
    unfold padAt
    split
    · have := h3 i (by omega); omega
    · omega
  intro x hx
  simp only [padL, pad6, List.mem_cons, List.not_mem_nil, or_false] at hx
  rcases hx with rfl | rfl | rfl | rfl | rfl | rfl
  · exact hp 0
  · exact hp 1
  · exact hp 2
  · exact hp 3
  · exact hp 4
  · exact hp 5

def chompL (l : List Int) : List (Int × Int) × Int := if isBarL l = true then (if (winM (padL l) 42).length = 0 then ([], 10) else (winM (padL l) 42, 0)) else ([], 2)
def bittenL (l : List Int) (r c : Int) : List Int × Int := if isBarL l = true then (if r < 0 ∨ (l.length : Int) ≤ r ∨ c < 0 ∨ rd l r ≤ c then ([], 6) else ((bite (padL l) r c).take l.length, 0)) else ([], 2)
def sizedL (rows cols : Int) : Int := if rows < 1 ∨ 6 < rows ∨ cols < 1 ∨ 7 < cols then 2 else if 24 < rows * cols then 8 else 0
def fullAt (rows cols i : Int) : Int := if i < rows then cols else 0
/-- the full bar -/
def full6 (rows cols : Int) : List Int := [fullAt rows cols 0, fullAt rows cols 1, fullAt rows cols 2, fullAt rows cols 3, fullAt rows cols 4, fullAt rows cols 5]
def headOf : List (Int × Int) → Int × Int × Int
  | [] => (0, 0, 10)
  | m :: _ => (m.1, m.2, 0)
def firstL (rows cols : Int) : Int × Int × Int :=
  if sizedL rows cols = 0 then headOf (winM (full6 rows cols) 1) else (0, 0, sizedL rows cols)
/-- the bars that begin with pre and go on for n rows, each row at most the one before it -/
def barsFrom : Nat → Int → List Int → List (List Int)
  | 0, _, pre => [pre]
  | n + 1, most, pre => (List.range (most + 1).toNat).flatMap fun (x : Nat) => barsFrom n (x : Int) (pre ++ [(x : Int)])
def lostP (l : List Int) : Bool := !winsS (padL l)
def lostL (rows cols : Int) : List (List Int) × Int :=
  if sizedL rows cols = 0 then ((barsFrom rows.toNat cols []).filter lostP, 0) else ([], sizedL rows cols)

theorem full6_bar {rows cols : Int} (h : 0 ≤ cols ∧ cols ≤ 7) : Bar (full6 rows cols) := by
  refine ⟨rfl, ?_⟩
  have hp : ∀ i : Int, 0 ≤ fullAt rows cols i ∧ fullAt rows cols i ≤ 7 := by intro i; unfold fullAt; split <;> omega
  intro x hx
  simp only [full6, List.mem_cons, List.not_mem_nil, or_false] at hx
  rcases hx with rfl | rfl | rfl | rfl | rfl | rfl <;> exact hp _
end Go.Proofs.YtcnicogoccadnaaDoor.Ext
