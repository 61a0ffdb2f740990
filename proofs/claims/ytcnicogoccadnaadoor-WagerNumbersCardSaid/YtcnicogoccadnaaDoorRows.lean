/-
  NARROWER THAN 'FOR EVERY INPUT', by the rows' own cells (each row's printed sentence says how): WagerGrundys: laid · WagerNumbers: laid.
  DERIVED. THE GIVEN ROWS OF THIS SEAT. 2 by the template 'for every input the law returns true; each argument reads behind the call as it read before'; 0 by the template 'total and deterministic' (their statements: YtcnicogoccadnaaDoorTotals.lean).
  GIVEN WITH THE SEED: the statements are not yours to turn. If you find one false, say at which input.
  Laid BY PROGRAM, IN A SANDBOX (cutbox-rows.mjs): the forced cells as the released guide's own fill.sh prints them over the translation db043616647b2812… (all of the seat's roots in one cut). By AI agents, Wed Nov 11 2026. No macro, syntax, notation, axiom, sorry.
-/
import Derived.Test.YtcnicogoccadnaaDoorChecked
import GoSem.Claim
import GoSem.ClaimJoined
import GoSem.ClaimMapViews
import Derived.JoinedTies
import Derived.KernelRfl
namespace Go.Proofs.YtcnicogoccadnaaDoor
/- THE CELL 'sum', in the pinned program and in every row, IS THE sha256 OF THE DUMP (.gsa) THAT YtcnicogoccadnaaDoorProg.lean LOADS. Nothing in Lean hashes anything: it is a label: what it is worth is what the hold of that sum in a sandbox is worth. -/
noncomputable def Tryd.pinned : Pinned := { name := "ytcnicogoccadnaadoor", sum := "db043616647b28120ab55a0ddb9dcb30c328ce583aac5718ada7276a9040cc1b", checked := Tryd.checked }
namespace Rows
def none {H : Type} : Left H := { results := [], args := [] }

/- WHAT THE LISTED PACKAGE-LEVEL VARIABLES READ AS WHEN THE CALL BEGINS. Each datum BY PROGRAM (the guide's laid-datum.mjs) off the statement by which the dump's own 'gosem.cut.vars' lays the variable. In a bare row this is a premise. The card (YtcnicogoccadnaaDoorCards.lean) ties it to the program's text. -/
def laid_droveway_wager_nim {H : Type} : DataW H := .iface "func table" (.agg [.iface "func" (.lit (.string [100, 114, 111, 118, 101, 119, 97, 121, 47, 119, 97, 103, 101, 114, 46, 110, 105, 109, 36, 49])), .iface "func" (.lit (.string [100, 114, 111, 118, 101, 119, 97, 121, 47, 119, 97, 103, 101, 114, 46, 110, 105, 109, 36, 50]))])

/-- 'drovewaylaw07.WagerGrundys': WHATEVER THE INPUT: true; the input reads as it did. -/
def wagerGrundysSpec : ChangeSpec := { name := "wagerGrundys", fn := fun _ => fun
  | [d1, d2] => { results := [.lit (.bool true)], args := [d1, d2] }
  | _ => none }
def wagerGrundysRow : OpenClaim := { program := "ytcnicogoccadnaadoor", sum := "db043616647b28120ab55a0ddb9dcb30c328ce583aac5718ada7276a9040cc1b", func := "droveway/drovewaylaw07.WagerGrundys", spec := "wagerGrundys", unfollowed := true, recurses := true, named := ["droveway/wager.nim"], plainKeys := false, apart := false, laid := [("droveway/wager.nim", laid_droveway_wager_nim)] }
def WagerGrundysSaid : Prop := wagerGrundysRow.holds Tryd.pinned (OpenSpec.ofChange wagerGrundysSpec)

/-- ITS FALSE NEIGHBOUR: 'it returns false'. Refute it at one input. -/
def wagerGrundysWrong : ChangeSpec := { name := "wagerGrundys", fn := fun _ => fun
  | [d1, d2] => { results := [.lit (.bool false)], args := [d1, d2] }
  | _ => none }
def WagerGrundysWrongFalsely : Prop := wagerGrundysRow.holds Tryd.pinned (OpenSpec.ofChange wagerGrundysWrong)

/-- 'drovewaylaw07.WagerNumbers': WHATEVER THE INPUT: true; the input reads as it did. -/
def wagerNumbersSpec : ChangeSpec := { name := "wagerNumbers", fn := fun _ => fun
  | [d1, d2] => { results := [.lit (.bool true)], args := [d1, d2] }
  | _ => none }
def wagerNumbersRow : OpenClaim := { program := "ytcnicogoccadnaadoor", sum := "db043616647b28120ab55a0ddb9dcb30c328ce583aac5718ada7276a9040cc1b", func := "droveway/drovewaylaw07.WagerNumbers", spec := "wagerNumbers", unfollowed := true, recurses := true, named := ["droveway/wager.nim"], plainKeys := false, apart := false, laid := [("droveway/wager.nim", laid_droveway_wager_nim)] }
def WagerNumbersSaid : Prop := wagerNumbersRow.holds Tryd.pinned (OpenSpec.ofChange wagerNumbersSpec)

/-- ITS FALSE NEIGHBOUR: 'it returns false'. Refute it at one input. -/
def wagerNumbersWrong : ChangeSpec := { name := "wagerNumbers", fn := fun _ => fun
  | [d1, d2] => { results := [.lit (.bool false)], args := [d1, d2] }
  | _ => none }
def WagerNumbersWrongFalsely : Prop := wagerNumbersRow.holds Tryd.pinned (OpenSpec.ofChange wagerNumbersWrong)

/- THE SECOND FORM. 'bulk': how many values and letters a reading holds, each counted each time it is reached (what is shared counts as often as it is met; a slice's spare places count too). A statement '..UptoSaid' is the law's where the arguments, and the package variables that the reading takes, are together of bulk at most 1048576: NARROWER than '..Said'. Prove '..Said' where nothing that the law and all that it calls make is longer than what came in: it says more and counts as full. Else prove '..UptoSaid'. A law counts once. -/
mutual
def uptoBulk {H : Type} : DataW H → Nat
  | .lit (.string bytes) => bytes.length + 1
  | .lit _ => 1
  | .nil => 1
  | .ptr d => uptoBulk d + 1
  | .slice elems spare => uptoBulkAll elems + uptoBulkAll spare + 1
  | .agg parts => uptoBulkAll parts + 1
  | .iface _ d => uptoBulk d + 1
  | .map entries => uptoBulkEntries entries + 1
  | .held _ => 1
def uptoBulkAll {H : Type} : List (DataW H) → Nat
  | [] => 0
  | d :: r => uptoBulk d + uptoBulkAll r
def uptoBulkEntries {H : Type} : List (Lit × DataW H) → Nat
  | [] => 0
  | x :: r => uptoBulkEntry x + uptoBulkEntries r
def uptoBulkEntry {H : Type} : Lit × DataW H → Nat
  | (.string bytes, d) => bytes.length + uptoBulk d + 1
  | (_, d) => uptoBulk d + 1
 end
def uptoSmall : (H : Type) → List (DataW H) → Bool := fun _ ds => decide (uptoBulkAll ds ≤ 1048576)
def OpenSpec.upto (s : _root_.Go.ChangeSpec) : _root_.Go.OpenSpec := { _root_.Go.OpenSpec.ofChange s with cond := some uptoSmall }

/-- 'drovewaylaw07.WagerGrundys', WHERE WHAT IT READS IS OF BULK AT MOST 1048576: true; the input reads as it did. -/
def wagerGrundysUptoRow : OpenClaim := { program := "ytcnicogoccadnaadoor", sum := "db043616647b28120ab55a0ddb9dcb30c328ce583aac5718ada7276a9040cc1b", func := "droveway/drovewaylaw07.WagerGrundys", spec := "wagerGrundys", unfollowed := true, recurses := true, named := ["droveway/wager.nim"], plainKeys := false, apart := false, laid := [("droveway/wager.nim", laid_droveway_wager_nim)], narrowed := true }
def WagerGrundysUptoSaid : Prop := wagerGrundysUptoRow.holds Tryd.pinned (OpenSpec.upto wagerGrundysSpec)

/-- 'drovewaylaw07.WagerNumbers', WHERE WHAT IT READS IS OF BULK AT MOST 1048576: true; the input reads as it did. -/
def wagerNumbersUptoRow : OpenClaim := { program := "ytcnicogoccadnaadoor", sum := "db043616647b28120ab55a0ddb9dcb30c328ce583aac5718ada7276a9040cc1b", func := "droveway/drovewaylaw07.WagerNumbers", spec := "wagerNumbers", unfollowed := true, recurses := true, named := ["droveway/wager.nim"], plainKeys := false, apart := false, laid := [("droveway/wager.nim", laid_droveway_wager_nim)], narrowed := true }
def WagerNumbersUptoSaid : Prop := wagerNumbersUptoRow.holds Tryd.pinned (OpenSpec.upto wagerNumbersSpec)

end Rows
end Go.Proofs.YtcnicogoccadnaaDoor
