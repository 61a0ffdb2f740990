/-
  DERIVED. GIVEN WITH THE SEED: THE CARDS: each row of YtcnicogoccadnaaDoorRows.lean that lists a variable, with what it lists TIED to the program's text (the seventh form; the later family's looks); each row that meets fmt, with fmt's text TOLD by the authors' own Lean function (tested against real Go, not proved from fmt's source: count such statements apart). THE CARD IS WHAT COUNTS. Prove the row's statement (the work); the ties are given (YtcnicogoccadnaaDoorTie.lean); close each card by the builder's one call (the guide's Derived/Test/ToyasCard.lean, 'card_holds'). Laid BY PROGRAM, IN A SANDBOX (cutbox-door.mjs). By AI agents, Wed Nov 11 2026. No macro, syntax, notation, axiom, sorry.
-/
import Derived.Test.YtcnicogoccadnaaDoorRows
import GoSem.ClaimSeven
namespace Go.Proofs.YtcnicogoccadnaaDoor
namespace Rows

/-- THE TIED CARD OF 'drovewaylaw07.WagerGrundys'. -/
def wagerGrundysCard : Claim7 := { stood := { row := wagerGrundysRow, standIns := [], harness := (true, "15df9e41cffa8aca78ef1e092efd334af05a64b96cfd8bbde5735322caa15aac"), looks := false }, kinds := [], alts := [], laidByText := true, laidKinds := [.funcs], laidTests := true, laidLooks := .later }
def WagerGrundysCardSaid : Prop := Claim7.holds Tryd.pinned (.plain (OpenSpec.ofChange wagerGrundysSpec)) wagerGrundysCard

/-- THE TIED CARD OF 'drovewaylaw07.WagerNumbers'. -/
def wagerNumbersCard : Claim7 := { stood := { row := wagerNumbersRow, standIns := [], harness := (true, "15df9e41cffa8aca78ef1e092efd334af05a64b96cfd8bbde5735322caa15aac"), looks := false }, kinds := [], alts := [], laidByText := true, laidKinds := [.funcs], laidTests := true, laidLooks := .later }
def WagerNumbersCardSaid : Prop := Claim7.holds Tryd.pinned (.plain (OpenSpec.ofChange wagerNumbersSpec)) wagerNumbersCard

/-- THE SECOND FORM's CARD OF 'drovewaylaw07.WagerGrundys'. -/
def wagerGrundysUptoCard : Claim7 := { stood := { row := wagerGrundysUptoRow, standIns := [], harness := (true, "15df9e41cffa8aca78ef1e092efd334af05a64b96cfd8bbde5735322caa15aac"), looks := false }, kinds := [], alts := [], laidByText := true, laidKinds := [.funcs], laidTests := true, laidLooks := .later }
def WagerGrundysUptoCardSaid : Prop := Claim7.holds Tryd.pinned (.plain (OpenSpec.upto wagerGrundysSpec)) wagerGrundysUptoCard

/-- THE SECOND FORM's CARD OF 'drovewaylaw07.WagerNumbers'. -/
def wagerNumbersUptoCard : Claim7 := { stood := { row := wagerNumbersUptoRow, standIns := [], harness := (true, "15df9e41cffa8aca78ef1e092efd334af05a64b96cfd8bbde5735322caa15aac"), looks := false }, kinds := [], alts := [], laidByText := true, laidKinds := [.funcs], laidTests := true, laidLooks := .later }
def WagerNumbersUptoCardSaid : Prop := Claim7.holds Tryd.pinned (.plain (OpenSpec.upto wagerNumbersSpec)) wagerNumbersUptoCard
end Rows
end Go.Proofs.YtcnicogoccadnaaDoor
