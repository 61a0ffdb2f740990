/-
  No cell of these rows narrows 'for every input' (looked for: loops, veiled, ifaces, maps, wideKeys, modest, calm, conditions, laid).
  DERIVED. THE GIVEN ROWS OF THIS SEAT. 11 by the template 'for every input the law returns true; each argument reads behind the call as it read before'; 0 by the template 'total and deterministic' (their statements: YtcngcilinlcmeaaTotals.lean).
  GIVEN WITH THE SEED: the statements are not yours to turn. If you find one false, say at which input.
  Laid BY PROGRAM, IN A SANDBOX (cutbox-rows.mjs): the forced cells as the released guide's own fill.sh prints them over the translation 4103237f9fffe725… (all of the seat's roots in one cut). By AI agents, Wed Nov 11 2026. No macro, syntax, notation, axiom, sorry.
-/
import Derived.Test.YtcngcilinlcmeaaChecked
import GoSem.Claim
import GoSem.ClaimJoined
import GoSem.ClaimMapViews
import Derived.JoinedTies
import Derived.KernelRfl
namespace Go.Proofs.Ytcngcilinlcmeaa
/- THE CELL 'sum', in the pinned program and in every row, IS THE sha256 OF THE DUMP (.gsa) THAT YtcngcilinlcmeaaProg.lean LOADS. Nothing in Lean hashes anything: it is a label: what it is worth is what the hold of that sum in a sandbox is worth. -/
noncomputable def Try.pinned : Pinned := { name := "ytcngcilinlcmeaa", sum := "4103237f9fffe7255d1de80c5eac8b68c446f3a3244815fa67675c344c921a54", checked := Try.checked }
namespace Rows
def none {H : Type} : Left H := { results := [], args := [] }

/-- 'drovewaylaw07.WagerEuclids': WHATEVER THE INPUT: true; the input reads as it did. -/
def wagerEuclidsSpec : ChangeSpec := { name := "wagerEuclids", fn := fun _ => fun
  | [d1, d2] => { results := [.lit (.bool true)], args := [d1, d2] }
  | _ => none }
def wagerEuclidsRow : OpenClaim := { program := "ytcngcilinlcmeaa", sum := "4103237f9fffe7255d1de80c5eac8b68c446f3a3244815fa67675c344c921a54", func := "droveway/drovewaylaw07.WagerEuclids", spec := "wagerEuclids", unfollowed := true, recurses := true, plainKeys := false, apart := false }
def WagerEuclidsSaid : Prop := wagerEuclidsRow.holds Try.pinned (OpenSpec.ofChange wagerEuclidsSpec)

/-- ITS FALSE NEIGHBOUR: 'it returns false'. Refute it at one input. -/
def wagerEuclidsWrong : ChangeSpec := { name := "wagerEuclids", fn := fun _ => fun
  | [d1, d2] => { results := [.lit (.bool false)], args := [d1, d2] }
  | _ => none }
def WagerEuclidsWrongFalsely : Prop := wagerEuclidsRow.holds Try.pinned (OpenSpec.ofChange wagerEuclidsWrong)

/-- 'drovewaylaw07.WagerLosts': WHATEVER THE INPUT: true; the input reads as it did. -/
def wagerLostsSpec : ChangeSpec := { name := "wagerLosts", fn := fun _ => fun
  | [d1, d2] => { results := [.lit (.bool true)], args := [d1, d2] }
  | _ => none }
def wagerLostsRow : OpenClaim := { program := "ytcngcilinlcmeaa", sum := "4103237f9fffe7255d1de80c5eac8b68c446f3a3244815fa67675c344c921a54", func := "droveway/drovewaylaw07.WagerLosts", spec := "wagerLosts", unfollowed := true, recurses := true, plainKeys := false, apart := false }
def WagerLostsSaid : Prop := wagerLostsRow.holds Try.pinned (OpenSpec.ofChange wagerLostsSpec)

/-- ITS FALSE NEIGHBOUR: 'it returns false'. Refute it at one input. -/
def wagerLostsWrong : ChangeSpec := { name := "wagerLosts", fn := fun _ => fun
  | [d1, d2] => { results := [.lit (.bool false)], args := [d1, d2] }
  | _ => none }
def WagerLostsWrongFalsely : Prop := wagerLostsRow.holds Try.pinned (OpenSpec.ofChange wagerLostsWrong)

/-- 'drovewaylaw07.WagerZeckendorf': WHATEVER THE INPUT: true; the input reads as it did. -/
def wagerZeckendorfSpec : ChangeSpec := { name := "wagerZeckendorf", fn := fun _ => fun
  | [d] => { results := [.lit (.bool true)], args := [d] }
  | _ => none }
def wagerZeckendorfRow : OpenClaim := { program := "ytcngcilinlcmeaa", sum := "4103237f9fffe7255d1de80c5eac8b68c446f3a3244815fa67675c344c921a54", func := "droveway/drovewaylaw07.WagerZeckendorf", spec := "wagerZeckendorf", unfollowed := true, recurses := true, plainKeys := false, apart := false }
def WagerZeckendorfSaid : Prop := wagerZeckendorfRow.holds Try.pinned (OpenSpec.ofChange wagerZeckendorfSpec)

/-- ITS FALSE NEIGHBOUR: 'it returns false'. Refute it at one input. -/
def wagerZeckendorfWrong : ChangeSpec := { name := "wagerZeckendorf", fn := fun _ => fun
  | [d] => { results := [.lit (.bool false)], args := [d] }
  | _ => none }
def WagerZeckendorfWrongFalsely : Prop := wagerZeckendorfRow.holds Try.pinned (OpenSpec.ofChange wagerZeckendorfWrong)

/-- 'drovewaylaw07.WagerPlayed': WHATEVER THE INPUT: true; the input reads as it did. -/
def wagerPlayedSpec : ChangeSpec := { name := "wagerPlayed", fn := fun _ => fun
  | [d1, d2, d3] => { results := [.lit (.bool true)], args := [d1, d2, d3] }
  | _ => none }
def wagerPlayedRow : OpenClaim := { program := "ytcngcilinlcmeaa", sum := "4103237f9fffe7255d1de80c5eac8b68c446f3a3244815fa67675c344c921a54", func := "droveway/drovewaylaw07.WagerPlayed", spec := "wagerPlayed", unfollowed := true, recurses := true, plainKeys := false, apart := false }
def WagerPlayedSaid : Prop := wagerPlayedRow.holds Try.pinned (OpenSpec.ofChange wagerPlayedSpec)

/-- ITS FALSE NEIGHBOUR: 'it returns false'. Refute it at one input. -/
def wagerPlayedWrong : ChangeSpec := { name := "wagerPlayed", fn := fun _ => fun
  | [d1, d2, d3] => { results := [.lit (.bool false)], args := [d1, d2, d3] }
  | _ => none }
def WagerPlayedWrongFalsely : Prop := wagerPlayedRow.holds Try.pinned (OpenSpec.ofChange wagerPlayedWrong)

/-- 'drovewaylaw07.WagerCole': WHATEVER THE INPUT: true; the input reads as it did. -/
def wagerColeSpec : ChangeSpec := { name := "wagerCole", fn := fun _ => fun
  | [d1, d2] => { results := [.lit (.bool true)], args := [d1, d2] }
  | _ => none }
def wagerColeRow : OpenClaim := { program := "ytcngcilinlcmeaa", sum := "4103237f9fffe7255d1de80c5eac8b68c446f3a3244815fa67675c344c921a54", func := "droveway/drovewaylaw07.WagerCole", spec := "wagerCole", unfollowed := true, recurses := true, plainKeys := false, apart := false }
def WagerColeSaid : Prop := wagerColeRow.holds Try.pinned (OpenSpec.ofChange wagerColeSpec)

/-- ITS FALSE NEIGHBOUR: 'it returns false'. Refute it at one input. -/
def wagerColeWrong : ChangeSpec := { name := "wagerCole", fn := fun _ => fun
  | [d1, d2] => { results := [.lit (.bool false)], args := [d1, d2] }
  | _ => none }
def WagerColeWrongFalsely : Prop := wagerColeRow.holds Try.pinned (OpenSpec.ofChange wagerColeWrong)

/-- 'drovewaylaw07.WagerEuclidean': WHATEVER THE INPUT: true; the input reads as it did. -/
def wagerEuclideanSpec : ChangeSpec := { name := "wagerEuclidean", fn := fun _ => fun
  | [d1, d2, d3] => { results := [.lit (.bool true)], args := [d1, d2, d3] }
  | _ => none }
def wagerEuclideanRow : OpenClaim := { program := "ytcngcilinlcmeaa", sum := "4103237f9fffe7255d1de80c5eac8b68c446f3a3244815fa67675c344c921a54", func := "droveway/drovewaylaw07.WagerEuclidean", spec := "wagerEuclidean", unfollowed := true, recurses := true, plainKeys := false, apart := false }
def WagerEuclideanSaid : Prop := wagerEuclideanRow.holds Try.pinned (OpenSpec.ofChange wagerEuclideanSpec)

/-- ITS FALSE NEIGHBOUR: 'it returns false'. Refute it at one input. -/
def wagerEuclideanWrong : ChangeSpec := { name := "wagerEuclidean", fn := fun _ => fun
  | [d1, d2, d3] => { results := [.lit (.bool false)], args := [d1, d2, d3] }
  | _ => none }
def WagerEuclideanWrongFalsely : Prop := wagerEuclideanRow.holds Try.pinned (OpenSpec.ofChange wagerEuclideanWrong)

/-- 'drovewaylaw07.WagerNims': WHATEVER THE INPUT: true; the input reads as it did. -/
def wagerNimsSpec : ChangeSpec := { name := "wagerNims", fn := fun _ => fun
  | [d1, d2] => { results := [.lit (.bool true)], args := [d1, d2] }
  | _ => none }
def wagerNimsRow : OpenClaim := { program := "ytcngcilinlcmeaa", sum := "4103237f9fffe7255d1de80c5eac8b68c446f3a3244815fa67675c344c921a54", func := "droveway/drovewaylaw07.WagerNims", spec := "wagerNims", unfollowed := true, recurses := true, plainKeys := false, apart := false }
def WagerNimsSaid : Prop := wagerNimsRow.holds Try.pinned (OpenSpec.ofChange wagerNimsSpec)

/-- ITS FALSE NEIGHBOUR: 'it returns false'. Refute it at one input. -/
def wagerNimsWrong : ChangeSpec := { name := "wagerNims", fn := fun _ => fun
  | [d1, d2] => { results := [.lit (.bool false)], args := [d1, d2] }
  | _ => none }
def WagerNimsWrongFalsely : Prop := wagerNimsRow.holds Try.pinned (OpenSpec.ofChange wagerNimsWrong)

/-- 'drovewaylaw07.WagerWhinihan': WHATEVER THE INPUT: true; the input reads as it did. -/
def wagerWhinihanSpec : ChangeSpec := { name := "wagerWhinihan", fn := fun _ => fun
  | [d1, d2] => { results := [.lit (.bool true)], args := [d1, d2] }
  | _ => none }
def wagerWhinihanRow : OpenClaim := { program := "ytcngcilinlcmeaa", sum := "4103237f9fffe7255d1de80c5eac8b68c446f3a3244815fa67675c344c921a54", func := "droveway/drovewaylaw07.WagerWhinihan", spec := "wagerWhinihan", unfollowed := true, recurses := true, plainKeys := false, apart := false }
def WagerWhinihanSaid : Prop := wagerWhinihanRow.holds Try.pinned (OpenSpec.ofChange wagerWhinihanSpec)

/-- ITS FALSE NEIGHBOUR: 'it returns false'. Refute it at one input. -/
def wagerWhinihanWrong : ChangeSpec := { name := "wagerWhinihan", fn := fun _ => fun
  | [d1, d2] => { results := [.lit (.bool false)], args := [d1, d2] }
  | _ => none }
def WagerWhinihanWrongFalsely : Prop := wagerWhinihanRow.holds Try.pinned (OpenSpec.ofChange wagerWhinihanWrong)

/-- 'drovewaylaw07.WagerBitter': WHATEVER THE INPUT: true; the input reads as it did. -/
def wagerBitterSpec : ChangeSpec := { name := "wagerBitter", fn := fun _ => fun
  | [d1, d2, d3] => { results := [.lit (.bool true)], args := [d1, d2, d3] }
  | _ => none }
def wagerBitterRow : OpenClaim := { program := "ytcngcilinlcmeaa", sum := "4103237f9fffe7255d1de80c5eac8b68c446f3a3244815fa67675c344c921a54", func := "droveway/drovewaylaw07.WagerBitter", spec := "wagerBitter", unfollowed := true, recurses := true, plainKeys := false, apart := false }
def WagerBitterSaid : Prop := wagerBitterRow.holds Try.pinned (OpenSpec.ofChange wagerBitterSpec)

/-- ITS FALSE NEIGHBOUR: 'it returns false'. Refute it at one input. -/
def wagerBitterWrong : ChangeSpec := { name := "wagerBitter", fn := fun _ => fun
  | [d1, d2, d3] => { results := [.lit (.bool false)], args := [d1, d2, d3] }
  | _ => none }
def WagerBitterWrongFalsely : Prop := wagerBitterRow.holds Try.pinned (OpenSpec.ofChange wagerBitterWrong)

/-- 'drovewaylaw07.WagerChomps': WHATEVER THE INPUT: true; the input reads as it did. -/
def wagerChompsSpec : ChangeSpec := { name := "wagerChomps", fn := fun _ => fun
  | [d1, d2, d3] => { results := [.lit (.bool true)], args := [d1, d2, d3] }
  | _ => none }
def wagerChompsRow : OpenClaim := { program := "ytcngcilinlcmeaa", sum := "4103237f9fffe7255d1de80c5eac8b68c446f3a3244815fa67675c344c921a54", func := "droveway/drovewaylaw07.WagerChomps", spec := "wagerChomps", unfollowed := true, recurses := true, plainKeys := false, apart := false }
def WagerChompsSaid : Prop := wagerChompsRow.holds Try.pinned (OpenSpec.ofChange wagerChompsSpec)

/-- ITS FALSE NEIGHBOUR: 'it returns false'. Refute it at one input. -/
def wagerChompsWrong : ChangeSpec := { name := "wagerChomps", fn := fun _ => fun
  | [d1, d2, d3] => { results := [.lit (.bool false)], args := [d1, d2, d3] }
  | _ => none }
def WagerChompsWrongFalsely : Prop := wagerChompsRow.holds Try.pinned (OpenSpec.ofChange wagerChompsWrong)

/-- 'drovewaylaw07.WagerLosing': WHATEVER THE INPUT: true; the input reads as it did. -/
def wagerLosingSpec : ChangeSpec := { name := "wagerLosing", fn := fun _ => fun
  | [d1, d2, d3] => { results := [.lit (.bool true)], args := [d1, d2, d3] }
  | _ => none }
def wagerLosingRow : OpenClaim := { program := "ytcngcilinlcmeaa", sum := "4103237f9fffe7255d1de80c5eac8b68c446f3a3244815fa67675c344c921a54", func := "droveway/drovewaylaw07.WagerLosing", spec := "wagerLosing", unfollowed := true, recurses := true, plainKeys := false, apart := false }
def WagerLosingSaid : Prop := wagerLosingRow.holds Try.pinned (OpenSpec.ofChange wagerLosingSpec)

/-- ITS FALSE NEIGHBOUR: 'it returns false'. Refute it at one input. -/
def wagerLosingWrong : ChangeSpec := { name := "wagerLosing", fn := fun _ => fun
  | [d1, d2, d3] => { results := [.lit (.bool false)], args := [d1, d2, d3] }
  | _ => none }
def WagerLosingWrongFalsely : Prop := wagerLosingRow.holds Try.pinned (OpenSpec.ofChange wagerLosingWrong)

/- THE SECOND FORM. 'bulk': how many values and letters a reading holds, each counted each time it is reached (what is shared counts as often as it is met; a slice's spare places count too). A statement '..UptoSaid' is the law's where the arguments, and the package variables that the reading takes, are together of bulk at most 1048576: NARROWER than '..Said'. Prove '..Said' where nothing that the law and all that it calls make is longer than what came in: it says more and counts as full. Else prove '..UptoSaid'. A law counts once. -/
mutual
def uptoBulk {H : Type} : DataW H → Nat
  | .lit (.string bytes) => bytes.length + 1
  | .lit _ => 1
  | .nil => 1
  | .ptr d => uptoBulk d + 1
  | .slice elems spare => uptoBulkAll elems + uptoBulkAll spare + 1
  | .agg parts => uptoBulkAll parts + 1
  | .iface _ d => uptoBulk d + 1
  | .map entries => uptoBulkEntries entries + 1
  | .held _ => 1
def uptoBulkAll {H : Type} : List (DataW H) → Nat
  | [] => 0
  | d :: r => uptoBulk d + uptoBulkAll r
def uptoBulkEntries {H : Type} : List (Lit × DataW H) → Nat
  | [] => 0
  | x :: r => uptoBulkEntry x + uptoBulkEntries r
def uptoBulkEntry {H : Type} : Lit × DataW H → Nat
  | (.string bytes, d) => bytes.length + uptoBulk d + 1
  | (_, d) => uptoBulk d + 1
 end
def uptoSmall : (H : Type) → List (DataW H) → Bool := fun _ ds => decide (uptoBulkAll ds ≤ 1048576)
def OpenSpec.upto (s : _root_.Go.ChangeSpec) : _root_.Go.OpenSpec := { _root_.Go.OpenSpec.ofChange s with cond := some uptoSmall }

/-- 'drovewaylaw07.WagerEuclids', WHERE WHAT IT READS IS OF BULK AT MOST 1048576: true; the input reads as it did. -/
def wagerEuclidsUptoRow : OpenClaim := { program := "ytcngcilinlcmeaa", sum := "4103237f9fffe7255d1de80c5eac8b68c446f3a3244815fa67675c344c921a54", func := "droveway/drovewaylaw07.WagerEuclids", spec := "wagerEuclids", unfollowed := true, recurses := true, plainKeys := false, apart := false, narrowed := true }
def WagerEuclidsUptoSaid : Prop := wagerEuclidsUptoRow.holds Try.pinned (OpenSpec.upto wagerEuclidsSpec)

/-- 'drovewaylaw07.WagerLosts', WHERE WHAT IT READS IS OF BULK AT MOST 1048576: true; the input reads as it did. -/
def wagerLostsUptoRow : OpenClaim := { program := "ytcngcilinlcmeaa", sum := "4103237f9fffe7255d1de80c5eac8b68c446f3a3244815fa67675c344c921a54", func := "droveway/drovewaylaw07.WagerLosts", spec := "wagerLosts", unfollowed := true, recurses := true, plainKeys := false, apart := false, narrowed := true }
def WagerLostsUptoSaid : Prop := wagerLostsUptoRow.holds Try.pinned (OpenSpec.upto wagerLostsSpec)

/-- 'drovewaylaw07.WagerZeckendorf', WHERE WHAT IT READS IS OF BULK AT MOST 1048576: true; the input reads as it did. -/
def wagerZeckendorfUptoRow : OpenClaim := { program := "ytcngcilinlcmeaa", sum := "4103237f9fffe7255d1de80c5eac8b68c446f3a3244815fa67675c344c921a54", func := "droveway/drovewaylaw07.WagerZeckendorf", spec := "wagerZeckendorf", unfollowed := true, recurses := true, plainKeys := false, apart := false, narrowed := true }
def WagerZeckendorfUptoSaid : Prop := wagerZeckendorfUptoRow.holds Try.pinned (OpenSpec.upto wagerZeckendorfSpec)

/-- 'drovewaylaw07.WagerPlayed', WHERE WHAT IT READS IS OF BULK AT MOST 1048576: true; the input reads as it did. -/
def wagerPlayedUptoRow : OpenClaim := { program := "ytcngcilinlcmeaa", sum := "4103237f9fffe7255d1de80c5eac8b68c446f3a3244815fa67675c344c921a54", func := "droveway/drovewaylaw07.WagerPlayed", spec := "wagerPlayed", unfollowed := true, recurses := true, plainKeys := false, apart := false, narrowed := true }
def WagerPlayedUptoSaid : Prop := wagerPlayedUptoRow.holds Try.pinned (OpenSpec.upto wagerPlayedSpec)

/-- 'drovewaylaw07.WagerCole', WHERE WHAT IT READS IS OF BULK AT MOST 1048576: true; the input reads as it did. -/
def wagerColeUptoRow : OpenClaim := { program := "ytcngcilinlcmeaa", sum := "4103237f9fffe7255d1de80c5eac8b68c446f3a3244815fa67675c344c921a54", func := "droveway/drovewaylaw07.WagerCole", spec := "wagerCole", unfollowed := true, recurses := true, plainKeys := false, apart := false, narrowed := true }
def WagerColeUptoSaid : Prop := wagerColeUptoRow.holds Try.pinned (OpenSpec.upto wagerColeSpec)

/-- 'drovewaylaw07.WagerEuclidean', WHERE WHAT IT READS IS OF BULK AT MOST 1048576: true; the input reads as it did. -/
def wagerEuclideanUptoRow : OpenClaim := { program := "ytcngcilinlcmeaa", sum := "4103237f9fffe7255d1de80c5eac8b68c446f3a3244815fa67675c344c921a54", func := "droveway/drovewaylaw07.WagerEuclidean", spec := "wagerEuclidean", unfollowed := true, recurses := true, plainKeys := false, apart := false, narrowed := true }
def WagerEuclideanUptoSaid : Prop := wagerEuclideanUptoRow.holds Try.pinned (OpenSpec.upto wagerEuclideanSpec)

/-- 'drovewaylaw07.WagerNims', WHERE WHAT IT READS IS OF BULK AT MOST 1048576: true; the input reads as it did. -/
def wagerNimsUptoRow : OpenClaim := { program := "ytcngcilinlcmeaa", sum := "4103237f9fffe7255d1de80c5eac8b68c446f3a3244815fa67675c344c921a54", func := "droveway/drovewaylaw07.WagerNims", spec := "wagerNims", unfollowed := true, recurses := true, plainKeys := false, apart := false, narrowed := true }
def WagerNimsUptoSaid : Prop := wagerNimsUptoRow.holds Try.pinned (OpenSpec.upto wagerNimsSpec)

/-- 'drovewaylaw07.WagerWhinihan', WHERE WHAT IT READS IS OF BULK AT MOST 1048576: true; the input reads as it did. -/
def wagerWhinihanUptoRow : OpenClaim := { program := "ytcngcilinlcmeaa", sum := "4103237f9fffe7255d1de80c5eac8b68c446f3a3244815fa67675c344c921a54", func := "droveway/drovewaylaw07.WagerWhinihan", spec := "wagerWhinihan", unfollowed := true, recurses := true, plainKeys := false, apart := false, narrowed := true }
def WagerWhinihanUptoSaid : Prop := wagerWhinihanUptoRow.holds Try.pinned (OpenSpec.upto wagerWhinihanSpec)

/-- 'drovewaylaw07.WagerBitter', WHERE WHAT IT READS IS OF BULK AT MOST 1048576: true; the input reads as it did. -/
def wagerBitterUptoRow : OpenClaim := { program := "ytcngcilinlcmeaa", sum := "4103237f9fffe7255d1de80c5eac8b68c446f3a3244815fa67675c344c921a54", func := "droveway/drovewaylaw07.WagerBitter", spec := "wagerBitter", unfollowed := true, recurses := true, plainKeys := false, apart := false, narrowed := true }
def WagerBitterUptoSaid : Prop := wagerBitterUptoRow.holds Try.pinned (OpenSpec.upto wagerBitterSpec)

/-- 'drovewaylaw07.WagerChomps', WHERE WHAT IT READS IS OF BULK AT MOST 1048576: true; the input reads as it did. -/
def wagerChompsUptoRow : OpenClaim := { program := "ytcngcilinlcmeaa", sum := "4103237f9fffe7255d1de80c5eac8b68c446f3a3244815fa67675c344c921a54", func := "droveway/drovewaylaw07.WagerChomps", spec := "wagerChomps", unfollowed := true, recurses := true, plainKeys := false, apart := false, narrowed := true }
def WagerChompsUptoSaid : Prop := wagerChompsUptoRow.holds Try.pinned (OpenSpec.upto wagerChompsSpec)

/-- 'drovewaylaw07.WagerLosing', WHERE WHAT IT READS IS OF BULK AT MOST 1048576: true; the input reads as it did. -/
def wagerLosingUptoRow : OpenClaim := { program := "ytcngcilinlcmeaa", sum := "4103237f9fffe7255d1de80c5eac8b68c446f3a3244815fa67675c344c921a54", func := "droveway/drovewaylaw07.WagerLosing", spec := "wagerLosing", unfollowed := true, recurses := true, plainKeys := false, apart := false, narrowed := true }
def WagerLosingUptoSaid : Prop := wagerLosingUptoRow.holds Try.pinned (OpenSpec.upto wagerLosingSpec)

end Rows
end Go.Proofs.Ytcngcilinlcmeaa
