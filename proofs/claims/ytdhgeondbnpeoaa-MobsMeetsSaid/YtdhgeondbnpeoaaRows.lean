/-
  No cell of these rows narrows 'for every input' (looked for: loops, veiled, ifaces, maps, wideKeys, modest, calm, conditions, laid).
  DERIVED. THE GIVEN ROWS OF THIS SEAT. 13 by the template 'for every input the law returns true; each argument reads behind the call as it read before'; 0 by the template 'total and deterministic' (their statements: YtdhgeondbnpeoaaTotals.lean).
  GIVEN WITH THE SEED: the statements are not yours to turn. If you find one false, say at which input.
  Laid BY PROGRAM, IN A SANDBOX (cutbox-rows.mjs): the forced cells as the released guide's own fill.sh prints them over the translation eff21c44f179e0db… (all of the seat's roots in one cut). By AI agents, Wed Nov 11 2026. No macro, syntax, notation, axiom, sorry.
-/
import Derived.Test.YtdhgeondbnpeoaaChecked
import GoSem.Claim
import GoSem.ClaimJoined
import GoSem.ClaimMapViews
import Derived.JoinedTies
import Derived.KernelRfl
namespace Go.Proofs.Ytdhgeondbnpeoaa
/- THE CELL 'sum', in the pinned program and in every row, IS THE sha256 OF THE DUMP (.gsa) THAT YtdhgeondbnpeoaaProg.lean LOADS. Nothing in Lean hashes anything: it is a label: what it is worth is what the hold of that sum in a sandbox is worth. -/
noncomputable def Try.pinned : Pinned := { name := "ytdhgeondbnpeoaa", sum := "eff21c44f179e0dbafc414121c9e0dfc946e3618730aca2beceb47f733458ede", checked := Try.checked }
namespace Rows
def none {H : Type} : Left H := { results := [], args := [] }

/-- 'drovewaylaw06.MobsCounts': WHATEVER THE INPUT: true; the input reads as it did. -/
def mobsCountsSpec : ChangeSpec := { name := "mobsCounts", fn := fun _ => fun
  | [d1, d2] => { results := [.lit (.bool true)], args := [d1, d2] }
  | _ => none }
def mobsCountsRow : OpenClaim := { program := "ytdhgeondbnpeoaa", sum := "eff21c44f179e0dbafc414121c9e0dfc946e3618730aca2beceb47f733458ede", func := "droveway/drovewaylaw06.MobsCounts", spec := "mobsCounts", inPlace := ["(*sync.WaitGroup).Add", "internal/race.ReleaseMerge", "internal/race.Disable", "internal/race.Enable", "internal/synctest.IsInBubble", "internal/synctest.Associate[sync.WaitGroup]", "sync.fatal", "sync/atomic.OrUint64", "sync/atomic.AddUint64", "internal/race.Read", "sync/atomic.LoadUint64", "sync/atomic.StoreUint64", "internal/synctest.Disassociate[sync.WaitGroup]", "sync.runtime_Semrelease", "(*sync.WaitGroup).Done", "(*sync.WaitGroup).Wait", "internal/race.Acquire", "internal/synctest.IsAssociated[sync.WaitGroup]", "sync/atomic.CompareAndSwapUint64", "internal/race.Write", "sync.runtime_SemacquireWaitGroup"], unfollowed := true, recurses := true, plainKeys := false, leaving := true, apart := false }
def MobsCountsSaid : Prop := mobsCountsRow.holds Try.pinned (OpenSpec.ofChange mobsCountsSpec)

/-- ITS FALSE NEIGHBOUR: 'it returns false'. Refute it at one input. -/
def mobsCountsWrong : ChangeSpec := { name := "mobsCounts", fn := fun _ => fun
  | [d1, d2] => { results := [.lit (.bool false)], args := [d1, d2] }
  | _ => none }
def MobsCountsWrongFalsely : Prop := mobsCountsRow.holds Try.pinned (OpenSpec.ofChange mobsCountsWrong)

/-- 'drovewaylaw06.MobsPlain': WHATEVER THE INPUT: true; the input reads as it did. -/
def mobsPlainSpec : ChangeSpec := { name := "mobsPlain", fn := fun _ => fun
  | [d1, d2] => { results := [.lit (.bool true)], args := [d1, d2] }
  | _ => none }
def mobsPlainRow : OpenClaim := { program := "ytdhgeondbnpeoaa", sum := "eff21c44f179e0dbafc414121c9e0dfc946e3618730aca2beceb47f733458ede", func := "droveway/drovewaylaw06.MobsPlain", spec := "mobsPlain", inPlace := ["(*sync.WaitGroup).Add", "internal/race.ReleaseMerge", "internal/race.Disable", "internal/race.Enable", "internal/synctest.IsInBubble", "internal/synctest.Associate[sync.WaitGroup]", "sync.fatal", "sync/atomic.OrUint64", "sync/atomic.AddUint64", "internal/race.Read", "sync/atomic.LoadUint64", "sync/atomic.StoreUint64", "internal/synctest.Disassociate[sync.WaitGroup]", "sync.runtime_Semrelease", "(*sync.WaitGroup).Done", "(*sync.WaitGroup).Wait", "internal/race.Acquire", "internal/synctest.IsAssociated[sync.WaitGroup]", "sync/atomic.CompareAndSwapUint64", "internal/race.Write", "sync.runtime_SemacquireWaitGroup"], unfollowed := true, recurses := true, plainKeys := false, leaving := true, apart := false }
def MobsPlainSaid : Prop := mobsPlainRow.holds Try.pinned (OpenSpec.ofChange mobsPlainSpec)

/-- ITS FALSE NEIGHBOUR: 'it returns false'. Refute it at one input. -/
def mobsPlainWrong : ChangeSpec := { name := "mobsPlain", fn := fun _ => fun
  | [d1, d2] => { results := [.lit (.bool false)], args := [d1, d2] }
  | _ => none }
def MobsPlainWrongFalsely : Prop := mobsPlainRow.holds Try.pinned (OpenSpec.ofChange mobsPlainWrong)

/-- 'drovewaylaw06.MobsCrosses': WHATEVER THE INPUT: true; the input reads as it did. -/
def mobsCrossesSpec : ChangeSpec := { name := "mobsCrosses", fn := fun _ => fun
  | [d1, d2] => { results := [.lit (.bool true)], args := [d1, d2] }
  | _ => none }
def mobsCrossesRow : OpenClaim := { program := "ytdhgeondbnpeoaa", sum := "eff21c44f179e0dbafc414121c9e0dfc946e3618730aca2beceb47f733458ede", func := "droveway/drovewaylaw06.MobsCrosses", spec := "mobsCrosses", inPlace := ["(*sync.WaitGroup).Add", "internal/race.ReleaseMerge", "internal/race.Disable", "internal/race.Enable", "internal/synctest.IsInBubble", "internal/synctest.Associate[sync.WaitGroup]", "sync.fatal", "sync/atomic.OrUint64", "sync/atomic.AddUint64", "internal/race.Read", "sync/atomic.LoadUint64", "sync/atomic.StoreUint64", "internal/synctest.Disassociate[sync.WaitGroup]", "sync.runtime_Semrelease", "(*sync.WaitGroup).Done", "(*sync.WaitGroup).Wait", "internal/race.Acquire", "internal/synctest.IsAssociated[sync.WaitGroup]", "sync/atomic.CompareAndSwapUint64", "internal/race.Write", "sync.runtime_SemacquireWaitGroup"], unfollowed := true, recurses := true, plainKeys := false, leaving := true, apart := false }
def MobsCrossesSaid : Prop := mobsCrossesRow.holds Try.pinned (OpenSpec.ofChange mobsCrossesSpec)

/-- ITS FALSE NEIGHBOUR: 'it returns false'. Refute it at one input. -/
def mobsCrossesWrong : ChangeSpec := { name := "mobsCrosses", fn := fun _ => fun
  | [d1, d2] => { results := [.lit (.bool false)], args := [d1, d2] }
  | _ => none }
def MobsCrossesWrongFalsely : Prop := mobsCrossesRow.holds Try.pinned (OpenSpec.ofChange mobsCrossesWrong)

/-- 'drovewaylaw06.MobsKreweras': WHATEVER THE INPUT: true; the input reads as it did. -/
def mobsKrewerasSpec : ChangeSpec := { name := "mobsKreweras", fn := fun _ => fun
  | [d] => { results := [.lit (.bool true)], args := [d] }
  | _ => none }
def mobsKrewerasRow : OpenClaim := { program := "ytdhgeondbnpeoaa", sum := "eff21c44f179e0dbafc414121c9e0dfc946e3618730aca2beceb47f733458ede", func := "droveway/drovewaylaw06.MobsKreweras", spec := "mobsKreweras", inPlace := ["(*sync.WaitGroup).Add", "internal/race.ReleaseMerge", "internal/race.Disable", "internal/race.Enable", "internal/synctest.IsInBubble", "internal/synctest.Associate[sync.WaitGroup]", "sync.fatal", "sync/atomic.OrUint64", "sync/atomic.AddUint64", "internal/race.Read", "sync/atomic.LoadUint64", "sync/atomic.StoreUint64", "internal/synctest.Disassociate[sync.WaitGroup]", "sync.runtime_Semrelease", "(*sync.WaitGroup).Done", "(*sync.WaitGroup).Wait", "internal/race.Acquire", "internal/synctest.IsAssociated[sync.WaitGroup]", "sync/atomic.CompareAndSwapUint64", "internal/race.Write", "sync.runtime_SemacquireWaitGroup"], unfollowed := true, recurses := true, plainKeys := false, leaving := true, apart := false }
def MobsKrewerasSaid : Prop := mobsKrewerasRow.holds Try.pinned (OpenSpec.ofChange mobsKrewerasSpec)

/-- ITS FALSE NEIGHBOUR: 'it returns false'. Refute it at one input. -/
def mobsKrewerasWrong : ChangeSpec := { name := "mobsKreweras", fn := fun _ => fun
  | [d] => { results := [.lit (.bool false)], args := [d] }
  | _ => none }
def MobsKrewerasWrongFalsely : Prop := mobsKrewerasRow.holds Try.pinned (OpenSpec.ofChange mobsKrewerasWrong)

/-- 'drovewaylaw06.MobsAround': WHATEVER THE INPUT: true; the input reads as it did. -/
def mobsAroundSpec : ChangeSpec := { name := "mobsAround", fn := fun _ => fun
  | [d1, d2] => { results := [.lit (.bool true)], args := [d1, d2] }
  | _ => none }
def mobsAroundRow : OpenClaim := { program := "ytdhgeondbnpeoaa", sum := "eff21c44f179e0dbafc414121c9e0dfc946e3618730aca2beceb47f733458ede", func := "droveway/drovewaylaw06.MobsAround", spec := "mobsAround", inPlace := ["(*sync.WaitGroup).Add", "internal/race.ReleaseMerge", "internal/race.Disable", "internal/race.Enable", "internal/synctest.IsInBubble", "internal/synctest.Associate[sync.WaitGroup]", "sync.fatal", "sync/atomic.OrUint64", "sync/atomic.AddUint64", "internal/race.Read", "sync/atomic.LoadUint64", "sync/atomic.StoreUint64", "internal/synctest.Disassociate[sync.WaitGroup]", "sync.runtime_Semrelease", "(*sync.WaitGroup).Done", "(*sync.WaitGroup).Wait", "internal/race.Acquire", "internal/synctest.IsAssociated[sync.WaitGroup]", "sync/atomic.CompareAndSwapUint64", "internal/race.Write", "sync.runtime_SemacquireWaitGroup"], unfollowed := true, recurses := true, plainKeys := false, leaving := true, apart := false }
def MobsAroundSaid : Prop := mobsAroundRow.holds Try.pinned (OpenSpec.ofChange mobsAroundSpec)

/-- ITS FALSE NEIGHBOUR: 'it returns false'. Refute it at one input. -/
def mobsAroundWrong : ChangeSpec := { name := "mobsAround", fn := fun _ => fun
  | [d1, d2] => { results := [.lit (.bool false)], args := [d1, d2] }
  | _ => none }
def MobsAroundWrongFalsely : Prop := mobsAroundRow.holds Try.pinned (OpenSpec.ofChange mobsAroundWrong)

/-- 'drovewaylaw06.MobsMeets': WHATEVER THE INPUT: true; the input reads as it did. -/
def mobsMeetsSpec : ChangeSpec := { name := "mobsMeets", fn := fun _ => fun
  | [d1, d2] => { results := [.lit (.bool true)], args := [d1, d2] }
  | _ => none }
def mobsMeetsRow : OpenClaim := { program := "ytdhgeondbnpeoaa", sum := "eff21c44f179e0dbafc414121c9e0dfc946e3618730aca2beceb47f733458ede", func := "droveway/drovewaylaw06.MobsMeets", spec := "mobsMeets", inPlace := ["(*sync.WaitGroup).Add", "internal/race.ReleaseMerge", "internal/race.Disable", "internal/race.Enable", "internal/synctest.IsInBubble", "internal/synctest.Associate[sync.WaitGroup]", "sync.fatal", "sync/atomic.OrUint64", "sync/atomic.AddUint64", "internal/race.Read", "sync/atomic.LoadUint64", "sync/atomic.StoreUint64", "internal/synctest.Disassociate[sync.WaitGroup]", "sync.runtime_Semrelease", "(*sync.WaitGroup).Done", "(*sync.WaitGroup).Wait", "internal/race.Acquire", "internal/synctest.IsAssociated[sync.WaitGroup]", "sync/atomic.CompareAndSwapUint64", "internal/race.Write", "sync.runtime_SemacquireWaitGroup"], unfollowed := true, recurses := true, plainKeys := false, leaving := true, apart := false }
def MobsMeetsSaid : Prop := mobsMeetsRow.holds Try.pinned (OpenSpec.ofChange mobsMeetsSpec)

/-- ITS FALSE NEIGHBOUR: 'it returns false'. Refute it at one input. -/
def mobsMeetsWrong : ChangeSpec := { name := "mobsMeets", fn := fun _ => fun
  | [d1, d2] => { results := [.lit (.bool false)], args := [d1, d2] }
  | _ => none }
def MobsMeetsWrongFalsely : Prop := mobsMeetsRow.holds Try.pinned (OpenSpec.ofChange mobsMeetsWrong)

/-- 'drovewaylaw06.MobsOrder': WHATEVER THE INPUT: true; the input reads as it did. -/
def mobsOrderSpec : ChangeSpec := { name := "mobsOrder", fn := fun _ => fun
  | [d1, d2, d3] => { results := [.lit (.bool true)], args := [d1, d2, d3] }
  | _ => none }
def mobsOrderRow : OpenClaim := { program := "ytdhgeondbnpeoaa", sum := "eff21c44f179e0dbafc414121c9e0dfc946e3618730aca2beceb47f733458ede", func := "droveway/drovewaylaw06.MobsOrder", spec := "mobsOrder", inPlace := ["(*sync.WaitGroup).Add", "internal/race.ReleaseMerge", "internal/race.Disable", "internal/race.Enable", "internal/synctest.IsInBubble", "internal/synctest.Associate[sync.WaitGroup]", "sync.fatal", "sync/atomic.OrUint64", "sync/atomic.AddUint64", "internal/race.Read", "sync/atomic.LoadUint64", "sync/atomic.StoreUint64", "internal/synctest.Disassociate[sync.WaitGroup]", "sync.runtime_Semrelease", "(*sync.WaitGroup).Done", "(*sync.WaitGroup).Wait", "internal/race.Acquire", "internal/synctest.IsAssociated[sync.WaitGroup]", "sync/atomic.CompareAndSwapUint64", "internal/race.Write", "sync.runtime_SemacquireWaitGroup"], unfollowed := true, recurses := true, plainKeys := false, leaving := true, apart := false }
def MobsOrderSaid : Prop := mobsOrderRow.holds Try.pinned (OpenSpec.ofChange mobsOrderSpec)

/-- ITS FALSE NEIGHBOUR: 'it returns false'. Refute it at one input. -/
def mobsOrderWrong : ChangeSpec := { name := "mobsOrder", fn := fun _ => fun
  | [d1, d2, d3] => { results := [.lit (.bool false)], args := [d1, d2, d3] }
  | _ => none }
def MobsOrderWrongFalsely : Prop := mobsOrderRow.holds Try.pinned (OpenSpec.ofChange mobsOrderWrong)

/-- 'drovewaylaw06.MobsMet': WHATEVER THE INPUT: true; the input reads as it did. -/
def mobsMetSpec : ChangeSpec := { name := "mobsMet", fn := fun _ => fun
  | [d1, d2, d3] => { results := [.lit (.bool true)], args := [d1, d2, d3] }
  | _ => none }
def mobsMetRow : OpenClaim := { program := "ytdhgeondbnpeoaa", sum := "eff21c44f179e0dbafc414121c9e0dfc946e3618730aca2beceb47f733458ede", func := "droveway/drovewaylaw06.MobsMet", spec := "mobsMet", inPlace := ["(*sync.WaitGroup).Add", "internal/race.ReleaseMerge", "internal/race.Disable", "internal/race.Enable", "internal/synctest.IsInBubble", "internal/synctest.Associate[sync.WaitGroup]", "sync.fatal", "sync/atomic.OrUint64", "sync/atomic.AddUint64", "internal/race.Read", "sync/atomic.LoadUint64", "sync/atomic.StoreUint64", "internal/synctest.Disassociate[sync.WaitGroup]", "sync.runtime_Semrelease", "(*sync.WaitGroup).Done", "(*sync.WaitGroup).Wait", "internal/race.Acquire", "internal/synctest.IsAssociated[sync.WaitGroup]", "sync/atomic.CompareAndSwapUint64", "internal/race.Write", "sync.runtime_SemacquireWaitGroup"], unfollowed := true, recurses := true, plainKeys := false, leaving := true, apart := false }
def MobsMetSaid : Prop := mobsMetRow.holds Try.pinned (OpenSpec.ofChange mobsMetSpec)

/-- ITS FALSE NEIGHBOUR: 'it returns false'. Refute it at one input. -/
def mobsMetWrong : ChangeSpec := { name := "mobsMet", fn := fun _ => fun
  | [d1, d2, d3] => { results := [.lit (.bool false)], args := [d1, d2, d3] }
  | _ => none }
def MobsMetWrongFalsely : Prop := mobsMetRow.holds Try.pinned (OpenSpec.ofChange mobsMetWrong)

/-- 'drovewaylaw06.MobsTurned': WHATEVER THE INPUT: true; the input reads as it did. -/
def mobsTurnedSpec : ChangeSpec := { name := "mobsTurned", fn := fun _ => fun
  | [d1, d2] => { results := [.lit (.bool true)], args := [d1, d2] }
  | _ => none }
def mobsTurnedRow : OpenClaim := { program := "ytdhgeondbnpeoaa", sum := "eff21c44f179e0dbafc414121c9e0dfc946e3618730aca2beceb47f733458ede", func := "droveway/drovewaylaw06.MobsTurned", spec := "mobsTurned", inPlace := ["(*sync.WaitGroup).Add", "internal/race.ReleaseMerge", "internal/race.Disable", "internal/race.Enable", "internal/synctest.IsInBubble", "internal/synctest.Associate[sync.WaitGroup]", "sync.fatal", "sync/atomic.OrUint64", "sync/atomic.AddUint64", "internal/race.Read", "sync/atomic.LoadUint64", "sync/atomic.StoreUint64", "internal/synctest.Disassociate[sync.WaitGroup]", "sync.runtime_Semrelease", "(*sync.WaitGroup).Done", "(*sync.WaitGroup).Wait", "internal/race.Acquire", "internal/synctest.IsAssociated[sync.WaitGroup]", "sync/atomic.CompareAndSwapUint64", "internal/race.Write", "sync.runtime_SemacquireWaitGroup"], unfollowed := true, recurses := true, plainKeys := false, leaving := true, apart := false }
def MobsTurnedSaid : Prop := mobsTurnedRow.holds Try.pinned (OpenSpec.ofChange mobsTurnedSpec)

/-- ITS FALSE NEIGHBOUR: 'it returns false'. Refute it at one input. -/
def mobsTurnedWrong : ChangeSpec := { name := "mobsTurned", fn := fun _ => fun
  | [d1, d2] => { results := [.lit (.bool false)], args := [d1, d2] }
  | _ => none }
def MobsTurnedWrongFalsely : Prop := mobsTurnedRow.holds Try.pinned (OpenSpec.ofChange mobsTurnedWrong)

/-- 'drovewaylaw06.MobsRanks': WHATEVER THE INPUT: true; the input reads as it did. -/
def mobsRanksSpec : ChangeSpec := { name := "mobsRanks", fn := fun _ => fun
  | [d1, d2, d3] => { results := [.lit (.bool true)], args := [d1, d2, d3] }
  | _ => none }
def mobsRanksRow : OpenClaim := { program := "ytdhgeondbnpeoaa", sum := "eff21c44f179e0dbafc414121c9e0dfc946e3618730aca2beceb47f733458ede", func := "droveway/drovewaylaw06.MobsRanks", spec := "mobsRanks", inPlace := ["(*sync.WaitGroup).Add", "internal/race.ReleaseMerge", "internal/race.Disable", "internal/race.Enable", "internal/synctest.IsInBubble", "internal/synctest.Associate[sync.WaitGroup]", "sync.fatal", "sync/atomic.OrUint64", "sync/atomic.AddUint64", "internal/race.Read", "sync/atomic.LoadUint64", "sync/atomic.StoreUint64", "internal/synctest.Disassociate[sync.WaitGroup]", "sync.runtime_Semrelease", "(*sync.WaitGroup).Done", "(*sync.WaitGroup).Wait", "internal/race.Acquire", "internal/synctest.IsAssociated[sync.WaitGroup]", "sync/atomic.CompareAndSwapUint64", "internal/race.Write", "sync.runtime_SemacquireWaitGroup"], unfollowed := true, recurses := true, plainKeys := false, leaving := true, apart := false }
def MobsRanksSaid : Prop := mobsRanksRow.holds Try.pinned (OpenSpec.ofChange mobsRanksSpec)

/-- ITS FALSE NEIGHBOUR: 'it returns false'. Refute it at one input. -/
def mobsRanksWrong : ChangeSpec := { name := "mobsRanks", fn := fun _ => fun
  | [d1, d2, d3] => { results := [.lit (.bool false)], args := [d1, d2, d3] }
  | _ => none }
def MobsRanksWrongFalsely : Prop := mobsRanksRow.holds Try.pinned (OpenSpec.ofChange mobsRanksWrong)

/-- 'drovewaylaw06.MobsStirling': WHATEVER THE INPUT: true; the input reads as it did. -/
def mobsStirlingSpec : ChangeSpec := { name := "mobsStirling", fn := fun _ => fun
  | [d1, d2] => { results := [.lit (.bool true)], args := [d1, d2] }
  | _ => none }
def mobsStirlingRow : OpenClaim := { program := "ytdhgeondbnpeoaa", sum := "eff21c44f179e0dbafc414121c9e0dfc946e3618730aca2beceb47f733458ede", func := "droveway/drovewaylaw06.MobsStirling", spec := "mobsStirling", inPlace := ["(*sync.WaitGroup).Add", "internal/race.ReleaseMerge", "internal/race.Disable", "internal/race.Enable", "internal/synctest.IsInBubble", "internal/synctest.Associate[sync.WaitGroup]", "sync.fatal", "sync/atomic.OrUint64", "sync/atomic.AddUint64", "internal/race.Read", "sync/atomic.LoadUint64", "sync/atomic.StoreUint64", "internal/synctest.Disassociate[sync.WaitGroup]", "sync.runtime_Semrelease", "(*sync.WaitGroup).Done", "(*sync.WaitGroup).Wait", "internal/race.Acquire", "internal/synctest.IsAssociated[sync.WaitGroup]", "sync/atomic.CompareAndSwapUint64", "internal/race.Write", "sync.runtime_SemacquireWaitGroup"], unfollowed := true, recurses := true, plainKeys := false, leaving := true, apart := false }
def MobsStirlingSaid : Prop := mobsStirlingRow.holds Try.pinned (OpenSpec.ofChange mobsStirlingSpec)

/-- ITS FALSE NEIGHBOUR: 'it returns false'. Refute it at one input. -/
def mobsStirlingWrong : ChangeSpec := { name := "mobsStirling", fn := fun _ => fun
  | [d1, d2] => { results := [.lit (.bool false)], args := [d1, d2] }
  | _ => none }
def MobsStirlingWrongFalsely : Prop := mobsStirlingRow.holds Try.pinned (OpenSpec.ofChange mobsStirlingWrong)

/-- 'drovewaylaw06.MobsRanked': WHATEVER THE INPUT: true; the input reads as it did. -/
def mobsRankedSpec : ChangeSpec := { name := "mobsRanked", fn := fun _ => fun
  | [d1, d2, d3, d4] => { results := [.lit (.bool true)], args := [d1, d2, d3, d4] }
  | _ => none }
def mobsRankedRow : OpenClaim := { program := "ytdhgeondbnpeoaa", sum := "eff21c44f179e0dbafc414121c9e0dfc946e3618730aca2beceb47f733458ede", func := "droveway/drovewaylaw06.MobsRanked", spec := "mobsRanked", inPlace := ["(*sync.WaitGroup).Add", "internal/race.ReleaseMerge", "internal/race.Disable", "internal/race.Enable", "internal/synctest.IsInBubble", "internal/synctest.Associate[sync.WaitGroup]", "sync.fatal", "sync/atomic.OrUint64", "sync/atomic.AddUint64", "internal/race.Read", "sync/atomic.LoadUint64", "sync/atomic.StoreUint64", "internal/synctest.Disassociate[sync.WaitGroup]", "sync.runtime_Semrelease", "(*sync.WaitGroup).Done", "(*sync.WaitGroup).Wait", "internal/race.Acquire", "internal/synctest.IsAssociated[sync.WaitGroup]", "sync/atomic.CompareAndSwapUint64", "internal/race.Write", "sync.runtime_SemacquireWaitGroup"], unfollowed := true, recurses := true, plainKeys := false, leaving := true, apart := false }
def MobsRankedSaid : Prop := mobsRankedRow.holds Try.pinned (OpenSpec.ofChange mobsRankedSpec)

/-- ITS FALSE NEIGHBOUR: 'it returns false'. Refute it at one input. -/
def mobsRankedWrong : ChangeSpec := { name := "mobsRanked", fn := fun _ => fun
  | [d1, d2, d3, d4] => { results := [.lit (.bool false)], args := [d1, d2, d3, d4] }
  | _ => none }
def MobsRankedWrongFalsely : Prop := mobsRankedRow.holds Try.pinned (OpenSpec.ofChange mobsRankedWrong)

/-- 'drovewaylaw06.MobsNumbers': WHATEVER THE INPUT: true; the input reads as it did. -/
def mobsNumbersSpec : ChangeSpec := { name := "mobsNumbers", fn := fun _ => fun
  | [d1, d2] => { results := [.lit (.bool true)], args := [d1, d2] }
  | _ => none }
def mobsNumbersRow : OpenClaim := { program := "ytdhgeondbnpeoaa", sum := "eff21c44f179e0dbafc414121c9e0dfc946e3618730aca2beceb47f733458ede", func := "droveway/drovewaylaw06.MobsNumbers", spec := "mobsNumbers", inPlace := ["(*sync.WaitGroup).Add", "internal/race.ReleaseMerge", "internal/race.Disable", "internal/race.Enable", "internal/synctest.IsInBubble", "internal/synctest.Associate[sync.WaitGroup]", "sync.fatal", "sync/atomic.OrUint64", "sync/atomic.AddUint64", "internal/race.Read", "sync/atomic.LoadUint64", "sync/atomic.StoreUint64", "internal/synctest.Disassociate[sync.WaitGroup]", "sync.runtime_Semrelease", "(*sync.WaitGroup).Done", "(*sync.WaitGroup).Wait", "internal/race.Acquire", "internal/synctest.IsAssociated[sync.WaitGroup]", "sync/atomic.CompareAndSwapUint64", "internal/race.Write", "sync.runtime_SemacquireWaitGroup"], unfollowed := true, recurses := true, plainKeys := false, leaving := true, apart := false }
def MobsNumbersSaid : Prop := mobsNumbersRow.holds Try.pinned (OpenSpec.ofChange mobsNumbersSpec)

/-- ITS FALSE NEIGHBOUR: 'it returns false'. Refute it at one input. -/
def mobsNumbersWrong : ChangeSpec := { name := "mobsNumbers", fn := fun _ => fun
  | [d1, d2] => { results := [.lit (.bool false)], args := [d1, d2] }
  | _ => none }
def MobsNumbersWrongFalsely : Prop := mobsNumbersRow.holds Try.pinned (OpenSpec.ofChange mobsNumbersWrong)

/- THE SECOND FORM. 'bulk': how many values and letters a reading holds, each counted each time it is reached (what is shared counts as often as it is met; a slice's spare places count too). A statement '..UptoSaid' is the law's where the arguments, and the package variables that the reading takes, are together of bulk at most 1048576: NARROWER than '..Said'. Prove '..Said' where nothing that the law and all that it calls make is longer than what came in: it says more and counts as full. Else prove '..UptoSaid'. A law counts once. -/
mutual
def uptoBulk {H : Type} : DataW H → Nat
  | .lit (.string bytes) => bytes.length + 1
  | .lit _ => 1
  | .nil => 1
  | .ptr d => uptoBulk d + 1
  | .slice elems spare => uptoBulkAll elems + uptoBulkAll spare + 1
  | .agg parts => uptoBulkAll parts + 1
  | .iface _ d => uptoBulk d + 1
  | .map entries => uptoBulkEntries entries + 1
  | .held _ => 1
def uptoBulkAll {H : Type} : List (DataW H) → Nat
  | [] => 0
  | d :: r => uptoBulk d + uptoBulkAll r
def uptoBulkEntries {H : Type} : List (Lit × DataW H) → Nat
  | [] => 0
  | x :: r => uptoBulkEntry x + uptoBulkEntries r
def uptoBulkEntry {H : Type} : Lit × DataW H → Nat
  | (.string bytes, d) => bytes.length + uptoBulk d + 1
  | (_, d) => uptoBulk d + 1
 end
def uptoSmall : (H : Type) → List (DataW H) → Bool := fun _ ds => decide (uptoBulkAll ds ≤ 1048576)
def OpenSpec.upto (s : _root_.Go.ChangeSpec) : _root_.Go.OpenSpec := { _root_.Go.OpenSpec.ofChange s with cond := some uptoSmall }

/-- 'drovewaylaw06.MobsCounts', WHERE WHAT IT READS IS OF BULK AT MOST 1048576: true; the input reads as it did. -/
def mobsCountsUptoRow : OpenClaim := { program := "ytdhgeondbnpeoaa", sum := "eff21c44f179e0dbafc414121c9e0dfc946e3618730aca2beceb47f733458ede", func := "droveway/drovewaylaw06.MobsCounts", spec := "mobsCounts", inPlace := ["(*sync.WaitGroup).Add", "internal/race.ReleaseMerge", "internal/race.Disable", "internal/race.Enable", "internal/synctest.IsInBubble", "internal/synctest.Associate[sync.WaitGroup]", "sync.fatal", "sync/atomic.OrUint64", "sync/atomic.AddUint64", "internal/race.Read", "sync/atomic.LoadUint64", "sync/atomic.StoreUint64", "internal/synctest.Disassociate[sync.WaitGroup]", "sync.runtime_Semrelease", "(*sync.WaitGroup).Done", "(*sync.WaitGroup).Wait", "internal/race.Acquire", "internal/synctest.IsAssociated[sync.WaitGroup]", "sync/atomic.CompareAndSwapUint64", "internal/race.Write", "sync.runtime_SemacquireWaitGroup"], unfollowed := true, recurses := true, plainKeys := false, leaving := true, apart := false, narrowed := true }
def MobsCountsUptoSaid : Prop := mobsCountsUptoRow.holds Try.pinned (OpenSpec.upto mobsCountsSpec)

/-- 'drovewaylaw06.MobsPlain', WHERE WHAT IT READS IS OF BULK AT MOST 1048576: true; the input reads as it did. -/
def mobsPlainUptoRow : OpenClaim := { program := "ytdhgeondbnpeoaa", sum := "eff21c44f179e0dbafc414121c9e0dfc946e3618730aca2beceb47f733458ede", func := "droveway/drovewaylaw06.MobsPlain", spec := "mobsPlain", inPlace := ["(*sync.WaitGroup).Add", "internal/race.ReleaseMerge", "internal/race.Disable", "internal/race.Enable", "internal/synctest.IsInBubble", "internal/synctest.Associate[sync.WaitGroup]", "sync.fatal", "sync/atomic.OrUint64", "sync/atomic.AddUint64", "internal/race.Read", "sync/atomic.LoadUint64", "sync/atomic.StoreUint64", "internal/synctest.Disassociate[sync.WaitGroup]", "sync.runtime_Semrelease", "(*sync.WaitGroup).Done", "(*sync.WaitGroup).Wait", "internal/race.Acquire", "internal/synctest.IsAssociated[sync.WaitGroup]", "sync/atomic.CompareAndSwapUint64", "internal/race.Write", "sync.runtime_SemacquireWaitGroup"], unfollowed := true, recurses := true, plainKeys := false, leaving := true, apart := false, narrowed := true }
def MobsPlainUptoSaid : Prop := mobsPlainUptoRow.holds Try.pinned (OpenSpec.upto mobsPlainSpec)

/-- 'drovewaylaw06.MobsCrosses', WHERE WHAT IT READS IS OF BULK AT MOST 1048576: true; the input reads as it did. -/
def mobsCrossesUptoRow : OpenClaim := { program := "ytdhgeondbnpeoaa", sum := "eff21c44f179e0dbafc414121c9e0dfc946e3618730aca2beceb47f733458ede", func := "droveway/drovewaylaw06.MobsCrosses", spec := "mobsCrosses", inPlace := ["(*sync.WaitGroup).Add", "internal/race.ReleaseMerge", "internal/race.Disable", "internal/race.Enable", "internal/synctest.IsInBubble", "internal/synctest.Associate[sync.WaitGroup]", "sync.fatal", "sync/atomic.OrUint64", "sync/atomic.AddUint64", "internal/race.Read", "sync/atomic.LoadUint64", "sync/atomic.StoreUint64", "internal/synctest.Disassociate[sync.WaitGroup]", "sync.runtime_Semrelease", "(*sync.WaitGroup).Done", "(*sync.WaitGroup).Wait", "internal/race.Acquire", "internal/synctest.IsAssociated[sync.WaitGroup]", "sync/atomic.CompareAndSwapUint64", "internal/race.Write", "sync.runtime_SemacquireWaitGroup"], unfollowed := true, recurses := true, plainKeys := false, leaving := true, apart := false, narrowed := true }
def MobsCrossesUptoSaid : Prop := mobsCrossesUptoRow.holds Try.pinned (OpenSpec.upto mobsCrossesSpec)

/-- 'drovewaylaw06.MobsKreweras', WHERE WHAT IT READS IS OF BULK AT MOST 1048576: true; the input reads as it did. -/
def mobsKrewerasUptoRow : OpenClaim := { program := "ytdhgeondbnpeoaa", sum := "eff21c44f179e0dbafc414121c9e0dfc946e3618730aca2beceb47f733458ede", func := "droveway/drovewaylaw06.MobsKreweras", spec := "mobsKreweras", inPlace := ["(*sync.WaitGroup).Add", "internal/race.ReleaseMerge", "internal/race.Disable", "internal/race.Enable", "internal/synctest.IsInBubble", "internal/synctest.Associate[sync.WaitGroup]", "sync.fatal", "sync/atomic.OrUint64", "sync/atomic.AddUint64", "internal/race.Read", "sync/atomic.LoadUint64", "sync/atomic.StoreUint64", "internal/synctest.Disassociate[sync.WaitGroup]", "sync.runtime_Semrelease", "(*sync.WaitGroup).Done", "(*sync.WaitGroup).Wait", "internal/race.Acquire", "internal/synctest.IsAssociated[sync.WaitGroup]", "sync/atomic.CompareAndSwapUint64", "internal/race.Write", "sync.runtime_SemacquireWaitGroup"], unfollowed := true, recurses := true, plainKeys := false, leaving := true, apart := false, narrowed := true }
def MobsKrewerasUptoSaid : Prop := mobsKrewerasUptoRow.holds Try.pinned (OpenSpec.upto mobsKrewerasSpec)

/-- 'drovewaylaw06.MobsAround', WHERE WHAT IT READS IS OF BULK AT MOST 1048576: true; the input reads as it did. -/
def mobsAroundUptoRow : OpenClaim := { program := "ytdhgeondbnpeoaa", sum := "eff21c44f179e0dbafc414121c9e0dfc946e3618730aca2beceb47f733458ede", func := "droveway/drovewaylaw06.MobsAround", spec := "mobsAround", inPlace := ["(*sync.WaitGroup).Add", "internal/race.ReleaseMerge", "internal/race.Disable", "internal/race.Enable", "internal/synctest.IsInBubble", "internal/synctest.Associate[sync.WaitGroup]", "sync.fatal", "sync/atomic.OrUint64", "sync/atomic.AddUint64", "internal/race.Read", "sync/atomic.LoadUint64", "sync/atomic.StoreUint64", "internal/synctest.Disassociate[sync.WaitGroup]", "sync.runtime_Semrelease", "(*sync.WaitGroup).Done", "(*sync.WaitGroup).Wait", "internal/race.Acquire", "internal/synctest.IsAssociated[sync.WaitGroup]", "sync/atomic.CompareAndSwapUint64", "internal/race.Write", "sync.runtime_SemacquireWaitGroup"], unfollowed := true, recurses := true, plainKeys := false, leaving := true, apart := false, narrowed := true }
def MobsAroundUptoSaid : Prop := mobsAroundUptoRow.holds Try.pinned (OpenSpec.upto mobsAroundSpec)

/-- 'drovewaylaw06.MobsMeets', WHERE WHAT IT READS IS OF BULK AT MOST 1048576: true; the input reads as it did. -/
def mobsMeetsUptoRow : OpenClaim := { program := "ytdhgeondbnpeoaa", sum := "eff21c44f179e0dbafc414121c9e0dfc946e3618730aca2beceb47f733458ede", func := "droveway/drovewaylaw06.MobsMeets", spec := "mobsMeets", inPlace := ["(*sync.WaitGroup).Add", "internal/race.ReleaseMerge", "internal/race.Disable", "internal/race.Enable", "internal/synctest.IsInBubble", "internal/synctest.Associate[sync.WaitGroup]", "sync.fatal", "sync/atomic.OrUint64", "sync/atomic.AddUint64", "internal/race.Read", "sync/atomic.LoadUint64", "sync/atomic.StoreUint64", "internal/synctest.Disassociate[sync.WaitGroup]", "sync.runtime_Semrelease", "(*sync.WaitGroup).Done", "(*sync.WaitGroup).Wait", "internal/race.Acquire", "internal/synctest.IsAssociated[sync.WaitGroup]", "sync/atomic.CompareAndSwapUint64", "internal/race.Write", "sync.runtime_SemacquireWaitGroup"], unfollowed := true, recurses := true, plainKeys := false, leaving := true, apart := false, narrowed := true }
def MobsMeetsUptoSaid : Prop := mobsMeetsUptoRow.holds Try.pinned (OpenSpec.upto mobsMeetsSpec)

/-- 'drovewaylaw06.MobsOrder', WHERE WHAT IT READS IS OF BULK AT MOST 1048576: true; the input reads as it did. -/
def mobsOrderUptoRow : OpenClaim := { program := "ytdhgeondbnpeoaa", sum := "eff21c44f179e0dbafc414121c9e0dfc946e3618730aca2beceb47f733458ede", func := "droveway/drovewaylaw06.MobsOrder", spec := "mobsOrder", inPlace := ["(*sync.WaitGroup).Add", "internal/race.ReleaseMerge", "internal/race.Disable", "internal/race.Enable", "internal/synctest.IsInBubble", "internal/synctest.Associate[sync.WaitGroup]", "sync.fatal", "sync/atomic.OrUint64", "sync/atomic.AddUint64", "internal/race.Read", "sync/atomic.LoadUint64", "sync/atomic.StoreUint64", "internal/synctest.Disassociate[sync.WaitGroup]", "sync.runtime_Semrelease", "(*sync.WaitGroup).Done", "(*sync.WaitGroup).Wait", "internal/race.Acquire", "internal/synctest.IsAssociated[sync.WaitGroup]", "sync/atomic.CompareAndSwapUint64", "internal/race.Write", "sync.runtime_SemacquireWaitGroup"], unfollowed := true, recurses := true, plainKeys := false, leaving := true, apart := false, narrowed := true }
def MobsOrderUptoSaid : Prop := mobsOrderUptoRow.holds Try.pinned (OpenSpec.upto mobsOrderSpec)

/-- 'drovewaylaw06.MobsMet', WHERE WHAT IT READS IS OF BULK AT MOST 1048576: true; the input reads as it did. -/
def mobsMetUptoRow : OpenClaim := { program := "ytdhgeondbnpeoaa", sum := "eff21c44f179e0dbafc414121c9e0dfc946e3618730aca2beceb47f733458ede", func := "droveway/drovewaylaw06.MobsMet", spec := "mobsMet", inPlace := ["(*sync.WaitGroup).Add", "internal/race.ReleaseMerge", "internal/race.Disable", "internal/race.Enable", "internal/synctest.IsInBubble", "internal/synctest.Associate[sync.WaitGroup]", "sync.fatal", "sync/atomic.OrUint64", "sync/atomic.AddUint64", "internal/race.Read", "sync/atomic.LoadUint64", "sync/atomic.StoreUint64", "internal/synctest.Disassociate[sync.WaitGroup]", "sync.runtime_Semrelease", "(*sync.WaitGroup).Done", "(*sync.WaitGroup).Wait", "internal/race.Acquire", "internal/synctest.IsAssociated[sync.WaitGroup]", "sync/atomic.CompareAndSwapUint64", "internal/race.Write", "sync.runtime_SemacquireWaitGroup"], unfollowed := true, recurses := true, plainKeys := false, leaving := true, apart := false, narrowed := true }
def MobsMetUptoSaid : Prop := mobsMetUptoRow.holds Try.pinned (OpenSpec.upto mobsMetSpec)

/-- 'drovewaylaw06.MobsTurned', WHERE WHAT IT READS IS OF BULK AT MOST 1048576: true; the input reads as it did. -/
def mobsTurnedUptoRow : OpenClaim := { program := "ytdhgeondbnpeoaa", sum := "eff21c44f179e0dbafc414121c9e0dfc946e3618730aca2beceb47f733458ede", func := "droveway/drovewaylaw06.MobsTurned", spec := "mobsTurned", inPlace := ["(*sync.WaitGroup).Add", "internal/race.ReleaseMerge", "internal/race.Disable", "internal/race.Enable", "internal/synctest.IsInBubble", "internal/synctest.Associate[sync.WaitGroup]", "sync.fatal", "sync/atomic.OrUint64", "sync/atomic.AddUint64", "internal/race.Read", "sync/atomic.LoadUint64", "sync/atomic.StoreUint64", "internal/synctest.Disassociate[sync.WaitGroup]", "sync.runtime_Semrelease", "(*sync.WaitGroup).Done", "(*sync.WaitGroup).Wait", "internal/race.Acquire", "internal/synctest.IsAssociated[sync.WaitGroup]", "sync/atomic.CompareAndSwapUint64", "internal/race.Write", "sync.runtime_SemacquireWaitGroup"], unfollowed := true, recurses := true, plainKeys := false, leaving := true, apart := false, narrowed := true }
def MobsTurnedUptoSaid : Prop := mobsTurnedUptoRow.holds Try.pinned (OpenSpec.upto mobsTurnedSpec)

/-- 'drovewaylaw06.MobsRanks', WHERE WHAT IT READS IS OF BULK AT MOST 1048576: true; the input reads as it did. -/
def mobsRanksUptoRow : OpenClaim := { program := "ytdhgeondbnpeoaa", sum := "eff21c44f179e0dbafc414121c9e0dfc946e3618730aca2beceb47f733458ede", func := "droveway/drovewaylaw06.MobsRanks", spec := "mobsRanks", inPlace := ["(*sync.WaitGroup).Add", "internal/race.ReleaseMerge", "internal/race.Disable", "internal/race.Enable", "internal/synctest.IsInBubble", "internal/synctest.Associate[sync.WaitGroup]", "sync.fatal", "sync/atomic.OrUint64", "sync/atomic.AddUint64", "internal/race.Read", "sync/atomic.LoadUint64", "sync/atomic.StoreUint64", "internal/synctest.Disassociate[sync.WaitGroup]", "sync.runtime_Semrelease", "(*sync.WaitGroup).Done", "(*sync.WaitGroup).Wait", "internal/race.Acquire", "internal/synctest.IsAssociated[sync.WaitGroup]", "sync/atomic.CompareAndSwapUint64", "internal/race.Write", "sync.runtime_SemacquireWaitGroup"], unfollowed := true, recurses := true, plainKeys := false, leaving := true, apart := false, narrowed := true }
def MobsRanksUptoSaid : Prop := mobsRanksUptoRow.holds Try.pinned (OpenSpec.upto mobsRanksSpec)

/-- 'drovewaylaw06.MobsStirling', WHERE WHAT IT READS IS OF BULK AT MOST 1048576: true; the input reads as it did. -/
def mobsStirlingUptoRow : OpenClaim := { program := "ytdhgeondbnpeoaa", sum := "eff21c44f179e0dbafc414121c9e0dfc946e3618730aca2beceb47f733458ede", func := "droveway/drovewaylaw06.MobsStirling", spec := "mobsStirling", inPlace := ["(*sync.WaitGroup).Add", "internal/race.ReleaseMerge", "internal/race.Disable", "internal/race.Enable", "internal/synctest.IsInBubble", "internal/synctest.Associate[sync.WaitGroup]", "sync.fatal", "sync/atomic.OrUint64", "sync/atomic.AddUint64", "internal/race.Read", "sync/atomic.LoadUint64", "sync/atomic.StoreUint64", "internal/synctest.Disassociate[sync.WaitGroup]", "sync.runtime_Semrelease", "(*sync.WaitGroup).Done", "(*sync.WaitGroup).Wait", "internal/race.Acquire", "internal/synctest.IsAssociated[sync.WaitGroup]", "sync/atomic.CompareAndSwapUint64", "internal/race.Write", "sync.runtime_SemacquireWaitGroup"], unfollowed := true, recurses := true, plainKeys := false, leaving := true, apart := false, narrowed := true }
def MobsStirlingUptoSaid : Prop := mobsStirlingUptoRow.holds Try.pinned (OpenSpec.upto mobsStirlingSpec)

/-- 'drovewaylaw06.MobsRanked', WHERE WHAT IT READS IS OF BULK AT MOST 1048576: true; the input reads as it did. -/
def mobsRankedUptoRow : OpenClaim := { program := "ytdhgeondbnpeoaa", sum := "eff21c44f179e0dbafc414121c9e0dfc946e3618730aca2beceb47f733458ede", func := "droveway/drovewaylaw06.MobsRanked", spec := "mobsRanked", inPlace := ["(*sync.WaitGroup).Add", "internal/race.ReleaseMerge", "internal/race.Disable", "internal/race.Enable", "internal/synctest.IsInBubble", "internal/synctest.Associate[sync.WaitGroup]", "sync.fatal", "sync/atomic.OrUint64", "sync/atomic.AddUint64", "internal/race.Read", "sync/atomic.LoadUint64", "sync/atomic.StoreUint64", "internal/synctest.Disassociate[sync.WaitGroup]", "sync.runtime_Semrelease", "(*sync.WaitGroup).Done", "(*sync.WaitGroup).Wait", "internal/race.Acquire", "internal/synctest.IsAssociated[sync.WaitGroup]", "sync/atomic.CompareAndSwapUint64", "internal/race.Write", "sync.runtime_SemacquireWaitGroup"], unfollowed := true, recurses := true, plainKeys := false, leaving := true, apart := false, narrowed := true }
def MobsRankedUptoSaid : Prop := mobsRankedUptoRow.holds Try.pinned (OpenSpec.upto mobsRankedSpec)

/-- 'drovewaylaw06.MobsNumbers', WHERE WHAT IT READS IS OF BULK AT MOST 1048576: true; the input reads as it did. -/
def mobsNumbersUptoRow : OpenClaim := { program := "ytdhgeondbnpeoaa", sum := "eff21c44f179e0dbafc414121c9e0dfc946e3618730aca2beceb47f733458ede", func := "droveway/drovewaylaw06.MobsNumbers", spec := "mobsNumbers", inPlace := ["(*sync.WaitGroup).Add", "internal/race.ReleaseMerge", "internal/race.Disable", "internal/race.Enable", "internal/synctest.IsInBubble", "internal/synctest.Associate[sync.WaitGroup]", "sync.fatal", "sync/atomic.OrUint64", "sync/atomic.AddUint64", "internal/race.Read", "sync/atomic.LoadUint64", "sync/atomic.StoreUint64", "internal/synctest.Disassociate[sync.WaitGroup]", "sync.runtime_Semrelease", "(*sync.WaitGroup).Done", "(*sync.WaitGroup).Wait", "internal/race.Acquire", "internal/synctest.IsAssociated[sync.WaitGroup]", "sync/atomic.CompareAndSwapUint64", "internal/race.Write", "sync.runtime_SemacquireWaitGroup"], unfollowed := true, recurses := true, plainKeys := false, leaving := true, apart := false, narrowed := true }
def MobsNumbersUptoSaid : Prop := mobsNumbersUptoRow.holds Try.pinned (OpenSpec.upto mobsNumbersSpec)

end Rows
end Go.Proofs.Ytdhgeondbnpeoaa
