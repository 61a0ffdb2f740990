/- The dual rule. -/
import Derived.Test.YtldakfaolagoiaaProg
import Derived.Below
import Derived.Deep.Draws
import Derived.Deep.AppendLies
import Derived.Maps.AppendAt
import Derived.OwnWalk
import Derived.Laws.BytesArg
import Derived.Laws.MakeOwn
import Derived.Laws.OwnMore
import Derived.Deep.OwnRows
import Derived.Tactics
import Derived.Lib.ConvBytes
import Derived.Laws.Slices
import Derived.WalkKit
import Derived.KernelRfl
import Derived.RowKit3
import Derived.Deep.LoopGhost
import Derived.Deep.QuietTactic
import Derived.BigQuiet
import Derived.WideLaws
import Derived.Deep.DeepCutAuto
import Derived.Deep.CutBlock
import Derived.Deep.RegionHeld3
import Derived.Laws.Rows
import Derived.Lib.AppendStr
import Derived.ArgAppend
import Derived.Laws.IdiomCopy
import Derived.OrdersHeld
import Derived.Laws.BitsLemmas
import Derived.RowKit
import Derived.Test.YtldakfaolagoiaaWWords
import Derived.Test.YtldakfaolagoiaaWLast
import Derived.Test.YtldakfaolagoiaaWTab
import Derived.Test.YtldakfaolagoiaaWFour
import Derived.Test.YtldakfaolagoiaaWQPut
import Derived.Test.YtldakfaolagoiaaWApart
import Derived.Test.YtldakfaolagoiaaWArr
import Derived.Test.YtldakfaolagoiaaWZeros
import Derived.Test.YtldakfaolagoiaaWFoot
import Derived.Test.YtldakfaolagoiaaWKept
import Derived.Test.YtldakfaolagoiaaWShare
import Derived.Test.YtldakfaolagoiaaWN
import Derived.Test.YtldakfaolagoiaaWFootNe
import Derived.Test.YtldakfaolagoiaaWAt
import Derived.Test.YtldakfaolagoiaaWEqStruct
import Derived.Test.YtldakfaolagoiaaWRepsOne
import Derived.Test.YtldakfaolagoiaaWInv
import Derived.Test.YtldakfaolagoiaaWInvWords
import Derived.Test.YtldakfaolagoiaaWGuard
import Derived.Test.YtldakfaolagoiaaWNEv
import Derived.Test.YtldakfaolagoiaaWMore
import Derived.Maps.OwnOps
import Derived.DeepKeys4
import Derived.WalkSpells
import Derived.Laws.EntriesVeiled
import Derived.Deep.RegionLawGrows
import Derived.ArgAppend
import Derived.Test.YtldakfaolagoiaaTbL
namespace Go.Proofs.Ytldakfaolagoiaa.Tb
open Go.RowKit Go.Proofs.YtldakfaolagoiaaW.PrintWords Go.Proofs.YtldakfaolagoiaaW.PrintLast Go.Proofs.YtldakfaolagoiaaW.PrintMore
attribute [local go_sem] max2_int min2_int max_two min_two max_three min_three max_four min_four
set_option linter.unusedVariables false
set_option linter.unusedSimpArgs false

def sub (x y : Int) : Bool := land x y == x
structure Inv (n a b : Int) : Prop where
  da : Dom a
  db : Dom b
  ain : landNot a (wrap64 (pw n - 1)) = 0
  bin : landNot b (wrap64 (pw n - 1)) = 0
  apart : land a b = 0
theorem won_fin : ∀ (x s : Fin 32), (landNot (x.val : Int) s.val == 0) = (land (x.val : Int) s.val == x.val) := by decide +kernel
theorem trans_fin : ∀ (x y z : Fin 32), sub x.val y.val = true → sub y.val z.val = true → sub x.val z.val = true := by decide +kernel
theorem grow_fin : ∀ (a : Fin 32) (i : Fin 5), sub a.val (orI a.val (pt i.val)) = true := by decide +kernel
theorem rest_fin : ∀ (n : Fin 5) (x s : Fin 32), sub x.val s.val = true → sub (restOf ((n.val : Int) + 1) s.val) (restOf ((n.val : Int) + 1) x.val) = true := by decide +kernel
theorem rdom_fin : ∀ (n : Fin 5) (s : Fin 32), 0 ≤ restOf ((n.val : Int) + 1) s.val ∧ restOf ((n.val : Int) + 1) s.val < 32 := by decide +kernel
theorem full_fin : ∀ (n : Fin 5) (a b : Fin 32), landNot (a.val : Int) (wrap64 (pw ((n.val : Int) + 1) - 1)) = 0 → land (a.val : Int) b.val = 0 → fre ((n.val : Int) + 1) (orI a.val b.val) = 0 → restOf ((n.val : Int) + 1) b.val = a.val := by decide +kernel
theorem comm_fin : ∀ (a b : Fin 32), orI a.val b.val = orI b.val a.val ∧ land (a.val : Int) b.val = land (b.val : Int) a.val := by decide +kernel
theorem step_fin : ∀ (n : Fin 5) (i : Fin 5) (a b : Fin 32), land (a.val : Int) b.val = 0 → bitI (fre ((n.val : Int) + 1) (orI a.val b.val)) i.val = true → landNot (a.val : Int) (wrap64 (pw ((n.val : Int) + 1) - 1)) = 0 → landNot (orI a.val (pt i.val)) (wrap64 (pw ((n.val : Int) + 1) - 1)) = 0 ∧ land (orI a.val (pt i.val)) b.val = 0 := by decide +kernel
theorem some_fin : ∀ (n : Fin 5) (u : Fin 32), fre ((n.val : Int) + 1) u.val ≠ 0 → (List.range (n.val + 1)).any (fun i => bitI (fre ((n.val : Int) + 1) u.val) i) = true := by decide +kernel
theorem n_fin {n : Int} (h1 : 1 ≤ n) (h5 : n ≤ 5) : ∃ y : Fin 5, n = (y.val : Int) + 1 := ⟨⟨(n - 1).toNat, by omega⟩, by simp; omega⟩
end Go.Proofs.Ytldakfaolagoiaa.Tb
