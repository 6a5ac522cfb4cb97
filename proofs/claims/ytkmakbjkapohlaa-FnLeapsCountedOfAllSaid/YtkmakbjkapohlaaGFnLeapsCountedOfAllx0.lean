-- Written by a program of this session (a copy of the kit's print program that takes contracts of one's own); Lean checks it.
import Derived.Test.YtkmakbjkapohlaaProg
import Derived.Below
import Derived.Deep.Draws
import Derived.Deep.AppendLies
import Derived.Maps.AppendAt
import Derived.OwnWalk
import Derived.Laws.BytesArg
import Derived.Laws.MakeOwn
import Derived.Laws.OwnMore
import Derived.Deep.OwnRows
import Derived.Tactics
import Derived.Lib.ConvBytes
import Derived.Laws.Slices
import Derived.WalkKit
import Derived.KernelRfl
import Derived.RowKit3
import Derived.Deep.LoopGhost
import Derived.Deep.QuietTactic
import Derived.BigQuiet
import Derived.WideLaws
import Derived.Deep.DeepCutAuto
import Derived.Deep.CutBlock
import Derived.Deep.RegionHeld3
import Derived.Laws.Rows
import Derived.Lib.AppendStr
import Derived.ArgAppend
import Derived.Laws.IdiomCopy
import Derived.OrdersHeld
import Derived.Laws.BitsLemmas
import Derived.RowKit
import Derived.Test.YtkmakbjkapohlaaWWords
import Derived.Test.YtkmakbjkapohlaaWLast
import Derived.Test.YtkmakbjkapohlaaWTab
import Derived.Test.YtkmakbjkapohlaaWFour
import Derived.Test.YtkmakbjkapohlaaWQPut
import Derived.Test.YtkmakbjkapohlaaWApart
import Derived.Test.YtkmakbjkapohlaaWArr
import Derived.Test.YtkmakbjkapohlaaWZeros
import Derived.Test.YtkmakbjkapohlaaWFoot
import Derived.Test.YtkmakbjkapohlaaWKept
import Derived.Test.YtkmakbjkapohlaaWShare
import Derived.Test.YtkmakbjkapohlaaWN
import Derived.Test.YtkmakbjkapohlaaWFootNe
import Derived.Test.YtkmakbjkapohlaaWAt
import Derived.Test.YtkmakbjkapohlaaWEqStruct
import Derived.Test.YtkmakbjkapohlaaWRepsOne
import Derived.Test.YtkmakbjkapohlaaWInv
import Derived.Test.YtkmakbjkapohlaaWInvWords
import Derived.Test.YtkmakbjkapohlaaWGuard
import Derived.Test.YtkmakbjkapohlaaWNEv
import Derived.Test.YtkmakbjkapohlaaWMore
namespace Go.Proofs.Ytkmakbjkapohlaa.GFnLeapsCountedOfAll
open Go.RowKit Go.Proofs.YtkmakbjkapohlaaW.PrintWords Go.Proofs.YtkmakbjkapohlaaW.PrintLast Go.Proofs.YtkmakbjkapohlaaW.PrintMore
attribute [local go_sem] max2_int min2_int max_two min_two max_three min_three max_four min_four   -- for this text's walks alone
set_option linter.unusedVariables false
set_option linter.unusedSimpArgs false



def errW : Option Int → Value
  | none => .nilIface
  | some c => .iface 0 (.int .i64 c)
theorem errW_none : errW none = .nilIface := rfl
theorem errW_some (c : Int) : errW (some c) = .iface 0 (.int .i64 c) := rfl

-- the values' own types

end Go.Proofs.Ytkmakbjkapohlaa.GFnLeapsCountedOfAll
