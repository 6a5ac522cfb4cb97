-- Written by a program of this session (a copy of the kit's print program that takes contracts of one's own); Lean checks it.
import Derived.Test.YtofjjfaaadllmaaProg
import Derived.Below
import Derived.Deep.Draws
import Derived.Deep.AppendLies
import Derived.Maps.AppendAt
import Derived.OwnWalk
import Derived.Laws.BytesArg
import Derived.Laws.MakeOwn
import Derived.Laws.OwnMore
import Derived.Deep.OwnRows
import Derived.Tactics
import Derived.Lib.ConvBytes
import Derived.Laws.Slices
import Derived.WalkKit
import Derived.KernelRfl
import Derived.RowKit3
import Derived.Deep.LoopGhost
import Derived.Deep.QuietTactic
import Derived.BigQuiet
import Derived.WideLaws
import Derived.Deep.DeepCutAuto
import Derived.Deep.CutBlock
import Derived.Deep.RegionHeld3
import Derived.Laws.Rows
import Derived.Lib.AppendStr
import Derived.ArgAppend
import Derived.Laws.IdiomCopy
import Derived.OrdersHeld
import Derived.Laws.BitsLemmas
import Derived.RowKit
import Derived.Test.YtofjjfaaadllmaaLibQuiet
import Derived.Test.YtofjjfaaadllmaaWWords
import Derived.Test.YtofjjfaaadllmaaWLast
import Derived.Test.YtofjjfaaadllmaaWTab
import Derived.Test.YtofjjfaaadllmaaWFour
import Derived.Test.YtofjjfaaadllmaaWQPut
import Derived.Test.YtofjjfaaadllmaaWApart
import Derived.Test.YtofjjfaaadllmaaWArr
import Derived.Test.YtofjjfaaadllmaaWZeros
import Derived.Test.YtofjjfaaadllmaaWFoot
import Derived.Test.YtofjjfaaadllmaaWKept
import Derived.Test.YtofjjfaaadllmaaWShare
import Derived.Test.YtofjjfaaadllmaaWN
import Derived.Test.YtofjjfaaadllmaaWFootNe
import Derived.Test.YtofjjfaaadllmaaWAt
import Derived.Test.YtofjjfaaadllmaaWEqStruct
import Derived.Test.YtofjjfaaadllmaaWRepsOne
import Derived.Test.YtofjjfaaadllmaaWInv
import Derived.Test.YtofjjfaaadllmaaWInvWords
import Derived.Test.YtofjjfaaadllmaaWGuard
import Derived.Test.YtofjjfaaadllmaaWNEv
import Derived.Test.YtofjjfaaadllmaaWMore
namespace Go.Proofs.Ytofjjfaaadllmaa.GFnExactNearestPair
open Go.RowKit Go.Proofs.YtofjjfaaadllmaaW.PrintWords Go.Proofs.YtofjjfaaadllmaaW.PrintLast Go.Proofs.YtofjjfaaadllmaaW.PrintMore
attribute [local go_sem] max2_int min2_int max_two min_two max_three min_three max_four min_four IntWalk.i64_left   -- for this text's walks alone
set_option linter.unusedVariables false
set_option linter.unusedSimpArgs false



def errW : Option Int → Value
  | none => .nilIface
  | some c => .iface 0 (.int .i64 c)
theorem errW_none : errW none = .nilIface := rfl
theorem errW_some (c : Int) : errW (some c) = .iface 0 (.int .i64 c) := rfl

-- the values' own types

end Go.Proofs.Ytofjjfaaadllmaa.GFnExactNearestPair
