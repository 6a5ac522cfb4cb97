-- Written by a program of this session (a copy of the kit's print program that takes contracts of one's own); Lean checks it.
import Derived.Test.YtmhnbjoepgdiaaaProg
import Derived.Below
import Derived.Deep.Draws
import Derived.Deep.AppendLies
import Derived.Maps.AppendAt
import Derived.OwnWalk
import Derived.Laws.BytesArg
import Derived.Laws.MakeOwn
import Derived.Laws.OwnMore
import Derived.Deep.OwnRows
import Derived.Tactics
import Derived.Lib.ConvBytes
import Derived.Laws.Slices
import Derived.WalkKit
import Derived.KernelRfl
import Derived.RowKit3
import Derived.Deep.LoopGhost
import Derived.Deep.QuietTactic
import Derived.BigQuiet
import Derived.WideLaws
import Derived.Deep.DeepCutAuto
import Derived.Deep.CutBlock
import Derived.Deep.RegionHeld3
import Derived.Laws.Rows
import Derived.Lib.AppendStr
import Derived.ArgAppend
import Derived.Laws.IdiomCopy
import Derived.OrdersHeld
import Derived.Laws.BitsLemmas
import Derived.RowKit
import Derived.Test.YtmhnbjoepgdiaaaLibQuiet
import Derived.Test.YtmhnbjoepgdiaaaWWords
import Derived.Test.YtmhnbjoepgdiaaaWLast
import Derived.Test.YtmhnbjoepgdiaaaWTab
import Derived.Test.YtmhnbjoepgdiaaaWFour
import Derived.Test.YtmhnbjoepgdiaaaWQPut
import Derived.Test.YtmhnbjoepgdiaaaWApart
import Derived.Test.YtmhnbjoepgdiaaaWArr
import Derived.Test.YtmhnbjoepgdiaaaWZeros
import Derived.Test.YtmhnbjoepgdiaaaWFoot
import Derived.Test.YtmhnbjoepgdiaaaWKept
import Derived.Test.YtmhnbjoepgdiaaaWShare
import Derived.Test.YtmhnbjoepgdiaaaWN
import Derived.Test.YtmhnbjoepgdiaaaWFootNe
import Derived.Test.YtmhnbjoepgdiaaaWAt
import Derived.Test.YtmhnbjoepgdiaaaWEqStruct
import Derived.Test.YtmhnbjoepgdiaaaWRepsOne
import Derived.Test.YtmhnbjoepgdiaaaWInv
import Derived.Test.YtmhnbjoepgdiaaaWInvWords
import Derived.Test.YtmhnbjoepgdiaaaWGuard
import Derived.Test.YtmhnbjoepgdiaaaWNEv
import Derived.Test.YtmhnbjoepgdiaaaWMore
namespace Go.Proofs.Ytmhnbjoepgdiaaa.GFnExactTurnTune
open Go.RowKit Go.Proofs.YtmhnbjoepgdiaaaW.PrintWords Go.Proofs.YtmhnbjoepgdiaaaW.PrintLast Go.Proofs.YtmhnbjoepgdiaaaW.PrintMore
attribute [local go_sem] max2_int min2_int max_two min_two max_three min_three max_four min_four   -- for this text's walks alone
set_option linter.unusedVariables false
set_option linter.unusedSimpArgs false



def errW : Option Int → Value
  | none => .nilIface
  | some c => .iface 0 (.int .i64 c)
theorem errW_none : errW none = .nilIface := rfl
theorem errW_some (c : Int) : errW (some c) = .iface 0 (.int .i64 c) := rfl

theorem info5 : (Try.prog.info? 5).map (fun i => (i.zero, i.size, i.bytes)) = some (some (.int .u8 0), 1, 1) := by kernel_rfl
theorem info9 : (Try.prog.info? 9).map (fun i => (i.zero, i.size, i.bytes)) = some (some (.string ⟨#[]⟩), 1, 16) := by kernel_rfl
-- the values' own types

end Go.Proofs.Ytmhnbjoepgdiaaa.GFnExactTurnTune
