/-
  No cell of these rows narrows 'for every input' (looked for: loops, veiled, ifaces, maps, wideKeys, modest, calm, conditions, laid).
  DERIVED. THE GIVEN ROWS OF THIS SEAT. 6 by the template 'for every input the law returns true; each argument reads behind the call as it read before'; 0 by the template 'total and deterministic' (their statements: YtofjjfaaadllmaaTotals.lean).
  GIVEN WITH THE SEED: the statements are not yours to turn. If you find one false, say at which input.
  Laid BY PROGRAM, IN A SANDBOX (cutbox-rows.mjs): the forced cells as the released guide's own fill.sh prints them over the translation c7f615b082666266… (all of the seat's roots in one cut). By AI agents, Wed Nov 11 2026. No macro, syntax, notation, axiom, sorry.
-/
import Derived.Test.YtofjjfaaadllmaaChecked
import GoSem.Claim
import GoSem.ClaimJoined
import GoSem.ClaimMapViews
import Derived.JoinedTies
import Derived.KernelRfl
namespace Go.Proofs.Ytofjjfaaadllmaa
/- THE CELL 'sum', in the pinned program and in every row, IS THE sha256 OF THE DUMP (.gsa) THAT YtofjjfaaadllmaaProg.lean LOADS. Nothing in Lean hashes anything: it is a label: what it is worth is what the hold of that sum in a sandbox is worth. -/
noncomputable def Try.pinned : Pinned := { name := "ytofjjfaaadllmaa", sum := "c7f615b0826662666c8764628ede8d71f5484004bd54a4f31921f9f6b0514821", checked := Try.checked }
namespace Rows
def none {H : Type} : Left H := { results := [], args := [] }

/-- 'laws.FnExactNearestPair': WHATEVER THE INPUT: true; the input reads as it did. -/
def fnExactNearestPairSpec : ChangeSpec := { name := "fnExactNearestPair", fn := fun _ => fun
  | [d1, d2, d3] => { results := [.lit (.bool true)], args := [d1, d2, d3] }
  | _ => none }
def fnExactNearestPairRow : OpenClaim := { program := "ytofjjfaaadllmaa", sum := "c7f615b0826662666c8764628ede8d71f5484004bd54a4f31921f9f6b0514821", func := "loop.example/g01241/laws.FnExactNearestPair", spec := "fnExactNearestPair", unfollowed := true, recurses := true, apart := false }
def FnExactNearestPairSaid : Prop := fnExactNearestPairRow.holds Try.pinned (OpenSpec.ofChange fnExactNearestPairSpec)

/-- ITS FALSE NEIGHBOUR: 'it returns false'. Refute it at one input. -/
def fnExactNearestPairWrong : ChangeSpec := { name := "fnExactNearestPair", fn := fun _ => fun
  | [d1, d2, d3] => { results := [.lit (.bool false)], args := [d1, d2, d3] }
  | _ => none }
def FnExactNearestPairWrongFalsely : Prop := fnExactNearestPairRow.holds Try.pinned (OpenSpec.ofChange fnExactNearestPairWrong)

/-- 'laws.FnExactFirstMotionWork': WHATEVER THE INPUT: true; the input reads as it did. -/
def fnExactFirstMotionWorkSpec : ChangeSpec := { name := "fnExactFirstMotionWork", fn := fun _ => fun
  | [d1, d2] => { results := [.lit (.bool true)], args := [d1, d2] }
  | _ => none }
def fnExactFirstMotionWorkRow : OpenClaim := { program := "ytofjjfaaadllmaa", sum := "c7f615b0826662666c8764628ede8d71f5484004bd54a4f31921f9f6b0514821", func := "loop.example/g01241/laws.FnExactFirstMotionWork", spec := "fnExactFirstMotionWork", unfollowed := true, recurses := true, apart := false }
def FnExactFirstMotionWorkSaid : Prop := fnExactFirstMotionWorkRow.holds Try.pinned (OpenSpec.ofChange fnExactFirstMotionWorkSpec)

/-- ITS FALSE NEIGHBOUR: 'it returns false'. Refute it at one input. -/
def fnExactFirstMotionWorkWrong : ChangeSpec := { name := "fnExactFirstMotionWork", fn := fun _ => fun
  | [d1, d2] => { results := [.lit (.bool false)], args := [d1, d2] }
  | _ => none }
def FnExactFirstMotionWorkWrongFalsely : Prop := fnExactFirstMotionWorkRow.holds Try.pinned (OpenSpec.ofChange fnExactFirstMotionWorkWrong)

/-- 'laws.FnExactMotionWorks': WHATEVER THE INPUT: true; the input reads as it did. -/
def fnExactMotionWorksSpec : ChangeSpec := { name := "fnExactMotionWorks", fn := fun _ => fun
  | [d1, d2] => { results := [.lit (.bool true)], args := [d1, d2] }
  | _ => none }
def fnExactMotionWorksRow : OpenClaim := { program := "ytofjjfaaadllmaa", sum := "c7f615b0826662666c8764628ede8d71f5484004bd54a4f31921f9f6b0514821", func := "loop.example/g01241/laws.FnExactMotionWorks", spec := "fnExactMotionWorks", unfollowed := true, recurses := true, apart := false }
def FnExactMotionWorksSaid : Prop := fnExactMotionWorksRow.holds Try.pinned (OpenSpec.ofChange fnExactMotionWorksSpec)

/-- ITS FALSE NEIGHBOUR: 'it returns false'. Refute it at one input. -/
def fnExactMotionWorksWrong : ChangeSpec := { name := "fnExactMotionWorks", fn := fun _ => fun
  | [d1, d2] => { results := [.lit (.bool false)], args := [d1, d2] }
  | _ => none }
def FnExactMotionWorksWrongFalsely : Prop := fnExactMotionWorksRow.holds Try.pinned (OpenSpec.ofChange fnExactMotionWorksWrong)

/-- 'laws.FnExactFewestTeeth': WHATEVER THE INPUT: true; the input reads as it did. -/
def fnExactFewestTeethSpec : ChangeSpec := { name := "fnExactFewestTeeth", fn := fun _ => fun
  | [d1, d2, d3] => { results := [.lit (.bool true)], args := [d1, d2, d3] }
  | _ => none }
def fnExactFewestTeethRow : OpenClaim := { program := "ytofjjfaaadllmaa", sum := "c7f615b0826662666c8764628ede8d71f5484004bd54a4f31921f9f6b0514821", func := "loop.example/g01241/laws.FnExactFewestTeeth", spec := "fnExactFewestTeeth", unfollowed := true, recurses := true, apart := false }
def FnExactFewestTeethSaid : Prop := fnExactFewestTeethRow.holds Try.pinned (OpenSpec.ofChange fnExactFewestTeethSpec)

/-- ITS FALSE NEIGHBOUR: 'it returns false'. Refute it at one input. -/
def fnExactFewestTeethWrong : ChangeSpec := { name := "fnExactFewestTeeth", fn := fun _ => fun
  | [d1, d2, d3] => { results := [.lit (.bool false)], args := [d1, d2, d3] }
  | _ => none }
def FnExactFewestTeethWrongFalsely : Prop := fnExactFewestTeethRow.holds Try.pinned (OpenSpec.ofChange fnExactFewestTeethWrong)

/-- 'laws.FnExactFirstTrain': WHATEVER THE INPUT: true; the input reads as it did. -/
def fnExactFirstTrainSpec : ChangeSpec := { name := "fnExactFirstTrain", fn := fun _ => fun
  | [d1, d2, d3] => { results := [.lit (.bool true)], args := [d1, d2, d3] }
  | _ => none }
def fnExactFirstTrainRow : OpenClaim := { program := "ytofjjfaaadllmaa", sum := "c7f615b0826662666c8764628ede8d71f5484004bd54a4f31921f9f6b0514821", func := "loop.example/g01241/laws.FnExactFirstTrain", spec := "fnExactFirstTrain", unfollowed := true, recurses := true, apart := false }
def FnExactFirstTrainSaid : Prop := fnExactFirstTrainRow.holds Try.pinned (OpenSpec.ofChange fnExactFirstTrainSpec)

/-- ITS FALSE NEIGHBOUR: 'it returns false'. Refute it at one input. -/
def fnExactFirstTrainWrong : ChangeSpec := { name := "fnExactFirstTrain", fn := fun _ => fun
  | [d1, d2, d3] => { results := [.lit (.bool false)], args := [d1, d2, d3] }
  | _ => none }
def FnExactFirstTrainWrongFalsely : Prop := fnExactFirstTrainRow.holds Try.pinned (OpenSpec.ofChange fnExactFirstTrainWrong)

/-- 'laws.FnTrainsFoundOfAll': WHATEVER THE INPUT: true; the input reads as it did. -/
def fnTrainsFoundOfAllSpec : ChangeSpec := { name := "fnTrainsFoundOfAll", fn := fun _ => fun
  | [d1, d2, d3, d4, d5, d6, d7, d8, d9, d10, d11] => { results := [.lit (.bool true)], args := [d1, d2, d3, d4, d5, d6, d7, d8, d9, d10, d11] }
  | _ => none }
def fnTrainsFoundOfAllRow : OpenClaim := { program := "ytofjjfaaadllmaa", sum := "c7f615b0826662666c8764628ede8d71f5484004bd54a4f31921f9f6b0514821", func := "loop.example/g01241/laws.FnTrainsFoundOfAll", spec := "fnTrainsFoundOfAll", unfollowed := true, recurses := true, apart := false }
def FnTrainsFoundOfAllSaid : Prop := fnTrainsFoundOfAllRow.holds Try.pinned (OpenSpec.ofChange fnTrainsFoundOfAllSpec)

/-- ITS FALSE NEIGHBOUR: 'it returns false'. Refute it at one input. -/
def fnTrainsFoundOfAllWrong : ChangeSpec := { name := "fnTrainsFoundOfAll", fn := fun _ => fun
  | [d1, d2, d3, d4, d5, d6, d7, d8, d9, d10, d11] => { results := [.lit (.bool false)], args := [d1, d2, d3, d4, d5, d6, d7, d8, d9, d10, d11] }
  | _ => none }
def FnTrainsFoundOfAllWrongFalsely : Prop := fnTrainsFoundOfAllRow.holds Try.pinned (OpenSpec.ofChange fnTrainsFoundOfAllWrong)

/- THE SECOND FORM. 'bulk': how many values and letters a reading holds, each counted each time it is reached (what is shared counts as often as it is met; a slice's spare places count too). A statement '..UptoSaid' is the law's where the arguments, and the package variables that the reading takes, are together of bulk at most 1048576: NARROWER than '..Said'. Prove '..Said' where nothing that the law and all that it calls make is longer than what came in: it says more and counts as full. Else prove '..UptoSaid'. A law counts once. -/
mutual
def uptoBulk {H : Type} : DataW H → Nat
  | .lit (.string bytes) => bytes.length + 1
  | .lit _ => 1
  | .nil => 1
  | .ptr d => uptoBulk d + 1
  | .slice elems spare => uptoBulkAll elems + uptoBulkAll spare + 1
  | .agg parts => uptoBulkAll parts + 1
  | .iface _ d => uptoBulk d + 1
  | .map entries => uptoBulkEntries entries + 1
  | .held _ => 1
def uptoBulkAll {H : Type} : List (DataW H) → Nat
  | [] => 0
  | d :: r => uptoBulk d + uptoBulkAll r
def uptoBulkEntries {H : Type} : List (Lit × DataW H) → Nat
  | [] => 0
  | x :: r => uptoBulkEntry x + uptoBulkEntries r
def uptoBulkEntry {H : Type} : Lit × DataW H → Nat
  | (.string bytes, d) => bytes.length + uptoBulk d + 1
  | (_, d) => uptoBulk d + 1
 end
def uptoSmall : (H : Type) → List (DataW H) → Bool := fun _ ds => decide (uptoBulkAll ds ≤ 1048576)
def OpenSpec.upto (s : _root_.Go.ChangeSpec) : _root_.Go.OpenSpec := { _root_.Go.OpenSpec.ofChange s with cond := some uptoSmall }

/-- 'laws.FnExactNearestPair', WHERE WHAT IT READS IS OF BULK AT MOST 1048576: true; the input reads as it did. -/
def fnExactNearestPairUptoRow : OpenClaim := { program := "ytofjjfaaadllmaa", sum := "c7f615b0826662666c8764628ede8d71f5484004bd54a4f31921f9f6b0514821", func := "loop.example/g01241/laws.FnExactNearestPair", spec := "fnExactNearestPair", unfollowed := true, recurses := true, apart := false, narrowed := true }
def FnExactNearestPairUptoSaid : Prop := fnExactNearestPairUptoRow.holds Try.pinned (OpenSpec.upto fnExactNearestPairSpec)

/-- 'laws.FnExactFirstMotionWork', WHERE WHAT IT READS IS OF BULK AT MOST 1048576: true; the input reads as it did. -/
def fnExactFirstMotionWorkUptoRow : OpenClaim := { program := "ytofjjfaaadllmaa", sum := "c7f615b0826662666c8764628ede8d71f5484004bd54a4f31921f9f6b0514821", func := "loop.example/g01241/laws.FnExactFirstMotionWork", spec := "fnExactFirstMotionWork", unfollowed := true, recurses := true, apart := false, narrowed := true }
def FnExactFirstMotionWorkUptoSaid : Prop := fnExactFirstMotionWorkUptoRow.holds Try.pinned (OpenSpec.upto fnExactFirstMotionWorkSpec)

/-- 'laws.FnExactMotionWorks', WHERE WHAT IT READS IS OF BULK AT MOST 1048576: true; the input reads as it did. -/
def fnExactMotionWorksUptoRow : OpenClaim := { program := "ytofjjfaaadllmaa", sum := "c7f615b0826662666c8764628ede8d71f5484004bd54a4f31921f9f6b0514821", func := "loop.example/g01241/laws.FnExactMotionWorks", spec := "fnExactMotionWorks", unfollowed := true, recurses := true, apart := false, narrowed := true }
def FnExactMotionWorksUptoSaid : Prop := fnExactMotionWorksUptoRow.holds Try.pinned (OpenSpec.upto fnExactMotionWorksSpec)

/-- 'laws.FnExactFewestTeeth', WHERE WHAT IT READS IS OF BULK AT MOST 1048576: true; the input reads as it did. -/
def fnExactFewestTeethUptoRow : OpenClaim := { program := "ytofjjfaaadllmaa", sum := "c7f615b0826662666c8764628ede8d71f5484004bd54a4f31921f9f6b0514821", func := "loop.example/g01241/laws.FnExactFewestTeeth", spec := "fnExactFewestTeeth", unfollowed := true, recurses := true, apart := false, narrowed := true }
def FnExactFewestTeethUptoSaid : Prop := fnExactFewestTeethUptoRow.holds Try.pinned (OpenSpec.upto fnExactFewestTeethSpec)

/-- 'laws.FnExactFirstTrain', WHERE WHAT IT READS IS OF BULK AT MOST 1048576: true; the input reads as it did. -/
def fnExactFirstTrainUptoRow : OpenClaim := { program := "ytofjjfaaadllmaa", sum := "c7f615b0826662666c8764628ede8d71f5484004bd54a4f31921f9f6b0514821", func := "loop.example/g01241/laws.FnExactFirstTrain", spec := "fnExactFirstTrain", unfollowed := true, recurses := true, apart := false, narrowed := true }
def FnExactFirstTrainUptoSaid : Prop := fnExactFirstTrainUptoRow.holds Try.pinned (OpenSpec.upto fnExactFirstTrainSpec)

/-- 'laws.FnTrainsFoundOfAll', WHERE WHAT IT READS IS OF BULK AT MOST 1048576: true; the input reads as it did. -/
def fnTrainsFoundOfAllUptoRow : OpenClaim := { program := "ytofjjfaaadllmaa", sum := "c7f615b0826662666c8764628ede8d71f5484004bd54a4f31921f9f6b0514821", func := "loop.example/g01241/laws.FnTrainsFoundOfAll", spec := "fnTrainsFoundOfAll", unfollowed := true, recurses := true, apart := false, narrowed := true }
def FnTrainsFoundOfAllUptoSaid : Prop := fnTrainsFoundOfAllUptoRow.holds Try.pinned (OpenSpec.upto fnTrainsFoundOfAllSpec)

end Rows
end Go.Proofs.Ytofjjfaaadllmaa
