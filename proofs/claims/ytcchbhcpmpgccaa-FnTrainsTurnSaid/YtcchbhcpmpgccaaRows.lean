/-
  No cell of these rows narrows 'for every input' (looked for: loops, veiled, ifaces, maps, wideKeys, modest, calm, conditions, laid).
  DERIVED. THE GIVEN ROWS OF THIS SEAT. 10 by the template 'for every input the law returns true; each argument reads behind the call as it read before'; 0 by the template 'total and deterministic' (their statements: YtcchbhcpmpgccaaTotals.lean).
  GIVEN WITH THE SEED: the statements are not yours to turn. If you find one false, say at which input.
  Laid BY PROGRAM, IN A SANDBOX (cutbox-rows.mjs): the forced cells as the released guide's own fill.sh prints them over the translation a63f328bcfdbdb54… (all of the seat's roots in one cut). By AI agents, Wed Nov 11 2026. No macro, syntax, notation, axiom, sorry.
-/
import Derived.Test.YtcchbhcpmpgccaaChecked
import GoSem.Claim
import GoSem.ClaimJoined
import GoSem.ClaimMapViews
import Derived.JoinedTies
import Derived.KernelRfl
namespace Go.Proofs.Ytcchbhcpmpgccaa
/- THE CELL 'sum', in the pinned program and in every row, IS THE sha256 OF THE DUMP (.gsa) THAT YtcchbhcpmpgccaaProg.lean LOADS. Nothing in Lean hashes anything: it is a label: what it is worth is what the hold of that sum in a sandbox is worth. -/
noncomputable def Try.pinned : Pinned := { name := "ytcchbhcpmpgccaa", sum := "a63f328bcfdbdb54fe2fbef74158d1fa511d8e3effbea5025bac2fa0fbcd303f", checked := Try.checked }
namespace Rows
def none {H : Type} : Left H := { results := [], args := [] }

/-- 'laws.FnExactIsTrain': WHATEVER THE INPUT: true; the input reads as it did. -/
def fnExactIsTrainSpec : ChangeSpec := { name := "fnExactIsTrain", fn := fun _ => fun
  | [d] => { results := [.lit (.bool true)], args := [d] }
  | _ => none }
def fnExactIsTrainRow : OpenClaim := { program := "ytcchbhcpmpgccaa", sum := "a63f328bcfdbdb54fe2fbef74158d1fa511d8e3effbea5025bac2fa0fbcd303f", func := "loop.example/g01241/laws.FnExactIsTrain", spec := "fnExactIsTrain", unfollowed := true, recurses := true, apart := false }
def FnExactIsTrainSaid : Prop := fnExactIsTrainRow.holds Try.pinned (OpenSpec.ofChange fnExactIsTrainSpec)

/-- ITS FALSE NEIGHBOUR: 'it returns false'. Refute it at one input. -/
def fnExactIsTrainWrong : ChangeSpec := { name := "fnExactIsTrain", fn := fun _ => fun
  | [d] => { results := [.lit (.bool false)], args := [d] }
  | _ => none }
def FnExactIsTrainWrongFalsely : Prop := fnExactIsTrainRow.holds Try.pinned (OpenSpec.ofChange fnExactIsTrainWrong)

/-- 'laws.FnExactDirectionOf': WHATEVER THE INPUT: true; the input reads as it did. -/
def fnExactDirectionOfSpec : ChangeSpec := { name := "fnExactDirectionOf", fn := fun _ => fun
  | [d] => { results := [.lit (.bool true)], args := [d] }
  | _ => none }
def fnExactDirectionOfRow : OpenClaim := { program := "ytcchbhcpmpgccaa", sum := "a63f328bcfdbdb54fe2fbef74158d1fa511d8e3effbea5025bac2fa0fbcd303f", func := "loop.example/g01241/laws.FnExactDirectionOf", spec := "fnExactDirectionOf", unfollowed := true, recurses := true, apart := false }
def FnExactDirectionOfSaid : Prop := fnExactDirectionOfRow.holds Try.pinned (OpenSpec.ofChange fnExactDirectionOfSpec)

/-- ITS FALSE NEIGHBOUR: 'it returns false'. Refute it at one input. -/
def fnExactDirectionOfWrong : ChangeSpec := { name := "fnExactDirectionOf", fn := fun _ => fun
  | [d] => { results := [.lit (.bool false)], args := [d] }
  | _ => none }
def FnExactDirectionOfWrongFalsely : Prop := fnExactDirectionOfRow.holds Try.pinned (OpenSpec.ofChange fnExactDirectionOfWrong)

/-- 'laws.FnExactTeethOf': WHATEVER THE INPUT: true; the input reads as it did. -/
def fnExactTeethOfSpec : ChangeSpec := { name := "fnExactTeethOf", fn := fun _ => fun
  | [d] => { results := [.lit (.bool true)], args := [d] }
  | _ => none }
def fnExactTeethOfRow : OpenClaim := { program := "ytcchbhcpmpgccaa", sum := "a63f328bcfdbdb54fe2fbef74158d1fa511d8e3effbea5025bac2fa0fbcd303f", func := "loop.example/g01241/laws.FnExactTeethOf", spec := "fnExactTeethOf", unfollowed := true, recurses := true, apart := false }
def FnExactTeethOfSaid : Prop := fnExactTeethOfRow.holds Try.pinned (OpenSpec.ofChange fnExactTeethOfSpec)

/-- ITS FALSE NEIGHBOUR: 'it returns false'. Refute it at one input. -/
def fnExactTeethOfWrong : ChangeSpec := { name := "fnExactTeethOf", fn := fun _ => fun
  | [d] => { results := [.lit (.bool false)], args := [d] }
  | _ => none }
def FnExactTeethOfWrongFalsely : Prop := fnExactTeethOfRow.holds Try.pinned (OpenSpec.ofChange fnExactTeethOfWrong)

/-- 'laws.FnExactRatioOf': WHATEVER THE INPUT: true; the input reads as it did. -/
def fnExactRatioOfSpec : ChangeSpec := { name := "fnExactRatioOf", fn := fun _ => fun
  | [d] => { results := [.lit (.bool true)], args := [d] }
  | _ => none }
def fnExactRatioOfRow : OpenClaim := { program := "ytcchbhcpmpgccaa", sum := "a63f328bcfdbdb54fe2fbef74158d1fa511d8e3effbea5025bac2fa0fbcd303f", func := "loop.example/g01241/laws.FnExactRatioOf", spec := "fnExactRatioOf", unfollowed := true, recurses := true, apart := false }
def FnExactRatioOfSaid : Prop := fnExactRatioOfRow.holds Try.pinned (OpenSpec.ofChange fnExactRatioOfSpec)

/-- ITS FALSE NEIGHBOUR: 'it returns false'. Refute it at one input. -/
def fnExactRatioOfWrong : ChangeSpec := { name := "fnExactRatioOf", fn := fun _ => fun
  | [d] => { results := [.lit (.bool false)], args := [d] }
  | _ => none }
def FnExactRatioOfWrongFalsely : Prop := fnExactRatioOfRow.holds Try.pinned (OpenSpec.ofChange fnExactRatioOfWrong)

/-- 'laws.FnExactBackTrain': WHATEVER THE INPUT: true; the input reads as it did. -/
def fnExactBackTrainSpec : ChangeSpec := { name := "fnExactBackTrain", fn := fun _ => fun
  | [d] => { results := [.lit (.bool true)], args := [d] }
  | _ => none }
def fnExactBackTrainRow : OpenClaim := { program := "ytcchbhcpmpgccaa", sum := "a63f328bcfdbdb54fe2fbef74158d1fa511d8e3effbea5025bac2fa0fbcd303f", func := "loop.example/g01241/laws.FnExactBackTrain", spec := "fnExactBackTrain", unfollowed := true, recurses := true, apart := false }
def FnExactBackTrainSaid : Prop := fnExactBackTrainRow.holds Try.pinned (OpenSpec.ofChange fnExactBackTrainSpec)

/-- ITS FALSE NEIGHBOUR: 'it returns false'. Refute it at one input. -/
def fnExactBackTrainWrong : ChangeSpec := { name := "fnExactBackTrain", fn := fun _ => fun
  | [d] => { results := [.lit (.bool false)], args := [d] }
  | _ => none }
def FnExactBackTrainWrongFalsely : Prop := fnExactBackTrainRow.holds Try.pinned (OpenSpec.ofChange fnExactBackTrainWrong)

/-- 'laws.FnExactTurnsUntilSame': WHATEVER THE INPUT: true; the input reads as it did. -/
def fnExactTurnsUntilSameSpec : ChangeSpec := { name := "fnExactTurnsUntilSame", fn := fun _ => fun
  | [d] => { results := [.lit (.bool true)], args := [d] }
  | _ => none }
def fnExactTurnsUntilSameRow : OpenClaim := { program := "ytcchbhcpmpgccaa", sum := "a63f328bcfdbdb54fe2fbef74158d1fa511d8e3effbea5025bac2fa0fbcd303f", func := "loop.example/g01241/laws.FnExactTurnsUntilSame", spec := "fnExactTurnsUntilSame", unfollowed := true, recurses := true, apart := false }
def FnExactTurnsUntilSameSaid : Prop := fnExactTurnsUntilSameRow.holds Try.pinned (OpenSpec.ofChange fnExactTurnsUntilSameSpec)

/-- ITS FALSE NEIGHBOUR: 'it returns false'. Refute it at one input. -/
def fnExactTurnsUntilSameWrong : ChangeSpec := { name := "fnExactTurnsUntilSame", fn := fun _ => fun
  | [d] => { results := [.lit (.bool false)], args := [d] }
  | _ => none }
def FnExactTurnsUntilSameWrongFalsely : Prop := fnExactTurnsUntilSameRow.holds Try.pinned (OpenSpec.ofChange fnExactTurnsUntilSameWrong)

/-- 'laws.FnExactTurnsOfLast': WHATEVER THE INPUT: true; the input reads as it did. -/
def fnExactTurnsOfLastSpec : ChangeSpec := { name := "fnExactTurnsOfLast", fn := fun _ => fun
  | [d1, d2] => { results := [.lit (.bool true)], args := [d1, d2] }
  | _ => none }
def fnExactTurnsOfLastRow : OpenClaim := { program := "ytcchbhcpmpgccaa", sum := "a63f328bcfdbdb54fe2fbef74158d1fa511d8e3effbea5025bac2fa0fbcd303f", func := "loop.example/g01241/laws.FnExactTurnsOfLast", spec := "fnExactTurnsOfLast", unfollowed := true, recurses := true, apart := false }
def FnExactTurnsOfLastSaid : Prop := fnExactTurnsOfLastRow.holds Try.pinned (OpenSpec.ofChange fnExactTurnsOfLastSpec)

/-- ITS FALSE NEIGHBOUR: 'it returns false'. Refute it at one input. -/
def fnExactTurnsOfLastWrong : ChangeSpec := { name := "fnExactTurnsOfLast", fn := fun _ => fun
  | [d1, d2] => { results := [.lit (.bool false)], args := [d1, d2] }
  | _ => none }
def FnExactTurnsOfLastWrongFalsely : Prop := fnExactTurnsOfLastRow.holds Try.pinned (OpenSpec.ofChange fnExactTurnsOfLastWrong)

/-- 'laws.FnExactCompareRatios': WHATEVER THE INPUT: true; the input reads as it did. -/
def fnExactCompareRatiosSpec : ChangeSpec := { name := "fnExactCompareRatios", fn := fun _ => fun
  | [d1, d2] => { results := [.lit (.bool true)], args := [d1, d2] }
  | _ => none }
def fnExactCompareRatiosRow : OpenClaim := { program := "ytcchbhcpmpgccaa", sum := "a63f328bcfdbdb54fe2fbef74158d1fa511d8e3effbea5025bac2fa0fbcd303f", func := "loop.example/g01241/laws.FnExactCompareRatios", spec := "fnExactCompareRatios", unfollowed := true, recurses := true, apart := false }
def FnExactCompareRatiosSaid : Prop := fnExactCompareRatiosRow.holds Try.pinned (OpenSpec.ofChange fnExactCompareRatiosSpec)

/-- ITS FALSE NEIGHBOUR: 'it returns false'. Refute it at one input. -/
def fnExactCompareRatiosWrong : ChangeSpec := { name := "fnExactCompareRatios", fn := fun _ => fun
  | [d1, d2] => { results := [.lit (.bool false)], args := [d1, d2] }
  | _ => none }
def FnExactCompareRatiosWrongFalsely : Prop := fnExactCompareRatiosRow.holds Try.pinned (OpenSpec.ofChange fnExactCompareRatiosWrong)

/-- 'laws.FnTrainsTurnOfAll': WHATEVER THE INPUT: true; the input reads as it did. -/
def fnTrainsTurnOfAllSpec : ChangeSpec := { name := "fnTrainsTurnOfAll", fn := fun _ => fun
  | [d1, d2, d3, d4, d5, d6] => { results := [.lit (.bool true)], args := [d1, d2, d3, d4, d5, d6] }
  | _ => none }
def fnTrainsTurnOfAllRow : OpenClaim := { program := "ytcchbhcpmpgccaa", sum := "a63f328bcfdbdb54fe2fbef74158d1fa511d8e3effbea5025bac2fa0fbcd303f", func := "loop.example/g01241/laws.FnTrainsTurnOfAll", spec := "fnTrainsTurnOfAll", unfollowed := true, recurses := true, apart := false }
def FnTrainsTurnOfAllSaid : Prop := fnTrainsTurnOfAllRow.holds Try.pinned (OpenSpec.ofChange fnTrainsTurnOfAllSpec)

/-- ITS FALSE NEIGHBOUR: 'it returns false'. Refute it at one input. -/
def fnTrainsTurnOfAllWrong : ChangeSpec := { name := "fnTrainsTurnOfAll", fn := fun _ => fun
  | [d1, d2, d3, d4, d5, d6] => { results := [.lit (.bool false)], args := [d1, d2, d3, d4, d5, d6] }
  | _ => none }
def FnTrainsTurnOfAllWrongFalsely : Prop := fnTrainsTurnOfAllRow.holds Try.pinned (OpenSpec.ofChange fnTrainsTurnOfAllWrong)

/-- 'laws.FnTrainsTurn': WHATEVER THE INPUT: true; the input reads as it did. -/
def fnTrainsTurnSpec : ChangeSpec := { name := "fnTrainsTurn", fn := fun _ => fun
  | [d1, d2] => { results := [.lit (.bool true)], args := [d1, d2] }
  | _ => none }
def fnTrainsTurnRow : OpenClaim := { program := "ytcchbhcpmpgccaa", sum := "a63f328bcfdbdb54fe2fbef74158d1fa511d8e3effbea5025bac2fa0fbcd303f", func := "loop.example/g01241/laws.FnTrainsTurn", spec := "fnTrainsTurn", unfollowed := true, recurses := true, apart := false }
def FnTrainsTurnSaid : Prop := fnTrainsTurnRow.holds Try.pinned (OpenSpec.ofChange fnTrainsTurnSpec)

/-- ITS FALSE NEIGHBOUR: 'it returns false'. Refute it at one input. -/
def fnTrainsTurnWrong : ChangeSpec := { name := "fnTrainsTurn", fn := fun _ => fun
  | [d1, d2] => { results := [.lit (.bool false)], args := [d1, d2] }
  | _ => none }
def FnTrainsTurnWrongFalsely : Prop := fnTrainsTurnRow.holds Try.pinned (OpenSpec.ofChange fnTrainsTurnWrong)

/- THE SECOND FORM. 'bulk': how many values and letters a reading holds, each counted each time it is reached (what is shared counts as often as it is met; a slice's spare places count too). A statement '..UptoSaid' is the law's where the arguments, and the package variables that the reading takes, are together of bulk at most 1048576: NARROWER than '..Said'. Prove '..Said' where nothing that the law and all that it calls make is longer than what came in: it says more and counts as full. Else prove '..UptoSaid'. A law counts once. -/
mutual
def uptoBulk {H : Type} : DataW H → Nat
  | .lit (.string bytes) => bytes.length + 1
  | .lit _ => 1
  | .nil => 1
  | .ptr d => uptoBulk d + 1
  | .slice elems spare => uptoBulkAll elems + uptoBulkAll spare + 1
  | .agg parts => uptoBulkAll parts + 1
  | .iface _ d => uptoBulk d + 1
  | .map entries => uptoBulkEntries entries + 1
  | .held _ => 1
def uptoBulkAll {H : Type} : List (DataW H) → Nat
  | [] => 0
  | d :: r => uptoBulk d + uptoBulkAll r
def uptoBulkEntries {H : Type} : List (Lit × DataW H) → Nat
  | [] => 0
  | x :: r => uptoBulkEntry x + uptoBulkEntries r
def uptoBulkEntry {H : Type} : Lit × DataW H → Nat
  | (.string bytes, d) => bytes.length + uptoBulk d + 1
  | (_, d) => uptoBulk d + 1
 end
def uptoSmall : (H : Type) → List (DataW H) → Bool := fun _ ds => decide (uptoBulkAll ds ≤ 1048576)
def OpenSpec.upto (s : _root_.Go.ChangeSpec) : _root_.Go.OpenSpec := { _root_.Go.OpenSpec.ofChange s with cond := some uptoSmall }

/-- 'laws.FnExactIsTrain', WHERE WHAT IT READS IS OF BULK AT MOST 1048576: true; the input reads as it did. -/
def fnExactIsTrainUptoRow : OpenClaim := { program := "ytcchbhcpmpgccaa", sum := "a63f328bcfdbdb54fe2fbef74158d1fa511d8e3effbea5025bac2fa0fbcd303f", func := "loop.example/g01241/laws.FnExactIsTrain", spec := "fnExactIsTrain", unfollowed := true, recurses := true, apart := false, narrowed := true }
def FnExactIsTrainUptoSaid : Prop := fnExactIsTrainUptoRow.holds Try.pinned (OpenSpec.upto fnExactIsTrainSpec)

/-- 'laws.FnExactDirectionOf', WHERE WHAT IT READS IS OF BULK AT MOST 1048576: true; the input reads as it did. -/
def fnExactDirectionOfUptoRow : OpenClaim := { program := "ytcchbhcpmpgccaa", sum := "a63f328bcfdbdb54fe2fbef74158d1fa511d8e3effbea5025bac2fa0fbcd303f", func := "loop.example/g01241/laws.FnExactDirectionOf", spec := "fnExactDirectionOf", unfollowed := true, recurses := true, apart := false, narrowed := true }
def FnExactDirectionOfUptoSaid : Prop := fnExactDirectionOfUptoRow.holds Try.pinned (OpenSpec.upto fnExactDirectionOfSpec)

/-- 'laws.FnExactTeethOf', WHERE WHAT IT READS IS OF BULK AT MOST 1048576: true; the input reads as it did. -/
def fnExactTeethOfUptoRow : OpenClaim := { program := "ytcchbhcpmpgccaa", sum := "a63f328bcfdbdb54fe2fbef74158d1fa511d8e3effbea5025bac2fa0fbcd303f", func := "loop.example/g01241/laws.FnExactTeethOf", spec := "fnExactTeethOf", unfollowed := true, recurses := true, apart := false, narrowed := true }
def FnExactTeethOfUptoSaid : Prop := fnExactTeethOfUptoRow.holds Try.pinned (OpenSpec.upto fnExactTeethOfSpec)

/-- 'laws.FnExactRatioOf', WHERE WHAT IT READS IS OF BULK AT MOST 1048576: true; the input reads as it did. -/
def fnExactRatioOfUptoRow : OpenClaim := { program := "ytcchbhcpmpgccaa", sum := "a63f328bcfdbdb54fe2fbef74158d1fa511d8e3effbea5025bac2fa0fbcd303f", func := "loop.example/g01241/laws.FnExactRatioOf", spec := "fnExactRatioOf", unfollowed := true, recurses := true, apart := false, narrowed := true }
def FnExactRatioOfUptoSaid : Prop := fnExactRatioOfUptoRow.holds Try.pinned (OpenSpec.upto fnExactRatioOfSpec)

/-- 'laws.FnExactBackTrain', WHERE WHAT IT READS IS OF BULK AT MOST 1048576: true; the input reads as it did. -/
def fnExactBackTrainUptoRow : OpenClaim := { program := "ytcchbhcpmpgccaa", sum := "a63f328bcfdbdb54fe2fbef74158d1fa511d8e3effbea5025bac2fa0fbcd303f", func := "loop.example/g01241/laws.FnExactBackTrain", spec := "fnExactBackTrain", unfollowed := true, recurses := true, apart := false, narrowed := true }
def FnExactBackTrainUptoSaid : Prop := fnExactBackTrainUptoRow.holds Try.pinned (OpenSpec.upto fnExactBackTrainSpec)

/-- 'laws.FnExactTurnsUntilSame', WHERE WHAT IT READS IS OF BULK AT MOST 1048576: true; the input reads as it did. -/
def fnExactTurnsUntilSameUptoRow : OpenClaim := { program := "ytcchbhcpmpgccaa", sum := "a63f328bcfdbdb54fe2fbef74158d1fa511d8e3effbea5025bac2fa0fbcd303f", func := "loop.example/g01241/laws.FnExactTurnsUntilSame", spec := "fnExactTurnsUntilSame", unfollowed := true, recurses := true, apart := false, narrowed := true }
def FnExactTurnsUntilSameUptoSaid : Prop := fnExactTurnsUntilSameUptoRow.holds Try.pinned (OpenSpec.upto fnExactTurnsUntilSameSpec)

/-- 'laws.FnExactTurnsOfLast', WHERE WHAT IT READS IS OF BULK AT MOST 1048576: true; the input reads as it did. -/
def fnExactTurnsOfLastUptoRow : OpenClaim := { program := "ytcchbhcpmpgccaa", sum := "a63f328bcfdbdb54fe2fbef74158d1fa511d8e3effbea5025bac2fa0fbcd303f", func := "loop.example/g01241/laws.FnExactTurnsOfLast", spec := "fnExactTurnsOfLast", unfollowed := true, recurses := true, apart := false, narrowed := true }
def FnExactTurnsOfLastUptoSaid : Prop := fnExactTurnsOfLastUptoRow.holds Try.pinned (OpenSpec.upto fnExactTurnsOfLastSpec)

/-- 'laws.FnExactCompareRatios', WHERE WHAT IT READS IS OF BULK AT MOST 1048576: true; the input reads as it did. -/
def fnExactCompareRatiosUptoRow : OpenClaim := { program := "ytcchbhcpmpgccaa", sum := "a63f328bcfdbdb54fe2fbef74158d1fa511d8e3effbea5025bac2fa0fbcd303f", func := "loop.example/g01241/laws.FnExactCompareRatios", spec := "fnExactCompareRatios", unfollowed := true, recurses := true, apart := false, narrowed := true }
def FnExactCompareRatiosUptoSaid : Prop := fnExactCompareRatiosUptoRow.holds Try.pinned (OpenSpec.upto fnExactCompareRatiosSpec)

/-- 'laws.FnTrainsTurnOfAll', WHERE WHAT IT READS IS OF BULK AT MOST 1048576: true; the input reads as it did. -/
def fnTrainsTurnOfAllUptoRow : OpenClaim := { program := "ytcchbhcpmpgccaa", sum := "a63f328bcfdbdb54fe2fbef74158d1fa511d8e3effbea5025bac2fa0fbcd303f", func := "loop.example/g01241/laws.FnTrainsTurnOfAll", spec := "fnTrainsTurnOfAll", unfollowed := true, recurses := true, apart := false, narrowed := true }
def FnTrainsTurnOfAllUptoSaid : Prop := fnTrainsTurnOfAllUptoRow.holds Try.pinned (OpenSpec.upto fnTrainsTurnOfAllSpec)

/-- 'laws.FnTrainsTurn', WHERE WHAT IT READS IS OF BULK AT MOST 1048576: true; the input reads as it did. -/
def fnTrainsTurnUptoRow : OpenClaim := { program := "ytcchbhcpmpgccaa", sum := "a63f328bcfdbdb54fe2fbef74158d1fa511d8e3effbea5025bac2fa0fbcd303f", func := "loop.example/g01241/laws.FnTrainsTurn", spec := "fnTrainsTurn", unfollowed := true, recurses := true, apart := false, narrowed := true }
def FnTrainsTurnUptoSaid : Prop := fnTrainsTurnUptoRow.holds Try.pinned (OpenSpec.upto fnTrainsTurnSpec)

end Rows
end Go.Proofs.Ytcchbhcpmpgccaa
