/-
  No cell of these rows narrows 'for every input' (looked for: loops, veiled, ifaces, maps, wideKeys, modest, calm, conditions, laid).
  DERIVED. THE GIVEN ROWS OF THIS SEAT. 12 by the template 'for every input the law returns true; each argument reads behind the call as it read before'; 0 by the template 'total and deterministic' (their statements: YtifighdccepilaaTotals.lean).
  GIVEN WITH THE SEED: the statements are not yours to turn. If you find one false, say at which input.
  Laid BY PROGRAM, IN A SANDBOX (cutbox-rows.mjs): the forced cells as the released guide's own fill.sh prints them over the translation 63cbc4c2a4e8fca3… (all of the seat's roots in one cut). By AI agents, Wed Nov 11 2026. No macro, syntax, notation, axiom, sorry.
-/
import Derived.Test.YtifighdccepilaaChecked
import GoSem.Claim
import GoSem.ClaimJoined
import GoSem.ClaimMapViews
import Derived.JoinedTies
import Derived.KernelRfl
namespace Go.Proofs.Ytifighdccepilaa
/- THE CELL 'sum', in the pinned program and in every row, IS THE sha256 OF THE DUMP (.gsa) THAT YtifighdccepilaaProg.lean LOADS. Nothing in Lean hashes anything: it is a label: what it is worth is what the hold of that sum in a sandbox is worth. -/
noncomputable def Try.pinned : Pinned := { name := "ytifighdccepilaa", sum := "63cbc4c2a4e8fca3967412c1636f125ddcb685522435a53c146b453eb022d479", checked := Try.checked }
namespace Rows
def none {H : Type} : Left H := { results := [], args := [] }

/-- 'laws.FnExactIsLeapRule': WHATEVER THE INPUT: true; the input reads as it did. -/
def fnExactIsLeapRuleSpec : ChangeSpec := { name := "fnExactIsLeapRule", fn := fun _ => fun
  | [d] => { results := [.lit (.bool true)], args := [d] }
  | _ => none }
def fnExactIsLeapRuleRow : OpenClaim := { program := "ytifighdccepilaa", sum := "63cbc4c2a4e8fca3967412c1636f125ddcb685522435a53c146b453eb022d479", func := "loop.example/g01241/laws.FnExactIsLeapRule", spec := "fnExactIsLeapRule", apart := false }
def FnExactIsLeapRuleSaid : Prop := fnExactIsLeapRuleRow.holds Try.pinned (OpenSpec.ofChange fnExactIsLeapRuleSpec)

/-- ITS FALSE NEIGHBOUR: 'it returns false'. Refute it at one input. -/
def fnExactIsLeapRuleWrong : ChangeSpec := { name := "fnExactIsLeapRule", fn := fun _ => fun
  | [d] => { results := [.lit (.bool false)], args := [d] }
  | _ => none }
def FnExactIsLeapRuleWrongFalsely : Prop := fnExactIsLeapRuleRow.holds Try.pinned (OpenSpec.ofChange fnExactIsLeapRuleWrong)

/-- 'laws.FnExactMonthsOf': WHATEVER THE INPUT: true; the input reads as it did. -/
def fnExactMonthsOfSpec : ChangeSpec := { name := "fnExactMonthsOf", fn := fun _ => fun
  | [d1, d2, d3] => { results := [.lit (.bool true)], args := [d1, d2, d3] }
  | _ => none }
def fnExactMonthsOfRow : OpenClaim := { program := "ytifighdccepilaa", sum := "63cbc4c2a4e8fca3967412c1636f125ddcb685522435a53c146b453eb022d479", func := "loop.example/g01241/laws.FnExactMonthsOf", spec := "fnExactMonthsOf", apart := false }
def FnExactMonthsOfSaid : Prop := fnExactMonthsOfRow.holds Try.pinned (OpenSpec.ofChange fnExactMonthsOfSpec)

/-- ITS FALSE NEIGHBOUR: 'it returns false'. Refute it at one input. -/
def fnExactMonthsOfWrong : ChangeSpec := { name := "fnExactMonthsOf", fn := fun _ => fun
  | [d1, d2, d3] => { results := [.lit (.bool false)], args := [d1, d2, d3] }
  | _ => none }
def FnExactMonthsOfWrongFalsely : Prop := fnExactMonthsOfRow.holds Try.pinned (OpenSpec.ofChange fnExactMonthsOfWrong)

/-- 'laws.FnExactSpreadLeaps': WHATEVER THE INPUT: true; the input reads as it did. -/
def fnExactSpreadLeapsSpec : ChangeSpec := { name := "fnExactSpreadLeaps", fn := fun _ => fun
  | [d1, d2] => { results := [.lit (.bool true)], args := [d1, d2] }
  | _ => none }
def fnExactSpreadLeapsRow : OpenClaim := { program := "ytifighdccepilaa", sum := "63cbc4c2a4e8fca3967412c1636f125ddcb685522435a53c146b453eb022d479", func := "loop.example/g01241/laws.FnExactSpreadLeaps", spec := "fnExactSpreadLeaps", apart := false }
def FnExactSpreadLeapsSaid : Prop := fnExactSpreadLeapsRow.holds Try.pinned (OpenSpec.ofChange fnExactSpreadLeapsSpec)

/-- ITS FALSE NEIGHBOUR: 'it returns false'. Refute it at one input. -/
def fnExactSpreadLeapsWrong : ChangeSpec := { name := "fnExactSpreadLeaps", fn := fun _ => fun
  | [d1, d2] => { results := [.lit (.bool false)], args := [d1, d2] }
  | _ => none }
def FnExactSpreadLeapsWrongFalsely : Prop := fnExactSpreadLeapsRow.holds Try.pinned (OpenSpec.ofChange fnExactSpreadLeapsWrong)

/-- 'laws.FnExactIsLeapYear': WHATEVER THE INPUT: true; the input reads as it did. -/
def fnExactIsLeapYearSpec : ChangeSpec := { name := "fnExactIsLeapYear", fn := fun _ => fun
  | [d1, d2] => { results := [.lit (.bool true)], args := [d1, d2] }
  | _ => none }
def fnExactIsLeapYearRow : OpenClaim := { program := "ytifighdccepilaa", sum := "63cbc4c2a4e8fca3967412c1636f125ddcb685522435a53c146b453eb022d479", func := "loop.example/g01241/laws.FnExactIsLeapYear", spec := "fnExactIsLeapYear", apart := false }
def FnExactIsLeapYearSaid : Prop := fnExactIsLeapYearRow.holds Try.pinned (OpenSpec.ofChange fnExactIsLeapYearSpec)

/-- ITS FALSE NEIGHBOUR: 'it returns false'. Refute it at one input. -/
def fnExactIsLeapYearWrong : ChangeSpec := { name := "fnExactIsLeapYear", fn := fun _ => fun
  | [d1, d2] => { results := [.lit (.bool false)], args := [d1, d2] }
  | _ => none }
def FnExactIsLeapYearWrongFalsely : Prop := fnExactIsLeapYearRow.holds Try.pinned (OpenSpec.ofChange fnExactIsLeapYearWrong)

/-- 'laws.FnExactDaysUpTo': WHATEVER THE INPUT: true; the input reads as it did. -/
def fnExactDaysUpToSpec : ChangeSpec := { name := "fnExactDaysUpTo", fn := fun _ => fun
  | [d1, d2] => { results := [.lit (.bool true)], args := [d1, d2] }
  | _ => none }
def fnExactDaysUpToRow : OpenClaim := { program := "ytifighdccepilaa", sum := "63cbc4c2a4e8fca3967412c1636f125ddcb685522435a53c146b453eb022d479", func := "loop.example/g01241/laws.FnExactDaysUpTo", spec := "fnExactDaysUpTo", apart := false }
def FnExactDaysUpToSaid : Prop := fnExactDaysUpToRow.holds Try.pinned (OpenSpec.ofChange fnExactDaysUpToSpec)

/-- ITS FALSE NEIGHBOUR: 'it returns false'. Refute it at one input. -/
def fnExactDaysUpToWrong : ChangeSpec := { name := "fnExactDaysUpTo", fn := fun _ => fun
  | [d1, d2] => { results := [.lit (.bool false)], args := [d1, d2] }
  | _ => none }
def FnExactDaysUpToWrongFalsely : Prop := fnExactDaysUpToRow.holds Try.pinned (OpenSpec.ofChange fnExactDaysUpToWrong)

/-- 'laws.FnExactCountLeaps': WHATEVER THE INPUT: true; the input reads as it did. -/
def fnExactCountLeapsSpec : ChangeSpec := { name := "fnExactCountLeaps", fn := fun _ => fun
  | [d1, d2, d3] => { results := [.lit (.bool true)], args := [d1, d2, d3] }
  | _ => none }
def fnExactCountLeapsRow : OpenClaim := { program := "ytifighdccepilaa", sum := "63cbc4c2a4e8fca3967412c1636f125ddcb685522435a53c146b453eb022d479", func := "loop.example/g01241/laws.FnExactCountLeaps", spec := "fnExactCountLeaps", apart := false }
def FnExactCountLeapsSaid : Prop := fnExactCountLeapsRow.holds Try.pinned (OpenSpec.ofChange fnExactCountLeapsSpec)

/-- ITS FALSE NEIGHBOUR: 'it returns false'. Refute it at one input. -/
def fnExactCountLeapsWrong : ChangeSpec := { name := "fnExactCountLeaps", fn := fun _ => fun
  | [d1, d2, d3] => { results := [.lit (.bool false)], args := [d1, d2, d3] }
  | _ => none }
def FnExactCountLeapsWrongFalsely : Prop := fnExactCountLeapsRow.holds Try.pinned (OpenSpec.ofChange fnExactCountLeapsWrong)

/-- 'laws.FnExactWeekdayOf': WHATEVER THE INPUT: true; the input reads as it did. -/
def fnExactWeekdayOfSpec : ChangeSpec := { name := "fnExactWeekdayOf", fn := fun _ => fun
  | [d1, d2] => { results := [.lit (.bool true)], args := [d1, d2] }
  | _ => none }
def fnExactWeekdayOfRow : OpenClaim := { program := "ytifighdccepilaa", sum := "63cbc4c2a4e8fca3967412c1636f125ddcb685522435a53c146b453eb022d479", func := "loop.example/g01241/laws.FnExactWeekdayOf", spec := "fnExactWeekdayOf", apart := false }
def FnExactWeekdayOfSaid : Prop := fnExactWeekdayOfRow.holds Try.pinned (OpenSpec.ofChange fnExactWeekdayOfSpec)

/-- ITS FALSE NEIGHBOUR: 'it returns false'. Refute it at one input. -/
def fnExactWeekdayOfWrong : ChangeSpec := { name := "fnExactWeekdayOf", fn := fun _ => fun
  | [d1, d2] => { results := [.lit (.bool false)], args := [d1, d2] }
  | _ => none }
def FnExactWeekdayOfWrongFalsely : Prop := fnExactWeekdayOfRow.holds Try.pinned (OpenSpec.ofChange fnExactWeekdayOfWrong)

/-- 'laws.FnExactNextLeap': WHATEVER THE INPUT: true; the input reads as it did. -/
def fnExactNextLeapSpec : ChangeSpec := { name := "fnExactNextLeap", fn := fun _ => fun
  | [d1, d2] => { results := [.lit (.bool true)], args := [d1, d2] }
  | _ => none }
def fnExactNextLeapRow : OpenClaim := { program := "ytifighdccepilaa", sum := "63cbc4c2a4e8fca3967412c1636f125ddcb685522435a53c146b453eb022d479", func := "loop.example/g01241/laws.FnExactNextLeap", spec := "fnExactNextLeap", apart := false }
def FnExactNextLeapSaid : Prop := fnExactNextLeapRow.holds Try.pinned (OpenSpec.ofChange fnExactNextLeapSpec)

/-- ITS FALSE NEIGHBOUR: 'it returns false'. Refute it at one input. -/
def fnExactNextLeapWrong : ChangeSpec := { name := "fnExactNextLeap", fn := fun _ => fun
  | [d1, d2] => { results := [.lit (.bool false)], args := [d1, d2] }
  | _ => none }
def FnExactNextLeapWrongFalsely : Prop := fnExactNextLeapRow.holds Try.pinned (OpenSpec.ofChange fnExactNextLeapWrong)

/-- 'laws.FnExactLeapsOfCycle': WHATEVER THE INPUT: true; the input reads as it did. -/
def fnExactLeapsOfCycleSpec : ChangeSpec := { name := "fnExactLeapsOfCycle", fn := fun _ => fun
  | [d] => { results := [.lit (.bool true)], args := [d] }
  | _ => none }
def fnExactLeapsOfCycleRow : OpenClaim := { program := "ytifighdccepilaa", sum := "63cbc4c2a4e8fca3967412c1636f125ddcb685522435a53c146b453eb022d479", func := "loop.example/g01241/laws.FnExactLeapsOfCycle", spec := "fnExactLeapsOfCycle", apart := false }
def FnExactLeapsOfCycleSaid : Prop := fnExactLeapsOfCycleRow.holds Try.pinned (OpenSpec.ofChange fnExactLeapsOfCycleSpec)

/-- ITS FALSE NEIGHBOUR: 'it returns false'. Refute it at one input. -/
def fnExactLeapsOfCycleWrong : ChangeSpec := { name := "fnExactLeapsOfCycle", fn := fun _ => fun
  | [d] => { results := [.lit (.bool false)], args := [d] }
  | _ => none }
def FnExactLeapsOfCycleWrongFalsely : Prop := fnExactLeapsOfCycleRow.holds Try.pinned (OpenSpec.ofChange fnExactLeapsOfCycleWrong)

/-- 'laws.FnExactWeekCycle': WHATEVER THE INPUT: true; the input reads as it did. -/
def fnExactWeekCycleSpec : ChangeSpec := { name := "fnExactWeekCycle", fn := fun _ => fun
  | [d] => { results := [.lit (.bool true)], args := [d] }
  | _ => none }
def fnExactWeekCycleRow : OpenClaim := { program := "ytifighdccepilaa", sum := "63cbc4c2a4e8fca3967412c1636f125ddcb685522435a53c146b453eb022d479", func := "loop.example/g01241/laws.FnExactWeekCycle", spec := "fnExactWeekCycle", apart := false }
def FnExactWeekCycleSaid : Prop := fnExactWeekCycleRow.holds Try.pinned (OpenSpec.ofChange fnExactWeekCycleSpec)

/-- ITS FALSE NEIGHBOUR: 'it returns false'. Refute it at one input. -/
def fnExactWeekCycleWrong : ChangeSpec := { name := "fnExactWeekCycle", fn := fun _ => fun
  | [d] => { results := [.lit (.bool false)], args := [d] }
  | _ => none }
def FnExactWeekCycleWrongFalsely : Prop := fnExactWeekCycleRow.holds Try.pinned (OpenSpec.ofChange fnExactWeekCycleWrong)

/-- 'laws.FnExactYearOfDay': WHATEVER THE INPUT: true; the input reads as it did. -/
def fnExactYearOfDaySpec : ChangeSpec := { name := "fnExactYearOfDay", fn := fun _ => fun
  | [d1, d2] => { results := [.lit (.bool true)], args := [d1, d2] }
  | _ => none }
def fnExactYearOfDayRow : OpenClaim := { program := "ytifighdccepilaa", sum := "63cbc4c2a4e8fca3967412c1636f125ddcb685522435a53c146b453eb022d479", func := "loop.example/g01241/laws.FnExactYearOfDay", spec := "fnExactYearOfDay", apart := false }
def FnExactYearOfDaySaid : Prop := fnExactYearOfDayRow.holds Try.pinned (OpenSpec.ofChange fnExactYearOfDaySpec)

/-- ITS FALSE NEIGHBOUR: 'it returns false'. Refute it at one input. -/
def fnExactYearOfDayWrong : ChangeSpec := { name := "fnExactYearOfDay", fn := fun _ => fun
  | [d1, d2] => { results := [.lit (.bool false)], args := [d1, d2] }
  | _ => none }
def FnExactYearOfDayWrongFalsely : Prop := fnExactYearOfDayRow.holds Try.pinned (OpenSpec.ofChange fnExactYearOfDayWrong)

/-- 'laws.FnExactBestRules': WHATEVER THE INPUT: true; the input reads as it did. -/
def fnExactBestRulesSpec : ChangeSpec := { name := "fnExactBestRules", fn := fun _ => fun
  | [d1, d2, d3] => { results := [.lit (.bool true)], args := [d1, d2, d3] }
  | _ => none }
def fnExactBestRulesRow : OpenClaim := { program := "ytifighdccepilaa", sum := "63cbc4c2a4e8fca3967412c1636f125ddcb685522435a53c146b453eb022d479", func := "loop.example/g01241/laws.FnExactBestRules", spec := "fnExactBestRules", apart := false }
def FnExactBestRulesSaid : Prop := fnExactBestRulesRow.holds Try.pinned (OpenSpec.ofChange fnExactBestRulesSpec)

/-- ITS FALSE NEIGHBOUR: 'it returns false'. Refute it at one input. -/
def fnExactBestRulesWrong : ChangeSpec := { name := "fnExactBestRules", fn := fun _ => fun
  | [d1, d2, d3] => { results := [.lit (.bool false)], args := [d1, d2, d3] }
  | _ => none }
def FnExactBestRulesWrongFalsely : Prop := fnExactBestRulesRow.holds Try.pinned (OpenSpec.ofChange fnExactBestRulesWrong)

/- THE SECOND FORM. 'bulk': how many values and letters a reading holds, each counted each time it is reached (what is shared counts as often as it is met; a slice's spare places count too). A statement '..UptoSaid' is the law's where the arguments, and the package variables that the reading takes, are together of bulk at most 1048576: NARROWER than '..Said'. Prove '..Said' where nothing that the law and all that it calls make is longer than what came in: it says more and counts as full. Else prove '..UptoSaid'. A law counts once. -/
mutual
def uptoBulk {H : Type} : DataW H → Nat
  | .lit (.string bytes) => bytes.length + 1
  | .lit _ => 1
  | .nil => 1
  | .ptr d => uptoBulk d + 1
  | .slice elems spare => uptoBulkAll elems + uptoBulkAll spare + 1
  | .agg parts => uptoBulkAll parts + 1
  | .iface _ d => uptoBulk d + 1
  | .map entries => uptoBulkEntries entries + 1
  | .held _ => 1
def uptoBulkAll {H : Type} : List (DataW H) → Nat
  | [] => 0
  | d :: r => uptoBulk d + uptoBulkAll r
def uptoBulkEntries {H : Type} : List (Lit × DataW H) → Nat
  | [] => 0
  | x :: r => uptoBulkEntry x + uptoBulkEntries r
def uptoBulkEntry {H : Type} : Lit × DataW H → Nat
  | (.string bytes, d) => bytes.length + uptoBulk d + 1
  | (_, d) => uptoBulk d + 1
 end
def uptoSmall : (H : Type) → List (DataW H) → Bool := fun _ ds => decide (uptoBulkAll ds ≤ 1048576)
def OpenSpec.upto (s : _root_.Go.ChangeSpec) : _root_.Go.OpenSpec := { _root_.Go.OpenSpec.ofChange s with cond := some uptoSmall }

/-- 'laws.FnExactIsLeapRule', WHERE WHAT IT READS IS OF BULK AT MOST 1048576: true; the input reads as it did. -/
def fnExactIsLeapRuleUptoRow : OpenClaim := { program := "ytifighdccepilaa", sum := "63cbc4c2a4e8fca3967412c1636f125ddcb685522435a53c146b453eb022d479", func := "loop.example/g01241/laws.FnExactIsLeapRule", spec := "fnExactIsLeapRule", apart := false, narrowed := true }
def FnExactIsLeapRuleUptoSaid : Prop := fnExactIsLeapRuleUptoRow.holds Try.pinned (OpenSpec.upto fnExactIsLeapRuleSpec)

/-- 'laws.FnExactMonthsOf', WHERE WHAT IT READS IS OF BULK AT MOST 1048576: true; the input reads as it did. -/
def fnExactMonthsOfUptoRow : OpenClaim := { program := "ytifighdccepilaa", sum := "63cbc4c2a4e8fca3967412c1636f125ddcb685522435a53c146b453eb022d479", func := "loop.example/g01241/laws.FnExactMonthsOf", spec := "fnExactMonthsOf", apart := false, narrowed := true }
def FnExactMonthsOfUptoSaid : Prop := fnExactMonthsOfUptoRow.holds Try.pinned (OpenSpec.upto fnExactMonthsOfSpec)

/-- 'laws.FnExactSpreadLeaps', WHERE WHAT IT READS IS OF BULK AT MOST 1048576: true; the input reads as it did. -/
def fnExactSpreadLeapsUptoRow : OpenClaim := { program := "ytifighdccepilaa", sum := "63cbc4c2a4e8fca3967412c1636f125ddcb685522435a53c146b453eb022d479", func := "loop.example/g01241/laws.FnExactSpreadLeaps", spec := "fnExactSpreadLeaps", apart := false, narrowed := true }
def FnExactSpreadLeapsUptoSaid : Prop := fnExactSpreadLeapsUptoRow.holds Try.pinned (OpenSpec.upto fnExactSpreadLeapsSpec)

/-- 'laws.FnExactIsLeapYear', WHERE WHAT IT READS IS OF BULK AT MOST 1048576: true; the input reads as it did. -/
def fnExactIsLeapYearUptoRow : OpenClaim := { program := "ytifighdccepilaa", sum := "63cbc4c2a4e8fca3967412c1636f125ddcb685522435a53c146b453eb022d479", func := "loop.example/g01241/laws.FnExactIsLeapYear", spec := "fnExactIsLeapYear", apart := false, narrowed := true }
def FnExactIsLeapYearUptoSaid : Prop := fnExactIsLeapYearUptoRow.holds Try.pinned (OpenSpec.upto fnExactIsLeapYearSpec)

/-- 'laws.FnExactDaysUpTo', WHERE WHAT IT READS IS OF BULK AT MOST 1048576: true; the input reads as it did. -/
def fnExactDaysUpToUptoRow : OpenClaim := { program := "ytifighdccepilaa", sum := "63cbc4c2a4e8fca3967412c1636f125ddcb685522435a53c146b453eb022d479", func := "loop.example/g01241/laws.FnExactDaysUpTo", spec := "fnExactDaysUpTo", apart := false, narrowed := true }
def FnExactDaysUpToUptoSaid : Prop := fnExactDaysUpToUptoRow.holds Try.pinned (OpenSpec.upto fnExactDaysUpToSpec)

/-- 'laws.FnExactCountLeaps', WHERE WHAT IT READS IS OF BULK AT MOST 1048576: true; the input reads as it did. -/
def fnExactCountLeapsUptoRow : OpenClaim := { program := "ytifighdccepilaa", sum := "63cbc4c2a4e8fca3967412c1636f125ddcb685522435a53c146b453eb022d479", func := "loop.example/g01241/laws.FnExactCountLeaps", spec := "fnExactCountLeaps", apart := false, narrowed := true }
def FnExactCountLeapsUptoSaid : Prop := fnExactCountLeapsUptoRow.holds Try.pinned (OpenSpec.upto fnExactCountLeapsSpec)

/-- 'laws.FnExactWeekdayOf', WHERE WHAT IT READS IS OF BULK AT MOST 1048576: true; the input reads as it did. -/
def fnExactWeekdayOfUptoRow : OpenClaim := { program := "ytifighdccepilaa", sum := "63cbc4c2a4e8fca3967412c1636f125ddcb685522435a53c146b453eb022d479", func := "loop.example/g01241/laws.FnExactWeekdayOf", spec := "fnExactWeekdayOf", apart := false, narrowed := true }
def FnExactWeekdayOfUptoSaid : Prop := fnExactWeekdayOfUptoRow.holds Try.pinned (OpenSpec.upto fnExactWeekdayOfSpec)

/-- 'laws.FnExactNextLeap', WHERE WHAT IT READS IS OF BULK AT MOST 1048576: true; the input reads as it did. -/
def fnExactNextLeapUptoRow : OpenClaim := { program := "ytifighdccepilaa", sum := "63cbc4c2a4e8fca3967412c1636f125ddcb685522435a53c146b453eb022d479", func := "loop.example/g01241/laws.FnExactNextLeap", spec := "fnExactNextLeap", apart := false, narrowed := true }
def FnExactNextLeapUptoSaid : Prop := fnExactNextLeapUptoRow.holds Try.pinned (OpenSpec.upto fnExactNextLeapSpec)

/-- 'laws.FnExactLeapsOfCycle', WHERE WHAT IT READS IS OF BULK AT MOST 1048576: true; the input reads as it did. -/
def fnExactLeapsOfCycleUptoRow : OpenClaim := { program := "ytifighdccepilaa", sum := "63cbc4c2a4e8fca3967412c1636f125ddcb685522435a53c146b453eb022d479", func := "loop.example/g01241/laws.FnExactLeapsOfCycle", spec := "fnExactLeapsOfCycle", apart := false, narrowed := true }
def FnExactLeapsOfCycleUptoSaid : Prop := fnExactLeapsOfCycleUptoRow.holds Try.pinned (OpenSpec.upto fnExactLeapsOfCycleSpec)

/-- 'laws.FnExactWeekCycle', WHERE WHAT IT READS IS OF BULK AT MOST 1048576: true; the input reads as it did. -/
def fnExactWeekCycleUptoRow : OpenClaim := { program := "ytifighdccepilaa", sum := "63cbc4c2a4e8fca3967412c1636f125ddcb685522435a53c146b453eb022d479", func := "loop.example/g01241/laws.FnExactWeekCycle", spec := "fnExactWeekCycle", apart := false, narrowed := true }
def FnExactWeekCycleUptoSaid : Prop := fnExactWeekCycleUptoRow.holds Try.pinned (OpenSpec.upto fnExactWeekCycleSpec)

/-- 'laws.FnExactYearOfDay', WHERE WHAT IT READS IS OF BULK AT MOST 1048576: true; the input reads as it did. -/
def fnExactYearOfDayUptoRow : OpenClaim := { program := "ytifighdccepilaa", sum := "63cbc4c2a4e8fca3967412c1636f125ddcb685522435a53c146b453eb022d479", func := "loop.example/g01241/laws.FnExactYearOfDay", spec := "fnExactYearOfDay", apart := false, narrowed := true }
def FnExactYearOfDayUptoSaid : Prop := fnExactYearOfDayUptoRow.holds Try.pinned (OpenSpec.upto fnExactYearOfDaySpec)

/-- 'laws.FnExactBestRules', WHERE WHAT IT READS IS OF BULK AT MOST 1048576: true; the input reads as it did. -/
def fnExactBestRulesUptoRow : OpenClaim := { program := "ytifighdccepilaa", sum := "63cbc4c2a4e8fca3967412c1636f125ddcb685522435a53c146b453eb022d479", func := "loop.example/g01241/laws.FnExactBestRules", spec := "fnExactBestRules", apart := false, narrowed := true }
def FnExactBestRulesUptoSaid : Prop := fnExactBestRulesUptoRow.holds Try.pinned (OpenSpec.upto fnExactBestRulesSpec)

end Rows
end Go.Proofs.Ytifighdccepilaa
