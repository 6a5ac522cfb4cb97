/-
  No cell of these rows narrows 'for every input' (looked for: loops, veiled, ifaces, maps, wideKeys, modest, calm, conditions, laid).
  DERIVED. THE GIVEN ROWS OF THIS SEAT. 10 by the template 'for every input the law returns true; each argument reads behind the call as it read before'; 0 by the template 'total and deterministic' (their statements: YtmhnbjoepgdiaaaTotals.lean).
  GIVEN WITH THE SEED: the statements are not yours to turn. If you find one false, say at which input.
  Laid BY PROGRAM, IN A SANDBOX (cutbox-rows.mjs): the forced cells as the released guide's own fill.sh prints them over the translation a20abca0af5b1e8f… (all of the seat's roots in one cut). By AI agents, Wed Nov 11 2026. No macro, syntax, notation, axiom, sorry.
-/
import Derived.Test.YtmhnbjoepgdiaaaChecked
import GoSem.Claim
import GoSem.ClaimJoined
import GoSem.ClaimMapViews
import Derived.JoinedTies
import Derived.KernelRfl
namespace Go.Proofs.Ytmhnbjoepgdiaaa
/- THE CELL 'sum', in the pinned program and in every row, IS THE sha256 OF THE DUMP (.gsa) THAT YtmhnbjoepgdiaaaProg.lean LOADS. Nothing in Lean hashes anything: it is a label: what it is worth is what the hold of that sum in a sandbox is worth. -/
noncomputable def Try.pinned : Pinned := { name := "ytmhnbjoepgdiaaa", sum := "a20abca0af5b1e8f4865cff7e6f6cb94d2c90d74df9e658e5bb55d1bb4b6c681", checked := Try.checked }
namespace Rows
def none {H : Type} : Left H := { results := [], args := [] }

/-- 'laws.FnExactIsTune': WHATEVER THE INPUT: true; the input reads as it did. -/
def fnExactIsTuneSpec : ChangeSpec := { name := "fnExactIsTune", fn := fun _ => fun
  | [d] => { results := [.lit (.bool true)], args := [d] }
  | _ => none }
def fnExactIsTuneRow : OpenClaim := { program := "ytmhnbjoepgdiaaa", sum := "a20abca0af5b1e8f4865cff7e6f6cb94d2c90d74df9e658e5bb55d1bb4b6c681", func := "loop.example/g01241/laws.FnExactIsTune", spec := "fnExactIsTune", unfollowed := true, recurses := true, apart := false }
def FnExactIsTuneSaid : Prop := fnExactIsTuneRow.holds Try.pinned (OpenSpec.ofChange fnExactIsTuneSpec)

/-- ITS FALSE NEIGHBOUR: 'it returns false'. Refute it at one input. -/
def fnExactIsTuneWrong : ChangeSpec := { name := "fnExactIsTune", fn := fun _ => fun
  | [d] => { results := [.lit (.bool false)], args := [d] }
  | _ => none }
def FnExactIsTuneWrongFalsely : Prop := fnExactIsTuneRow.holds Try.pinned (OpenSpec.ofChange fnExactIsTuneWrong)

/-- 'laws.FnExactHoursUntilSame': WHATEVER THE INPUT: true; the input reads as it did. -/
def fnExactHoursUntilSameSpec : ChangeSpec := { name := "fnExactHoursUntilSame", fn := fun _ => fun
  | [d] => { results := [.lit (.bool true)], args := [d] }
  | _ => none }
def fnExactHoursUntilSameRow : OpenClaim := { program := "ytmhnbjoepgdiaaa", sum := "a20abca0af5b1e8f4865cff7e6f6cb94d2c90d74df9e658e5bb55d1bb4b6c681", func := "loop.example/g01241/laws.FnExactHoursUntilSame", spec := "fnExactHoursUntilSame", unfollowed := true, recurses := true, apart := false }
def FnExactHoursUntilSameSaid : Prop := fnExactHoursUntilSameRow.holds Try.pinned (OpenSpec.ofChange fnExactHoursUntilSameSpec)

/-- ITS FALSE NEIGHBOUR: 'it returns false'. Refute it at one input. -/
def fnExactHoursUntilSameWrong : ChangeSpec := { name := "fnExactHoursUntilSame", fn := fun _ => fun
  | [d] => { results := [.lit (.bool false)], args := [d] }
  | _ => none }
def FnExactHoursUntilSameWrongFalsely : Prop := fnExactHoursUntilSameRow.holds Try.pinned (OpenSpec.ofChange fnExactHoursUntilSameWrong)

/-- 'laws.FnExactStandsAt': WHATEVER THE INPUT: true; the input reads as it did. -/
def fnExactStandsAtSpec : ChangeSpec := { name := "fnExactStandsAt", fn := fun _ => fun
  | [d1, d2] => { results := [.lit (.bool true)], args := [d1, d2] }
  | _ => none }
def fnExactStandsAtRow : OpenClaim := { program := "ytmhnbjoepgdiaaa", sum := "a20abca0af5b1e8f4865cff7e6f6cb94d2c90d74df9e658e5bb55d1bb4b6c681", func := "loop.example/g01241/laws.FnExactStandsAt", spec := "fnExactStandsAt", unfollowed := true, recurses := true, apart := false }
def FnExactStandsAtSaid : Prop := fnExactStandsAtRow.holds Try.pinned (OpenSpec.ofChange fnExactStandsAtSpec)

/-- ITS FALSE NEIGHBOUR: 'it returns false'. Refute it at one input. -/
def fnExactStandsAtWrong : ChangeSpec := { name := "fnExactStandsAt", fn := fun _ => fun
  | [d1, d2] => { results := [.lit (.bool false)], args := [d1, d2] }
  | _ => none }
def FnExactStandsAtWrongFalsely : Prop := fnExactStandsAtRow.holds Try.pinned (OpenSpec.ofChange fnExactStandsAtWrong)

/-- 'laws.FnExactNotesUpTo': WHATEVER THE INPUT: true; the input reads as it did. -/
def fnExactNotesUpToSpec : ChangeSpec := { name := "fnExactNotesUpTo", fn := fun _ => fun
  | [d1, d2] => { results := [.lit (.bool true)], args := [d1, d2] }
  | _ => none }
def fnExactNotesUpToRow : OpenClaim := { program := "ytmhnbjoepgdiaaa", sum := "a20abca0af5b1e8f4865cff7e6f6cb94d2c90d74df9e658e5bb55d1bb4b6c681", func := "loop.example/g01241/laws.FnExactNotesUpTo", spec := "fnExactNotesUpTo", unfollowed := true, recurses := true, apart := false }
def FnExactNotesUpToSaid : Prop := fnExactNotesUpToRow.holds Try.pinned (OpenSpec.ofChange fnExactNotesUpToSpec)

/-- ITS FALSE NEIGHBOUR: 'it returns false'. Refute it at one input. -/
def fnExactNotesUpToWrong : ChangeSpec := { name := "fnExactNotesUpTo", fn := fun _ => fun
  | [d1, d2] => { results := [.lit (.bool false)], args := [d1, d2] }
  | _ => none }
def FnExactNotesUpToWrongFalsely : Prop := fnExactNotesUpToRow.holds Try.pinned (OpenSpec.ofChange fnExactNotesUpToWrong)

/-- 'laws.FnExactPlayedAt': WHATEVER THE INPUT: true; the input reads as it did. -/
def fnExactPlayedAtSpec : ChangeSpec := { name := "fnExactPlayedAt", fn := fun _ => fun
  | [d1, d2] => { results := [.lit (.bool true)], args := [d1, d2] }
  | _ => none }
def fnExactPlayedAtRow : OpenClaim := { program := "ytmhnbjoepgdiaaa", sum := "a20abca0af5b1e8f4865cff7e6f6cb94d2c90d74df9e658e5bb55d1bb4b6c681", func := "loop.example/g01241/laws.FnExactPlayedAt", spec := "fnExactPlayedAt", unfollowed := true, recurses := true, apart := false }
def FnExactPlayedAtSaid : Prop := fnExactPlayedAtRow.holds Try.pinned (OpenSpec.ofChange fnExactPlayedAtSpec)

/-- ITS FALSE NEIGHBOUR: 'it returns false'. Refute it at one input. -/
def fnExactPlayedAtWrong : ChangeSpec := { name := "fnExactPlayedAt", fn := fun _ => fun
  | [d1, d2] => { results := [.lit (.bool false)], args := [d1, d2] }
  | _ => none }
def FnExactPlayedAtWrongFalsely : Prop := fnExactPlayedAtRow.holds Try.pinned (OpenSpec.ofChange fnExactPlayedAtWrong)

/-- 'laws.FnExactMirrorTune': WHATEVER THE INPUT: true; the input reads as it did. -/
def fnExactMirrorTuneSpec : ChangeSpec := { name := "fnExactMirrorTune", fn := fun _ => fun
  | [d] => { results := [.lit (.bool true)], args := [d] }
  | _ => none }
def fnExactMirrorTuneRow : OpenClaim := { program := "ytmhnbjoepgdiaaa", sum := "a20abca0af5b1e8f4865cff7e6f6cb94d2c90d74df9e658e5bb55d1bb4b6c681", func := "loop.example/g01241/laws.FnExactMirrorTune", spec := "fnExactMirrorTune", unfollowed := true, recurses := true, apart := false }
def FnExactMirrorTuneSaid : Prop := fnExactMirrorTuneRow.holds Try.pinned (OpenSpec.ofChange fnExactMirrorTuneSpec)

/-- ITS FALSE NEIGHBOUR: 'it returns false'. Refute it at one input. -/
def fnExactMirrorTuneWrong : ChangeSpec := { name := "fnExactMirrorTune", fn := fun _ => fun
  | [d] => { results := [.lit (.bool false)], args := [d] }
  | _ => none }
def FnExactMirrorTuneWrongFalsely : Prop := fnExactMirrorTuneRow.holds Try.pinned (OpenSpec.ofChange fnExactMirrorTuneWrong)

/-- 'laws.FnExactTurnTune': WHATEVER THE INPUT: true; the input reads as it did. -/
def fnExactTurnTuneSpec : ChangeSpec := { name := "fnExactTurnTune", fn := fun _ => fun
  | [d1, d2] => { results := [.lit (.bool true)], args := [d1, d2] }
  | _ => none }
def fnExactTurnTuneRow : OpenClaim := { program := "ytmhnbjoepgdiaaa", sum := "a20abca0af5b1e8f4865cff7e6f6cb94d2c90d74df9e658e5bb55d1bb4b6c681", func := "loop.example/g01241/laws.FnExactTurnTune", spec := "fnExactTurnTune", unfollowed := true, recurses := true, apart := false }
def FnExactTurnTuneSaid : Prop := fnExactTurnTuneRow.holds Try.pinned (OpenSpec.ofChange fnExactTurnTuneSpec)

/-- ITS FALSE NEIGHBOUR: 'it returns false'. Refute it at one input. -/
def fnExactTurnTuneWrong : ChangeSpec := { name := "fnExactTurnTune", fn := fun _ => fun
  | [d1, d2] => { results := [.lit (.bool false)], args := [d1, d2] }
  | _ => none }
def FnExactTurnTuneWrongFalsely : Prop := fnExactTurnTuneRow.holds Try.pinned (OpenSpec.ofChange fnExactTurnTuneWrong)

/-- 'laws.FnExactIsSameTune': WHATEVER THE INPUT: true; the input reads as it did. -/
def fnExactIsSameTuneSpec : ChangeSpec := { name := "fnExactIsSameTune", fn := fun _ => fun
  | [d1, d2] => { results := [.lit (.bool true)], args := [d1, d2] }
  | _ => none }
def fnExactIsSameTuneRow : OpenClaim := { program := "ytmhnbjoepgdiaaa", sum := "a20abca0af5b1e8f4865cff7e6f6cb94d2c90d74df9e658e5bb55d1bb4b6c681", func := "loop.example/g01241/laws.FnExactIsSameTune", spec := "fnExactIsSameTune", unfollowed := true, recurses := true, apart := false }
def FnExactIsSameTuneSaid : Prop := fnExactIsSameTuneRow.holds Try.pinned (OpenSpec.ofChange fnExactIsSameTuneSpec)

/-- ITS FALSE NEIGHBOUR: 'it returns false'. Refute it at one input. -/
def fnExactIsSameTuneWrong : ChangeSpec := { name := "fnExactIsSameTune", fn := fun _ => fun
  | [d1, d2] => { results := [.lit (.bool false)], args := [d1, d2] }
  | _ => none }
def FnExactIsSameTuneWrongFalsely : Prop := fnExactIsSameTuneRow.holds Try.pinned (OpenSpec.ofChange fnExactIsSameTuneWrong)

/-- 'laws.FnExactPhrasesOf': WHATEVER THE INPUT: true; the input reads as it did. -/
def fnExactPhrasesOfSpec : ChangeSpec := { name := "fnExactPhrasesOf", fn := fun _ => fun
  | [d1, d2] => { results := [.lit (.bool true)], args := [d1, d2] }
  | _ => none }
def fnExactPhrasesOfRow : OpenClaim := { program := "ytmhnbjoepgdiaaa", sum := "a20abca0af5b1e8f4865cff7e6f6cb94d2c90d74df9e658e5bb55d1bb4b6c681", func := "loop.example/g01241/laws.FnExactPhrasesOf", spec := "fnExactPhrasesOf", unfollowed := true, recurses := true, apart := false }
def FnExactPhrasesOfSaid : Prop := fnExactPhrasesOfRow.holds Try.pinned (OpenSpec.ofChange fnExactPhrasesOfSpec)

/-- ITS FALSE NEIGHBOUR: 'it returns false'. Refute it at one input. -/
def fnExactPhrasesOfWrong : ChangeSpec := { name := "fnExactPhrasesOf", fn := fun _ => fun
  | [d1, d2] => { results := [.lit (.bool false)], args := [d1, d2] }
  | _ => none }
def FnExactPhrasesOfWrongFalsely : Prop := fnExactPhrasesOfRow.holds Try.pinned (OpenSpec.ofChange fnExactPhrasesOfWrong)

/-- 'laws.FnExactTuneText': WHATEVER THE INPUT: true; the input reads as it did. -/
def fnExactTuneTextSpec : ChangeSpec := { name := "fnExactTuneText", fn := fun _ => fun
  | [d] => { results := [.lit (.bool true)], args := [d] }
  | _ => none }
def fnExactTuneTextRow : OpenClaim := { program := "ytmhnbjoepgdiaaa", sum := "a20abca0af5b1e8f4865cff7e6f6cb94d2c90d74df9e658e5bb55d1bb4b6c681", func := "loop.example/g01241/laws.FnExactTuneText", spec := "fnExactTuneText", inPlace := ["internal/abi.NoEscape", "internal/bytealg.MakeNoZero"], unfollowed := true, recurses := true, apart := false }
def FnExactTuneTextSaid : Prop := fnExactTuneTextRow.holds Try.pinned (OpenSpec.ofChange fnExactTuneTextSpec)

/-- ITS FALSE NEIGHBOUR: 'it returns false'. Refute it at one input. -/
def fnExactTuneTextWrong : ChangeSpec := { name := "fnExactTuneText", fn := fun _ => fun
  | [d] => { results := [.lit (.bool false)], args := [d] }
  | _ => none }
def FnExactTuneTextWrongFalsely : Prop := fnExactTuneTextRow.holds Try.pinned (OpenSpec.ofChange fnExactTuneTextWrong)

/- THE SECOND FORM. 'bulk': how many values and letters a reading holds, each counted each time it is reached (what is shared counts as often as it is met; a slice's spare places count too). A statement '..UptoSaid' is the law's where the arguments, and the package variables that the reading takes, are together of bulk at most 1048576: NARROWER than '..Said'. Prove '..Said' where nothing that the law and all that it calls make is longer than what came in: it says more and counts as full. Else prove '..UptoSaid'. A law counts once. -/
mutual
def uptoBulk {H : Type} : DataW H → Nat
  | .lit (.string bytes) => bytes.length + 1
  | .lit _ => 1
  | .nil => 1
  | .ptr d => uptoBulk d + 1
  | .slice elems spare => uptoBulkAll elems + uptoBulkAll spare + 1
  | .agg parts => uptoBulkAll parts + 1
  | .iface _ d => uptoBulk d + 1
  | .map entries => uptoBulkEntries entries + 1
  | .held _ => 1
def uptoBulkAll {H : Type} : List (DataW H) → Nat
  | [] => 0
  | d :: r => uptoBulk d + uptoBulkAll r
def uptoBulkEntries {H : Type} : List (Lit × DataW H) → Nat
  | [] => 0
  | x :: r => uptoBulkEntry x + uptoBulkEntries r
def uptoBulkEntry {H : Type} : Lit × DataW H → Nat
  | (.string bytes, d) => bytes.length + uptoBulk d + 1
  | (_, d) => uptoBulk d + 1
 end
def uptoSmall : (H : Type) → List (DataW H) → Bool := fun _ ds => decide (uptoBulkAll ds ≤ 1048576)
def OpenSpec.upto (s : _root_.Go.ChangeSpec) : _root_.Go.OpenSpec := { _root_.Go.OpenSpec.ofChange s with cond := some uptoSmall }

/-- 'laws.FnExactIsTune', WHERE WHAT IT READS IS OF BULK AT MOST 1048576: true; the input reads as it did. -/
def fnExactIsTuneUptoRow : OpenClaim := { program := "ytmhnbjoepgdiaaa", sum := "a20abca0af5b1e8f4865cff7e6f6cb94d2c90d74df9e658e5bb55d1bb4b6c681", func := "loop.example/g01241/laws.FnExactIsTune", spec := "fnExactIsTune", unfollowed := true, recurses := true, apart := false, narrowed := true }
def FnExactIsTuneUptoSaid : Prop := fnExactIsTuneUptoRow.holds Try.pinned (OpenSpec.upto fnExactIsTuneSpec)

/-- 'laws.FnExactHoursUntilSame', WHERE WHAT IT READS IS OF BULK AT MOST 1048576: true; the input reads as it did. -/
def fnExactHoursUntilSameUptoRow : OpenClaim := { program := "ytmhnbjoepgdiaaa", sum := "a20abca0af5b1e8f4865cff7e6f6cb94d2c90d74df9e658e5bb55d1bb4b6c681", func := "loop.example/g01241/laws.FnExactHoursUntilSame", spec := "fnExactHoursUntilSame", unfollowed := true, recurses := true, apart := false, narrowed := true }
def FnExactHoursUntilSameUptoSaid : Prop := fnExactHoursUntilSameUptoRow.holds Try.pinned (OpenSpec.upto fnExactHoursUntilSameSpec)

/-- 'laws.FnExactStandsAt', WHERE WHAT IT READS IS OF BULK AT MOST 1048576: true; the input reads as it did. -/
def fnExactStandsAtUptoRow : OpenClaim := { program := "ytmhnbjoepgdiaaa", sum := "a20abca0af5b1e8f4865cff7e6f6cb94d2c90d74df9e658e5bb55d1bb4b6c681", func := "loop.example/g01241/laws.FnExactStandsAt", spec := "fnExactStandsAt", unfollowed := true, recurses := true, apart := false, narrowed := true }
def FnExactStandsAtUptoSaid : Prop := fnExactStandsAtUptoRow.holds Try.pinned (OpenSpec.upto fnExactStandsAtSpec)

/-- 'laws.FnExactNotesUpTo', WHERE WHAT IT READS IS OF BULK AT MOST 1048576: true; the input reads as it did. -/
def fnExactNotesUpToUptoRow : OpenClaim := { program := "ytmhnbjoepgdiaaa", sum := "a20abca0af5b1e8f4865cff7e6f6cb94d2c90d74df9e658e5bb55d1bb4b6c681", func := "loop.example/g01241/laws.FnExactNotesUpTo", spec := "fnExactNotesUpTo", unfollowed := true, recurses := true, apart := false, narrowed := true }
def FnExactNotesUpToUptoSaid : Prop := fnExactNotesUpToUptoRow.holds Try.pinned (OpenSpec.upto fnExactNotesUpToSpec)

/-- 'laws.FnExactPlayedAt', WHERE WHAT IT READS IS OF BULK AT MOST 1048576: true; the input reads as it did. -/
def fnExactPlayedAtUptoRow : OpenClaim := { program := "ytmhnbjoepgdiaaa", sum := "a20abca0af5b1e8f4865cff7e6f6cb94d2c90d74df9e658e5bb55d1bb4b6c681", func := "loop.example/g01241/laws.FnExactPlayedAt", spec := "fnExactPlayedAt", unfollowed := true, recurses := true, apart := false, narrowed := true }
def FnExactPlayedAtUptoSaid : Prop := fnExactPlayedAtUptoRow.holds Try.pinned (OpenSpec.upto fnExactPlayedAtSpec)

/-- 'laws.FnExactMirrorTune', WHERE WHAT IT READS IS OF BULK AT MOST 1048576: true; the input reads as it did. -/
def fnExactMirrorTuneUptoRow : OpenClaim := { program := "ytmhnbjoepgdiaaa", sum := "a20abca0af5b1e8f4865cff7e6f6cb94d2c90d74df9e658e5bb55d1bb4b6c681", func := "loop.example/g01241/laws.FnExactMirrorTune", spec := "fnExactMirrorTune", unfollowed := true, recurses := true, apart := false, narrowed := true }
def FnExactMirrorTuneUptoSaid : Prop := fnExactMirrorTuneUptoRow.holds Try.pinned (OpenSpec.upto fnExactMirrorTuneSpec)

/-- 'laws.FnExactTurnTune', WHERE WHAT IT READS IS OF BULK AT MOST 1048576: true; the input reads as it did. -/
def fnExactTurnTuneUptoRow : OpenClaim := { program := "ytmhnbjoepgdiaaa", sum := "a20abca0af5b1e8f4865cff7e6f6cb94d2c90d74df9e658e5bb55d1bb4b6c681", func := "loop.example/g01241/laws.FnExactTurnTune", spec := "fnExactTurnTune", unfollowed := true, recurses := true, apart := false, narrowed := true }
def FnExactTurnTuneUptoSaid : Prop := fnExactTurnTuneUptoRow.holds Try.pinned (OpenSpec.upto fnExactTurnTuneSpec)

/-- 'laws.FnExactIsSameTune', WHERE WHAT IT READS IS OF BULK AT MOST 1048576: true; the input reads as it did. -/
def fnExactIsSameTuneUptoRow : OpenClaim := { program := "ytmhnbjoepgdiaaa", sum := "a20abca0af5b1e8f4865cff7e6f6cb94d2c90d74df9e658e5bb55d1bb4b6c681", func := "loop.example/g01241/laws.FnExactIsSameTune", spec := "fnExactIsSameTune", unfollowed := true, recurses := true, apart := false, narrowed := true }
def FnExactIsSameTuneUptoSaid : Prop := fnExactIsSameTuneUptoRow.holds Try.pinned (OpenSpec.upto fnExactIsSameTuneSpec)

/-- 'laws.FnExactPhrasesOf', WHERE WHAT IT READS IS OF BULK AT MOST 1048576: true; the input reads as it did. -/
def fnExactPhrasesOfUptoRow : OpenClaim := { program := "ytmhnbjoepgdiaaa", sum := "a20abca0af5b1e8f4865cff7e6f6cb94d2c90d74df9e658e5bb55d1bb4b6c681", func := "loop.example/g01241/laws.FnExactPhrasesOf", spec := "fnExactPhrasesOf", unfollowed := true, recurses := true, apart := false, narrowed := true }
def FnExactPhrasesOfUptoSaid : Prop := fnExactPhrasesOfUptoRow.holds Try.pinned (OpenSpec.upto fnExactPhrasesOfSpec)

/-- 'laws.FnExactTuneText', WHERE WHAT IT READS IS OF BULK AT MOST 1048576: true; the input reads as it did. -/
def fnExactTuneTextUptoRow : OpenClaim := { program := "ytmhnbjoepgdiaaa", sum := "a20abca0af5b1e8f4865cff7e6f6cb94d2c90d74df9e658e5bb55d1bb4b6c681", func := "loop.example/g01241/laws.FnExactTuneText", spec := "fnExactTuneText", inPlace := ["internal/abi.NoEscape", "internal/bytealg.MakeNoZero"], unfollowed := true, recurses := true, apart := false, narrowed := true }
def FnExactTuneTextUptoSaid : Prop := fnExactTuneTextUptoRow.holds Try.pinned (OpenSpec.upto fnExactTuneTextSpec)

end Rows
end Go.Proofs.Ytmhnbjoepgdiaaa
