/-
  No cell of these rows narrows 'for every input' (looked for: loops, veiled, ifaces, maps, wideKeys, modest, calm, conditions, laid).
  DERIVED. THE GIVEN ROWS OF THIS SEAT. 8 by the template 'for every input the law returns true; each argument reads behind the call as it read before'; 0 by the template 'total and deterministic' (their statements: YtkmakbjkapohlaaTotals.lean).
  GIVEN WITH THE SEED: the statements are not yours to turn. If you find one false, say at which input.
  Laid BY PROGRAM, IN A SANDBOX (cutbox-rows.mjs): the forced cells as the released guide's own fill.sh prints them over the translation 9a95865a152f7210… (all of the seat's roots in one cut). By AI agents, Wed Nov 11 2026. No macro, syntax, notation, axiom, sorry.
-/
import Derived.Test.YtkmakbjkapohlaaChecked
import GoSem.Claim
import GoSem.ClaimJoined
import GoSem.ClaimMapViews
import Derived.JoinedTies
import Derived.KernelRfl
namespace Go.Proofs.Ytkmakbjkapohlaa
/- THE CELL 'sum', in the pinned program and in every row, IS THE sha256 OF THE DUMP (.gsa) THAT YtkmakbjkapohlaaProg.lean LOADS. Nothing in Lean hashes anything: it is a label: what it is worth is what the hold of that sum in a sandbox is worth. -/
noncomputable def Try.pinned : Pinned := { name := "ytkmakbjkapohlaa", sum := "9a95865a152f7210e03d1f8a7631a5a56b63e6cee682a71cc11ffaea59b076b2", checked := Try.checked }
namespace Rows
def none {H : Type} : Left H := { results := [], args := [] }

/-- 'laws.FnExactOffBy': WHATEVER THE INPUT: true; the input reads as it did. -/
def fnExactOffBySpec : ChangeSpec := { name := "fnExactOffBy", fn := fun _ => fun
  | [d1, d2, d3] => { results := [.lit (.bool true)], args := [d1, d2, d3] }
  | _ => none }
def fnExactOffByRow : OpenClaim := { program := "ytkmakbjkapohlaa", sum := "9a95865a152f7210e03d1f8a7631a5a56b63e6cee682a71cc11ffaea59b076b2", func := "loop.example/g01241/laws.FnExactOffBy", spec := "fnExactOffBy", apart := false }
def FnExactOffBySaid : Prop := fnExactOffByRow.holds Try.pinned (OpenSpec.ofChange fnExactOffBySpec)

/-- ITS FALSE NEIGHBOUR: 'it returns false'. Refute it at one input. -/
def fnExactOffByWrong : ChangeSpec := { name := "fnExactOffBy", fn := fun _ => fun
  | [d1, d2, d3] => { results := [.lit (.bool false)], args := [d1, d2, d3] }
  | _ => none }
def FnExactOffByWrongFalsely : Prop := fnExactOffByRow.holds Try.pinned (OpenSpec.ofChange fnExactOffByWrong)

/-- 'laws.FnExactYearsForDay': WHATEVER THE INPUT: true; the input reads as it did. -/
def fnExactYearsForDaySpec : ChangeSpec := { name := "fnExactYearsForDay", fn := fun _ => fun
  | [d1, d2, d3] => { results := [.lit (.bool true)], args := [d1, d2, d3] }
  | _ => none }
def fnExactYearsForDayRow : OpenClaim := { program := "ytkmakbjkapohlaa", sum := "9a95865a152f7210e03d1f8a7631a5a56b63e6cee682a71cc11ffaea59b076b2", func := "loop.example/g01241/laws.FnExactYearsForDay", spec := "fnExactYearsForDay", apart := false }
def FnExactYearsForDaySaid : Prop := fnExactYearsForDayRow.holds Try.pinned (OpenSpec.ofChange fnExactYearsForDaySpec)

/-- ITS FALSE NEIGHBOUR: 'it returns false'. Refute it at one input. -/
def fnExactYearsForDayWrong : ChangeSpec := { name := "fnExactYearsForDay", fn := fun _ => fun
  | [d1, d2, d3] => { results := [.lit (.bool false)], args := [d1, d2, d3] }
  | _ => none }
def FnExactYearsForDayWrongFalsely : Prop := fnExactYearsForDayRow.holds Try.pinned (OpenSpec.ofChange fnExactYearsForDayWrong)

/-- 'laws.FnLeapsCountedOfAll': WHATEVER THE INPUT: true; the input reads as it did. -/
def fnLeapsCountedOfAllSpec : ChangeSpec := { name := "fnLeapsCountedOfAll", fn := fun _ => fun
  | [d1, d2, d3, d4, d5, d6, d7, d8] => { results := [.lit (.bool true)], args := [d1, d2, d3, d4, d5, d6, d7, d8] }
  | _ => none }
def fnLeapsCountedOfAllRow : OpenClaim := { program := "ytkmakbjkapohlaa", sum := "9a95865a152f7210e03d1f8a7631a5a56b63e6cee682a71cc11ffaea59b076b2", func := "loop.example/g01241/laws.FnLeapsCountedOfAll", spec := "fnLeapsCountedOfAll", apart := false }
def FnLeapsCountedOfAllSaid : Prop := fnLeapsCountedOfAllRow.holds Try.pinned (OpenSpec.ofChange fnLeapsCountedOfAllSpec)

/-- ITS FALSE NEIGHBOUR: 'it returns false'. Refute it at one input. -/
def fnLeapsCountedOfAllWrong : ChangeSpec := { name := "fnLeapsCountedOfAll", fn := fun _ => fun
  | [d1, d2, d3, d4, d5, d6, d7, d8] => { results := [.lit (.bool false)], args := [d1, d2, d3, d4, d5, d6, d7, d8] }
  | _ => none }
def FnLeapsCountedOfAllWrongFalsely : Prop := fnLeapsCountedOfAllRow.holds Try.pinned (OpenSpec.ofChange fnLeapsCountedOfAllWrong)

/-- 'laws.FnLeapsCounted': WHATEVER THE INPUT: true; the input reads as it did. -/
def fnLeapsCountedSpec : ChangeSpec := { name := "fnLeapsCounted", fn := fun _ => fun
  | [d1, d2] => { results := [.lit (.bool true)], args := [d1, d2] }
  | _ => none }
def fnLeapsCountedRow : OpenClaim := { program := "ytkmakbjkapohlaa", sum := "9a95865a152f7210e03d1f8a7631a5a56b63e6cee682a71cc11ffaea59b076b2", func := "loop.example/g01241/laws.FnLeapsCounted", spec := "fnLeapsCounted", apart := false }
def FnLeapsCountedSaid : Prop := fnLeapsCountedRow.holds Try.pinned (OpenSpec.ofChange fnLeapsCountedSpec)

/-- ITS FALSE NEIGHBOUR: 'it returns false'. Refute it at one input. -/
def fnLeapsCountedWrong : ChangeSpec := { name := "fnLeapsCounted", fn := fun _ => fun
  | [d1, d2] => { results := [.lit (.bool false)], args := [d1, d2] }
  | _ => none }
def FnLeapsCountedWrongFalsely : Prop := fnLeapsCountedRow.holds Try.pinned (OpenSpec.ofChange fnLeapsCountedWrong)

/-- 'laws.FnExactIsPair': WHATEVER THE INPUT: true; the input reads as it did. -/
def fnExactIsPairSpec : ChangeSpec := { name := "fnExactIsPair", fn := fun _ => fun
  | [d] => { results := [.lit (.bool true)], args := [d] }
  | _ => none }
def fnExactIsPairRow : OpenClaim := { program := "ytkmakbjkapohlaa", sum := "9a95865a152f7210e03d1f8a7631a5a56b63e6cee682a71cc11ffaea59b076b2", func := "loop.example/g01241/laws.FnExactIsPair", spec := "fnExactIsPair", apart := false }
def FnExactIsPairSaid : Prop := fnExactIsPairRow.holds Try.pinned (OpenSpec.ofChange fnExactIsPairSpec)

/-- ITS FALSE NEIGHBOUR: 'it returns false'. Refute it at one input. -/
def fnExactIsPairWrong : ChangeSpec := { name := "fnExactIsPair", fn := fun _ => fun
  | [d] => { results := [.lit (.bool false)], args := [d] }
  | _ => none }
def FnExactIsPairWrongFalsely : Prop := fnExactIsPairRow.holds Try.pinned (OpenSpec.ofChange fnExactIsPairWrong)

/-- 'laws.FnExactMeshesUntilSame': WHATEVER THE INPUT: true; the input reads as it did. -/
def fnExactMeshesUntilSameSpec : ChangeSpec := { name := "fnExactMeshesUntilSame", fn := fun _ => fun
  | [d] => { results := [.lit (.bool true)], args := [d] }
  | _ => none }
def fnExactMeshesUntilSameRow : OpenClaim := { program := "ytkmakbjkapohlaa", sum := "9a95865a152f7210e03d1f8a7631a5a56b63e6cee682a71cc11ffaea59b076b2", func := "loop.example/g01241/laws.FnExactMeshesUntilSame", spec := "fnExactMeshesUntilSame", apart := false }
def FnExactMeshesUntilSameSaid : Prop := fnExactMeshesUntilSameRow.holds Try.pinned (OpenSpec.ofChange fnExactMeshesUntilSameSpec)

/-- ITS FALSE NEIGHBOUR: 'it returns false'. Refute it at one input. -/
def fnExactMeshesUntilSameWrong : ChangeSpec := { name := "fnExactMeshesUntilSame", fn := fun _ => fun
  | [d] => { results := [.lit (.bool false)], args := [d] }
  | _ => none }
def FnExactMeshesUntilSameWrongFalsely : Prop := fnExactMeshesUntilSameRow.holds Try.pinned (OpenSpec.ofChange fnExactMeshesUntilSameWrong)

/-- 'laws.FnExactFirstPair': WHATEVER THE INPUT: true; the input reads as it did. -/
def fnExactFirstPairSpec : ChangeSpec := { name := "fnExactFirstPair", fn := fun _ => fun
  | [d1, d2, d3] => { results := [.lit (.bool true)], args := [d1, d2, d3] }
  | _ => none }
def fnExactFirstPairRow : OpenClaim := { program := "ytkmakbjkapohlaa", sum := "9a95865a152f7210e03d1f8a7631a5a56b63e6cee682a71cc11ffaea59b076b2", func := "loop.example/g01241/laws.FnExactFirstPair", spec := "fnExactFirstPair", apart := false }
def FnExactFirstPairSaid : Prop := fnExactFirstPairRow.holds Try.pinned (OpenSpec.ofChange fnExactFirstPairSpec)

/-- ITS FALSE NEIGHBOUR: 'it returns false'. Refute it at one input. -/
def fnExactFirstPairWrong : ChangeSpec := { name := "fnExactFirstPair", fn := fun _ => fun
  | [d1, d2, d3] => { results := [.lit (.bool false)], args := [d1, d2, d3] }
  | _ => none }
def FnExactFirstPairWrongFalsely : Prop := fnExactFirstPairRow.holds Try.pinned (OpenSpec.ofChange fnExactFirstPairWrong)

/-- 'laws.FnExactSameLook': WHATEVER THE INPUT: true; the input reads as it did. -/
def fnExactSameLookSpec : ChangeSpec := { name := "fnExactSameLook", fn := fun _ => fun
  | [d1, d2] => { results := [.lit (.bool true)], args := [d1, d2] }
  | _ => none }
def fnExactSameLookRow : OpenClaim := { program := "ytkmakbjkapohlaa", sum := "9a95865a152f7210e03d1f8a7631a5a56b63e6cee682a71cc11ffaea59b076b2", func := "loop.example/g01241/laws.FnExactSameLook", spec := "fnExactSameLook", unfollowed := true, recurses := true, apart := false }
def FnExactSameLookSaid : Prop := fnExactSameLookRow.holds Try.pinned (OpenSpec.ofChange fnExactSameLookSpec)

/-- ITS FALSE NEIGHBOUR: 'it returns false'. Refute it at one input. -/
def fnExactSameLookWrong : ChangeSpec := { name := "fnExactSameLook", fn := fun _ => fun
  | [d1, d2] => { results := [.lit (.bool false)], args := [d1, d2] }
  | _ => none }
def FnExactSameLookWrongFalsely : Prop := fnExactSameLookRow.holds Try.pinned (OpenSpec.ofChange fnExactSameLookWrong)

/- THE SECOND FORM. 'bulk': how many values and letters a reading holds, each counted each time it is reached (what is shared counts as often as it is met; a slice's spare places count too). A statement '..UptoSaid' is the law's where the arguments, and the package variables that the reading takes, are together of bulk at most 1048576: NARROWER than '..Said'. Prove '..Said' where nothing that the law and all that it calls make is longer than what came in: it says more and counts as full. Else prove '..UptoSaid'. A law counts once. -/
mutual
def uptoBulk {H : Type} : DataW H → Nat
  | .lit (.string bytes) => bytes.length + 1
  | .lit _ => 1
  | .nil => 1
  | .ptr d => uptoBulk d + 1
  | .slice elems spare => uptoBulkAll elems + uptoBulkAll spare + 1
  | .agg parts => uptoBulkAll parts + 1
  | .iface _ d => uptoBulk d + 1
  | .map entries => uptoBulkEntries entries + 1
  | .held _ => 1
def uptoBulkAll {H : Type} : List (DataW H) → Nat
  | [] => 0
  | d :: r => uptoBulk d + uptoBulkAll r
def uptoBulkEntries {H : Type} : List (Lit × DataW H) → Nat
  | [] => 0
  | x :: r => uptoBulkEntry x + uptoBulkEntries r
def uptoBulkEntry {H : Type} : Lit × DataW H → Nat
  | (.string bytes, d) => bytes.length + uptoBulk d + 1
  | (_, d) => uptoBulk d + 1
 end
def uptoSmall : (H : Type) → List (DataW H) → Bool := fun _ ds => decide (uptoBulkAll ds ≤ 1048576)
def OpenSpec.upto (s : _root_.Go.ChangeSpec) : _root_.Go.OpenSpec := { _root_.Go.OpenSpec.ofChange s with cond := some uptoSmall }

/-- 'laws.FnExactOffBy', WHERE WHAT IT READS IS OF BULK AT MOST 1048576: true; the input reads as it did. -/
def fnExactOffByUptoRow : OpenClaim := { program := "ytkmakbjkapohlaa", sum := "9a95865a152f7210e03d1f8a7631a5a56b63e6cee682a71cc11ffaea59b076b2", func := "loop.example/g01241/laws.FnExactOffBy", spec := "fnExactOffBy", apart := false, narrowed := true }
def FnExactOffByUptoSaid : Prop := fnExactOffByUptoRow.holds Try.pinned (OpenSpec.upto fnExactOffBySpec)

/-- 'laws.FnExactYearsForDay', WHERE WHAT IT READS IS OF BULK AT MOST 1048576: true; the input reads as it did. -/
def fnExactYearsForDayUptoRow : OpenClaim := { program := "ytkmakbjkapohlaa", sum := "9a95865a152f7210e03d1f8a7631a5a56b63e6cee682a71cc11ffaea59b076b2", func := "loop.example/g01241/laws.FnExactYearsForDay", spec := "fnExactYearsForDay", apart := false, narrowed := true }
def FnExactYearsForDayUptoSaid : Prop := fnExactYearsForDayUptoRow.holds Try.pinned (OpenSpec.upto fnExactYearsForDaySpec)

/-- 'laws.FnLeapsCountedOfAll', WHERE WHAT IT READS IS OF BULK AT MOST 1048576: true; the input reads as it did. -/
def fnLeapsCountedOfAllUptoRow : OpenClaim := { program := "ytkmakbjkapohlaa", sum := "9a95865a152f7210e03d1f8a7631a5a56b63e6cee682a71cc11ffaea59b076b2", func := "loop.example/g01241/laws.FnLeapsCountedOfAll", spec := "fnLeapsCountedOfAll", apart := false, narrowed := true }
def FnLeapsCountedOfAllUptoSaid : Prop := fnLeapsCountedOfAllUptoRow.holds Try.pinned (OpenSpec.upto fnLeapsCountedOfAllSpec)

/-- 'laws.FnLeapsCounted', WHERE WHAT IT READS IS OF BULK AT MOST 1048576: true; the input reads as it did. -/
def fnLeapsCountedUptoRow : OpenClaim := { program := "ytkmakbjkapohlaa", sum := "9a95865a152f7210e03d1f8a7631a5a56b63e6cee682a71cc11ffaea59b076b2", func := "loop.example/g01241/laws.FnLeapsCounted", spec := "fnLeapsCounted", apart := false, narrowed := true }
def FnLeapsCountedUptoSaid : Prop := fnLeapsCountedUptoRow.holds Try.pinned (OpenSpec.upto fnLeapsCountedSpec)

/-- 'laws.FnExactIsPair', WHERE WHAT IT READS IS OF BULK AT MOST 1048576: true; the input reads as it did. -/
def fnExactIsPairUptoRow : OpenClaim := { program := "ytkmakbjkapohlaa", sum := "9a95865a152f7210e03d1f8a7631a5a56b63e6cee682a71cc11ffaea59b076b2", func := "loop.example/g01241/laws.FnExactIsPair", spec := "fnExactIsPair", apart := false, narrowed := true }
def FnExactIsPairUptoSaid : Prop := fnExactIsPairUptoRow.holds Try.pinned (OpenSpec.upto fnExactIsPairSpec)

/-- 'laws.FnExactMeshesUntilSame', WHERE WHAT IT READS IS OF BULK AT MOST 1048576: true; the input reads as it did. -/
def fnExactMeshesUntilSameUptoRow : OpenClaim := { program := "ytkmakbjkapohlaa", sum := "9a95865a152f7210e03d1f8a7631a5a56b63e6cee682a71cc11ffaea59b076b2", func := "loop.example/g01241/laws.FnExactMeshesUntilSame", spec := "fnExactMeshesUntilSame", apart := false, narrowed := true }
def FnExactMeshesUntilSameUptoSaid : Prop := fnExactMeshesUntilSameUptoRow.holds Try.pinned (OpenSpec.upto fnExactMeshesUntilSameSpec)

/-- 'laws.FnExactFirstPair', WHERE WHAT IT READS IS OF BULK AT MOST 1048576: true; the input reads as it did. -/
def fnExactFirstPairUptoRow : OpenClaim := { program := "ytkmakbjkapohlaa", sum := "9a95865a152f7210e03d1f8a7631a5a56b63e6cee682a71cc11ffaea59b076b2", func := "loop.example/g01241/laws.FnExactFirstPair", spec := "fnExactFirstPair", apart := false, narrowed := true }
def FnExactFirstPairUptoSaid : Prop := fnExactFirstPairUptoRow.holds Try.pinned (OpenSpec.upto fnExactFirstPairSpec)

/-- 'laws.FnExactSameLook', WHERE WHAT IT READS IS OF BULK AT MOST 1048576: true; the input reads as it did. -/
def fnExactSameLookUptoRow : OpenClaim := { program := "ytkmakbjkapohlaa", sum := "9a95865a152f7210e03d1f8a7631a5a56b63e6cee682a71cc11ffaea59b076b2", func := "loop.example/g01241/laws.FnExactSameLook", spec := "fnExactSameLook", unfollowed := true, recurses := true, apart := false, narrowed := true }
def FnExactSameLookUptoSaid : Prop := fnExactSameLookUptoRow.holds Try.pinned (OpenSpec.upto fnExactSameLookSpec)

end Rows
end Go.Proofs.Ytkmakbjkapohlaa
