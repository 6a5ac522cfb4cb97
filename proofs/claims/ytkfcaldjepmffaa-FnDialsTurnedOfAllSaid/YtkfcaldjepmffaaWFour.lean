-- Out of what the kit's print program wrote: what this claim doesn't use is left out.
import Derived.Test.YtkfcaldjepmffaaWTab
/-! ### 56. Four, five, six operations that may come up next, in any order -/
namespace Go.Proofs.YtkfcaldjepmffaaW.PrintLast
section
variable {P : Program} {ops : Array Oper} {Q : Exit → Act → World → Prop} {md : Region.Mode} {S : World → Prop} {ds : List Nat} {T : Bool × List (List Nat × List Nat)}
end
end Go.Proofs.YtkfcaldjepmffaaW.PrintLast
