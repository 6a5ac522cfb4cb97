-- Out of what the kit's print program wrote: what this claim doesn't use is left out.
import Derived.Test.YtkfcaldjepmffaaWInv
import Derived.Test.YtkfcaldjepmffaaWFootNe
namespace Go.Proofs.YtkfcaldjepmffaaW.PrintWords
open Go.RowKit
end Go.Proofs.YtkfcaldjepmffaaW.PrintWords
namespace Go.Proofs.YtkfcaldjepmffaaW.PrintLast
section
variable {ops : Array Oper} {a : Act} {o og : Oper} {g : Nat} {t : Tmp} {u : Bool}
end
end Go.Proofs.YtkfcaldjepmffaaW.PrintLast
