-- Out of what the kit's print program wrote: what this claim doesn't use is left out.
import Derived.Test.YtkmakbjkapohlaaWInv
import Derived.Test.YtkmakbjkapohlaaWFootNe
namespace Go.Proofs.YtkmakbjkapohlaaW.PrintWords
open Go.RowKit
end Go.Proofs.YtkmakbjkapohlaaW.PrintWords
namespace Go.Proofs.YtkmakbjkapohlaaW.PrintLast
section
variable {ops : Array Oper} {a : Act} {o og : Oper} {g : Nat} {t : Tmp} {u : Bool}
end
end Go.Proofs.YtkmakbjkapohlaaW.PrintLast
