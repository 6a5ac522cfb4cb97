-- Out of what the kit's print program wrote: what this claim doesn't use is left out.
import Derived.Test.YtkmakbjkapohlaaWWords
/-! ### 58. A guarded operation whose guard is known to want it: the same goal without the guard -/
namespace Go.Proofs.YtkmakbjkapohlaaW.PrintWords
open Go.RowKit
section
variable {P : Program} {ops : Array Oper} {rest : List Oper} {o : Oper} {a : Act} {Q : Exit → Act → World → Prop} {W : World}
end
end Go.Proofs.YtkmakbjkapohlaaW.PrintWords
