-- Out of what the kit's print program wrote: what this claim doesn't use is left out.
import Derived.Test.YtkmakbjkapohlaaWWords
import Derived.Laws.StructEq
/-! ### 53. '==' of structs as_ one Bool -/
namespace Go.Proofs.YtkmakbjkapohlaaW.PrintWords
open Go.RowKit
section
variable {P : Program} {d : Nat} {xs ys : Array Value} {f : Field} {fs : List Field} {a b : Value} {r s : Bool} {w : World}
end
end Go.Proofs.YtkmakbjkapohlaaW.PrintWords
