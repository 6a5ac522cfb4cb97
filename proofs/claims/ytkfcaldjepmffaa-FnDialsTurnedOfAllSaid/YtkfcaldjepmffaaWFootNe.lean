-- Out of what the kit's print program wrote: what this claim doesn't use is left out.
import Derived.Test.YtkfcaldjepmffaaWN
/-! ### 52. A row that stays read whatever happens to a block (a set of blocks) doesn't lie there -/
namespace Go.Proofs.YtkfcaldjepmffaaW.PrintWords
open Go.RowKit
namespace Kd
section
variable {α : Type} {d : Kd α} {W : World} {g n : Nat} {S ok : Nat → Prop} {A : Option Addr} {ad : Addr} {xs : List α}
end
end Kd
end Go.Proofs.YtkfcaldjepmffaaW.PrintWords
