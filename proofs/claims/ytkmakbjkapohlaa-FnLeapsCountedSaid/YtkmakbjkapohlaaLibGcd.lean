/- Greatest common divisors, fractions in lowest terms, and the first pair of wheels with a ratio: no program in sight. -/
import Derived.Test.YtkmakbjkapohlaaLib
import Derived.Test.YtkmakbjkapohlaaWMore
set_option linter.unusedVariables false
set_option linter.unusedSimpArgs false
namespace Go.Proofs.Ytkmakbjkapohlaa.Lib
open Go.RowKit Go.Proofs.YtkmakbjkapohlaaW.PrintWords Go.Proofs.YtkmakbjkapohlaaW.PrintMore

theorem leapsP_nn {e b y n : Int} (r : ruleOk e b y) (h : 0 ≤ n) : 0 ≤ leapsP e b y n := by
  have := leapsP_le (n := 0) (m := n) r h
  have z : leapsP e b y 0 = 0 := by
    unfold leapsP
    simp
  omega
/-! ### the first pair with a ratio -/
end Go.Proofs.Ytkmakbjkapohlaa.Lib
