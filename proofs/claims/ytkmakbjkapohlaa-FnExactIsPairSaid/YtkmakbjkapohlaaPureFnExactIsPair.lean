/- FnExactIsPair: the law's printed function answers true at every input. -/
import Derived.Test.YtkmakbjkapohlaaPFnExactIsPairx1
import Derived.Test.YtkmakbjkapohlaaLib
import Derived.Test.YtkmakbjkapohlaaLibRows
import Derived.Test.YtkmakbjkapohlaaLibGcd
set_option linter.unusedVariables false
set_option linter.unusedSimpArgs false
namespace Go.Proofs.Ytkmakbjkapohlaa.Pure.FnExactIsPairWay
open Go.RowKit Go.Proofs.Ytkmakbjkapohlaa.PFnExactIsPair Go.Proofs.YtkmakbjkapohlaaW.PrintWords Go.Proofs.YtkmakbjkapohlaaW.PrintLast Go.Proofs.YtkmakbjkapohlaaW.PrintMore Go.Proofs.Ytkmakbjkapohlaa.Lib

/-! within -/
theorem within_eq (a b c : Int) : impl_within.f a b c = some (decide (b ≤ a ∧ a ≤ c)) := within_gen (fun _ _ _ => rfl) a b c

/-! areTeeth -/
theorem areTeeth_eq (n : Int) : impl_areTeeth.f n = some (decide (6 ≤ n ∧ n ≤ 120)) := by
  unfold impl_areTeeth.f
  rw [within_eq, Option.bind_some]

/-! IsPair -/
theorem isPair_eq (a b : Int) : impl_IsPair.f a b = some (decide ((6 ≤ a ∧ a ≤ 120) ∧ (6 ≤ b ∧ b ≤ 120))) := by
  unfold impl_IsPair.f
  rw [areTeeth_eq, Option.bind_some]
  by_cases h : 6 ≤ a ∧ a ≤ 120
  · rw [if_pos (by simpa using h), areTeeth_eq, Option.bind_some]
    congr 1
    rw [Bool.eq_iff_iff, decide_eq_true_iff, decide_eq_true_iff]
    omega
  · rw [if_neg (by simpa using h)]
    congr 1
    symm
    exact decide_eq_false (by omega)

/-! l1In -/
theorem l1In_eq (a b c : Int) : spec_l1In.f a b c = some (decide (b ≤ a ∧ a ≤ c)) := within_gen (fun _ _ _ => rfl) a b c

/-! geWheel -/
theorem geWheel_eq (n : Int) : spec_geWheel.f n = some (decide (6 ≤ n ∧ n ≤ 120)) := by
  unfold spec_geWheel.f
  rw [l1In_eq, Option.bind_some]

/-! gePair -/
theorem gePair_eq (a b : Int) : spec_gePair.f a b = some (decide ((6 ≤ a ∧ a ≤ 120) ∧ (6 ≤ b ∧ b ≤ 120))) := by
  unfold spec_gePair.f
  rw [geWheel_eq, Option.bind_some]
  by_cases h : 6 ≤ a ∧ a ≤ 120
  · rw [if_pos (by simpa using h), geWheel_eq, Option.bind_some]
    congr 1
    rw [Bool.eq_iff_iff, decide_eq_true_iff, decide_eq_true_iff]
    omega
  · rw [if_neg (by simpa using h)]
    congr 1
    symm
    exact decide_eq_false (by omega)

/-! the law -/
theorem law (a0_0 a0_1 : Int) (w0_0 : (Lit.int .i64 a0_0).wf = true) (w0_1 : (Lit.int .i64 a0_1).wf = true) : ∃ k : Nat, laws_FnExactIsPair.f a0_0 a0_1 = some true := ⟨0, by
  unfold laws_FnExactIsPair.f laws_toPair.f
  rw [Option.bind_some]
  unfold spec_IsPair.f
  rw [gePair_eq, Option.bind_some, Option.bind_some, Option.bind_some, isPair_eq, Option.bind_some]
  simp⟩

end Go.Proofs.Ytkmakbjkapohlaa.Pure.FnExactIsPairWay
