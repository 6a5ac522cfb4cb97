/- FnExactIsLeapRule: the law's printed function answers true at every input. -/
import Derived.Test.YtifighdccepilaaPFnExactIsLeapRulex1
import Derived.Test.YtifighdccepilaaLib
set_option linter.unusedVariables false
set_option linter.unusedSimpArgs false
namespace Go.Proofs.Ytifighdccepilaa.Pure.FnExactIsLeapRuleWay
open Go.RowKit Go.Proofs.Ytifighdccepilaa.PFnExactIsLeapRule Go.Proofs.YtifighdccepilaaW.PrintWords Go.Proofs.YtifighdccepilaaW.PrintLast Go.Proofs.YtifighdccepilaaW.PrintMore Go.Proofs.Ytifighdccepilaa.Lib

/-! l1In -/
theorem l1In_eq (a b c : Int) : spec_l1In.f a b c = some (decide (b ≤ a ∧ a ≤ c)) := within_gen (fun _ _ _ => rfl) a b c

/-! daRule -/
theorem daRule_at (e b y : Int) (k : Nat) : spec_daRule.f (k + 1) e b y = some (decide (ruleOk e b y)) := by
  have leaf : ∀ {X : Bool} {P : Prop} [Decidable P], (X = true ↔ P) → some X = some (decide P) := fun h => by
    congr 1
    rw [Bool.eq_iff_iff, decide_eq_true_iff]
    exact h
  simp only [spec_daRule.f, spec_daRule.j0, l1In_eq, Option.bind_some, decide_eq_true_eq]
  unfold ruleOk
  by_cases h1 : 1 ≤ e ∧ e ≤ 10000
  · rw [if_pos h1]
    by_cases h2 : 0 ≤ b ∧ b ≤ 10000
    · rw [if_pos h2]
      by_cases h3 : 0 ≤ y ∧ y ≤ 10000
      · rw [tmod_e h2.1, tmod_e h3.1, if_neg (by simp; omega)]
        by_cases c1 : b = 0
        · rw [if_pos c1]
          refine leaf ?_
          generalize b % e = p
          generalize y % b = q
          rw [beq_iff_eq]
          omega
        · rw [if_neg c1]
          by_cases c2 : b > e
          · rw [if_pos c2, if_neg (by omega)]
            by_cases c3 : b % e = 0
            · rw [if_pos c3]
              by_cases c4 : y = 0
              · rw [if_pos c4]
                refine leaf ?_
                generalize b % e = p at *
                generalize y % b = q at *
                simp
                omega
              · rw [if_neg c4]
                by_cases c5 : y > b
                · rw [if_pos c5]
                  refine leaf ?_
                  rw [beq_iff_eq]
                  generalize b % e = p at *
                  generalize y % b = q at *
                  omega
                · rw [if_neg c5]
                  refine leaf ?_
                  generalize b % e = p at *
                  generalize y % b = q at *
                  simp
                  omega
            · rw [if_neg c3]
              refine leaf ?_
              generalize b % e = p at *
              generalize y % b = q at *
              simp
              omega
          · rw [if_neg c2]
            refine leaf ?_
            generalize b % e = p at *
            generalize y % b = q at *
            simp
            omega
      · rw [if_pos (by simp; omega)]
        refine leaf ?_
        generalize b % e = p at *
        generalize y % b = q at *
        simp
        omega
    · rw [if_neg h2, if_pos trivial]
      refine leaf ?_
      generalize b % e = p at *
      generalize y % b = q at *
      simp
      omega
  · rw [if_neg h1, if_pos trivial]
    refine leaf ?_
    generalize b % e = p at *
    generalize y % b = q at *
    simp
    omega
theorem daRule_ev (e b y : Int) : Ev (fun k => spec_daRule.f k e b y) (decide (ruleOk e b y)) := ev_one (daRule_at e b y)

/-! within -/
theorem within_eq (a b c : Int) : impl_within.f a b c = some (decide (b ≤ a ∧ a ≤ c)) := within_gen (fun _ _ _ => rfl) a b c

/-! isMultiple -/
theorem isMultiple_eq (n of : Int) (h : of ≤ 10000) : impl_isMultiple.f n of = some (decide (n = 0 ∨ (0 < of ∧ of < n ∧ n ≤ 10000 ∧ n % of = 0))) := by
  have leaf : ∀ {X : Bool} {P : Prop} [Decidable P], (X = true ↔ P) → some X = some (decide P) := fun h => by
    congr 1
    rw [Bool.eq_iff_iff, decide_eq_true_iff]
    exact h
  unfold impl_isMultiple.f
  by_cases c1 : n = 0
  · rw [if_pos c1]
    exact leaf ⟨fun _ => Or.inl c1, fun _ => rfl⟩
  · rw [if_neg c1]
    by_cases c2 : of > 0
    · rw [if_pos c2, w64 (by omega) (by omega), within_eq, Option.bind_some]
      by_cases c3 : of + 1 ≤ n ∧ n ≤ 10000
      · rw [if_pos (by simpa using c3), if_neg (by omega), tmod_e (by omega)]
        refine leaf ?_
        rw [beq_iff_eq]
        generalize n % of = p
        omega
      · rw [if_neg (by simpa using c3)]
        refine leaf ?_
        generalize n % of = p
        simp
        omega
    · rw [if_neg c2]
      refine leaf ?_
      generalize n % of = p
      simp
      omega

/-! IsLeapRule -/
theorem isLeapRule_eq (e b y : Int) : impl_IsLeapRule.f e b y = some (decide (ruleOk e b y)) := by
  have leaf : ∀ {X : Bool} {P : Prop} [Decidable P], (X = true ↔ P) → some X = some (decide P) := fun h => by
    congr 1
    rw [Bool.eq_iff_iff, decide_eq_true_iff]
    exact h
  unfold impl_IsLeapRule.f
  rw [within_eq, Option.bind_some]
  unfold ruleOk
  by_cases c1 : 1 ≤ e ∧ e ≤ 10000
  · rw [if_pos (by simpa using c1), isMultiple_eq _ _ c1.2, Option.bind_some]
    by_cases c2 : b = 0 ∨ (0 < e ∧ e < b ∧ b ≤ 10000 ∧ b % e = 0)
    · rw [if_pos (by simpa using c2), isMultiple_eq _ _ (by omega), Option.bind_some]
      refine leaf ?_
      rw [decide_eq_true_iff]
      generalize b % e = p at *
      generalize y % b = q at *
      omega
    · rw [if_neg (by simpa using c2)]
      refine leaf ?_
      generalize b % e = p at *
      generalize y % b = q at *
      simp
      omega
  · rw [if_neg (by simpa using c1)]
    refine leaf ?_
    generalize b % e = p at *
    generalize y % b = q at *
    simp
    omega

/-! IsLeapRule_ends -/
theorem IsLeapRule_spec (e b y : Int) : Ev (fun k => spec_IsLeapRule.f k e b y) (decide (ruleOk e b y)) := by
  unfold spec_IsLeapRule.f
  exact Ev.bind (daRule_ev e b y) (ev_now _)

/-! the law -/
theorem law (a0_0 a0_1 a0_2 : Int) (w0_0 : (Lit.int .i64 a0_0).wf = true) (w0_1 : (Lit.int .i64 a0_1).wf = true) (w0_2 : (Lit.int .i64 a0_2).wf = true) : ∃ k, laws_FnExactIsLeapRule.f k a0_0 a0_1 a0_2 = some true := Ev.rounds (g := fun k => laws_FnExactIsLeapRule.f k a0_0 a0_1 a0_2) (by
  simp only [laws_FnExactIsLeapRule.f, laws_toLeapRule.f, Option.bind_some]
  refine Ev.bind (IsLeapRule_spec a0_0 a0_1 a0_2) ?_
  refine ev_p (isLeapRule_eq a0_0 a0_1 a0_2) ?_
  repeat (first | refine ev_t rfl ?_ | refine ev_f (by simp) ?_)
  exact ev_now true)

end Go.Proofs.Ytifighdccepilaa.Pure.FnExactIsLeapRuleWay
