/- FnExactWeekCycle: the law's printed function answers true at every input. -/
import Derived.Test.YtifighdccepilaaPFnExactWeekCyclex2
import Derived.Test.YtifighdccepilaaLib
set_option linter.unusedVariables false
set_option linter.unusedSimpArgs false
namespace Go.Proofs.Ytifighdccepilaa.Pure.FnExactWeekCycleWay
open Go.RowKit Go.Proofs.Ytifighdccepilaa.PFnExactWeekCycle Go.Proofs.YtifighdccepilaaW.PrintWords Go.Proofs.YtifighdccepilaaW.PrintLast Go.Proofs.YtifighdccepilaaW.PrintMore Go.Proofs.Ytifighdccepilaa.Lib

/-! l1In -/
theorem l1In_eq (a b c : Int) : spec_l1In.f a b c = some (decide (b ≤ a ∧ a ≤ c)) := within_gen (fun _ _ _ => rfl) a b c

/-! daRule -/
theorem daRule_at (e b y : Int) (k : Nat) : spec_daRule.f (k + 1) e b y = some (decide (ruleOk e b y)) := by
  have leaf : ∀ {X : Bool} {P : Prop} [Decidable P], (X = true ↔ P) → some X = some (decide P) := fun h => by
    congr 1
    rw [Bool.eq_iff_iff, decide_eq_true_iff]
    exact h
  simp only [spec_daRule.f, spec_daRule.j0, l1In_eq, Option.bind_some, decide_eq_true_eq]
  unfold ruleOk
  by_cases h1 : 1 ≤ e ∧ e ≤ 10000
  · rw [if_pos h1]
    by_cases h2 : 0 ≤ b ∧ b ≤ 10000
    · rw [if_pos h2]
      by_cases h3 : 0 ≤ y ∧ y ≤ 10000
      · rw [tmod_e h2.1, tmod_e h3.1, if_neg (by simp; omega)]
        by_cases c1 : b = 0
        · rw [if_pos c1]
          refine leaf ?_
          generalize b % e = p
          generalize y % b = q
          rw [beq_iff_eq]
          omega
        · rw [if_neg c1]
          by_cases c2 : b > e
          · rw [if_pos c2, if_neg (by omega)]
            by_cases c3 : b % e = 0
            · rw [if_pos c3]
              by_cases c4 : y = 0
              · rw [if_pos c4]
                refine leaf ?_
                generalize b % e = p at *
                generalize y % b = q at *
                simp
                omega
              · rw [if_neg c4]
                by_cases c5 : y > b
                · rw [if_pos c5]
                  refine leaf ?_
                  rw [beq_iff_eq]
                  generalize b % e = p at *
                  generalize y % b = q at *
                  omega
                · rw [if_neg c5]
                  refine leaf ?_
                  generalize b % e = p at *
                  generalize y % b = q at *
                  simp
                  omega
            · rw [if_neg c3]
              refine leaf ?_
              generalize b % e = p at *
              generalize y % b = q at *
              simp
              omega
          · rw [if_neg c2]
            refine leaf ?_
            generalize b % e = p at *
            generalize y % b = q at *
            simp
            omega
      · rw [if_pos (by simp; omega)]
        refine leaf ?_
        generalize b % e = p at *
        generalize y % b = q at *
        simp
        omega
    · rw [if_neg h2, if_pos trivial]
      refine leaf ?_
      generalize b % e = p at *
      generalize y % b = q at *
      simp
      omega
  · rw [if_neg h1, if_pos trivial]
    refine leaf ?_
    generalize b % e = p at *
    generalize y % b = q at *
    simp
    omega
theorem daRule_ev (e b y : Int) : Ev (fun k => spec_daRule.f k e b y) (decide (ruleOk e b y)) := ev_one (daRule_at e b y)

/-! daCount -/
theorem daCount_eq {e b y n : Int} (r : ruleOk e b y) (hn : 0 ≤ n) (hn' : n ≤ 2000000) : spec_daCount.f e b y n = some (leapsP e b y n) := by
  have r' := r
  unfold ruleOk at r'
  have h1 := div_le (b := e) hn (by omega)
  have h2 : 0 < b → _ := fun g => div_le (b := b) hn (by omega)
  have h3 : 0 < y → _ := fun g => div_le (b := y) hn (by omega)
  unfold spec_daCount.f leapsP
  rw [tdiv_e hn, tdiv_e hn, tdiv_e hn, if_neg (by omega)]
  by_cases c1 : 0 < b
  · have h2 := h2 c1
    rw [if_pos c1, if_neg (by omega), if_pos c1]
    by_cases c2 : 0 < y
    · have h3 := h3 c2
      rw [if_pos c2, if_neg (by omega), if_pos c2]
      congr 1
      rw [w64 (x := n / e) (by omega) (by omega), w64 (x := n / b) (by omega) (by omega), w64 (x := n / y) (by omega) (by omega), w64 (x := n / e - n / b) (by omega) (by omega), w64 (by omega) (by omega)]
    · rw [if_neg c2, if_neg c2]
      congr 1
      rw [w64 (x := n / e) (by omega) (by omega), w64 (x := n / b) (by omega) (by omega), w64 (x := n / e - n / b) (by omega) (by omega)]
      omega
  · rw [if_neg c1, if_neg c1, if_neg (by omega), if_neg (by omega)]
    congr 1
    rw [w64 (x := n / e) (by omega) (by omega)]
    omega

/-! daCycle -/
theorem most_eq (a b : Int) : spec_l1Most.f a b = some (max a b) := most_gen (fun _ _ => rfl) a b
theorem daCycle_eq {e b y : Int} (r : ruleOk e b y) : spec_daCycle.f e b y = some (cycleP e b y) := by
  unfold ruleOk at r
  unfold spec_daCycle.f cycleP
  rw [most_eq, Option.bind_some, most_eq, Option.bind_some]
  congr 1
  split
  · omega
  · split <;> omega

/-! within -/
theorem within_eq (a b c : Int) : impl_within.f a b c = some (decide (b ≤ a ∧ a ≤ c)) := within_gen (fun _ _ _ => rfl) a b c

/-! isMultiple -/
theorem isMultiple_eq (n of : Int) (h : of ≤ 10000) : impl_isMultiple.f n of = some (decide (n = 0 ∨ (0 < of ∧ of < n ∧ n ≤ 10000 ∧ n % of = 0))) := by
  have leaf : ∀ {X : Bool} {P : Prop} [Decidable P], (X = true ↔ P) → some X = some (decide P) := fun h => by
    congr 1
    rw [Bool.eq_iff_iff, decide_eq_true_iff]
    exact h
  unfold impl_isMultiple.f
  by_cases c1 : n = 0
  · rw [if_pos c1]
    exact leaf ⟨fun _ => Or.inl c1, fun _ => rfl⟩
  · rw [if_neg c1]
    by_cases c2 : of > 0
    · rw [if_pos c2, w64 (by omega) (by omega), within_eq, Option.bind_some]
      by_cases c3 : of + 1 ≤ n ∧ n ≤ 10000
      · rw [if_pos (by simpa using c3), if_neg (by omega), tmod_e (by omega)]
        refine leaf ?_
        rw [beq_iff_eq]
        generalize n % of = p
        omega
      · rw [if_neg (by simpa using c3)]
        refine leaf ?_
        generalize n % of = p
        simp
        omega
    · rw [if_neg c2]
      refine leaf ?_
      generalize n % of = p
      simp
      omega

/-! IsLeapRule -/
theorem isLeapRule_eq (e b y : Int) : impl_IsLeapRule.f e b y = some (decide (ruleOk e b y)) := by
  have leaf : ∀ {X : Bool} {P : Prop} [Decidable P], (X = true ↔ P) → some X = some (decide P) := fun h => by
    congr 1
    rw [Bool.eq_iff_iff, decide_eq_true_iff]
    exact h
  unfold impl_IsLeapRule.f
  rw [within_eq, Option.bind_some]
  unfold ruleOk
  by_cases c1 : 1 ≤ e ∧ e ≤ 10000
  · rw [if_pos (by simpa using c1), isMultiple_eq _ _ c1.2, Option.bind_some]
    by_cases c2 : b = 0 ∨ (0 < e ∧ e < b ∧ b ≤ 10000 ∧ b % e = 0)
    · rw [if_pos (by simpa using c2), isMultiple_eq _ _ (by omega), Option.bind_some]
      refine leaf ?_
      rw [decide_eq_true_iff]
      generalize b % e = p at *
      generalize y % b = q at *
      omega
    · rw [if_neg (by simpa using c2)]
      refine leaf ?_
      generalize b % e = p at *
      generalize y % b = q at *
      simp
      omega
  · rw [if_neg (by simpa using c1)]
    refine leaf ?_
    generalize b % e = p at *
    generalize y % b = q at *
    simp
    omega

/-! cycle -/
theorem cycle_eq (e b y : Int) : impl_LeapRule_cycle.f e b y = some (cycleP e b y) := by
  unfold impl_LeapRule_cycle.f cycleP
  by_cases c1 : 0 < y
  · rw [if_pos c1, if_pos c1]
  · rw [if_neg c1, if_neg c1]
    by_cases c2 : 0 < b
    · rw [if_pos c2, if_pos c2]
    · rw [if_neg c2, if_neg c2]

/-! leaps -/
theorem leaps_eq {e b y n : Int} (r : ruleOk e b y) (hn : 0 ≤ n) (hn' : n ≤ 2000000) : impl_LeapRule_leaps.f e b y n = some (leapsP e b y n) := by
  have r' := r
  unfold ruleOk at r'
  have h1 := div_le (b := e) hn (by omega)
  have h2 : 0 < b → _ := fun g => div_le (b := b) hn (by omega)
  have h3 : 0 < y → _ := fun g => div_le (b := y) hn (by omega)
  unfold impl_LeapRule_leaps.f leapsP
  rw [tdiv_e hn, tdiv_e hn, tdiv_e hn, if_neg (by omega)]
  by_cases c1 : 0 < b
  · have h2 := h2 c1
    rw [if_pos c1, if_neg (by omega), if_pos c1]
    by_cases c2 : 0 < y
    · have h3 := h3 c2
      rw [if_pos c2, if_neg (by omega), if_pos c2]
      congr 1
      rw [w64 (x := n / e) (by omega) (by omega), w64 (x := n / b) (by omega) (by omega), w64 (x := n / y) (by omega) (by omega), w64 (x := n / e - n / b) (by omega) (by omega), w64 (by omega) (by omega)]
    · rw [if_neg c2, if_neg c2]
      congr 1
      rw [w64 (x := n / e) (by omega) (by omega), w64 (x := n / b) (by omega) (by omega), w64 (x := n / e - n / b) (by omega) (by omega)]
      omega
  · rw [if_neg c1, if_neg c1, if_neg (by omega), if_neg (by omega)]
    congr 1
    rw [w64 (x := n / e) (by omega) (by omega)]
    omega

/-! days -/
theorem days_eq {e b y n : Int} (r : ruleOk e b y) (hn : 1 ≤ n) (hn' : n ≤ 1000001) : impl_LeapRule_days.f e b y n = some (daysP e b y n) := by
  have hb := daysP_bd r hn hn'
  unfold impl_LeapRule_days.f
  rw [w64 (x := n - 1) (by omega) (by omega), leaps_eq r (by omega) (by omega), Option.bind_some, w64 (x := 365 * (n - 1)) (by omega) (by omega)]
  unfold daysP at hb ⊢
  rw [w64 (by omega) (by omega)]

/-! WeekCycle -/
def weekP (e b y : Int) : Int := if (365 * cycleP e b y + leapsP e b y (cycleP e b y)) % 7 = 0 then cycleP e b y else 7 * cycleP e b y
theorem WeekCycle_spec (e b y : Int) : Ev (fun k => spec_WeekCycle.f k e b y) (if ruleOk e b y then (weekP e b y, true) else (0, false)) := by
  unfold spec_WeekCycle.f
  refine Ev.bind (daRule_ev e b y) ?_
  by_cases r : ruleOk e b y
  · have c := cycleP_bd r
    have l := leapsP_bd (n := cycleP e b y) r (by omega)
    rw [if_pos r]
    refine ev_t (by simpa using r) (ev_con ?_)
    rw [daCycle_eq r, Option.bind_some, daCount_eq r (by omega) (by omega), Option.bind_some, w64 (x := 365 * cycleP e b y) (by omega) (by omega), w64 (x := 7 * cycleP e b y) (by omega) (by omega), w64 (by omega) (by omega), tmod_e (by omega)]
    unfold weekP
    split <;> rfl
  · rw [if_neg r]
    exact ev_f (by simpa using r) (ev_now _)
theorem WeekCycle_impl (e b y : Int) : impl_WeekCycle.f e b y = some (if ruleOk e b y then (weekP e b y, true) else (0, false)) := by
  unfold impl_WeekCycle.f
  rw [isLeapRule_eq, Option.bind_some]
  by_cases r : ruleOk e b y
  · have c := cycleP_bd r
    have l := leapsP_bd (n := cycleP e b y) r (by omega)
    rw [if_pos (by simpa using r), if_pos r, cycle_eq, Option.bind_some, w64 (x := cycleP e b y + 1) (by omega) (by omega), days_eq r (by omega) (by omega), Option.bind_some, Option.bind_some, Option.bind_some, w64 (x := 7 * cycleP e b y) (by omega) (by omega), tmod_e (daysP_bd r (by omega) (by omega)).1]
    unfold daysP weekP
    have g : cycleP e b y + 1 - 1 = cycleP e b y := by omega
    rw [g]
    split <;> rfl
  · rw [if_neg (by simpa using r), if_neg r]

/-! the law -/
theorem law (a0_0 a0_1 a0_2 : Int) (w0_0 : (Lit.int .i64 a0_0).wf = true) (w0_1 : (Lit.int .i64 a0_1).wf = true) (w0_2 : (Lit.int .i64 a0_2).wf = true) : ∃ k, laws_FnExactWeekCycle.f k a0_0 a0_1 a0_2 = some true := Ev.rounds (g := fun k => laws_FnExactWeekCycle.f k a0_0 a0_1 a0_2) (by
  simp only [laws_FnExactWeekCycle.f, laws_toLeapRule.f, Option.bind_some]
  refine Ev.bind (WeekCycle_spec a0_0 a0_1 a0_2) ?_
  refine ev_p (WeekCycle_impl a0_0 a0_1 a0_2) ?_
  repeat (first | refine ev_t rfl ?_ | refine ev_f (by simp) ?_)
  exact ev_now true)

end Go.Proofs.Ytifighdccepilaa.Pure.FnExactWeekCycleWay
