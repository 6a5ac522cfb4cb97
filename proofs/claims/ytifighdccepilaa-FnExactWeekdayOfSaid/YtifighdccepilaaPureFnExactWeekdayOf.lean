/- FnExactWeekdayOf: the law's printed function answers true at every input. -/
import Derived.Test.YtifighdccepilaaPFnExactWeekdayOfx2
import Derived.Test.YtifighdccepilaaLib
set_option linter.unusedVariables false
set_option linter.unusedSimpArgs false
namespace Go.Proofs.Ytifighdccepilaa.Pure.FnExactWeekdayOfWay
open Go.RowKit Go.Proofs.Ytifighdccepilaa.PFnExactWeekdayOf Go.Proofs.YtifighdccepilaaW.PrintWords Go.Proofs.YtifighdccepilaaW.PrintLast Go.Proofs.YtifighdccepilaaW.PrintMore Go.Proofs.Ytifighdccepilaa.Lib

/-! l1In -/
theorem l1In_eq (a b c : Int) : spec_l1In.f a b c = some (decide (b ≤ a ∧ a ≤ c)) := within_gen (fun _ _ _ => rfl) a b c

/-! daRule -/
theorem daRule_at (e b y : Int) (k : Nat) : spec_daRule.f (k + 1) e b y = some (decide (ruleOk e b y)) := by
  have leaf : ∀ {X : Bool} {P : Prop} [Decidable P], (X = true ↔ P) → some X = some (decide P) := fun h => by
    congr 1
    rw [Bool.eq_iff_iff, decide_eq_true_iff]
    exact h
  simp only [spec_daRule.f, spec_daRule.j0, l1In_eq, Option.bind_some, decide_eq_true_eq]
  unfold ruleOk
  by_cases h1 : 1 ≤ e ∧ e ≤ 10000
  · rw [if_pos h1]
    by_cases h2 : 0 ≤ b ∧ b ≤ 10000
    · rw [if_pos h2]
      by_cases h3 : 0 ≤ y ∧ y ≤ 10000
      · rw [tmod_e h2.1, tmod_e h3.1, if_neg (by simp; omega)]
        by_cases c1 : b = 0
        · rw [if_pos c1]
          refine leaf ?_
          generalize b % e = p
          generalize y % b = q
          rw [beq_iff_eq]
          omega
        · rw [if_neg c1]
          by_cases c2 : b > e
          · rw [if_pos c2, if_neg (by omega)]
            by_cases c3 : b % e = 0
            · rw [if_pos c3]
              by_cases c4 : y = 0
              · rw [if_pos c4]
                refine leaf ?_
                generalize b % e = p at *
                generalize y % b = q at *
                simp
                omega
              · rw [if_neg c4]
                by_cases c5 : y > b
                · rw [if_pos c5]
                  refine leaf ?_
                  rw [beq_iff_eq]
                  generalize b % e = p at *
                  generalize y % b = q at *
                  omega
                · rw [if_neg c5]
                  refine leaf ?_
                  generalize b % e = p at *
                  generalize y % b = q at *
                  simp
                  omega
            · rw [if_neg c3]
              refine leaf ?_
              generalize b % e = p at *
              generalize y % b = q at *
              simp
              omega
          · rw [if_neg c2]
            refine leaf ?_
            generalize b % e = p at *
            generalize y % b = q at *
            simp
            omega
      · rw [if_pos (by simp; omega)]
        refine leaf ?_
        generalize b % e = p at *
        generalize y % b = q at *
        simp
        omega
    · rw [if_neg h2, if_pos trivial]
      refine leaf ?_
      generalize b % e = p at *
      generalize y % b = q at *
      simp
      omega
  · rw [if_neg h1, if_pos trivial]
    refine leaf ?_
    generalize b % e = p at *
    generalize y % b = q at *
    simp
    omega
theorem daRule_ev (e b y : Int) : Ev (fun k => spec_daRule.f k e b y) (decide (ruleOk e b y)) := ev_one (daRule_at e b y)

/-! daYear -/
theorem daYear_ev (e b y n : Int) : Ev (fun k => spec_daYear.f k e b y n) (decide (ruleOk e b y ∧ 1 ≤ n ∧ n ≤ 1000000)) := by
  unfold spec_daYear.f
  refine Ev.bind (daRule_ev e b y) ?_
  by_cases h : ruleOk e b y
  · refine ev_t (by simpa using h) (ev_con ?_)
    rw [l1In_eq, Option.bind_some]
    congr 1
    rw [Bool.eq_iff_iff]
    simp [h]
  · refine ev_f (by simpa using h) (ev_con ?_)
    simp [h]

/-! daCount -/
theorem daCount_eq {e b y n : Int} (r : ruleOk e b y) (hn : 0 ≤ n) (hn' : n ≤ 2000000) : spec_daCount.f e b y n = some (leapsP e b y n) := by
  have r' := r
  unfold ruleOk at r'
  have h1 := div_le (b := e) hn (by omega)
  have h2 : 0 < b → _ := fun g => div_le (b := b) hn (by omega)
  have h3 : 0 < y → _ := fun g => div_le (b := y) hn (by omega)
  unfold spec_daCount.f leapsP
  rw [tdiv_e hn, tdiv_e hn, tdiv_e hn, if_neg (by omega)]
  by_cases c1 : 0 < b
  · have h2 := h2 c1
    rw [if_pos c1, if_neg (by omega), if_pos c1]
    by_cases c2 : 0 < y
    · have h3 := h3 c2
      rw [if_pos c2, if_neg (by omega), if_pos c2]
      congr 1
      rw [w64 (x := n / e) (by omega) (by omega), w64 (x := n / b) (by omega) (by omega), w64 (x := n / y) (by omega) (by omega), w64 (x := n / e - n / b) (by omega) (by omega), w64 (by omega) (by omega)]
    · rw [if_neg c2, if_neg c2]
      congr 1
      rw [w64 (x := n / e) (by omega) (by omega), w64 (x := n / b) (by omega) (by omega), w64 (x := n / e - n / b) (by omega) (by omega)]
      omega
  · rw [if_neg c1, if_neg c1, if_neg (by omega), if_neg (by omega)]
    congr 1
    rw [w64 (x := n / e) (by omega) (by omega)]
    omega

/-! daDays -/
theorem daDays_eq {e b y n : Int} (r : ruleOk e b y) (hn : 1 ≤ n) (hn' : n ≤ 1000001) : spec_daDays.f e b y n = some (daysP e b y n) := by
  have hb := daysP_bd r hn hn'
  unfold spec_daDays.f
  rw [w64 (x := n - 1) (by omega) (by omega), daCount_eq r (by omega) (by omega), Option.bind_some, w64 (x := 365 * (n - 1)) (by omega) (by omega)]
  unfold daysP at hb ⊢
  rw [w64 (by omega) (by omega)]

/-! within -/
theorem within_eq (a b c : Int) : impl_within.f a b c = some (decide (b ≤ a ∧ a ≤ c)) := within_gen (fun _ _ _ => rfl) a b c

/-! isMultiple -/
theorem isMultiple_eq (n of : Int) (h : of ≤ 10000) : impl_isMultiple.f n of = some (decide (n = 0 ∨ (0 < of ∧ of < n ∧ n ≤ 10000 ∧ n % of = 0))) := by
  have leaf : ∀ {X : Bool} {P : Prop} [Decidable P], (X = true ↔ P) → some X = some (decide P) := fun h => by
    congr 1
    rw [Bool.eq_iff_iff, decide_eq_true_iff]
    exact h
  unfold impl_isMultiple.f
  by_cases c1 : n = 0
  · rw [if_pos c1]
    exact leaf ⟨fun _ => Or.inl c1, fun _ => rfl⟩
  · rw [if_neg c1]
    by_cases c2 : of > 0
    · rw [if_pos c2, w64 (by omega) (by omega), within_eq, Option.bind_some]
      by_cases c3 : of + 1 ≤ n ∧ n ≤ 10000
      · rw [if_pos (by simpa using c3), if_neg (by omega), tmod_e (by omega)]
        refine leaf ?_
        rw [beq_iff_eq]
        generalize n % of = p
        omega
      · rw [if_neg (by simpa using c3)]
        refine leaf ?_
        generalize n % of = p
        simp
        omega
    · rw [if_neg c2]
      refine leaf ?_
      generalize n % of = p
      simp
      omega

/-! IsLeapRule -/
theorem isLeapRule_eq (e b y : Int) : impl_IsLeapRule.f e b y = some (decide (ruleOk e b y)) := by
  have leaf : ∀ {X : Bool} {P : Prop} [Decidable P], (X = true ↔ P) → some X = some (decide P) := fun h => by
    congr 1
    rw [Bool.eq_iff_iff, decide_eq_true_iff]
    exact h
  unfold impl_IsLeapRule.f
  rw [within_eq, Option.bind_some]
  unfold ruleOk
  by_cases c1 : 1 ≤ e ∧ e ≤ 10000
  · rw [if_pos (by simpa using c1), isMultiple_eq _ _ c1.2, Option.bind_some]
    by_cases c2 : b = 0 ∨ (0 < e ∧ e < b ∧ b ≤ 10000 ∧ b % e = 0)
    · rw [if_pos (by simpa using c2), isMultiple_eq _ _ (by omega), Option.bind_some]
      refine leaf ?_
      rw [decide_eq_true_iff]
      generalize b % e = p at *
      generalize y % b = q at *
      omega
    · rw [if_neg (by simpa using c2)]
      refine leaf ?_
      generalize b % e = p at *
      generalize y % b = q at *
      simp
      omega
  · rw [if_neg (by simpa using c1)]
    refine leaf ?_
    generalize b % e = p at *
    generalize y % b = q at *
    simp
    omega

/-! isYear -/
theorem isYear_eq (n : Int) : impl_isYear.f n = some (decide (1 ≤ n ∧ n ≤ 1000000)) := by
  unfold impl_isYear.f
  rw [within_eq, Option.bind_some]

/-! leaps -/
theorem leaps_eq {e b y n : Int} (r : ruleOk e b y) (hn : 0 ≤ n) (hn' : n ≤ 2000000) : impl_LeapRule_leaps.f e b y n = some (leapsP e b y n) := by
  have r' := r
  unfold ruleOk at r'
  have h1 := div_le (b := e) hn (by omega)
  have h2 : 0 < b → _ := fun g => div_le (b := b) hn (by omega)
  have h3 : 0 < y → _ := fun g => div_le (b := y) hn (by omega)
  unfold impl_LeapRule_leaps.f leapsP
  rw [tdiv_e hn, tdiv_e hn, tdiv_e hn, if_neg (by omega)]
  by_cases c1 : 0 < b
  · have h2 := h2 c1
    rw [if_pos c1, if_neg (by omega), if_pos c1]
    by_cases c2 : 0 < y
    · have h3 := h3 c2
      rw [if_pos c2, if_neg (by omega), if_pos c2]
      congr 1
      rw [w64 (x := n / e) (by omega) (by omega), w64 (x := n / b) (by omega) (by omega), w64 (x := n / y) (by omega) (by omega), w64 (x := n / e - n / b) (by omega) (by omega), w64 (by omega) (by omega)]
    · rw [if_neg c2, if_neg c2]
      congr 1
      rw [w64 (x := n / e) (by omega) (by omega), w64 (x := n / b) (by omega) (by omega), w64 (x := n / e - n / b) (by omega) (by omega)]
      omega
  · rw [if_neg c1, if_neg c1, if_neg (by omega), if_neg (by omega)]
    congr 1
    rw [w64 (x := n / e) (by omega) (by omega)]
    omega

/-! days -/
theorem days_eq {e b y n : Int} (r : ruleOk e b y) (hn : 1 ≤ n) (hn' : n ≤ 1000001) : impl_LeapRule_days.f e b y n = some (daysP e b y n) := by
  have hb := daysP_bd r hn hn'
  unfold impl_LeapRule_days.f
  rw [w64 (x := n - 1) (by omega) (by omega), leaps_eq r (by omega) (by omega), Option.bind_some, w64 (x := 365 * (n - 1)) (by omega) (by omega)]
  unfold daysP at hb ⊢
  rw [w64 (by omega) (by omega)]

/-! DaysUpTo_impl -/
theorem DaysUpTo_impl (e b y n : Int) : impl_DaysUpTo.f e b y n = some (if ruleOk e b y ∧ 1 ≤ n ∧ n ≤ 1000000 then (daysP e b y n, true) else (0, false)) := by
  unfold impl_DaysUpTo.f
  rw [isLeapRule_eq, Option.bind_some]
  by_cases r : ruleOk e b y
  · rw [if_pos (by simpa using r), isYear_eq, Option.bind_some]
    by_cases h : 1 ≤ n ∧ n ≤ 1000000
    · rw [if_pos (by simpa using h), if_pos ⟨r, h⟩]
      obtain ⟨h1, h2⟩ := h
      rw [days_eq r h1 (by omega), Option.bind_some]
    · rw [if_neg (by simpa using h), if_neg (fun z => h z.2)]
  · rw [if_neg (by simpa using r), if_neg (fun z => r z.1)]

/-! WeekdayOf -/
theorem WeekdayOf_spec (e b y n : Int) : Ev (fun k => spec_WeekdayOf.f k e b y n) (if ruleOk e b y ∧ 1 ≤ n ∧ n ≤ 1000000 then (daysP e b y n % 7, true) else (0, false)) := by
  unfold spec_WeekdayOf.f
  refine Ev.bind (daYear_ev e b y n) ?_
  by_cases h : ruleOk e b y ∧ 1 ≤ n ∧ n ≤ 1000000
  · rw [if_pos h]
    refine ev_t (by simpa using h) ?_
    obtain ⟨r, h1, h2⟩ := h
    rw [daDays_eq r h1 (by omega), Option.bind_some, tmod_e (daysP_bd r h1 (by omega)).1]
    exact ev_now _
  · rw [if_neg h]
    exact ev_f (by simpa using h) (ev_now _)
theorem WeekdayOf_impl (e b y n : Int) : impl_WeekdayOf.f e b y n = some (if ruleOk e b y ∧ 1 ≤ n ∧ n ≤ 1000000 then (daysP e b y n % 7, true) else (0, false)) := by
  unfold impl_WeekdayOf.f
  rw [DaysUpTo_impl, Option.bind_some]
  by_cases h : ruleOk e b y ∧ 1 ≤ n ∧ n ≤ 1000000
  · rw [if_pos h, if_pos h]
    show some (Int.tmod (daysP e b y n) 7, true) = _
    rw [tmod_e (daysP_bd h.1 h.2.1 (by omega)).1]
  · rw [if_neg h, if_neg h]
    rfl

/-! the law -/
theorem law (a0_0 a0_1 a0_2 a1 : Int) (w0_0 : (Lit.int .i64 a0_0).wf = true) (w0_1 : (Lit.int .i64 a0_1).wf = true) (w0_2 : (Lit.int .i64 a0_2).wf = true) (w1 : (Lit.int .i64 a1).wf = true) : ∃ k, laws_FnExactWeekdayOf.f k a0_0 a0_1 a0_2 a1 = some true := Ev.rounds (g := fun k => laws_FnExactWeekdayOf.f k a0_0 a0_1 a0_2 a1) (by
  simp only [laws_FnExactWeekdayOf.f, laws_toLeapRule.f, Option.bind_some]
  refine Ev.bind (WeekdayOf_spec a0_0 a0_1 a0_2 a1) ?_
  refine ev_p (WeekdayOf_impl a0_0 a0_1 a0_2 a1) ?_
  repeat (first | refine ev_t rfl ?_ | refine ev_f (by simp) ?_)
  exact ev_now true)

end Go.Proofs.Ytifighdccepilaa.Pure.FnExactWeekdayOfWay
