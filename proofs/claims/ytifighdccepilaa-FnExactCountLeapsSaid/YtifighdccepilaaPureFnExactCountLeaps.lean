/- FnExactCountLeaps: the law's printed function answers true at every input. -/
import Derived.Test.YtifighdccepilaaPFnExactCountLeapsx2
import Derived.Test.YtifighdccepilaaLib
set_option linter.unusedVariables false
set_option linter.unusedSimpArgs false
namespace Go.Proofs.Ytifighdccepilaa.Pure.FnExactCountLeapsWay
open Go.RowKit Go.Proofs.Ytifighdccepilaa.PFnExactCountLeaps Go.Proofs.YtifighdccepilaaW.PrintWords Go.Proofs.YtifighdccepilaaW.PrintLast Go.Proofs.YtifighdccepilaaW.PrintMore Go.Proofs.Ytifighdccepilaa.Lib

/-! l1In -/
theorem l1In_eq (a b c : Int) : spec_l1In.f a b c = some (decide (b ≤ a ∧ a ≤ c)) := within_gen (fun _ _ _ => rfl) a b c

/-! daRule -/
theorem daRule_at (e b y : Int) (k : Nat) : spec_daRule.f (k + 1) e b y = some (decide (ruleOk e b y)) := by
  have leaf : ∀ {X : Bool} {P : Prop} [Decidable P], (X = true ↔ P) → some X = some (decide P) := fun h => by
    congr 1
    rw [Bool.eq_iff_iff, decide_eq_true_iff]
    exact h
  simp only [spec_daRule.f, spec_daRule.j0, l1In_eq, Option.bind_some, decide_eq_true_eq]
  unfold ruleOk
  by_cases h1 : 1 ≤ e ∧ e ≤ 10000
  · rw [if_pos h1]
    by_cases h2 : 0 ≤ b ∧ b ≤ 10000
    · rw [if_pos h2]
      by_cases h3 : 0 ≤ y ∧ y ≤ 10000
      · rw [tmod_e h2.1, tmod_e h3.1, if_neg (by simp; omega)]
        by_cases c1 : b = 0
        · rw [if_pos c1]
          refine leaf ?_
          generalize b % e = p
          generalize y % b = q
          rw [beq_iff_eq]
          omega
        · rw [if_neg c1]
          by_cases c2 : b > e
          · rw [if_pos c2, if_neg (by omega)]
            by_cases c3 : b % e = 0
            · rw [if_pos c3]
              by_cases c4 : y = 0
              · rw [if_pos c4]
                refine leaf ?_
                generalize b % e = p at *
                generalize y % b = q at *
                simp
                omega
              · rw [if_neg c4]
                by_cases c5 : y > b
                · rw [if_pos c5]
                  refine leaf ?_
                  rw [beq_iff_eq]
                  generalize b % e = p at *
                  generalize y % b = q at *
                  omega
                · rw [if_neg c5]
                  refine leaf ?_
                  generalize b % e = p at *
                  generalize y % b = q at *
                  simp
                  omega
            · rw [if_neg c3]
              refine leaf ?_
              generalize b % e = p at *
              generalize y % b = q at *
              simp
              omega
          · rw [if_neg c2]
            refine leaf ?_
            generalize b % e = p at *
            generalize y % b = q at *
            simp
            omega
      · rw [if_pos (by simp; omega)]
        refine leaf ?_
        generalize b % e = p at *
        generalize y % b = q at *
        simp
        omega
    · rw [if_neg h2, if_pos trivial]
      refine leaf ?_
      generalize b % e = p at *
      generalize y % b = q at *
      simp
      omega
  · rw [if_neg h1, if_pos trivial]
    refine leaf ?_
    generalize b % e = p at *
    generalize y % b = q at *
    simp
    omega
theorem daRule_ev (e b y : Int) : Ev (fun k => spec_daRule.f k e b y) (decide (ruleOk e b y)) := ev_one (daRule_at e b y)

/-! daYear -/
theorem daYear_ev (e b y n : Int) : Ev (fun k => spec_daYear.f k e b y n) (decide (ruleOk e b y ∧ 1 ≤ n ∧ n ≤ 1000000)) := by
  unfold spec_daYear.f
  refine Ev.bind (daRule_ev e b y) ?_
  by_cases h : ruleOk e b y
  · refine ev_t (by simpa using h) (ev_con ?_)
    rw [l1In_eq, Option.bind_some]
    congr 1
    rw [Bool.eq_iff_iff]
    simp [h]
  · refine ev_f (by simpa using h) (ev_con ?_)
    simp [h]

/-! daCount -/
theorem daCount_eq {e b y n : Int} (r : ruleOk e b y) (hn : 0 ≤ n) (hn' : n ≤ 2000000) : spec_daCount.f e b y n = some (leapsP e b y n) := by
  have r' := r
  unfold ruleOk at r'
  have h1 := div_le (b := e) hn (by omega)
  have h2 : 0 < b → _ := fun g => div_le (b := b) hn (by omega)
  have h3 : 0 < y → _ := fun g => div_le (b := y) hn (by omega)
  unfold spec_daCount.f leapsP
  rw [tdiv_e hn, tdiv_e hn, tdiv_e hn, if_neg (by omega)]
  by_cases c1 : 0 < b
  · have h2 := h2 c1
    rw [if_pos c1, if_neg (by omega), if_pos c1]
    by_cases c2 : 0 < y
    · have h3 := h3 c2
      rw [if_pos c2, if_neg (by omega), if_pos c2]
      congr 1
      rw [w64 (x := n / e) (by omega) (by omega), w64 (x := n / b) (by omega) (by omega), w64 (x := n / y) (by omega) (by omega), w64 (x := n / e - n / b) (by omega) (by omega), w64 (by omega) (by omega)]
    · rw [if_neg c2, if_neg c2]
      congr 1
      rw [w64 (x := n / e) (by omega) (by omega), w64 (x := n / b) (by omega) (by omega), w64 (x := n / e - n / b) (by omega) (by omega)]
      omega
  · rw [if_neg c1, if_neg c1, if_neg (by omega), if_neg (by omega)]
    congr 1
    rw [w64 (x := n / e) (by omega) (by omega)]
    omega

/-! within -/
theorem within_eq (a b c : Int) : impl_within.f a b c = some (decide (b ≤ a ∧ a ≤ c)) := within_gen (fun _ _ _ => rfl) a b c

/-! isMultiple -/
theorem isMultiple_eq (n of : Int) (h : of ≤ 10000) : impl_isMultiple.f n of = some (decide (n = 0 ∨ (0 < of ∧ of < n ∧ n ≤ 10000 ∧ n % of = 0))) := by
  have leaf : ∀ {X : Bool} {P : Prop} [Decidable P], (X = true ↔ P) → some X = some (decide P) := fun h => by
    congr 1
    rw [Bool.eq_iff_iff, decide_eq_true_iff]
    exact h
  unfold impl_isMultiple.f
  by_cases c1 : n = 0
  · rw [if_pos c1]
    exact leaf ⟨fun _ => Or.inl c1, fun _ => rfl⟩
  · rw [if_neg c1]
    by_cases c2 : of > 0
    · rw [if_pos c2, w64 (by omega) (by omega), within_eq, Option.bind_some]
      by_cases c3 : of + 1 ≤ n ∧ n ≤ 10000
      · rw [if_pos (by simpa using c3), if_neg (by omega), tmod_e (by omega)]
        refine leaf ?_
        rw [beq_iff_eq]
        generalize n % of = p
        omega
      · rw [if_neg (by simpa using c3)]
        refine leaf ?_
        generalize n % of = p
        simp
        omega
    · rw [if_neg c2]
      refine leaf ?_
      generalize n % of = p
      simp
      omega

/-! IsLeapRule -/
theorem isLeapRule_eq (e b y : Int) : impl_IsLeapRule.f e b y = some (decide (ruleOk e b y)) := by
  have leaf : ∀ {X : Bool} {P : Prop} [Decidable P], (X = true ↔ P) → some X = some (decide P) := fun h => by
    congr 1
    rw [Bool.eq_iff_iff, decide_eq_true_iff]
    exact h
  unfold impl_IsLeapRule.f
  rw [within_eq, Option.bind_some]
  unfold ruleOk
  by_cases c1 : 1 ≤ e ∧ e ≤ 10000
  · rw [if_pos (by simpa using c1), isMultiple_eq _ _ c1.2, Option.bind_some]
    by_cases c2 : b = 0 ∨ (0 < e ∧ e < b ∧ b ≤ 10000 ∧ b % e = 0)
    · rw [if_pos (by simpa using c2), isMultiple_eq _ _ (by omega), Option.bind_some]
      refine leaf ?_
      rw [decide_eq_true_iff]
      generalize b % e = p at *
      generalize y % b = q at *
      omega
    · rw [if_neg (by simpa using c2)]
      refine leaf ?_
      generalize b % e = p at *
      generalize y % b = q at *
      simp
      omega
  · rw [if_neg (by simpa using c1)]
    refine leaf ?_
    generalize b % e = p at *
    generalize y % b = q at *
    simp
    omega

/-! isYear -/
theorem isYear_eq (n : Int) : impl_isYear.f n = some (decide (1 ≤ n ∧ n ≤ 1000000)) := by
  unfold impl_isYear.f
  rw [within_eq, Option.bind_some]

/-! leaps -/
theorem leaps_eq {e b y n : Int} (r : ruleOk e b y) (hn : 0 ≤ n) (hn' : n ≤ 2000000) : impl_LeapRule_leaps.f e b y n = some (leapsP e b y n) := by
  have r' := r
  unfold ruleOk at r'
  have h1 := div_le (b := e) hn (by omega)
  have h2 : 0 < b → _ := fun g => div_le (b := b) hn (by omega)
  have h3 : 0 < y → _ := fun g => div_le (b := y) hn (by omega)
  unfold impl_LeapRule_leaps.f leapsP
  rw [tdiv_e hn, tdiv_e hn, tdiv_e hn, if_neg (by omega)]
  by_cases c1 : 0 < b
  · have h2 := h2 c1
    rw [if_pos c1, if_neg (by omega), if_pos c1]
    by_cases c2 : 0 < y
    · have h3 := h3 c2
      rw [if_pos c2, if_neg (by omega), if_pos c2]
      congr 1
      rw [w64 (x := n / e) (by omega) (by omega), w64 (x := n / b) (by omega) (by omega), w64 (x := n / y) (by omega) (by omega), w64 (x := n / e - n / b) (by omega) (by omega), w64 (by omega) (by omega)]
    · rw [if_neg c2, if_neg c2]
      congr 1
      rw [w64 (x := n / e) (by omega) (by omega), w64 (x := n / b) (by omega) (by omega), w64 (x := n / e - n / b) (by omega) (by omega)]
      omega
  · rw [if_neg c1, if_neg c1, if_neg (by omega), if_neg (by omega)]
    congr 1
    rw [w64 (x := n / e) (by omega) (by omega)]
    omega

/-! CountLeaps -/
def countP (e b y f t : Int) : Int × Bool := if ruleOk e b y ∧ (1 ≤ f ∧ f ≤ 1000000) ∧ (1 ≤ t ∧ t ≤ 1000000) then (max 0 (leapsP e b y t - leapsP e b y (f - 1)), true) else (0, false)
theorem CountLeaps_spec (e b y f t : Int) : Ev (fun k => spec_CountLeaps.f k e b y f t) (countP e b y f t) := by
  have no : ∀ k, spec_CountLeaps.j0 (k + 1) f t true e b y = some (0, false) := fun k => by
    simp [spec_CountLeaps.j0]
  unfold spec_CountLeaps.f countP
  refine Ev.bind (daYear_ev e b y f) ?_
  by_cases h : ruleOk e b y ∧ 1 ≤ f ∧ f ≤ 1000000
  · refine ev_t (by simpa using h) ?_
    refine Ev.bind (daYear_ev e b y t) ?_
    by_cases g : 1 ≤ t ∧ t ≤ 1000000
    · rw [if_pos ⟨h.1, h.2, g⟩]
      have z : (!decide (ruleOk e b y ∧ 1 ≤ t ∧ t ≤ 1000000)) = false := by simp; exact ⟨h.1, g.1, g.2⟩
      simp only [z]
      refine ev_one fun k => ?_
      simp only [spec_CountLeaps.j0]
      rw [if_neg (by simp)]
      have l1 := leapsP_bd (n := t) h.1 (by omega)
      have l2 := leapsP_bd (n := f - 1) h.1 (by omega)
      by_cases c : t < f
      · rw [if_pos c]
        have := leapsP_le (n := t) (m := f - 1) h.1 (by omega)
        congr 2
        omega
      · rw [if_neg c, daCount_eq h.1 (by omega) (by omega), Option.bind_some, w64 (x := f - 1) (by omega) (by omega), daCount_eq h.1 (by omega) (by omega), Option.bind_some, w64 (by omega) (by omega)]
        have := leapsP_le (n := f - 1) (m := t) h.1 (by omega)
        congr 2
        omega
    · rw [if_neg (fun z => g z.2.2)]
      have z : (!decide (ruleOk e b y ∧ 1 ≤ t ∧ t ≤ 1000000)) = true := by
        rw [decide_eq_false (fun z => g z.2)]
        rfl
      simp only [z]
      exact ev_one no
  · rw [if_neg (fun z => h ⟨z.1, z.2.1⟩)]
    exact ev_f (by simpa using h) (ev_one no)
theorem CountLeaps_impl (e b y f t : Int) : Ev (fun k => impl_CountLeaps.f k e b y f t) (countP e b y f t) := by
  have no : ∀ k, impl_CountLeaps.j0 (k + 1) f t true e b y = some (0, false) := fun k => by
    simp [impl_CountLeaps.j0]
  unfold impl_CountLeaps.f countP
  refine ev_p (isLeapRule_eq e b y) ?_
  by_cases r : ruleOk e b y
  · refine ev_t (by simpa using r) (ev_p (isYear_eq f) ?_)
    by_cases h : 1 ≤ f ∧ f ≤ 1000000
    · refine ev_t (by simpa using h) (ev_p (isYear_eq t) ?_)
      by_cases g : 1 ≤ t ∧ t ≤ 1000000
      · rw [if_pos ⟨r, h, g⟩]
        have z : (!decide (1 ≤ t ∧ t ≤ 1000000)) = false := by simp; exact ⟨g.1, g.2⟩
        simp only [z]
        refine ev_one fun k => ?_
        simp only [impl_CountLeaps.j0]
        rw [if_neg (by simp)]
        have l1 := leapsP_bd (n := t) r (by omega)
        have l2 := leapsP_bd (n := f - 1) r (by omega)
        rw [leaps_eq r (by omega) (by omega), Option.bind_some, w64 (x := f - 1) (by omega) (by omega), leaps_eq r (by omega) (by omega), Option.bind_some, w64 (by omega) (by omega)]
        congr 2
        unfold mx
        split <;> omega
      · rw [if_neg (fun z => g z.2.2)]
        have z : (!decide (1 ≤ t ∧ t ≤ 1000000)) = true := by
          rw [decide_eq_false g]
          rfl
        simp only [z]
        exact ev_one no
    · rw [if_neg (fun z => h z.2.1)]
      exact ev_f (by simpa using h) (ev_one no)
  · rw [if_neg (fun z => r z.1)]
    exact ev_f (by simpa using r) (ev_one no)

/-! the law -/
theorem law (a0_0 a0_1 a0_2 a1 a2 : Int) (w0_0 : (Lit.int .i64 a0_0).wf = true) (w0_1 : (Lit.int .i64 a0_1).wf = true) (w0_2 : (Lit.int .i64 a0_2).wf = true) (w1 : (Lit.int .i64 a1).wf = true) (w2 : (Lit.int .i64 a2).wf = true) : ∃ k, laws_FnExactCountLeaps.f k a0_0 a0_1 a0_2 a1 a2 = some true := Ev.rounds (g := fun k => laws_FnExactCountLeaps.f k a0_0 a0_1 a0_2 a1 a2) (by
  simp only [laws_FnExactCountLeaps.f, laws_toLeapRule.f, Option.bind_some]
  refine Ev.bind (CountLeaps_spec a0_0 a0_1 a0_2 a1 a2) ?_
  refine Ev.bind (CountLeaps_impl a0_0 a0_1 a0_2 a1 a2) ?_
  repeat (first | refine ev_t rfl ?_ | refine ev_f (by simp) ?_)
  exact ev_now true)

end Go.Proofs.Ytifighdccepilaa.Pure.FnExactCountLeapsWay
