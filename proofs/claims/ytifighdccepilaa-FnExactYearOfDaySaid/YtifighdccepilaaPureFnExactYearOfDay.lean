/- FnExactYearOfDay: the law's printed function answers true at every input. -/
import Derived.Test.YtifighdccepilaaPFnExactYearOfDayx2
import Derived.Test.YtifighdccepilaaLib
set_option linter.unusedVariables false
set_option linter.unusedSimpArgs false
namespace Go.Proofs.Ytifighdccepilaa.Pure.FnExactYearOfDayWay
open Go.RowKit Go.Proofs.Ytifighdccepilaa.PFnExactYearOfDay Go.Proofs.YtifighdccepilaaW.PrintWords Go.Proofs.YtifighdccepilaaW.PrintLast Go.Proofs.YtifighdccepilaaW.PrintMore Go.Proofs.Ytifighdccepilaa.Lib

/-! l1In -/
theorem l1In_eq (a b c : Int) : spec_l1In.f a b c = some (decide (b ≤ a ∧ a ≤ c)) := within_gen (fun _ _ _ => rfl) a b c

/-! daRule -/
theorem daRule_at (e b y : Int) (k : Nat) : spec_daRule.f (k + 1) e b y = some (decide (ruleOk e b y)) := by
  have leaf : ∀ {X : Bool} {P : Prop} [Decidable P], (X = true ↔ P) → some X = some (decide P) := fun h => by
    congr 1
    rw [Bool.eq_iff_iff, decide_eq_true_iff]
    exact h
  simp only [spec_daRule.f, spec_daRule.j0, l1In_eq, Option.bind_some, decide_eq_true_eq]
  unfold ruleOk
  by_cases h1 : 1 ≤ e ∧ e ≤ 10000
  · rw [if_pos h1]
    by_cases h2 : 0 ≤ b ∧ b ≤ 10000
    · rw [if_pos h2]
      by_cases h3 : 0 ≤ y ∧ y ≤ 10000
      · rw [tmod_e h2.1, tmod_e h3.1, if_neg (by simp; omega)]
        by_cases c1 : b = 0
        · rw [if_pos c1]
          refine leaf ?_
          generalize b % e = p
          generalize y % b = q
          rw [beq_iff_eq]
          omega
        · rw [if_neg c1]
          by_cases c2 : b > e
          · rw [if_pos c2, if_neg (by omega)]
            by_cases c3 : b % e = 0
            · rw [if_pos c3]
              by_cases c4 : y = 0
              · rw [if_pos c4]
                refine leaf ?_
                generalize b % e = p at *
                generalize y % b = q at *
                simp
                omega
              · rw [if_neg c4]
                by_cases c5 : y > b
                · rw [if_pos c5]
                  refine leaf ?_
                  rw [beq_iff_eq]
                  generalize b % e = p at *
                  generalize y % b = q at *
                  omega
                · rw [if_neg c5]
                  refine leaf ?_
                  generalize b % e = p at *
                  generalize y % b = q at *
                  simp
                  omega
            · rw [if_neg c3]
              refine leaf ?_
              generalize b % e = p at *
              generalize y % b = q at *
              simp
              omega
          · rw [if_neg c2]
            refine leaf ?_
            generalize b % e = p at *
            generalize y % b = q at *
            simp
            omega
      · rw [if_pos (by simp; omega)]
        refine leaf ?_
        generalize b % e = p at *
        generalize y % b = q at *
        simp
        omega
    · rw [if_neg h2, if_pos trivial]
      refine leaf ?_
      generalize b % e = p at *
      generalize y % b = q at *
      simp
      omega
  · rw [if_neg h1, if_pos trivial]
    refine leaf ?_
    generalize b % e = p at *
    generalize y % b = q at *
    simp
    omega
theorem daRule_ev (e b y : Int) : Ev (fun k => spec_daRule.f k e b y) (decide (ruleOk e b y)) := ev_one (daRule_at e b y)

/-! daCount -/
theorem daCount_eq {e b y n : Int} (r : ruleOk e b y) (hn : 0 ≤ n) (hn' : n ≤ 2000000) : spec_daCount.f e b y n = some (leapsP e b y n) := by
  have r' := r
  unfold ruleOk at r'
  have h1 := div_le (b := e) hn (by omega)
  have h2 : 0 < b → _ := fun g => div_le (b := b) hn (by omega)
  have h3 : 0 < y → _ := fun g => div_le (b := y) hn (by omega)
  unfold spec_daCount.f leapsP
  rw [tdiv_e hn, tdiv_e hn, tdiv_e hn, if_neg (by omega)]
  by_cases c1 : 0 < b
  · have h2 := h2 c1
    rw [if_pos c1, if_neg (by omega), if_pos c1]
    by_cases c2 : 0 < y
    · have h3 := h3 c2
      rw [if_pos c2, if_neg (by omega), if_pos c2]
      congr 1
      rw [w64 (x := n / e) (by omega) (by omega), w64 (x := n / b) (by omega) (by omega), w64 (x := n / y) (by omega) (by omega), w64 (x := n / e - n / b) (by omega) (by omega), w64 (by omega) (by omega)]
    · rw [if_neg c2, if_neg c2]
      congr 1
      rw [w64 (x := n / e) (by omega) (by omega), w64 (x := n / b) (by omega) (by omega), w64 (x := n / e - n / b) (by omega) (by omega)]
      omega
  · rw [if_neg c1, if_neg c1, if_neg (by omega), if_neg (by omega)]
    congr 1
    rw [w64 (x := n / e) (by omega) (by omega)]
    omega

/-! daDays -/
theorem daDays_eq {e b y n : Int} (r : ruleOk e b y) (hn : 1 ≤ n) (hn' : n ≤ 1000001) : spec_daDays.f e b y n = some (daysP e b y n) := by
  have hb := daysP_bd r hn hn'
  unfold spec_daDays.f
  rw [w64 (x := n - 1) (by omega) (by omega), daCount_eq r (by omega) (by omega), Option.bind_some, w64 (x := 365 * (n - 1)) (by omega) (by omega)]
  unfold daysP at hb ⊢
  rw [w64 (by omega) (by omega)]

/-! within -/
theorem within_eq (a b c : Int) : impl_within.f a b c = some (decide (b ≤ a ∧ a ≤ c)) := within_gen (fun _ _ _ => rfl) a b c

/-! isMultiple -/
theorem isMultiple_eq (n of : Int) (h : of ≤ 10000) : impl_isMultiple.f n of = some (decide (n = 0 ∨ (0 < of ∧ of < n ∧ n ≤ 10000 ∧ n % of = 0))) := by
  have leaf : ∀ {X : Bool} {P : Prop} [Decidable P], (X = true ↔ P) → some X = some (decide P) := fun h => by
    congr 1
    rw [Bool.eq_iff_iff, decide_eq_true_iff]
    exact h
  unfold impl_isMultiple.f
  by_cases c1 : n = 0
  · rw [if_pos c1]
    exact leaf ⟨fun _ => Or.inl c1, fun _ => rfl⟩
  · rw [if_neg c1]
    by_cases c2 : of > 0
    · rw [if_pos c2, w64 (by omega) (by omega), within_eq, Option.bind_some]
      by_cases c3 : of + 1 ≤ n ∧ n ≤ 10000
      · rw [if_pos (by simpa using c3), if_neg (by omega), tmod_e (by omega)]
        refine leaf ?_
        rw [beq_iff_eq]
        generalize n % of = p
        omega
      · rw [if_neg (by simpa using c3)]
        refine leaf ?_
        generalize n % of = p
        simp
        omega
    · rw [if_neg c2]
      refine leaf ?_
      generalize n % of = p
      simp
      omega

/-! IsLeapRule -/
theorem isLeapRule_eq (e b y : Int) : impl_IsLeapRule.f e b y = some (decide (ruleOk e b y)) := by
  have leaf : ∀ {X : Bool} {P : Prop} [Decidable P], (X = true ↔ P) → some X = some (decide P) := fun h => by
    congr 1
    rw [Bool.eq_iff_iff, decide_eq_true_iff]
    exact h
  unfold impl_IsLeapRule.f
  rw [within_eq, Option.bind_some]
  unfold ruleOk
  by_cases c1 : 1 ≤ e ∧ e ≤ 10000
  · rw [if_pos (by simpa using c1), isMultiple_eq _ _ c1.2, Option.bind_some]
    by_cases c2 : b = 0 ∨ (0 < e ∧ e < b ∧ b ≤ 10000 ∧ b % e = 0)
    · rw [if_pos (by simpa using c2), isMultiple_eq _ _ (by omega), Option.bind_some]
      refine leaf ?_
      rw [decide_eq_true_iff]
      generalize b % e = p at *
      generalize y % b = q at *
      omega
    · rw [if_neg (by simpa using c2)]
      refine leaf ?_
      generalize b % e = p at *
      generalize y % b = q at *
      simp
      omega
  · rw [if_neg (by simpa using c1)]
    refine leaf ?_
    generalize b % e = p at *
    generalize y % b = q at *
    simp
    omega

/-! leaps -/
theorem leaps_eq {e b y n : Int} (r : ruleOk e b y) (hn : 0 ≤ n) (hn' : n ≤ 2000000) : impl_LeapRule_leaps.f e b y n = some (leapsP e b y n) := by
  have r' := r
  unfold ruleOk at r'
  have h1 := div_le (b := e) hn (by omega)
  have h2 : 0 < b → _ := fun g => div_le (b := b) hn (by omega)
  have h3 : 0 < y → _ := fun g => div_le (b := y) hn (by omega)
  unfold impl_LeapRule_leaps.f leapsP
  rw [tdiv_e hn, tdiv_e hn, tdiv_e hn, if_neg (by omega)]
  by_cases c1 : 0 < b
  · have h2 := h2 c1
    rw [if_pos c1, if_neg (by omega), if_pos c1]
    by_cases c2 : 0 < y
    · have h3 := h3 c2
      rw [if_pos c2, if_neg (by omega), if_pos c2]
      congr 1
      rw [w64 (x := n / e) (by omega) (by omega), w64 (x := n / b) (by omega) (by omega), w64 (x := n / y) (by omega) (by omega), w64 (x := n / e - n / b) (by omega) (by omega), w64 (by omega) (by omega)]
    · rw [if_neg c2, if_neg c2]
      congr 1
      rw [w64 (x := n / e) (by omega) (by omega), w64 (x := n / b) (by omega) (by omega), w64 (x := n / e - n / b) (by omega) (by omega)]
      omega
  · rw [if_neg c1, if_neg c1, if_neg (by omega), if_neg (by omega)]
    congr 1
    rw [w64 (x := n / e) (by omega) (by omega)]
    omega

/-! days -/
theorem days_eq {e b y n : Int} (r : ruleOk e b y) (hn : 1 ≤ n) (hn' : n ≤ 1000001) : impl_LeapRule_days.f e b y n = some (daysP e b y n) := by
  have hb := daysP_bd r hn hn'
  unfold impl_LeapRule_days.f
  rw [w64 (x := n - 1) (by omega) (by omega), leaps_eq r (by omega) (by omega), Option.bind_some, w64 (x := 365 * (n - 1)) (by omega) (by omega)]
  unfold daysP at hb ⊢
  rw [w64 (by omega) (by omega)]

/-! YearOfDay -/
def goodY (e b y day : Int) (R : Int × Int × Bool) : Prop :=
  (∃ o, 1 ≤ o ∧ o ≤ 1000000 ∧ daysP e b y o ≤ day ∧ day < daysP e b y (o + 1) ∧ R = (o, day - daysP e b y o, true)) ∨ (daysP e b y 1000001 ≤ day ∧ R = (0, 0, false))
theorem goodY_one {e b y day : Int} {R R' : Int × Int × Bool} (r : ruleOk e b y) (h : goodY e b y day R) (h' : goodY e b y day R') : R = R' := by
  rcases h with ⟨o, a1, a2, a3, a4, rfl⟩ | ⟨a1, rfl⟩ <;> rcases h' with ⟨p, b1, b2, b3, b4, rfl⟩ | ⟨b1, rfl⟩
  · have : o = p := by
      rcases Int.lt_trichotomy o p with c | c | c
      · have : daysP e b y (o + 1) ≤ daysP e b y p := by
          by_cases z : o + 1 = p
          · rw [z]
            omega
          · have := daysP_lt (n := o + 1) (m := p) r (by omega)
            omega
        omega
      · exact c
      · have : daysP e b y (p + 1) ≤ daysP e b y o := by
          by_cases z : p + 1 = o
          · rw [z]
            omega
          · have := daysP_lt (n := p + 1) (m := o) r (by omega)
            omega
        omega
    rw [this]
  · have : daysP e b y (o + 1) ≤ daysP e b y 1000001 := by
      by_cases z : o + 1 = 1000001
      · rw [z]
        omega
      · have := daysP_lt (n := o + 1) (m := 1000001) r (by omega)
        omega
    omega
  · have : daysP e b y (p + 1) ≤ daysP e b y 1000001 := by
      by_cases z : p + 1 = 1000001
      · rw [z]
        omega
      · have := daysP_lt (n := p + 1) (m := 1000001) r (by omega)
        omega
    omega
  · rfl
theorem specY {e b y day : Int} (r : ruleOk e b y) (h0 : 0 ≤ day) (h1 : day ≤ 365000000) : ∀ (d : Nat) (low high : Int), 1 ≤ low → low ≤ high → high ≤ 1000001 → high - low < d → daysP e b y low ≤ day → (high < 1000001 → day < daysP e b y (high + 1)) →
    ∃ R, Ev (fun k => spec_YearOfDay.l0 k day low high e b y) R ∧ goodY e b y day R
  | 0, low, high, _, _, _, hd, _, _ => by omega
  | d + 1, low, high, a1, a2, a3, hd, a4, a5 => by
    by_cases c : low < high
    · have st : wrap64 (Int.tdiv (wrap64 (wrap64 (low + high) + 1)) 2) = (low + high + 1) / 2 := by
        rw [w64 (x := low + high) (by omega) (by omega), w64 (x := low + high + 1) (by omega) (by omega), tdiv_e (by omega), w64 (by omega) (by omega)]
      have st2 : wrap64 ((low + high + 1) / 2 - 1) = (low + high + 1) / 2 - 1 := w64 (by omega) (by omega)
      have dd := daDays_eq (n := (low + high + 1) / 2) r (by omega) (by omega)
      by_cases g : daysP e b y ((low + high + 1) / 2) ≤ day
      · obtain ⟨R, ev, gd⟩ := specY r h0 h1 d ((low + high + 1) / 2) high (by omega) (by omega) a3 (by omega) g a5
        refine ⟨R, ev_succ ?_, gd⟩
        simp only [spec_YearOfDay.l0, st, st2]
        exact ev_t c (ev_p dd (ev_t g ev))
      · obtain ⟨R, ev, gd⟩ := specY r h0 h1 d low ((low + high + 1) / 2 - 1) (by omega) (by omega) (by omega) (by omega) a4 (fun _ => by
          have z : (low + high + 1) / 2 - 1 + 1 = (low + high + 1) / 2 := by omega
          rw [z]
          omega)
        refine ⟨R, ev_succ ?_, gd⟩
        simp only [spec_YearOfDay.l0, st, st2]
        exact ev_t c (ev_p dd (ev_f g ev))
    · have e1 : low = high := by omega
      by_cases g : low > 1000000
      · refine ⟨_, ev_succ ?_, Or.inr ⟨?_, rfl⟩⟩
        · simp only [spec_YearOfDay.l0]
          exact ev_f c (ev_t g (ev_now _))
        · have e2 : low = 1000001 := by omega
          rw [e2] at a4
          exact a4
      · have dd := daDays_eq (n := low) r (by omega) (by omega)
        have bd := daysP_bd (n := low) r (by omega) (by omega)
        refine ⟨_, ev_succ ?_, Or.inl ⟨low, by omega, by omega, a4, ?_, rfl⟩⟩
        · simp only [spec_YearOfDay.l0]
          refine ev_f c (ev_f g (ev_p dd ?_))
          rw [w64 (by omega) (by omega)]
          exact ev_now _
        · rw [e1]
          exact a5 (by omega)
theorem implY {e b y day : Int} (r : ruleOk e b y) (h0 : 0 ≤ day) (h1 : day ≤ 365000000) : ∀ (d : Nat) (low high : Int), 1 ≤ low → low < high → high ≤ 1000001 → high - low < d → daysP e b y low ≤ day → (high < 1000001 → day < daysP e b y high) →
    ∃ R, Ev (fun k => impl_YearOfDay.l0 k day low high e b y) R ∧ goodY e b y day R
  | 0, low, high, _, _, _, hd, _, _ => by omega
  | d + 1, low, high, a1, a2, a3, hd, a4, a5 => by
    have s0 : wrap64 (high - low) = high - low := w64 (by omega) (by omega)
    by_cases c : high - low > 1
    · have st : wrap64 (Int.tdiv (wrap64 (low + high)) 2) = (low + high) / 2 := by
        rw [w64 (x := low + high) (by omega) (by omega), tdiv_e (by omega), w64 (by omega) (by omega)]
      have dd := days_eq (n := (low + high) / 2) r (by omega) (by omega)
      by_cases g : daysP e b y ((low + high) / 2) ≤ day
      · obtain ⟨R, ev, gd⟩ := implY r h0 h1 d ((low + high) / 2) high (by omega) (by omega) a3 (by omega) g a5
        refine ⟨R, ev_succ ?_, gd⟩
        simp only [impl_YearOfDay.l0, st, s0]
        exact ev_t c (ev_p dd (ev_t g ev))
      · obtain ⟨R, ev, gd⟩ := implY r h0 h1 d low ((low + high) / 2) (by omega) (by omega) (by omega) (by omega) a4 (fun _ => by omega)
        refine ⟨R, ev_succ ?_, gd⟩
        simp only [impl_YearOfDay.l0, st, s0]
        exact ev_t c (ev_p dd (ev_f g ev))
    · have e1 : high = low + 1 := by omega
      have s1 : wrap64 (low + 1) = low + 1 := w64 (by omega) (by omega)
      have dd := days_eq (n := low + 1) r (by omega) (by omega)
      have dl := days_eq (n := low) r (by omega) (by omega)
      have bd := daysP_bd (n := low) r (by omega) (by omega)
      by_cases g : day ≥ daysP e b y (low + 1)
      · refine ⟨_, ev_succ ?_, Or.inr ⟨?_, rfl⟩⟩
        · simp only [impl_YearOfDay.l0, s0, s1]
          exact ev_f c (ev_p dd (ev_t g (ev_now _)))
        · by_cases z : high < 1000001
          · have := a5 z
            rw [e1] at this
            omega
          · have e2 : low + 1 = 1000001 := by omega
            rw [e2] at g
            exact g
      · refine ⟨_, ev_succ ?_, Or.inl ⟨low, by omega, by omega, a4, by omega, rfl⟩⟩
        simp only [impl_YearOfDay.l0, s0, s1]
        refine ev_f c (ev_p dd (ev_f g (ev_p dl ?_)))
        rw [w64 (by omega) (by omega)]
        exact ev_now _
theorem YearOfDay_both (e b y day : Int) : ∃ R, Ev (fun k => spec_YearOfDay.f k e b y day) R ∧ Ev (fun k => impl_YearOfDay.f k e b y day) R ∧ (ruleOk e b y → 0 ≤ day → day ≤ 365000000 → goodY e b y day R) ∧ (¬ (ruleOk e b y ∧ 0 ≤ day ∧ day ≤ 365000000) → R = (0, 0, false)) := by
  have no : ∀ k, spec_YearOfDay.j0 (k + 1) day true e b y = some (0, 0, false) := fun k => by
    simp [spec_YearOfDay.j0]
  have no' : ∀ k, impl_YearOfDay.j0 (k + 1) day true e b y = some (0, 0, false) := fun k => by
    simp [impl_YearOfDay.j0]
  by_cases r : ruleOk e b y
  · by_cases h : 0 ≤ day ∧ day ≤ 365000000
    · have z : (!decide (0 ≤ day ∧ day ≤ 365000000)) = false := by simp; exact h
      have d1 : daysP e b y 1 = 0 := by
        unfold daysP leapsP
        simp
      obtain ⟨R, ev, gd⟩ := specY r h.1 h.2 1000001 1 1000001 (by omega) (by omega) (by omega) (by omega) (by omega) (by omega)
      obtain ⟨R', ev', gd'⟩ := implY r h.1 h.2 1000001 1 1000001 (by omega) (by omega) (by omega) (by omega) (by omega) (by omega)
      obtain rfl := goodY_one r gd gd'
      refine ⟨R, ?_, ?_, fun _ _ _ => gd, fun n => (n ⟨r, h⟩).elim⟩
      · unfold spec_YearOfDay.f
        refine Ev.bind (daRule_ev e b y) (ev_t (by simpa using r) (ev_p (l1In_eq _ _ _) ?_))
        simp only [z]
        refine ev_succ ?_
        simp only [spec_YearOfDay.j0]
        exact ev_f (by simp) ev
      · unfold impl_YearOfDay.f
        refine ev_p (isLeapRule_eq e b y) (ev_t (by simpa using r) (ev_p (within_eq _ _ _) ?_))
        simp only [z]
        refine ev_succ ?_
        simp only [impl_YearOfDay.j0]
        exact ev_f (by simp) ev'
    · have z : (!decide (0 ≤ day ∧ day ≤ 365000000)) = true := by
        rw [decide_eq_false h]
        rfl
      refine ⟨(0, 0, false), ?_, ?_, fun _ a b => (h ⟨a, b⟩).elim, fun _ => rfl⟩
      · unfold spec_YearOfDay.f
        refine Ev.bind (daRule_ev e b y) (ev_t (by simpa using r) (ev_p (l1In_eq _ _ _) ?_))
        simp only [z]
        exact ev_one no
      · unfold impl_YearOfDay.f
        refine ev_p (isLeapRule_eq e b y) (ev_t (by simpa using r) (ev_p (within_eq _ _ _) ?_))
        simp only [z]
        exact ev_one no'
  · refine ⟨(0, 0, false), ?_, ?_, fun a => (r a).elim, fun _ => rfl⟩
    · unfold spec_YearOfDay.f
      exact Ev.bind (daRule_ev e b y) (ev_f (by simpa using r) (ev_one no))
    · unfold impl_YearOfDay.f
      exact ev_p (isLeapRule_eq e b y) (ev_f (by simpa using r) (ev_one no'))

/-! the law -/
theorem law (a0_0 a0_1 a0_2 a1 : Int) (w0_0 : (Lit.int .i64 a0_0).wf = true) (w0_1 : (Lit.int .i64 a0_1).wf = true) (w0_2 : (Lit.int .i64 a0_2).wf = true) (w1 : (Lit.int .i64 a1).wf = true) : ∃ k, laws_FnExactYearOfDay.f k a0_0 a0_1 a0_2 a1 = some true := Ev.rounds (g := fun k => laws_FnExactYearOfDay.f k a0_0 a0_1 a0_2 a1) (by
  obtain ⟨R, h1, h2, -⟩ := YearOfDay_both a0_0 a0_1 a0_2 a1
  simp only [laws_FnExactYearOfDay.f, laws_toLeapRule.f, Option.bind_some]
  refine Ev.bind h1 ?_
  refine Ev.bind h2 ?_
  repeat (first | refine ev_t rfl ?_ | refine ev_f (by simp) ?_)
  exact ev_now true)

end Go.Proofs.Ytifighdccepilaa.Pure.FnExactYearOfDayWay
