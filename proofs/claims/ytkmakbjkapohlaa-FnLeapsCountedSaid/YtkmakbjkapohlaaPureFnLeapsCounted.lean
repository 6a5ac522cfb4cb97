/- FnLeapsCounted: the law's printed function answers true at every input. -/
import Derived.Test.YtkmakbjkapohlaaGFnLeapsCountedx8
import Derived.Test.YtkmakbjkapohlaaLib
import Derived.Test.YtkmakbjkapohlaaLibRows
import Derived.Test.YtkmakbjkapohlaaLibGcd
set_option linter.unusedVariables false
set_option linter.unusedSimpArgs false
namespace Go.Proofs.Ytkmakbjkapohlaa.Pure.FnLeapsCountedWay
open Go.RowKit Go.Proofs.Ytkmakbjkapohlaa.GFnLeapsCounted Go.Proofs.YtkmakbjkapohlaaW.PrintWords Go.Proofs.YtkmakbjkapohlaaW.PrintLast Go.Proofs.YtkmakbjkapohlaaW.PrintMore Go.Proofs.Ytkmakbjkapohlaa.Lib

/-! l1In -/
theorem l1In_eq (a b c : Int) : spec_l1In.f a b c = some (decide (b ≤ a ∧ a ≤ c)) := within_gen (fun _ _ _ => rfl) a b c

/-! daRule -/
theorem daRule_at (e b y : Int) (k : Nat) : spec_daRule.f (k + 1) e b y = some (decide (ruleOk e b y)) := by
  have leaf : ∀ {X : Bool} {P : Prop} [Decidable P], (X = true ↔ P) → some X = some (decide P) := fun h => by
    congr 1
    rw [Bool.eq_iff_iff, decide_eq_true_iff]
    exact h
  simp only [spec_daRule.f, spec_daRule.j0, l1In_eq, Option.bind_some, decide_eq_true_eq]
  unfold ruleOk
  by_cases h1 : 1 ≤ e ∧ e ≤ 10000
  · rw [if_pos h1]
    by_cases h2 : 0 ≤ b ∧ b ≤ 10000
    · rw [if_pos h2]
      by_cases h3 : 0 ≤ y ∧ y ≤ 10000
      · rw [tmod_e h2.1, tmod_e h3.1, if_neg (by simp; omega)]
        by_cases c1 : b = 0
        · rw [if_pos c1]
          refine leaf ?_
          generalize b % e = p
          generalize y % b = q
          rw [beq_iff_eq]
          omega
        · rw [if_neg c1]
          by_cases c2 : b > e
          · rw [if_pos c2, if_neg (by omega)]
            by_cases c3 : b % e = 0
            · rw [if_pos c3]
              by_cases c4 : y = 0
              · rw [if_pos c4]
                refine leaf ?_
                generalize b % e = p at *
                generalize y % b = q at *
                simp
                omega
              · rw [if_neg c4]
                by_cases c5 : y > b
                · rw [if_pos c5]
                  refine leaf ?_
                  rw [beq_iff_eq]
                  generalize b % e = p at *
                  generalize y % b = q at *
                  omega
                · rw [if_neg c5]
                  refine leaf ?_
                  generalize b % e = p at *
                  generalize y % b = q at *
                  simp
                  omega
            · rw [if_neg c3]
              refine leaf ?_
              generalize b % e = p at *
              generalize y % b = q at *
              simp
              omega
          · rw [if_neg c2]
            refine leaf ?_
            generalize b % e = p at *
            generalize y % b = q at *
            simp
            omega
      · rw [if_pos (by simp; omega)]
        refine leaf ?_
        generalize b % e = p at *
        generalize y % b = q at *
        simp
        omega
    · rw [if_neg h2, if_pos trivial]
      refine leaf ?_
      generalize b % e = p at *
      generalize y % b = q at *
      simp
      omega
  · rw [if_neg h1, if_pos trivial]
    refine leaf ?_
    generalize b % e = p at *
    generalize y % b = q at *
    simp
    omega
theorem daRule_ev (e b y : Int) : Ev (fun k => spec_daRule.f k e b y) (decide (ruleOk e b y)) := ev_one (daRule_at e b y)

/-! daYear -/
theorem daYear_ev (e b y n : Int) : Ev (fun k => spec_daYear.f k e b y n) (decide (ruleOk e b y ∧ 1 ≤ n ∧ n ≤ 1000000)) := by
  unfold spec_daYear.f
  refine Ev.bind (daRule_ev e b y) ?_
  by_cases h : ruleOk e b y
  · refine ev_t (by simpa using h) (ev_con ?_)
    rw [l1In_eq, Option.bind_some]
    congr 1
    rw [Bool.eq_iff_iff]
    simp [h]
  · refine ev_f (by simpa using h) (ev_con ?_)
    simp [h]

/-! daLeap -/
theorem daLeap_eq {e b y n : Int} (r : ruleOk e b y) (hn : 0 ≤ n) : spec_daLeap.f e b y n = some (leapB e b y n) := by
  unfold ruleOk at r
  unfold spec_daLeap.f leapB
  rw [tmod_e hn, tmod_e hn, tmod_e hn, if_neg (by omega)]
  by_cases c1 : n % e = 0
  · rw [if_pos c1]
    by_cases c2 : b = 0
    · rw [if_pos c2]
      simp [c1, c2]
    · rw [if_neg c2]
      by_cases c3 : n % b = 0
      · rw [if_pos c3]
        by_cases c4 : y = 0
        · rw [if_pos c4]
          simp [c1, c2, c3, c4]
        · rw [if_neg c4]
          congr 1
          rw [Bool.eq_iff_iff]
          simp [c1, c2, c3, c4]
      · rw [if_neg c3]
        simp [c1, c3]
  · rw [if_neg c1]
    simp [c1]

/-! within -/
theorem within_eq (a b c : Int) : impl_within.f a b c = some (decide (b ≤ a ∧ a ≤ c)) := within_gen (fun _ _ _ => rfl) a b c

/-! isMultiple -/
theorem isMultiple_eq (n of : Int) (h : of ≤ 10000) : impl_isMultiple.f n of = some (decide (n = 0 ∨ (0 < of ∧ of < n ∧ n ≤ 10000 ∧ n % of = 0))) := by
  have leaf : ∀ {X : Bool} {P : Prop} [Decidable P], (X = true ↔ P) → some X = some (decide P) := fun h => by
    congr 1
    rw [Bool.eq_iff_iff, decide_eq_true_iff]
    exact h
  unfold impl_isMultiple.f
  by_cases c1 : n = 0
  · rw [if_pos c1]
    exact leaf ⟨fun _ => Or.inl c1, fun _ => rfl⟩
  · rw [if_neg c1]
    by_cases c2 : of > 0
    · rw [if_pos c2, w64 (by omega) (by omega), within_eq, Option.bind_some]
      by_cases c3 : of + 1 ≤ n ∧ n ≤ 10000
      · rw [if_pos (by simpa using c3), if_neg (by omega), tmod_e (by omega)]
        refine leaf ?_
        rw [beq_iff_eq]
        generalize n % of = p
        omega
      · rw [if_neg (by simpa using c3)]
        refine leaf ?_
        generalize n % of = p
        simp
        omega
    · rw [if_neg c2]
      refine leaf ?_
      generalize n % of = p
      simp
      omega

/-! IsLeapRule -/
theorem isLeapRule_eq (e b y : Int) : impl_IsLeapRule.f e b y = some (decide (ruleOk e b y)) := by
  have leaf : ∀ {X : Bool} {P : Prop} [Decidable P], (X = true ↔ P) → some X = some (decide P) := fun h => by
    congr 1
    rw [Bool.eq_iff_iff, decide_eq_true_iff]
    exact h
  unfold impl_IsLeapRule.f
  rw [within_eq, Option.bind_some]
  unfold ruleOk
  by_cases c1 : 1 ≤ e ∧ e ≤ 10000
  · rw [if_pos (by simpa using c1), isMultiple_eq _ _ c1.2, Option.bind_some]
    by_cases c2 : b = 0 ∨ (0 < e ∧ e < b ∧ b ≤ 10000 ∧ b % e = 0)
    · rw [if_pos (by simpa using c2), isMultiple_eq _ _ (by omega), Option.bind_some]
      refine leaf ?_
      rw [decide_eq_true_iff]
      generalize b % e = p at *
      generalize y % b = q at *
      omega
    · rw [if_neg (by simpa using c2)]
      refine leaf ?_
      generalize b % e = p at *
      generalize y % b = q at *
      simp
      omega
  · rw [if_neg (by simpa using c1)]
    refine leaf ?_
    generalize b % e = p at *
    generalize y % b = q at *
    simp
    omega

/-! isYear -/
theorem isYear_eq (n : Int) : impl_isYear.f n = some (decide (1 ≤ n ∧ n ≤ 1000000)) := by
  unfold impl_isYear.f
  rw [within_eq, Option.bind_some]

/-! leaps -/
theorem leaps_eq {e b y n : Int} (r : ruleOk e b y) (hn : 0 ≤ n) (hn' : n ≤ 2000000) : impl_LeapRule_leaps.f e b y n = some (leapsP e b y n) := by
  have r' := r
  unfold ruleOk at r'
  have h1 := div_le (b := e) hn (by omega)
  have h2 : 0 < b → _ := fun g => div_le (b := b) hn (by omega)
  have h3 : 0 < y → _ := fun g => div_le (b := y) hn (by omega)
  unfold impl_LeapRule_leaps.f leapsP
  rw [tdiv_e hn, tdiv_e hn, tdiv_e hn, if_neg (by omega)]
  by_cases c1 : 0 < b
  · have h2 := h2 c1
    rw [if_pos c1, if_neg (by omega), if_pos c1]
    by_cases c2 : 0 < y
    · have h3 := h3 c2
      rw [if_pos c2, if_neg (by omega), if_pos c2]
      congr 1
      rw [w64 (x := n / e) (by omega) (by omega), w64 (x := n / b) (by omega) (by omega), w64 (x := n / y) (by omega) (by omega), w64 (x := n / e - n / b) (by omega) (by omega), w64 (by omega) (by omega)]
    · rw [if_neg c2, if_neg c2]
      congr 1
      rw [w64 (x := n / e) (by omega) (by omega), w64 (x := n / b) (by omega) (by omega), w64 (x := n / e - n / b) (by omega) (by omega)]
      omega
  · rw [if_neg c1, if_neg c1, if_neg (by omega), if_neg (by omega)]
    congr 1
    rw [w64 (x := n / e) (by omega) (by omega)]
    omega

/-! isLeap -/
theorem isLeap_eq {e b y n : Int} (r : ruleOk e b y) (hn : 1 ≤ n) (hn' : n ≤ 2000000) : impl_LeapRule_isLeap.f e b y n = some (leapB e b y n) := by
  unfold impl_LeapRule_isLeap.f
  rw [leaps_eq r (by omega) hn', Option.bind_some, w64 (by omega) (by omega), leaps_eq r (by omega) (by omega), Option.bind_some]
  congr 1
  have h := leapsP_step (n := n) r
  cases c : leapB e b y n
  · rw [c] at h
    simp at h
    exact decide_eq_false (by omega)
  · rw [c] at h
    simp at h
    exact decide_eq_true (by omega)

/-! NextLeap -/
def nextP (e b y : Int) : Nat → Int → Int × Bool
  | 0, _ => (0, false)
  | d + 1, m => if m ≤ 1000000 then (if leapB e b y m = true then (m, true) else nextP e b y d (m + e)) else (0, false)
theorem next_gen {e b y : Int} {l0 : Nat → Int → Option (Int × Bool)} (r : ruleOk e b y) (h1 : ∀ k m, 1 ≤ m → m ≤ 1000000 → l0 (k + 1) m = if leapB e b y m = true then some (m, true) else l0 k (m + e))
    (h2 : ∀ k m, 1000000 < m → l0 (k + 1) m = some (0, false)) : ∀ (d : Nat) (m : Int), 1 ≤ m → 1000000 - m < d → Ev (fun k => l0 k m) (nextP e b y (d + 1) m)
  | 0, m, hm, hd => by
    refine ev_one fun k => ?_
    rw [h2 k m (by omega)]
    unfold nextP
    rw [if_neg (by omega)]
  | d + 1, m, hm, hd => by
    have re : 1 ≤ e := r.1
    unfold nextP
    by_cases c : m ≤ 1000000
    · rw [if_pos c]
      by_cases l : leapB e b y m = true
      · rw [if_pos l]
        refine ev_one fun k => ?_
        rw [h1 k m hm c, if_pos l]
      · rw [if_neg l]
        refine ev_succ ?_
        have g : (fun k => l0 (k + 1) m) = fun k => l0 k (m + e) := by
          funext k
          rw [h1 k m hm c, if_neg l]
        rw [g]
        exact next_gen r h1 h2 d (m + e) (by omega) (by omega)
    · rw [if_neg c]
      exact ev_one fun k => h2 k m (by omega)
def nextStart (e n : Int) : Int := n / e * e + e
theorem nextStart_bd {e n : Int} (he : 1 ≤ e) (he' : e ≤ 10000) (hn : 1 ≤ n) (hn' : n ≤ 1000000) : 0 ≤ n / e * e ∧ n / e * e ≤ n ∧ n < nextStart e n := by
  have a := Int.emod_add_mul_ediv n e
  have a0 := Int.emod_nonneg n (show e ≠ 0 by omega)
  have a1 := Int.emod_lt_of_pos n (show 0 < e by omega)
  have a2 := div_le (a := n) (b := e) (by omega) he
  have a3 : n / e * e = e * (n / e) := Int.mul_comm _ _
  have a4 : 0 ≤ n / e * e := Int.mul_nonneg a2.1 (by omega)
  unfold nextStart
  omega
theorem NextLeap_spec (e b y n : Int) : Ev (fun k => spec_NextLeap.f k e b y n) (if ruleOk e b y ∧ 1 ≤ n ∧ n ≤ 1000000 then nextP e b y 1000001 (nextStart e n) else (0, false)) := by
  unfold spec_NextLeap.f
  refine Ev.bind (daYear_ev e b y n) ?_
  by_cases h : ruleOk e b y ∧ 1 ≤ n ∧ n ≤ 1000000
  · rw [if_pos h]
    obtain ⟨r, hn, hn'⟩ := h
    have re : 1 ≤ e := r.1
    have re' : e ≤ 10000 := r.2.1
    have bd := nextStart_bd re re' hn hn'
    have bd' := div_le (a := n) (b := e) (by omega) re
    refine ev_t (by simp; exact ⟨r, hn, hn'⟩) (ev_f (by omega) ?_)
    have st : wrap64 (wrap64 (wrap64 (Int.tdiv n e) * e) + e) = nextStart e n := by
      rw [tdiv_e (by omega), w64 (x := n / e) (by omega) (by omega), w64 (x := n / e * e) (by omega) (by omega), w64 (by omega) (by omega)]
      rfl
    simp only [st]
    refine next_gen (l0 := fun k m => spec_NextLeap.l0 k m e b y) r ?_ ?_ 1000000 (nextStart e n) (by omega) (by omega)
    · intro k m hm hm'
      simp only [spec_NextLeap.l0]
      rw [if_pos hm', daLeap_eq r (by omega), Option.bind_some, w64 (by omega) (by omega)]
    · intro k m hm
      simp only [spec_NextLeap.l0]
      rw [if_neg (by omega)]
  · rw [if_neg h]
    exact ev_f (by simpa using h) (ev_now _)
theorem NextLeap_impl (e b y n : Int) : Ev (fun k => impl_NextLeap.f k e b y n) (if ruleOk e b y ∧ 1 ≤ n ∧ n ≤ 1000000 then nextP e b y 1000001 (nextStart e n) else (0, false)) := by
  have no : ∀ k, impl_NextLeap.j0 (k + 1) n true e b y = some (0, false) := fun k => by
    simp [impl_NextLeap.j0]
  unfold impl_NextLeap.f
  refine ev_p (isLeapRule_eq e b y) ?_
  by_cases r : ruleOk e b y
  · refine ev_t (by simpa using r) (ev_p (isYear_eq n) ?_)
    by_cases h : 1 ≤ n ∧ n ≤ 1000000
    · rw [if_pos ⟨r, h⟩]
      obtain ⟨hn, hn'⟩ := h
      have re : 1 ≤ e := r.1
      have re' : e ≤ 10000 := r.2.1
      have bd := nextStart_bd re re' hn hn'
      have bd' := div_le (a := n) (b := e) (by omega) re
      have z : (!decide (1 ≤ n ∧ n ≤ 1000000)) = false := by simp; exact ⟨hn, hn'⟩
      have st : wrap64 (wrap64 (wrap64 (Int.tdiv n e) + 1) * e) = nextStart e n := by
        have g : (n / e + 1) * e = n / e * e + e := by rw [Int.add_mul, Int.one_mul]
        rw [tdiv_e (by omega), w64 (x := n / e) (by omega) (by omega), w64 (x := n / e + 1) (by omega) (by omega), g, w64 (by omega) (by omega)]
        rfl
      simp only [z]
      refine ev_succ ?_
      simp only [impl_NextLeap.j0]
      refine ev_f (by simp) (ev_f (by omega) ?_)
      simp only [st]
      refine next_gen (l0 := fun k m => impl_NextLeap.l0 k m e b y) r ?_ ?_ 1000000 (nextStart e n) (by omega) (by omega)
      · intro k m hm hm'
        simp only [impl_NextLeap.l0]
        rw [if_pos hm', isLeap_eq r (by omega) (by omega), Option.bind_some, w64 (by omega) (by omega)]
      · intro k m hm
        simp only [impl_NextLeap.l0]
        rw [if_neg (by omega)]
    · rw [if_neg (fun z => h z.2)]
      have z : (!decide (1 ≤ n ∧ n ≤ 1000000)) = true := by
        rw [decide_eq_false h]
        rfl
      simp only [z]
      exact ev_one no
  · rw [if_neg (fun z => r z.1)]
    exact ev_f (by simpa using r) (ev_one no)

/-! daCount -/
theorem daCount_eq {e b y n : Int} (r : ruleOk e b y) (hn : 0 ≤ n) (hn' : n ≤ 2000000) : spec_daCount.f e b y n = some (leapsP e b y n) := by
  have r' := r
  unfold ruleOk at r'
  have h1 := div_le (b := e) hn (by omega)
  have h2 : 0 < b → _ := fun g => div_le (b := b) hn (by omega)
  have h3 : 0 < y → _ := fun g => div_le (b := y) hn (by omega)
  unfold spec_daCount.f leapsP
  rw [tdiv_e hn, tdiv_e hn, tdiv_e hn, if_neg (by omega)]
  by_cases c1 : 0 < b
  · have h2 := h2 c1
    rw [if_pos c1, if_neg (by omega), if_pos c1]
    by_cases c2 : 0 < y
    · have h3 := h3 c2
      rw [if_pos c2, if_neg (by omega), if_pos c2]
      congr 1
      rw [w64 (x := n / e) (by omega) (by omega), w64 (x := n / b) (by omega) (by omega), w64 (x := n / y) (by omega) (by omega), w64 (x := n / e - n / b) (by omega) (by omega), w64 (by omega) (by omega)]
    · rw [if_neg c2, if_neg c2]
      congr 1
      rw [w64 (x := n / e) (by omega) (by omega), w64 (x := n / b) (by omega) (by omega), w64 (x := n / e - n / b) (by omega) (by omega)]
      omega
  · rw [if_neg c1, if_neg c1, if_neg (by omega), if_neg (by omega)]
    congr 1
    rw [w64 (x := n / e) (by omega) (by omega)]
    omega

/-! daDays -/
theorem daDays_eq {e b y n : Int} (r : ruleOk e b y) (hn : 1 ≤ n) (hn' : n ≤ 1000001) : spec_daDays.f e b y n = some (daysP e b y n) := by
  have hb := daysP_bd r hn hn'
  unfold spec_daDays.f
  rw [w64 (x := n - 1) (by omega) (by omega), daCount_eq r (by omega) (by omega), Option.bind_some, w64 (x := 365 * (n - 1)) (by omega) (by omega)]
  unfold daysP at hb ⊢
  rw [w64 (by omega) (by omega)]

/-! days -/
theorem days_eq {e b y n : Int} (r : ruleOk e b y) (hn : 1 ≤ n) (hn' : n ≤ 1000001) : impl_LeapRule_days.f e b y n = some (daysP e b y n) := by
  have hb := daysP_bd r hn hn'
  unfold impl_LeapRule_days.f
  rw [w64 (x := n - 1) (by omega) (by omega), leaps_eq r (by omega) (by omega), Option.bind_some, w64 (x := 365 * (n - 1)) (by omega) (by omega)]
  unfold daysP at hb ⊢
  rw [w64 (by omega) (by omega)]

/-! YearOfDay -/
def goodY (e b y day : Int) (R : Int × Int × Bool) : Prop :=
  (∃ o, 1 ≤ o ∧ o ≤ 1000000 ∧ daysP e b y o ≤ day ∧ day < daysP e b y (o + 1) ∧ R = (o, day - daysP e b y o, true)) ∨ (daysP e b y 1000001 ≤ day ∧ R = (0, 0, false))
theorem goodY_one {e b y day : Int} {R R' : Int × Int × Bool} (r : ruleOk e b y) (h : goodY e b y day R) (h' : goodY e b y day R') : R = R' := by
  rcases h with ⟨o, a1, a2, a3, a4, rfl⟩ | ⟨a1, rfl⟩ <;> rcases h' with ⟨p, b1, b2, b3, b4, rfl⟩ | ⟨b1, rfl⟩
  · have : o = p := by
      rcases Int.lt_trichotomy o p with c | c | c
      · have : daysP e b y (o + 1) ≤ daysP e b y p := by
          by_cases z : o + 1 = p
          · rw [z]
            omega
          · have := daysP_lt (n := o + 1) (m := p) r (by omega)
            omega
        omega
      · exact c
      · have : daysP e b y (p + 1) ≤ daysP e b y o := by
          by_cases z : p + 1 = o
          · rw [z]
            omega
          · have := daysP_lt (n := p + 1) (m := o) r (by omega)
            omega
        omega
    rw [this]
  · have : daysP e b y (o + 1) ≤ daysP e b y 1000001 := by
      by_cases z : o + 1 = 1000001
      · rw [z]
        omega
      · have := daysP_lt (n := o + 1) (m := 1000001) r (by omega)
        omega
    omega
  · have : daysP e b y (p + 1) ≤ daysP e b y 1000001 := by
      by_cases z : p + 1 = 1000001
      · rw [z]
        omega
      · have := daysP_lt (n := p + 1) (m := 1000001) r (by omega)
        omega
    omega
  · rfl
theorem specY {e b y day : Int} (r : ruleOk e b y) (h0 : 0 ≤ day) (h1 : day ≤ 365000000) : ∀ (d : Nat) (low high : Int), 1 ≤ low → low ≤ high → high ≤ 1000001 → high - low < d → daysP e b y low ≤ day → (high < 1000001 → day < daysP e b y (high + 1)) →
    ∃ R, Ev (fun k => spec_YearOfDay.l0 k day low high e b y) R ∧ goodY e b y day R
  | 0, low, high, _, _, _, hd, _, _ => by omega
  | d + 1, low, high, a1, a2, a3, hd, a4, a5 => by
    by_cases c : low < high
    · have st : wrap64 (Int.tdiv (wrap64 (wrap64 (low + high) + 1)) 2) = (low + high + 1) / 2 := by
        rw [w64 (x := low + high) (by omega) (by omega), w64 (x := low + high + 1) (by omega) (by omega), tdiv_e (by omega), w64 (by omega) (by omega)]
      have st2 : wrap64 ((low + high + 1) / 2 - 1) = (low + high + 1) / 2 - 1 := w64 (by omega) (by omega)
      have dd := daDays_eq (n := (low + high + 1) / 2) r (by omega) (by omega)
      by_cases g : daysP e b y ((low + high + 1) / 2) ≤ day
      · obtain ⟨R, ev, gd⟩ := specY r h0 h1 d ((low + high + 1) / 2) high (by omega) (by omega) a3 (by omega) g a5
        refine ⟨R, ev_succ ?_, gd⟩
        simp only [spec_YearOfDay.l0, st, st2]
        exact ev_t c (ev_p dd (ev_t g ev))
      · obtain ⟨R, ev, gd⟩ := specY r h0 h1 d low ((low + high + 1) / 2 - 1) (by omega) (by omega) (by omega) (by omega) a4 (fun _ => by
          have z : (low + high + 1) / 2 - 1 + 1 = (low + high + 1) / 2 := by omega
          rw [z]
          omega)
        refine ⟨R, ev_succ ?_, gd⟩
        simp only [spec_YearOfDay.l0, st, st2]
        exact ev_t c (ev_p dd (ev_f g ev))
    · have e1 : low = high := by omega
      by_cases g : low > 1000000
      · refine ⟨_, ev_succ ?_, Or.inr ⟨?_, rfl⟩⟩
        · simp only [spec_YearOfDay.l0]
          exact ev_f c (ev_t g (ev_now _))
        · have e2 : low = 1000001 := by omega
          rw [e2] at a4
          exact a4
      · have dd := daDays_eq (n := low) r (by omega) (by omega)
        have bd := daysP_bd (n := low) r (by omega) (by omega)
        refine ⟨_, ev_succ ?_, Or.inl ⟨low, by omega, by omega, a4, ?_, rfl⟩⟩
        · simp only [spec_YearOfDay.l0]
          refine ev_f c (ev_f g (ev_p dd ?_))
          rw [w64 (by omega) (by omega)]
          exact ev_now _
        · rw [e1]
          exact a5 (by omega)
theorem implY {e b y day : Int} (r : ruleOk e b y) (h0 : 0 ≤ day) (h1 : day ≤ 365000000) : ∀ (d : Nat) (low high : Int), 1 ≤ low → low < high → high ≤ 1000001 → high - low < d → daysP e b y low ≤ day → (high < 1000001 → day < daysP e b y high) →
    ∃ R, Ev (fun k => impl_YearOfDay.l0 k day low high e b y) R ∧ goodY e b y day R
  | 0, low, high, _, _, _, hd, _, _ => by omega
  | d + 1, low, high, a1, a2, a3, hd, a4, a5 => by
    have s0 : wrap64 (high - low) = high - low := w64 (by omega) (by omega)
    by_cases c : high - low > 1
    · have st : wrap64 (Int.tdiv (wrap64 (low + high)) 2) = (low + high) / 2 := by
        rw [w64 (x := low + high) (by omega) (by omega), tdiv_e (by omega), w64 (by omega) (by omega)]
      have dd := days_eq (n := (low + high) / 2) r (by omega) (by omega)
      by_cases g : daysP e b y ((low + high) / 2) ≤ day
      · obtain ⟨R, ev, gd⟩ := implY r h0 h1 d ((low + high) / 2) high (by omega) (by omega) a3 (by omega) g a5
        refine ⟨R, ev_succ ?_, gd⟩
        simp only [impl_YearOfDay.l0, st, s0]
        exact ev_t c (ev_p dd (ev_t g ev))
      · obtain ⟨R, ev, gd⟩ := implY r h0 h1 d low ((low + high) / 2) (by omega) (by omega) (by omega) (by omega) a4 (fun _ => by omega)
        refine ⟨R, ev_succ ?_, gd⟩
        simp only [impl_YearOfDay.l0, st, s0]
        exact ev_t c (ev_p dd (ev_f g ev))
    · have e1 : high = low + 1 := by omega
      have s1 : wrap64 (low + 1) = low + 1 := w64 (by omega) (by omega)
      have dd := days_eq (n := low + 1) r (by omega) (by omega)
      have dl := days_eq (n := low) r (by omega) (by omega)
      have bd := daysP_bd (n := low) r (by omega) (by omega)
      by_cases g : day ≥ daysP e b y (low + 1)
      · refine ⟨_, ev_succ ?_, Or.inr ⟨?_, rfl⟩⟩
        · simp only [impl_YearOfDay.l0, s0, s1]
          exact ev_f c (ev_p dd (ev_t g (ev_now _)))
        · by_cases z : high < 1000001
          · have := a5 z
            rw [e1] at this
            omega
          · have e2 : low + 1 = 1000001 := by omega
            rw [e2] at g
            exact g
      · refine ⟨_, ev_succ ?_, Or.inl ⟨low, by omega, by omega, a4, by omega, rfl⟩⟩
        simp only [impl_YearOfDay.l0, s0, s1]
        refine ev_f c (ev_p dd (ev_f g (ev_p dl ?_)))
        rw [w64 (by omega) (by omega)]
        exact ev_now _
theorem YearOfDay_both (e b y day : Int) : ∃ R, Ev (fun k => spec_YearOfDay.f k e b y day) R ∧ Ev (fun k => impl_YearOfDay.f k e b y day) R ∧ (ruleOk e b y → 0 ≤ day → day ≤ 365000000 → goodY e b y day R) ∧ (¬ (ruleOk e b y ∧ 0 ≤ day ∧ day ≤ 365000000) → R = (0, 0, false)) := by
  have no : ∀ k, spec_YearOfDay.j0 (k + 1) day true e b y = some (0, 0, false) := fun k => by
    simp [spec_YearOfDay.j0]
  have no' : ∀ k, impl_YearOfDay.j0 (k + 1) day true e b y = some (0, 0, false) := fun k => by
    simp [impl_YearOfDay.j0]
  by_cases r : ruleOk e b y
  · by_cases h : 0 ≤ day ∧ day ≤ 365000000
    · have z : (!decide (0 ≤ day ∧ day ≤ 365000000)) = false := by simp; exact h
      have d1 : daysP e b y 1 = 0 := by
        unfold daysP leapsP
        simp
      obtain ⟨R, ev, gd⟩ := specY r h.1 h.2 1000001 1 1000001 (by omega) (by omega) (by omega) (by omega) (by omega) (by omega)
      obtain ⟨R', ev', gd'⟩ := implY r h.1 h.2 1000001 1 1000001 (by omega) (by omega) (by omega) (by omega) (by omega) (by omega)
      obtain rfl := goodY_one r gd gd'
      refine ⟨R, ?_, ?_, fun _ _ _ => gd, fun n => (n ⟨r, h⟩).elim⟩
      · unfold spec_YearOfDay.f
        refine Ev.bind (daRule_ev e b y) (ev_t (by simpa using r) (ev_p (l1In_eq _ _ _) ?_))
        simp only [z]
        refine ev_succ ?_
        simp only [spec_YearOfDay.j0]
        exact ev_f (by simp) ev
      · unfold impl_YearOfDay.f
        refine ev_p (isLeapRule_eq e b y) (ev_t (by simpa using r) (ev_p (within_eq _ _ _) ?_))
        simp only [z]
        refine ev_succ ?_
        simp only [impl_YearOfDay.j0]
        exact ev_f (by simp) ev'
    · have z : (!decide (0 ≤ day ∧ day ≤ 365000000)) = true := by
        rw [decide_eq_false h]
        rfl
      refine ⟨(0, 0, false), ?_, ?_, fun _ a b => (h ⟨a, b⟩).elim, fun _ => rfl⟩
      · unfold spec_YearOfDay.f
        refine Ev.bind (daRule_ev e b y) (ev_t (by simpa using r) (ev_p (l1In_eq _ _ _) ?_))
        simp only [z]
        exact ev_one no
      · unfold impl_YearOfDay.f
        refine ev_p (isLeapRule_eq e b y) (ev_t (by simpa using r) (ev_p (within_eq _ _ _) ?_))
        simp only [z]
        exact ev_one no'
  · refine ⟨(0, 0, false), ?_, ?_, fun a => (r a).elim, fun _ => rfl⟩
    · unfold spec_YearOfDay.f
      exact Ev.bind (daRule_ev e b y) (ev_f (by simpa using r) (ev_one no))
    · unfold impl_YearOfDay.f
      exact ev_p (isLeapRule_eq e b y) (ev_f (by simpa using r) (ev_one no'))

/-! daCycle -/
theorem most_eq (a b : Int) : spec_l1Most.f a b = some (max a b) := most_gen (fun _ _ => rfl) a b
theorem daCycle_eq {e b y : Int} (r : ruleOk e b y) : spec_daCycle.f e b y = some (cycleP e b y) := by
  unfold ruleOk at r
  unfold spec_daCycle.f cycleP
  rw [most_eq, Option.bind_some, most_eq, Option.bind_some]
  congr 1
  split
  · omega
  · split <;> omega

/-! cycle -/
theorem cycle_eq (e b y : Int) : impl_LeapRule_cycle.f e b y = some (cycleP e b y) := by
  unfold impl_LeapRule_cycle.f cycleP
  by_cases c1 : 0 < y
  · rw [if_pos c1, if_pos c1]
  · rw [if_neg c1, if_neg c1]
    by_cases c2 : 0 < b
    · rw [if_pos c2, if_pos c2]
    · rw [if_neg c2, if_neg c2]

/-! WeekCycle -/
def weekP (e b y : Int) : Int := if (365 * cycleP e b y + leapsP e b y (cycleP e b y)) % 7 = 0 then cycleP e b y else 7 * cycleP e b y
theorem WeekCycle_spec (e b y : Int) : Ev (fun k => spec_WeekCycle.f k e b y) (if ruleOk e b y then (weekP e b y, true) else (0, false)) := by
  unfold spec_WeekCycle.f
  refine Ev.bind (daRule_ev e b y) ?_
  by_cases r : ruleOk e b y
  · have c := cycleP_bd r
    have l := leapsP_bd (n := cycleP e b y) r (by omega)
    rw [if_pos r]
    refine ev_t (by simpa using r) (ev_con ?_)
    rw [daCycle_eq r, Option.bind_some, daCount_eq r (by omega) (by omega), Option.bind_some, w64 (x := 365 * cycleP e b y) (by omega) (by omega), w64 (x := 7 * cycleP e b y) (by omega) (by omega), w64 (by omega) (by omega), tmod_e (by omega)]
    unfold weekP
    split <;> rfl
  · rw [if_neg r]
    exact ev_f (by simpa using r) (ev_now _)
theorem WeekCycle_impl (e b y : Int) : impl_WeekCycle.f e b y = some (if ruleOk e b y then (weekP e b y, true) else (0, false)) := by
  unfold impl_WeekCycle.f
  rw [isLeapRule_eq, Option.bind_some]
  by_cases r : ruleOk e b y
  · have c := cycleP_bd r
    have l := leapsP_bd (n := cycleP e b y) r (by omega)
    rw [if_pos (by simpa using r), if_pos r, cycle_eq, Option.bind_some, w64 (x := cycleP e b y + 1) (by omega) (by omega), days_eq r (by omega) (by omega), Option.bind_some, Option.bind_some, Option.bind_some, w64 (x := 7 * cycleP e b y) (by omega) (by omega), tmod_e (daysP_bd r (by omega) (by omega)).1]
    unfold daysP weekP
    have g : cycleP e b y + 1 - 1 = cycleP e b y := by omega
    rw [g]
    split <;> rfl
  · rw [if_neg (by simpa using r), if_neg r]

/-! CountLeaps -/
def countP (e b y f t : Int) : Int × Bool := if ruleOk e b y ∧ (1 ≤ f ∧ f ≤ 1000000) ∧ (1 ≤ t ∧ t ≤ 1000000) then (max 0 (leapsP e b y t - leapsP e b y (f - 1)), true) else (0, false)
theorem CountLeaps_spec (e b y f t : Int) : Ev (fun k => spec_CountLeaps.f k e b y f t) (countP e b y f t) := by
  have no : ∀ k, spec_CountLeaps.j0 (k + 1) f t true e b y = some (0, false) := fun k => by
    simp [spec_CountLeaps.j0]
  unfold spec_CountLeaps.f countP
  refine Ev.bind (daYear_ev e b y f) ?_
  by_cases h : ruleOk e b y ∧ 1 ≤ f ∧ f ≤ 1000000
  · refine ev_t (by simpa using h) ?_
    refine Ev.bind (daYear_ev e b y t) ?_
    by_cases g : 1 ≤ t ∧ t ≤ 1000000
    · rw [if_pos ⟨h.1, h.2, g⟩]
      have z : (!decide (ruleOk e b y ∧ 1 ≤ t ∧ t ≤ 1000000)) = false := by simp; exact ⟨h.1, g.1, g.2⟩
      simp only [z]
      refine ev_one fun k => ?_
      simp only [spec_CountLeaps.j0]
      rw [if_neg (by simp)]
      have l1 := leapsP_bd (n := t) h.1 (by omega)
      have l2 := leapsP_bd (n := f - 1) h.1 (by omega)
      by_cases c : t < f
      · rw [if_pos c]
        have := leapsP_le (n := t) (m := f - 1) h.1 (by omega)
        congr 2
        omega
      · rw [if_neg c, daCount_eq h.1 (by omega) (by omega), Option.bind_some, w64 (x := f - 1) (by omega) (by omega), daCount_eq h.1 (by omega) (by omega), Option.bind_some, w64 (by omega) (by omega)]
        have := leapsP_le (n := f - 1) (m := t) h.1 (by omega)
        congr 2
        omega
    · rw [if_neg (fun z => g z.2.2)]
      have z : (!decide (ruleOk e b y ∧ 1 ≤ t ∧ t ≤ 1000000)) = true := by
        rw [decide_eq_false (fun z => g z.2)]
        rfl
      simp only [z]
      exact ev_one no
  · rw [if_neg (fun z => h ⟨z.1, z.2.1⟩)]
    exact ev_f (by simpa using h) (ev_one no)
theorem CountLeaps_impl (e b y f t : Int) : Ev (fun k => impl_CountLeaps.f k e b y f t) (countP e b y f t) := by
  have no : ∀ k, impl_CountLeaps.j0 (k + 1) f t true e b y = some (0, false) := fun k => by
    simp [impl_CountLeaps.j0]
  unfold impl_CountLeaps.f countP
  refine ev_p (isLeapRule_eq e b y) ?_
  by_cases r : ruleOk e b y
  · refine ev_t (by simpa using r) (ev_p (isYear_eq f) ?_)
    by_cases h : 1 ≤ f ∧ f ≤ 1000000
    · refine ev_t (by simpa using h) (ev_p (isYear_eq t) ?_)
      by_cases g : 1 ≤ t ∧ t ≤ 1000000
      · rw [if_pos ⟨r, h, g⟩]
        have z : (!decide (1 ≤ t ∧ t ≤ 1000000)) = false := by simp; exact ⟨g.1, g.2⟩
        simp only [z]
        refine ev_one fun k => ?_
        simp only [impl_CountLeaps.j0]
        rw [if_neg (by simp)]
        have l1 := leapsP_bd (n := t) r (by omega)
        have l2 := leapsP_bd (n := f - 1) r (by omega)
        rw [leaps_eq r (by omega) (by omega), Option.bind_some, w64 (x := f - 1) (by omega) (by omega), leaps_eq r (by omega) (by omega), Option.bind_some, w64 (by omega) (by omega)]
        congr 2
        unfold mx
        split <;> omega
      · rw [if_neg (fun z => g z.2.2)]
        have z : (!decide (1 ≤ t ∧ t ≤ 1000000)) = true := by
          rw [decide_eq_false g]
          rfl
        simp only [z]
        exact ev_one no
    · rw [if_neg (fun z => h z.2.1)]
      exact ev_f (by simpa using h) (ev_one no)
  · rw [if_neg (fun z => r z.1)]
    exact ev_f (by simpa using r) (ev_one no)

/-! LeapsOfCycle -/
theorem LeapsOfCycle_spec (e b y : Int) : Ev (fun k => spec_LeapsOfCycle.f k e b y) (if ruleOk e b y then (cycleP e b y, leapsP e b y (cycleP e b y), true) else (0, 0, false)) := by
  unfold spec_LeapsOfCycle.f
  refine Ev.bind (daRule_ev e b y) ?_
  by_cases r : ruleOk e b y
  · have c := cycleP_bd r
    rw [if_pos r]
    refine ev_t (by simpa using r) ?_
    rw [daCycle_eq r, Option.bind_some, Option.bind_some, daCount_eq r (by omega) (by omega), Option.bind_some]
    exact ev_now _
  · rw [if_neg r]
    exact ev_f (by simpa using r) (ev_now _)
theorem LeapsOfCycle_impl (e b y : Int) : impl_LeapsOfCycle.f e b y = some (if ruleOk e b y then (cycleP e b y, leapsP e b y (cycleP e b y), true) else (0, 0, false)) := by
  unfold impl_LeapsOfCycle.f
  rw [isLeapRule_eq, Option.bind_some]
  by_cases r : ruleOk e b y
  · have c := cycleP_bd r
    rw [if_pos (by simpa using r), if_pos r, cycle_eq, Option.bind_some, Option.bind_some, leaps_eq r (by omega) (by omega), Option.bind_some]
  · rw [if_neg (by simpa using r), if_neg r]

/-! IsLeapYear -/
theorem IsLeapYear_spec (e b y n : Int) : Ev (fun k => spec_IsLeapYear.f k e b y n) (if ruleOk e b y ∧ 1 ≤ n ∧ n ≤ 1000000 then (leapB e b y n, true) else (false, false)) := by
  unfold spec_IsLeapYear.f
  refine Ev.bind (daYear_ev e b y n) ?_
  by_cases h : ruleOk e b y ∧ 1 ≤ n ∧ n ≤ 1000000
  · rw [if_pos h]
    refine ev_t (by simpa using h) ?_
    obtain ⟨r, h1, h2⟩ := h
    rw [daLeap_eq r (by omega), Option.bind_some]
    exact ev_now _
  · rw [if_neg h]
    exact ev_f (by simpa using h) (ev_now _)
theorem IsLeapYear_impl (e b y n : Int) : impl_IsLeapYear.f e b y n = some (if ruleOk e b y ∧ 1 ≤ n ∧ n ≤ 1000000 then (leapB e b y n, true) else (false, false)) := by
  unfold impl_IsLeapYear.f
  rw [isLeapRule_eq, Option.bind_some]
  by_cases r : ruleOk e b y
  · rw [if_pos (by simpa using r), isYear_eq, Option.bind_some]
    by_cases h : 1 ≤ n ∧ n ≤ 1000000
    · rw [if_pos (by simpa using h), if_pos ⟨r, h⟩]
      obtain ⟨h1, h2⟩ := h
      rw [isLeap_eq r h1 (by omega), Option.bind_some]
    · rw [if_neg (by simpa using h), if_neg (fun z => h z.2)]
  · rw [if_neg (by simpa using r), if_neg (fun z => r z.1)]

/-! DaysUpTo -/
theorem DaysUpTo_spec (e b y n : Int) : Ev (fun k => spec_DaysUpTo.f k e b y n) (if ruleOk e b y ∧ 1 ≤ n ∧ n ≤ 1000000 then (daysP e b y n, true) else (0, false)) := by
  unfold spec_DaysUpTo.f
  refine Ev.bind (daYear_ev e b y n) ?_
  by_cases h : ruleOk e b y ∧ 1 ≤ n ∧ n ≤ 1000000
  · rw [if_pos h]
    refine ev_t (by simpa using h) ?_
    obtain ⟨r, h1, h2⟩ := h
    rw [daDays_eq r h1 (by omega), Option.bind_some]
    exact ev_now _
  · rw [if_neg h]
    exact ev_f (by simpa using h) (ev_now _)
theorem DaysUpTo_impl (e b y n : Int) : impl_DaysUpTo.f e b y n = some (if ruleOk e b y ∧ 1 ≤ n ∧ n ≤ 1000000 then (daysP e b y n, true) else (0, false)) := by
  unfold impl_DaysUpTo.f
  rw [isLeapRule_eq, Option.bind_some]
  by_cases r : ruleOk e b y
  · rw [if_pos (by simpa using r), isYear_eq, Option.bind_some]
    by_cases h : 1 ≤ n ∧ n ≤ 1000000
    · rw [if_pos (by simpa using h), if_pos ⟨r, h⟩]
      obtain ⟨h1, h2⟩ := h
      rw [days_eq r h1 (by omega), Option.bind_some]
    · rw [if_neg (by simpa using h), if_neg (fun z => h z.2)]
  · rw [if_neg (by simpa using r), if_neg (fun z => r z.1)]

/-! DaysUpTo_impl -/
/-! WeekdayOf -/
theorem WeekdayOf_spec (e b y n : Int) : Ev (fun k => spec_WeekdayOf.f k e b y n) (if ruleOk e b y ∧ 1 ≤ n ∧ n ≤ 1000000 then (daysP e b y n % 7, true) else (0, false)) := by
  unfold spec_WeekdayOf.f
  refine Ev.bind (daYear_ev e b y n) ?_
  by_cases h : ruleOk e b y ∧ 1 ≤ n ∧ n ≤ 1000000
  · rw [if_pos h]
    refine ev_t (by simpa using h) ?_
    obtain ⟨r, h1, h2⟩ := h
    rw [daDays_eq r h1 (by omega), Option.bind_some, tmod_e (daysP_bd r h1 (by omega)).1]
    exact ev_now _
  · rw [if_neg h]
    exact ev_f (by simpa using h) (ev_now _)
theorem WeekdayOf_impl (e b y n : Int) : impl_WeekdayOf.f e b y n = some (if ruleOk e b y ∧ 1 ≤ n ∧ n ≤ 1000000 then (daysP e b y n % 7, true) else (0, false)) := by
  unfold impl_WeekdayOf.f
  rw [DaysUpTo_impl, Option.bind_some]
  by_cases h : ruleOk e b y ∧ 1 ≤ n ∧ n ≤ 1000000
  · rw [if_pos h, if_pos h]
    show some (Int.tmod (daysP e b y n) 7, true) = _
    rw [tmod_e (daysP_bd h.1 h.2.1 (by omega)).1]
  · rw [if_neg h, if_neg h]
    rfl

/-! IsLeapRule_ends -/
theorem IsLeapRule_spec (e b y : Int) : Ev (fun k => spec_IsLeapRule.f k e b y) (decide (ruleOk e b y)) := by
  unfold spec_IsLeapRule.f
  exact Ev.bind (daRule_ev e b y) (ev_now _)

/-! leapFacts -/
theorem leapsP_zero (e b y : Int) : leapsP e b y 0 = 0 := by
  unfold leapsP
  simp
theorem days_next {e b y n : Int} (r : ruleOk e b y) : daysP e b y (n + 1) = daysP e b y n + 365 + (if leapB e b y n = true then 1 else 0) := by
  have h := leapsP_step (n := n) r
  unfold daysP
  rw [show n + 1 - 1 = n by omega, h]
  generalize (if leapB e b y n = true then (1 : Int) else 0) = t
  omega
theorem no_leap {e b y m : Int} (h : m % e ≠ 0) : leapB e b y m = false := decide_eq_false (fun z => h z.1)
theorem off_mul {e m t : Int} (hm : m % e = 0) (h0 : 0 ≤ t) (h1 : t < e) : (m + t) % e = t := by
  obtain ⟨q, rfl⟩ := Int.dvd_of_emod_eq_zero hm
  rw [Int.add_comm, Int.add_mul_emod_self_left]
  exact Int.emod_eq_of_lt h0 h1
theorem leaps_const {e b y m : Int} (r : ruleOk e b y) (hm : m % e = 0) : ∀ j : Nat, (j : Int) < e → leapsP e b y (m + j) = leapsP e b y m
  | 0, _ => by simp
  | j + 1, h => by
    have ih := leaps_const r hm j (by omega)
    have s := leapsP_step (n := m + ((j + 1 : Nat) : Int)) r
    have o := off_mul (t := ((j + 1 : Nat) : Int)) hm (by omega) h
    rw [no_leap (by omega), show m + ((j + 1 : Nat) : Int) - 1 = m + j by omega, ih] at s
    rw [s]
    simp
theorem leaps_flat {e b y m t : Int} (r : ruleOk e b y) (hm : m % e = 0) (h0 : 0 ≤ t) (h1 : t < e) : leapsP e b y (m + t) = leapsP e b y m := by
  have := leaps_const r hm t.toNat (by omega)
  rw [show ((t.toNat : Nat) : Int) = t by omega] at this
  exact this
theorem nextP_is {e b y : Int} (r : ruleOk e b y) : ∀ (d : Nat) (m : Int), m % e = 0 → (nextP e b y d m).2 = true → m ≤ (nextP e b y d m).1 ∧ (nextP e b y d m).1 ≤ 1000000 ∧ leapB e b y (nextP e b y d m).1 = true ∧ leapsP e b y (nextP e b y d m).1 = leapsP e b y (m - 1) + 1
  | 0, m, _, h => by
    simp [nextP] at h
  | d + 1, m, hm, h => by
    have re : 1 ≤ e := r.1
    unfold nextP at h ⊢
    by_cases c : m ≤ 1000000
    · rw [if_pos c] at h ⊢
      have s := leapsP_step (n := m) r
      by_cases l : leapB e b y m = true
      · rw [if_pos l] at h ⊢
        rw [if_pos l] at s
        exact ⟨Int.le_refl _, c, l, s⟩
      · rw [if_neg l] at h ⊢
        rw [if_neg l] at s
        have ih := nextP_is r d (m + e) (by rw [Int.add_emod_right]; exact hm) h
        have f := leaps_flat (t := e - 1) r hm (by omega) (by omega)
        rw [show m + (e - 1) = m + e - 1 by omega] at f
        refine ⟨by omega, ih.2.1, ih.2.2.1, ?_⟩
        rw [ih.2.2.2, f, s]
        omega
    · rw [if_neg c] at h
      cases h
theorem next_fact {e b y n : Int} (r : ruleOk e b y) (h1 : 1 ≤ n) (h2 : n ≤ 1000000) (h : (nextP e b y 1000001 (nextStart e n)).2 = true) :
    n < (nextP e b y 1000001 (nextStart e n)).1 ∧ (nextP e b y 1000001 (nextStart e n)).1 ≤ 1000000 ∧ leapB e b y (nextP e b y 1000001 (nextStart e n)).1 = true ∧ leapsP e b y (nextP e b y 1000001 (nextStart e n)).1 = leapsP e b y (n - 1) + (if leapB e b y n = true then 1 else 0) + 1 := by
  have re : 1 ≤ e := r.1
  have re' : e ≤ 10000 := r.2.1
  have bd := nextStart_bd re re' h1 h2
  have m0 : (n / e * e) % e = 0 := Int.mul_emod_left _ _
  have ms : nextStart e n % e = 0 := by
    unfold nextStart
    rw [Int.add_emod_right]
    exact m0
  have a := nextP_is r 1000001 (nextStart e n) ms h
  have s := leapsP_step (n := n) r
  have f1 := leaps_flat (t := e - 1) r m0 (by omega) (by omega)
  have n0 := Int.emod_nonneg n (show e ≠ 0 by omega)
  have n1 := Int.emod_lt_of_pos n (show 0 < e by omega)
  have f2 := leaps_flat (t := n % e) r m0 n0 n1
  have en : n / e * e + n % e = n := by
    have := Int.emod_add_mul_ediv n e
    rw [Int.mul_comm] at this
    omega
  rw [en] at f2
  have e1 : nextStart e n - 1 = n / e * e + (e - 1) := by
    unfold nextStart
    omega
  refine ⟨by omega, a.2.1, a.2.2.1, ?_⟩
  rw [a.2.2.2, e1, f1, ← f2, s]
theorem cyc_dvd {e b y : Int} (r : ruleOk e b y) : e ∣ cycleP e b y ∧ (0 < b → b ∣ cycleP e b y) ∧ (0 < y → y ∣ cycleP e b y) := by
  unfold ruleOk at r
  unfold cycleP
  rcases r with ⟨_, _, ⟨rfl, rfl⟩ | ⟨hb, _, h1, rfl | ⟨hy, _, h2⟩⟩⟩
  · rw [if_neg (by omega), if_neg (by omega)]
    exact ⟨Int.dvd_refl _, fun h => absurd h (by omega), fun h => absurd h (by omega)⟩
  · rw [if_neg (by omega), if_pos (by omega)]
    exact ⟨Int.dvd_of_emod_eq_zero h1, fun _ => Int.dvd_refl _, fun h => absurd h (by omega)⟩
  · rw [if_pos (by omega)]
    have d2 := Int.dvd_of_emod_eq_zero h2
    exact ⟨Int.dvd_trans (Int.dvd_of_emod_eq_zero h1) d2, fun _ => d2, fun _ => Int.dvd_refl _⟩
theorem leaps_mul {e b y : Int} (r : ruleOk e b y) (k : Int) : leapsP e b y (k * cycleP e b y) = k * leapsP e b y (cycleP e b y) := by
  have d := cyc_dvd r
  unfold leapsP
  rw [Int.mul_ediv_assoc k d.1]
  by_cases c1 : 0 < b
  · rw [if_pos c1, if_pos c1, Int.mul_ediv_assoc k (d.2.1 c1)]
    by_cases c2 : 0 < y
    · rw [if_pos c2, if_pos c2, Int.mul_ediv_assoc k (d.2.2 c2), Int.mul_add, Int.mul_sub]
    · rw [if_neg c2, if_neg c2, Int.mul_add, Int.mul_sub]
      simp
  · rw [if_neg c1, if_neg c1]
    by_cases c2 : 0 < y
    · rw [if_pos c2, if_pos c2, Int.mul_ediv_assoc k (d.2.2 c2), Int.mul_add, Int.mul_sub]
      simp
    · rw [if_neg c2, if_neg c2, Int.mul_add, Int.mul_sub]
      simp
theorem week_fact {e b y : Int} (r : ruleOk e b y) : ∃ k : Int, (k = 1 ∨ k = 7) ∧ weekP e b y = k * cycleP e b y ∧ (365 * weekP e b y + leapsP e b y (cycleP e b y) * k) % 7 = 0 ∧ daysP e b y (weekP e b y + 1) % 7 = 0 := by
  have key : ∀ k : Int, (365 * (k * cycleP e b y) + leapsP e b y (cycleP e b y) * k) % 7 = 0 → daysP e b y (k * cycleP e b y + 1) % 7 = 0 := by
    intro k h
    unfold daysP
    rw [show k * cycleP e b y + 1 - 1 = k * cycleP e b y by omega, leaps_mul r, Int.mul_comm k (leapsP e b y (cycleP e b y))]
    exact h
  unfold weekP
  by_cases c : (365 * cycleP e b y + leapsP e b y (cycleP e b y)) % 7 = 0
  · rw [if_pos c]
    have h : (365 * (1 * cycleP e b y) + leapsP e b y (cycleP e b y) * 1) % 7 = 0 := by
      rw [Int.one_mul, Int.mul_one]
      exact c
    have := key 1 h
    rw [Int.one_mul] at this h
    exact ⟨1, Or.inl rfl, (Int.one_mul _).symm, h, this⟩
  · rw [if_neg c]
    have h : (365 * (7 * cycleP e b y) + leapsP e b y (cycleP e b y) * 7) % 7 = 0 := by omega
    exact ⟨7, Or.inr rfl, rfl, h, key 7 h⟩

/-! drawState -/
theorem bits255 (x : Int) : 0 ≤ Go.bits .and .u64 x 255 ∧ Go.bits .and .u64 x 255 ≤ 255 := by
  have h : (BitVec.ofInt 64 x &&& BitVec.ofInt 64 255).toNat ≤ 255 := by
    rw [BitVec.toNat_and]
    exact Nat.le_trans Nat.and_le_right (by decide)
  have g : ∀ n : Nat, n ≤ 255 → 0 ≤ IntKind.wrap .u64 (n : Int) ∧ IntKind.wrap .u64 (n : Int) ≤ 255 := by
    intro n hn
    unfold IntKind.wrap
    simp [IntKind.signed, IntKind.bits]
    omega
  exact g _ h
def u8L (l : List Int) : Prop := ∀ x ∈ l, 0 ≤ x ∧ x ≤ 255
theorem rd_u8 {l : List Int} (h : u8L l) {i : Int} (h0 : 0 ≤ i) (h1 : i < (l.length : Int)) : 0 ≤ rd l i ∧ rd l i ≤ 255 := by
  unfold rd
  rw [List.getD_eq_getElem?_getD, List.getElem?_eq_getElem (by omega)]
  exact h _ (List.getElem_mem _)
theorem next_some {l : List Int} (h : u8L l) {s t : Int} (s0 : 0 ≤ s) (s1 : s ≤ 1000000) : ∃ v u, spec_l1Cur_next.f l s t = some (v, s + 1, u) ∧ 0 ≤ v ∧ v ≤ 255 := by
  unfold spec_l1Cur_next.f
  rw [w64 (x := s + 1) (by omega) (by omega)]
  by_cases c : s < (l.length : Int)
  · have r := rd_u8 h s0 c
    rw [if_pos c, if_pos s0, if_pos (by omega), w64 (x := rd l s) (by omega) (by omega)]
    exact ⟨_, _, rfl, r.1, r.2⟩
  · rw [if_neg c]
    by_cases d : s + 1 ≤ (l.length : Int)
    · rw [if_pos d]
      exact ⟨_, _, rfl, by omega, by omega⟩
    · rw [if_neg d]
      refine ⟨_, _, rfl, ?_⟩
      generalize IntKind.u64.wrap (IntKind.u64.wrap (IntKind.u64.wrap (t * 6364136223846793005)) + 1442695040888963407) / 1099511627776 = q
      have b := bits255 q
      rw [w64 (by omega) (by omega)]
      exact b
theorem pick_some {l : List Int} (h : u8L l) {s t n : Int} (s0 : 0 ≤ s) (s1 : s ≤ 900000) (n1 : 1 ≤ n) (n2 : n ≤ 1000000000) : ∃ v s' u, spec_l1Cur_pick.f l s t n = some (v, s', u) ∧ (0 ≤ v ∧ v < n) ∧ (s ≤ s' ∧ s' ≤ s + 2) := by
  unfold spec_l1Cur_pick.f
  by_cases c : n ≤ 1
  · rw [if_pos c]
    exact ⟨0, s, t, rfl, by omega, by omega⟩
  · rw [if_neg c]
    obtain ⟨v, u, e, v0, v1⟩ := next_some h (t := t) s0 (by omega)
    rw [e, Option.bind_some]
    by_cases d : n > 200
    · rw [if_pos d]
      obtain ⟨v', u', e', v0', v1'⟩ := next_some h (s := s + 1) (t := u) (by omega) (by omega)
      rw [e', Option.bind_some, if_neg (by omega)]
      dsimp only
      rw [w64 (x := v * 256) (by omega) (by omega), w64 (x := v * 256 + v') (by omega) (by omega), tmod_e (by omega)]
      have a0 := Int.emod_nonneg (v * 256 + v') (show n ≠ 0 by omega)
      have a1 := Int.emod_lt_of_pos (v * 256 + v') (show 0 < n by omega)
      exact ⟨_, _, _, rfl, ⟨a0, a1⟩, by omega⟩
    · rw [if_neg d, if_neg (by omega)]
      dsimp only
      rw [tmod_e v0]
      have a0 := Int.emod_nonneg v (show n ≠ 0 by omega)
      have a1 := Int.emod_lt_of_pos v (show 0 < n by omega)
      exact ⟨_, _, _, rfl, ⟨a0, a1⟩, by omega⟩
theorem among_some {l m : List Int} (h : u8L l) {s t : Int} (s0 : 0 ≤ s) (s1 : s ≤ 900000) (m1 : 1 ≤ m.length) (m2 : m.length ≤ 1000) : ∃ v s' u, spec_l1Cur_among.f l s t m = some (v, s', u) ∧ (s ≤ s' ∧ s' ≤ s + 2) := by
  unfold spec_l1Cur_among.f
  obtain ⟨v, s', u, e, v0, v1⟩ := pick_some h (t := t) (n := (m.length : Int)) s0 s1 (by omega) (by omega)
  rw [e, Option.bind_some, if_pos v0.1, if_pos v0.2]
  exact ⟨_, _, _, rfl, v1⟩

/-! drawRule -/
theorem one_some {l : List Int} (h : u8L l) {s t n : Int} (s0 : 0 ≤ s) (s1 : s ≤ 900000) (n1 : 1 ≤ n) (n2 : n ≤ 1000000000) : ∃ v s' u, spec_l1Cur_one.f l s t n = some (v, s', u) ∧ (s ≤ s' ∧ s' ≤ s + 2) := by
  unfold spec_l1Cur_one.f
  obtain ⟨v, s', u, e, v0, v1⟩ := pick_some h (t := t) s0 s1 n1 n2
  rw [e, Option.bind_some]
  exact ⟨_, _, _, rfl, v1⟩
theorem rule_some {l : List Int} (h : u8L l) {s t : Int} (s0 : 0 ≤ s) (s1 : s ≤ 800000) : ∃ a b c s' u, spec_l1Cur_rule.f l s t = some (a, b, c, s', u) ∧ (s ≤ s' ∧ s' ≤ s + 10) := by
  unfold spec_l1Cur_rule.f
  simp only [Option.bind_some]
  obtain ⟨v, s', u, e, v0, v1⟩ := pick_some h (s := s) (t := t) (n := 9) s0 (by omega) (by omega) (by omega)
  have e' : spec_l1Cur_pick.f l s t 9 = some (v, s', u) := e
  simp only [List.length_cons, List.length_nil]
  show ∃ a b c s_ u_, (spec_l1Cur_pick.f l s t 9).bind _ = some (a, b, c, s_, u_) ∧ _
  rw [e', Option.bind_some, if_pos v0.1]
  dsimp only
  rw [if_pos (by omega)]
  obtain ⟨v2, s2, u2, e2, w0, w1⟩ := pick_some h (s := s') (t := u) (n := 14) (by omega) (by omega) (by omega) (by omega)
  rw [e2, Option.bind_some]
  dsimp only
  by_cases c0 : v2 = 0
  · rw [if_pos c0]
    obtain ⟨v3, s3, u3, e3, w3⟩ := among_some h (m := [0, 4, (-1), 10001]) (s := s2) (t := u2) (by omega) (by omega) (by simp) (by simp)
    rw [e3, Option.bind_some]
    obtain ⟨v4, s4, u4, e4, w4⟩ := among_some h (m := [0, 4, 6, 100]) (s := s3) (t := u3) (by omega) (by omega) (by simp) (by simp)
    dsimp only
    rw [e4, Option.bind_some]
    obtain ⟨v5, s5, u5, e5, w5⟩ := among_some h (m := [0, 100, 200]) (s := s4) (t := u4) (by omega) (by omega) (by simp) (by simp)
    dsimp only
    rw [e5, Option.bind_some]
    refine ⟨_, _, _, _, _, rfl, ?_, ?_⟩ <;> dsimp only <;> omega
  · rw [if_neg c0]
    by_cases c1 : v2 = 1
    · rw [if_pos c1]
      obtain ⟨v3, s3, u3, e3, w3⟩ := among_some h (m := [4, 10000]) (s := s2) (t := u2) (by omega) (by omega) (by simp) (by simp)
      rw [e3, Option.bind_some]
      obtain ⟨v4, s4, u4, e4, w4⟩ := among_some h (m := [0, 10000, 8, 4611686018427387904]) (s := s3) (t := u3) (by omega) (by omega) (by simp) (by simp)
      dsimp only
      rw [e4, Option.bind_some]
      refine ⟨_, _, _, _, _, rfl, ?_, ?_⟩ <;> dsimp only <;> omega
    · rw [if_neg c1]
      refine ⟨_, _, _, _, _, rfl, ?_, ?_⟩ <;> omega
theorem year_some {l : List Int} (h : u8L l) {s t : Int} (s0 : 0 ≤ s) (s1 : s ≤ 800000) : ∃ a s' u, spec_l1Cur_year.f l s t = some (a, s', u) ∧ (s ≤ s' ∧ s' ≤ s + 4) := by
  unfold spec_l1Cur_year.f
  obtain ⟨v, s', u, e, v1⟩ := one_some h (s := s) (t := t) (n := 8) s0 (by omega) (by omega) (by omega)
  rw [e, Option.bind_some]
  dsimp only
  by_cases c : v = true
  · rw [if_pos c]
    obtain ⟨v3, s3, u3, e3, w3⟩ := among_some h (m := [0, 1, 1000000, 1000001, (-1), 4611686018427387904]) (s := s') (t := u) (by omega) (by omega) (by simp) (by simp)
    rw [e3, Option.bind_some]
    refine ⟨_, _, _, rfl, ?_, ?_⟩ <;> dsimp only <;> omega
  · rw [if_neg c]
    obtain ⟨v3, s3, u3, e3, _, w3⟩ := pick_some h (s := s') (t := u) (n := 2500) (by omega) (by omega) (by omega) (by omega)
    rw [e3, Option.bind_some]
    refine ⟨_, _, _, rfl, ?_, ?_⟩ <;> dsimp only <;> omega
theorem drawYear_some {l : List Int} (h : u8L l) : ∃ a b c d, spec_DrawIsLeapYear.f l = some (a, b, c, d) := by
  unfold spec_DrawIsLeapYear.f
  obtain ⟨a, b, c, s, u, e, w⟩ := rule_some h (s := 0) (t := 0) (by omega) (by omega)
  rw [e, Option.bind_some]
  obtain ⟨d, s', u', e', w'⟩ := year_some h (s := s) (t := u) (by omega) (by omega)
  dsimp only
  rw [e', Option.bind_some]
  exact ⟨_, _, _, _, rfl⟩
theorem drawCount_some {l : List Int} (h : u8L l) : ∃ a b c d x, spec_DrawCountLeaps.f l = some (a, b, c, d, x) := by
  unfold spec_DrawCountLeaps.f
  obtain ⟨a, b, c, s, u, e, w⟩ := rule_some h (s := 0) (t := 0) (by omega) (by omega)
  rw [e, Option.bind_some]
  obtain ⟨d, s', u', e', w'⟩ := year_some h (s := s) (t := u) (by omega) (by omega)
  dsimp only
  rw [e', Option.bind_some]
  obtain ⟨x, s2, u2, e2, w2⟩ := year_some h (s := s') (t := u') (by omega) (by omega)
  dsimp only
  rw [e2, Option.bind_some]
  exact ⟨_, _, _, _, _, rfl⟩
theorem drawDay_some {l : List Int} (h : u8L l) : ∃ a b c d, spec_DrawYearOfDay.f l = some (a, b, c, d) := by
  unfold spec_DrawYearOfDay.f
  obtain ⟨a, b, c, s, u, e, w⟩ := rule_some h (s := 0) (t := 0) (by omega) (by omega)
  rw [e, Option.bind_some]
  obtain ⟨p, s', u', e', _, w'⟩ := pick_some h (s := s) (t := u) (n := 900000) (by omega) (by omega) (by omega) (by omega)
  dsimp only
  rw [e', Option.bind_some]
  obtain ⟨x, s2, u2, e2, w2⟩ := among_some h (m := [0, 364, 365, 366, 1460, 1461, 146097, 365000000, 365000001, (-1), p]) (s := s') (t := u') (by omega) (by omega) (by simp) (by simp)
  dsimp only
  rw [e2, Option.bind_some]
  exact ⟨_, _, _, _, rfl⟩
theorem drawCycle_some {l : List Int} (h : u8L l) : ∃ a b c, spec_DrawLeapsOfCycle.f l = some (a, b, c) := by
  unfold spec_DrawLeapsOfCycle.f spec_DrawIsLeapRule.f
  obtain ⟨a, b, c, s, u, e, w⟩ := rule_some h (s := 0) (t := 0) (by omega) (by omega)
  rw [e]
  simp only [Option.bind_some]
  exact ⟨_, _, _, rfl⟩

/-! the law -/
theorem j9_ev {e b y : Int} (r : ruleOk e b y) : Ev (fun k => laws_FnLeapsCounted.j9 k (weekP e b y) false e b y) true := by
  obtain ⟨m, hm, ew, _, h7⟩ := week_fact r
  have cb := cycleP_bd r
  have wb : 1 ≤ weekP e b y ∧ weekP e b y ≤ 70000 := by
    rw [ew]
    rcases hm with rfl | rfl <;> omega
  refine ev_succ ?_
  simp only [laws_FnLeapsCounted.j9]
  rw [w64 (x := weekP e b y + 1) (by omega) (by omega)]
  have wd := WeekdayOf_impl e b y (weekP e b y + 1)
  rw [if_pos ⟨r, by omega, by omega⟩, h7] at wd
  exact ev_f (by simp) (ev_t (by omega) (ev_p wd (ev_t (by trivial) (ev_t (by trivial) (ev_now _)))))
theorem j8_yes {e b y : Int} (r : ruleOk e b y) : Ev (fun k => laws_FnLeapsCounted.j8 k (cycleP e b y) (leapsP e b y (cycleP e b y)) true (weekP e b y) e b y) true := by
  obtain ⟨m, hm, ew, h7, _⟩ := week_fact r
  have cb := cycleP_bd r
  have lb := leapsP_bd (n := cycleP e b y) r (by omega)
  have ln := leapsP_nn (n := cycleP e b y) r (by omega)
  have wb : 1 ≤ weekP e b y ∧ weekP e b y ≤ 70000 := by
    rw [ew]
    rcases hm with rfl | rfl <;> omega
  have cl := CountLeaps_impl e b y 1 (cycleP e b y)
  rw [show countP e b y 1 (cycleP e b y) = _ from if_pos ⟨r, by omega, by omega⟩, show (1 : Int) - 1 = 0 by omega, leapsP_zero, show max 0 (leapsP e b y (cycleP e b y) - 0) = leapsP e b y (cycleP e b y) by omega] at cl
  have md : weekP e b y % cycleP e b y = 0 := by
    rw [ew]
    exact Int.mul_emod_left _ _
  have dv : weekP e b y / cycleP e b y = m := by
    rw [ew]
    exact Int.mul_ediv_cancel _ (by omega)
  have pb : 0 ≤ leapsP e b y (cycleP e b y) * m ∧ leapsP e b y (cycleP e b y) * m ≤ 140000 := by
    rcases hm with rfl | rfl <;> omega
  refine ev_succ ?_
  simp only [laws_FnLeapsCounted.j8]
  rw [tmod_e (by omega : 0 ≤ weekP e b y), tdiv_e (by omega : 0 ≤ weekP e b y), md, dv, w64 (x := m) (by omega) (by omega), w64 (x := 365 * weekP e b y) (by omega) (by omega), w64 (x := leapsP e b y (cycleP e b y) * m) (by omega) (by omega), w64 (x := 365 * weekP e b y + leapsP e b y (cycleP e b y) * m) (by omega) (by omega), tmod_e (by omega), h7]
  refine ev_t (by trivial) (Ev.bind cl (ev_t (by trivial) (ev_t (by trivial) (ev_f (by omega) (ev_t (by trivial) (ev_t (by trivial) ?_))))))
  by_cases c : weekP e b y = cycleP e b y
  · exact ev_t c (j9_ev r)
  · refine ev_f c ?_
    have e7 : weekP e b y = 7 * cycleP e b y := by
      rcases hm with rfl | rfl
      · rw [Int.one_mul] at ew
        exact absurd ew c
      · exact ew
    rw [w64 (x := 7 * cycleP e b y) (by omega) (by omega), ← e7, bne_self_eq_false]
    exact j9_ev r
theorem j8_no (u v w e b y : Int) : Ev (fun k => laws_FnLeapsCounted.j8 k u v false w e b y) true := by
  refine ev_succ ?_
  simp only [laws_FnLeapsCounted.j8]
  exact ev_f (by simp) (ev_now _)
section
variable {cy lp wk c0 c1 c2 : Int} {el : Bool}
theorem j7_yes {e b y day o : Int} (r : ruleOk e b y) (o1 : 1 ≤ o) (o2 : o ≤ 1000000) (d1 : daysP e b y o ≤ day) (d2 : day < daysP e b y (o + 1)) (h0 : 0 ≤ day) (h1 : day ≤ 365000000) (H : Ev (fun k => laws_FnLeapsCounted.j8 k cy lp el wk c0 c1 c2) true) :
    Ev (fun k => laws_FnLeapsCounted.j7 k day o (day - daysP e b y o) true cy lp el wk e b y c0 c1 c2) true := by
  have bd := daysP_bd r o1 (by omega)
  have nx := days_next (n := o) r
  have du := DaysUpTo_impl e b y o
  rw [if_pos ⟨r, o1, o2⟩] at du
  have ly := IsLeapYear_impl e b y o
  rw [if_pos ⟨r, o1, o2⟩] at ly
  refine ev_succ ?_
  simp only [laws_FnLeapsCounted.j7]
  refine ev_t (by trivial) (ev_p du (ev_p ly (ev_t (by trivial) (ev_t ?_ (ev_t (by trivial) ?_)))))
  · show wrap64 (daysP e b y o + (day - daysP e b y o)) = day
    rw [w64 (by omega) (by omega)]
    omega
  · cases l : leapB e b y o with
    | true =>
      rw [l] at nx
      rw [if_pos rfl] at nx
      refine ev_f (by omega) (ev_f (by omega) ?_)
      by_cases c : day - daysP e b y o = 365
      · exact ev_t c (ev_t (by trivial) H)
      · exact ev_f c H
    | false =>
      rw [l] at nx
      rw [if_neg (by simp)] at nx
      exact ev_f (by omega) (ev_f (by omega) (ev_f (by omega) H))
theorem j7_no (day o t b0 b1 b2 : Int) (H : Ev (fun k => laws_FnLeapsCounted.j8 k cy lp el wk c0 c1 c2) true) : Ev (fun k => laws_FnLeapsCounted.j7 k day o t false cy lp el wk b0 b1 b2 c0 c1 c2) true := by
  refine ev_succ ?_
  simp only [laws_FnLeapsCounted.j7]
  exact ev_f (by simp) H
variable {day o t b0 b1 b2 : Int} {ni : Bool}
theorem l0_ev {e b y tu cnt : Int} (r : ruleOk e b y) (ht : tu ≤ 1000000) (H : Ev (fun k => laws_FnLeapsCounted.j7 k day o t ni cy lp el wk b0 b1 b2 c0 c1 c2) true) : ∀ (d : Nat) (own i : Int), 1 ≤ i → i + d = tu + 1 → 0 ≤ own → own ≤ i → own + (leapsP e b y tu - leapsP e b y (i - 1)) = cnt →
    Ev (fun k => laws_FnLeapsCounted.l0 k tu cnt day o t ni cy lp el wk own i e b y b0 b1 b2 c0 c1 c2) true := by
  intro d
  induction d with
  | zero =>
    intro own i i1 hi o0 o1 hc
    refine ev_succ ?_
    simp only [laws_FnLeapsCounted.l0]
    have e1 : i - 1 = tu := by omega
    rw [e1] at hc
    exact ev_f (by omega) (ev_t (by omega) H)
  | succ d ih =>
    intro own i i1 hi o0 o1 hc
    have ly := IsLeapYear_impl e b y i
    rw [if_pos ⟨r, i1, by omega⟩] at ly
    have st := leapsP_step (n := i) r
    refine ev_succ ?_
    simp only [laws_FnLeapsCounted.l0]
    rw [w64 (x := own + 1) (by omega) (by omega), w64 (x := i + 1) (by omega) (by omega)]
    refine ev_t (by omega) (ev_p ly (ev_t (by trivial) ?_))
    cases l : leapB e b y i with
    | true =>
      rw [l, if_pos rfl] at st
      exact ev_t (by trivial) (ih (own + 1) (i + 1) (by omega) (by omega) (by omega) (by omega) (by rw [show i + 1 - 1 = i by omega]; omega))
    | false =>
      rw [l, if_neg (by simp)] at st
      exact ev_f (by simp) (ih own (i + 1) (by omega) (by omega) (by omega) (by omega) (by rw [show i + 1 - 1 = i by omega]; omega))
theorem j4_ev (e b y fr tu : Int) (H : Ev (fun k => laws_FnLeapsCounted.j7 k day o t ni cy lp el wk b0 b1 b2 c0 c1 c2) true) :
    Ev (fun k => laws_FnLeapsCounted.j4 k fr tu (countP e b y fr tu).1 (countP e b y fr tu).2 day o t ni cy lp el wk false e b y b0 b1 b2 c0 c1 c2) true := by
  have no : ∀ u : Int, Ev (fun k => laws_FnLeapsCounted.j5 k fr tu u day o t ni cy lp el wk false e b y b0 b1 b2 c0 c1 c2) true := by
    intro u
    refine ev_succ ?_
    simp only [laws_FnLeapsCounted.j5]
    exact ev_f (by simp) H
  refine ev_succ ?_
  simp only [laws_FnLeapsCounted.j4]
  refine ev_f (by simp) ?_
  by_cases h : ruleOk e b y ∧ (1 ≤ fr ∧ fr ≤ 1000000) ∧ (1 ≤ tu ∧ tu ≤ 1000000)
  · rw [show countP e b y fr tu = _ from if_pos h]
    refine ev_t (by trivial) ?_
    by_cases c : tu ≥ fr
    · refine ev_t c ?_
      by_cases g : wrap64 (tu - fr) ≤ 300
      · rw [decide_eq_true g]
        have le := leapsP_le (n := fr - 1) (m := tu) h.1 (by omega)
        refine ev_succ ?_
        simp only [laws_FnLeapsCounted.j5]
        exact ev_t (by trivial) (l0_ev h.1 h.2.2.2 H (tu + 1 - fr).toNat 0 fr h.2.1.1 (by omega) (by omega) (by omega) (by omega))
      · rw [decide_eq_false g]
        exact no _
    · exact ev_f c (no _)
  · rw [show countP e b y fr tu = _ from if_neg h]
    exact ev_f (by simp) (no _)
end
theorem j3_ev {m : List Int} (hm : u8L m) : Ev (fun k => laws_FnLeapsCounted.j3 k m) true := by
  obtain ⟨a0, a1, a2, fr, tu, hA⟩ := drawCount_some hm
  obtain ⟨b0, b1, b2, day, hB⟩ := drawDay_some hm
  obtain ⟨c0, c1, c2, hC⟩ := drawCycle_some hm
  obtain ⟨R, s1, i1, g1, n1⟩ := YearOfDay_both b0 b1 b2 day
  have H7 : ∀ {cy lp wk : Int} {el : Bool}, Ev (fun k => laws_FnLeapsCounted.j8 k cy lp el wk c0 c1 c2) true → Ev (fun k => laws_FnLeapsCounted.j7 k day R.1 R.2.1 R.2.2 cy lp el wk b0 b1 b2 c0 c1 c2) true := by
    intro cy lp wk el H
    by_cases h : ruleOk b0 b1 b2 ∧ 0 ≤ day ∧ day ≤ 365000000
    · rcases g1 h.1 h.2.1 h.2.2 with ⟨o, o1, o2, d1, d2, rfl⟩ | ⟨_, rfl⟩
      · exact j7_yes h.1 o1 o2 d1 d2 h.2.1 h.2.2 H
      · exact j7_no _ _ _ _ _ _ H
    · rw [n1 h]
      exact j7_no _ _ _ _ _ _ H
  have ls := LeapsOfCycle_spec c0 c1 c2
  have li := LeapsOfCycle_impl c0 c1 c2
  have ws := WeekCycle_spec c0 c1 c2
  have wi := WeekCycle_impl c0 c1 c2
  refine ev_succ ?_
  simp only [laws_FnLeapsCounted.j3]
  by_cases r : ruleOk c0 c1 c2
  · rw [if_pos r] at ls li ws wi
    refine ev_p hA (Ev.bind (CountLeaps_impl a0 a1 a2 fr tu) (Ev.bind (CountLeaps_spec a0 a1 a2 fr tu) (ev_p hB (Ev.bind i1 (Ev.bind s1 (ev_p hC (ev_p li (Ev.bind ls (ev_p wi (Ev.bind ws ?_))))))))))
    refine ev_f (by simp) (ev_t (by trivial) (ev_f (by simp) (ev_t (by trivial) (ev_t (by trivial) (ev_f (by simp) (ev_t (by trivial) (ev_t (by trivial) (ev_f (by simp) (ev_t (by trivial) ?_)))))))))
    exact j4_ev a0 a1 a2 fr tu (H7 (j8_yes r))
  · rw [if_neg r] at ls li ws wi
    refine ev_p hA (Ev.bind (CountLeaps_impl a0 a1 a2 fr tu) (Ev.bind (CountLeaps_spec a0 a1 a2 fr tu) (ev_p hB (Ev.bind i1 (Ev.bind s1 (ev_p hC (ev_p li (Ev.bind ls (ev_p wi (Ev.bind ws ?_))))))))))
    refine ev_f (by simp) (ev_t (by trivial) (ev_f (by simp) (ev_t (by trivial) (ev_t (by trivial) (ev_f (by simp) (ev_t (by trivial) (ev_t (by trivial) (ev_f (by simp) (ev_t (by trivial) ?_)))))))))
    exact j4_ev a0 a1 a2 fr tu (H7 (j8_no _ _ _ _ _ _))
section
theorem j2_ev {m : List Int} {e b y n : Int} (hm : u8L m) (r : ruleOk e b y) (h1 : 1 ≤ n) (h2 : n ≤ 1000000) :
    Ev (fun k => laws_FnLeapsCounted.j2 k m n (leapB e b y n) (nextP e b y 1000001 (nextStart e n)).1 (nextP e b y 1000001 (nextStart e n)).2 e b y) true := by
  have T3 := j3_ev hm
  refine ev_succ ?_
  simp only [laws_FnLeapsCounted.j2]
  by_cases f : (nextP e b y 1000001 (nextStart e n)).2 = true
  · obtain ⟨f1, f2, f3, f4⟩ := next_fact r h1 h2 f
    have ly := IsLeapYear_impl e b y (nextP e b y 1000001 (nextStart e n)).1
    rw [if_pos ⟨r, by omega, f2⟩, f3] at ly
    have cl := CountLeaps_impl e b y n (nextP e b y 1000001 (nextStart e n)).1
    rw [show countP e b y n (nextP e b y 1000001 (nextStart e n)).1 = _ from if_pos ⟨r, ⟨h1, h2⟩, ⟨by omega, f2⟩⟩] at cl
    refine ev_t f (ev_p ly (Ev.bind cl ?_))
    cases l : leapB e b y n with
    | true =>
      rw [l, if_pos rfl] at f4
      exact ev_t (by trivial) (ev_t (by trivial) (ev_t (by trivial) (ev_f (by omega) (ev_t (by trivial) (ev_t (by dsimp only; omega) T3)))))
    | false =>
      rw [l, if_neg (by simp)] at f4
      exact ev_f (by simp) (ev_t (by trivial) (ev_t (by trivial) (ev_f (by omega) (ev_t (by trivial) (ev_t (by dsimp only; omega) T3)))))
  · exact ev_f f T3
theorem j1_ev {m : List Int} {e b y n : Int} (hm : u8L m) (r : ruleOk e b y) (h1 : 1 ≤ n) (h2 : n ≤ 1000000) :
    Ev (fun k => laws_FnLeapsCounted.j1 k m n (leapB e b y n) (daysP e b y n) (nextP e b y 1000001 (nextStart e n)).1 (nextP e b y 1000001 (nextStart e n)).2 false e b y) true := by
  have T2 := j2_ev hm r h1 h2
  have bd := daysP_bd r h1 (by omega)
  refine ev_succ ?_
  simp only [laws_FnLeapsCounted.j1]
  refine ev_f (by simp) ?_
  by_cases c : n < 1000000
  · have du := DaysUpTo_impl e b y (n + 1)
    rw [if_pos ⟨r, by omega, by omega⟩] at du
    have bd' := daysP_bd (n := n + 1) r (by omega) (by omega)
    have nx := days_next (n := n) r
    rw [w64 (x := n + 1) (by omega) (by omega)]
    refine ev_t c (ev_p du ?_)
    dsimp only
    rw [w64 (x := daysP e b y (n + 1) - daysP e b y n) (by omega) (by omega)]
    cases l : leapB e b y n with
    | true =>
      rw [l] at T2
      rw [l, if_pos rfl] at nx
      exact ev_t (by trivial) (ev_t (by trivial) (ev_t (by omega) T2))
    | false =>
      rw [l] at T2
      rw [l, if_neg (by simp)] at nx
      exact ev_f (by simp) (ev_t (by trivial) (ev_t (by omega) T2))
  · exact ev_f c T2
theorem j0_yes {m : List Int} {e b y n : Int} (hm : u8L m) (r : ruleOk e b y) (h1 : 1 ≤ n) (h2 : n ≤ 1000000) :
    Ev (fun k => laws_FnLeapsCounted.j0 k m n (leapB e b y n) true (daysP e b y n) (daysP e b y n % 7) (nextP e b y 1000001 (nextStart e n)).1 (nextP e b y 1000001 (nextStart e n)).2 false e b y) true := by
  have T1 := j1_ev hm r h1 h2
  have bd := daysP_bd r h1 (by omega)
  obtain ⟨R, _, i1, g1, _⟩ := YearOfDay_both e b y (daysP e b y n)
  refine ev_succ ?_
  simp only [laws_FnLeapsCounted.j0]
  refine ev_f (by simp) (ev_t (by trivial) (ev_t (tmod_e bd.1).symm (Ev.bind i1 ?_)))
  by_cases c : daysP e b y n ≤ 365000000
  · have yr : R = (n, daysP e b y n - daysP e b y n, true) := by
      rcases g1 r bd.1 c with ⟨o, o1, o2, d1, d2, rfl⟩ | ⟨d1, rfl⟩
      · have : o = n := by
          rcases Int.lt_trichotomy o n with q | q | q
          · by_cases z : o + 1 = n
            · rw [z] at d2
              omega
            · have := daysP_lt (n := o + 1) (m := n) r (by omega)
              omega
          · exact q
          · have := daysP_lt (n := n) (m := o) r q
            omega
        rw [this]
      · have := daysP_lt (n := n) (m := 1000001) r (by omega)
        omega
    rw [yr]
    refine ev_t c (ev_t (by trivial) (ev_t (by trivial) ?_))
    dsimp only
    rw [show daysP e b y n - daysP e b y n = 0 by omega, bne_self_eq_false]
    exact T1
  · exact ev_f c T1
theorem j0_no {m : List Int} (hm : u8L m) (e b y n : Int) (p q : Bool) (u v w : Int) :
    Ev (fun k => laws_FnLeapsCounted.j0 k m n p false u v w q false e b y) true := by
  refine ev_succ ?_
  simp only [laws_FnLeapsCounted.j0]
  exact ev_f (by simp) (ev_f (by simp) (j3_ev hm))
end
theorem u8_of {l : List Int} (h : ∀ x ∈ l, (Lit.int .u8 x).wf = true) : u8L l := fun x hx => by
  have := h x hx
  simp [Lit.wf, IntKind.min, IntKind.max, IntKind.signed, IntKind.bits] at this
  omega
theorem law : laws_FnLeapsCounted.Pure := by
  intro l m hl0 hl1 hl2 hm0 hm1 hm2
  refine Ev.rounds (g := fun k => laws_FnLeapsCounted.f k l m) ?_
  have hm := u8_of hm2
  obtain ⟨e, b, y, n, hD⟩ := drawYear_some (u8_of hl2)
  have s1 := IsLeapYear_spec e b y n
  have i1 := IsLeapYear_impl e b y n
  have s2 := DaysUpTo_spec e b y n
  have i2 := DaysUpTo_impl e b y n
  have s3 := WeekdayOf_spec e b y n
  have i3 := WeekdayOf_impl e b y n
  have s4 := NextLeap_spec e b y n
  have i4 := NextLeap_impl e b y n
  have i5 := isLeapRule_eq e b y
  have s5 := IsLeapRule_spec e b y
  unfold laws_FnLeapsCounted.f
  have hbig : ∃ q, laws_big.f l m = some q := by
    unfold laws_big.f
    split <;> exact ⟨_, rfl⟩
  obtain ⟨q, hq⟩ := hbig
  refine ev_p hq ?_
  cases q with
  | true => exact ev_t rfl (ev_now _)
  | false =>
  refine ev_f (by simp) (ev_p hD ?_)
  by_cases h : ruleOk e b y ∧ 1 ≤ n ∧ n ≤ 1000000
  · rw [if_pos h] at s1 i1 s2 i2 s3 i3 s4 i4
    rw [decide_eq_true h.1] at i5 s5
    have J := j0_yes hm h.1 h.2.1 h.2.2
    refine ev_p i1 (Ev.bind s1 (ev_p i2 (Ev.bind s2 (ev_p i3 (Ev.bind s3 (Ev.bind i4 (Ev.bind s4 ?_)))))))
    refine ev_f (by simp) (ev_f (by simp) (ev_f (by simp) (ev_t (by trivial) (ev_f (by simp) (ev_t (by trivial) (ev_f (by simp) (ev_t (by trivial) (ev_f (by simp) (ev_f (by simp) ?_)))))))))
    by_cases f : (nextP e b y 1000001 (nextStart e n)).2 = true
    · exact ev_t f (ev_t (by trivial) (ev_p i5 (Ev.bind s5 (ev_f (by simp) (ev_p i5 J)))))
    · exact ev_f f (ev_p i5 (Ev.bind s5 (ev_f (by simp) (ev_t (by trivial) (ev_p i5 J)))))
  · rw [if_neg h] at s1 i1 s2 i2 s3 i3 s4 i4
    refine ev_p i1 (Ev.bind s1 (ev_p i2 (Ev.bind s2 (ev_p i3 (Ev.bind s3 (Ev.bind i4 (Ev.bind s4 ?_)))))))
    refine ev_f (by simp) (ev_f (by simp) (ev_f (by simp) (ev_t (by trivial) (ev_f (by simp) (ev_t (by trivial) (ev_f (by simp) (ev_t (by trivial) (ev_f (by simp) (ev_f (by simp) ?_)))))))))
    exact ev_f (by simp) (ev_p i5 (Ev.bind s5 (ev_f (by simp) (ev_f (by simp) (j0_no hm e b y n false false 0 0 0)))))

end Go.Proofs.Ytkmakbjkapohlaa.Pure.FnLeapsCountedWay
namespace Go.Proofs.Ytkmakbjkapohlaa.Pure
/-- The law's pure statement. -/
theorem FnLeapsCounted : GFnLeapsCounted.laws_FnLeapsCounted.Pure := FnLeapsCountedWay.law
end Go.Proofs.Ytkmakbjkapohlaa.Pure
