/- FnExactYearsForDay: the law's printed function answers true at every input. -/
import Derived.Test.YtkmakbjkapohlaaPFnExactYearsForDayx3
import Derived.Test.YtkmakbjkapohlaaLib
import Derived.Test.YtkmakbjkapohlaaLibRows
import Derived.Test.YtkmakbjkapohlaaLibGcd
set_option linter.unusedVariables false
set_option linter.unusedSimpArgs false
namespace Go.Proofs.Ytkmakbjkapohlaa.Pure.FnExactYearsForDayWay
open Go.RowKit Go.Proofs.Ytkmakbjkapohlaa.PFnExactYearsForDay Go.Proofs.YtkmakbjkapohlaaW.PrintWords Go.Proofs.YtkmakbjkapohlaaW.PrintLast Go.Proofs.YtkmakbjkapohlaaW.PrintMore Go.Proofs.Ytkmakbjkapohlaa.Lib

/-! cycle -/
theorem cycle_eq (e b y : Int) : impl_LeapRule_cycle.f e b y = some (cycleP e b y) := by
  unfold impl_LeapRule_cycle.f cycleP
  by_cases c1 : 0 < y
  · rw [if_pos c1, if_pos c1]
  · rw [if_neg c1, if_neg c1]
    by_cases c2 : 0 < b
    · rw [if_pos c2, if_pos c2]
    · rw [if_neg c2, if_neg c2]

/-! leaps -/
theorem leaps_eq {e b y n : Int} (r : ruleOk e b y) (hn : 0 ≤ n) (hn' : n ≤ 2000000) : impl_LeapRule_leaps.f e b y n = some (leapsP e b y n) := by
  have r' := r
  unfold ruleOk at r'
  have h1 := div_le (b := e) hn (by omega)
  have h2 : 0 < b → _ := fun g => div_le (b := b) hn (by omega)
  have h3 : 0 < y → _ := fun g => div_le (b := y) hn (by omega)
  unfold impl_LeapRule_leaps.f leapsP
  rw [tdiv_e hn, tdiv_e hn, tdiv_e hn, if_neg (by omega)]
  by_cases c1 : 0 < b
  · have h2 := h2 c1
    rw [if_pos c1, if_neg (by omega), if_pos c1]
    by_cases c2 : 0 < y
    · have h3 := h3 c2
      rw [if_pos c2, if_neg (by omega), if_pos c2]
      congr 1
      rw [w64 (x := n / e) (by omega) (by omega), w64 (x := n / b) (by omega) (by omega), w64 (x := n / y) (by omega) (by omega), w64 (x := n / e - n / b) (by omega) (by omega), w64 (by omega) (by omega)]
    · rw [if_neg c2, if_neg c2]
      congr 1
      rw [w64 (x := n / e) (by omega) (by omega), w64 (x := n / b) (by omega) (by omega), w64 (x := n / e - n / b) (by omega) (by omega)]
      omega
  · rw [if_neg c1, if_neg c1, if_neg (by omega), if_neg (by omega)]
    congr 1
    rw [w64 (x := n / e) (by omega) (by omega)]
    omega

/-! gcd -/
theorem gcd_ev (a b : Int) (ha : a.natAbs ≤ 4611686018427387904) (hb : b.natAbs ≤ 4611686018427387904) : Ev (fun k => impl_gcd.f k a b) (Int.gcd a b : Int) := by
  unfold impl_gcd.f
  exact gcd_gen (l0 := impl_gcd.l0) (fun _ _ _ => by simp only [impl_gcd.l0]) b.natAbs a b ha hb (Nat.le_refl _)

/-! lowest -/
theorem lowest_ev (a b : Int) (ha : a.natAbs ≤ 4611686018427387904) (hb : b.natAbs ≤ 4611686018427387904) (h0 : b ≠ 0) : Ev (fun k => impl_lowest.f k a b) (lowN a b, lowD a b) := by
  unfold impl_lowest.f
  have g := gcd_pos (a := a) h0
  have n := low_bdN a b
  have d := low_bdD a b
  refine Ev.bind (gcd_ev a b ha hb) (ev_f (by omega) ?_)
  rw [low_tdiv, low_tdiv', w64 (by omega) (by omega), w64 (by omega) (by omega)]
  exact ev_now _

/-! daCycle -/
theorem most_eq (a b : Int) : spec_l1Most.f a b = some (max a b) := most_gen (fun _ _ => rfl) a b
theorem daCycle_eq {e b y : Int} (r : ruleOk e b y) : spec_daCycle.f e b y = some (cycleP e b y) := by
  unfold ruleOk at r
  unfold spec_daCycle.f cycleP
  rw [most_eq, Option.bind_some, most_eq, Option.bind_some]
  congr 1
  split
  · omega
  · split <;> omega

/-! daCount -/
theorem daCount_eq {e b y n : Int} (r : ruleOk e b y) (hn : 0 ≤ n) (hn' : n ≤ 2000000) : spec_daCount.f e b y n = some (leapsP e b y n) := by
  have r' := r
  unfold ruleOk at r'
  have h1 := div_le (b := e) hn (by omega)
  have h2 : 0 < b → _ := fun g => div_le (b := b) hn (by omega)
  have h3 : 0 < y → _ := fun g => div_le (b := y) hn (by omega)
  unfold spec_daCount.f leapsP
  rw [tdiv_e hn, tdiv_e hn, tdiv_e hn, if_neg (by omega)]
  by_cases c1 : 0 < b
  · have h2 := h2 c1
    rw [if_pos c1, if_neg (by omega), if_pos c1]
    by_cases c2 : 0 < y
    · have h3 := h3 c2
      rw [if_pos c2, if_neg (by omega), if_pos c2]
      congr 1
      rw [w64 (x := n / e) (by omega) (by omega), w64 (x := n / b) (by omega) (by omega), w64 (x := n / y) (by omega) (by omega), w64 (x := n / e - n / b) (by omega) (by omega), w64 (by omega) (by omega)]
    · rw [if_neg c2, if_neg c2]
      congr 1
      rw [w64 (x := n / e) (by omega) (by omega), w64 (x := n / b) (by omega) (by omega), w64 (x := n / e - n / b) (by omega) (by omega)]
      omega
  · rw [if_neg c1, if_neg c1, if_neg (by omega), if_neg (by omega)]
    congr 1
    rw [w64 (x := n / e) (by omega) (by omega)]
    omega

/-! l1Most -/
theorem l1Most_eq (a b : Int) : spec_l1Most.f a b = some (max a b) := most_gen (fun _ _ => rfl) a b

/-! l1Abs -/
theorem l1Abs_eq {a : Int} (h : a.natAbs ≤ 4611686018427387904) : spec_l1Abs.f a = some (a.natAbs : Int) := by
  unfold spec_l1Abs.f
  rw [w64 (by omega) (by omega), l1Most_eq, Option.bind_some]
  congr 1
  omega

/-! diCommon -/
theorem diCommon_ev (a b : Int) (ha : 0 ≤ a) (hb : 0 ≤ b) : Ev (fun k => spec_diCommon.f k a b) (Int.gcd a b : Int) := by
  unfold spec_diCommon.f
  exact common_gen (l0 := spec_diCommon.l0) (fun _ _ _ => by simp only [spec_diCommon.l0]) b.natAbs a b ha hb (Nat.le_refl _)

/-! off -/
def offN (e b y n d : Int) : Int := leapsP e b y (cycleP e b y) * d - n * cycleP e b y
def offD (e b y d : Int) : Int := cycleP e b y * d
theorem off_bd {e b y n d : Int} (r : ruleOk e b y) (h : (2 ≤ d ∧ d ≤ 100000) ∧ (1 ≤ n ∧ n ≤ d - 1)) :
    (0 ≤ leapsP e b y (cycleP e b y) * d ∧ leapsP e b y (cycleP e b y) * d ≤ 2000000000) ∧ (0 ≤ n * cycleP e b y ∧ n * cycleP e b y ≤ 1000000000) ∧ (1 ≤ cycleP e b y * d ∧ cycleP e b y * d ≤ 1000000000) := by
  have c := cycleP_bd r
  have l := leapsP_bd (n := cycleP e b y) r (by omega)
  have l0 := leapsP_nn (n := cycleP e b y) r (by omega)
  have m1 := mul_bd (a := leapsP e b y (cycleP e b y)) (b := d) (A := 20000) (B := 100000) l0 (by omega) (by omega) (by omega)
  have m2 := mul_bd (a := n) (b := cycleP e b y) (A := 100000) (B := 10000) (by omega) (by omega) (by omega) (by omega)
  have m3 := mul_bd (a := cycleP e b y) (b := d) (A := 10000) (B := 100000) (by omega) (by omega) (by omega) (by omega)
  have m4 := mul_pos1 (a := cycleP e b y) (b := d) (by omega) (by omega)
  omega
theorem off_impl {e b y n d : Int} (r : ruleOk e b y) (h : (2 ≤ d ∧ d ≤ 100000) ∧ (1 ≤ n ∧ n ≤ d - 1)) : Ev (fun k => impl_LeapRule_off.f k e b y n d) (lowN (offN e b y n d) (offD e b y d), lowD (offN e b y n d) (offD e b y d)) := by
  have c := cycleP_bd r
  have m := off_bd r h
  unfold impl_LeapRule_off.f
  refine ev_p (cycle_eq e b y) (ev_p (leaps_eq r (by omega) (by omega)) (ev_p (cycle_eq e b y) (ev_p (cycle_eq e b y) ?_)))
  rw [w64 (x := leapsP e b y (cycleP e b y) * d) (by omega) (by omega), w64 (x := n * cycleP e b y) (by omega) (by omega), w64 (x := cycleP e b y * d) (by omega) (by omega), w64 (by omega) (by omega)]
  exact Ev.bind (lowest_ev (offN e b y n d) (offD e b y d) (by unfold offN; omega) (by unfold offD; omega) (by unfold offD; omega)) (ev_now _)
theorem off_spec {e b y n d : Int} (r : ruleOk e b y) (h : (2 ≤ d ∧ d ≤ 100000) ∧ (1 ≤ n ∧ n ≤ d - 1)) : Ev (fun k => spec_daOff.f k e b y n d) (lowN (offN e b y n d) (offD e b y d), lowD (offN e b y n d) (offD e b y d)) := by
  have c := cycleP_bd r
  have m := off_bd r h
  unfold spec_daOff.f
  refine ev_p (daCycle_eq r) (ev_p (daCount_eq r (by omega) (by omega)) ?_)
  rw [w64 (x := leapsP e b y (cycleP e b y) * d) (by omega) (by omega), w64 (x := n * cycleP e b y) (by omega) (by omega), w64 (x := cycleP e b y * d) (by omega) (by omega), w64 (x := leapsP e b y (cycleP e b y) * d - n * cycleP e b y) (by omega) (by omega)]
  refine ev_p (l1Abs_eq (by omega)) ?_
  have g := diCommon_ev ((leapsP e b y (cycleP e b y) * d - n * cycleP e b y).natAbs : Int) (cycleP e b y * d) (by omega) (by omega)
  rw [gcd_abs] at g
  have p := gcd_pos (a := leapsP e b y (cycleP e b y) * d - n * cycleP e b y) (b := cycleP e b y * d) (by omega)
  have bn := low_bdN (leapsP e b y (cycleP e b y) * d - n * cycleP e b y) (cycleP e b y * d)
  have bd := low_bdD (leapsP e b y (cycleP e b y) * d - n * cycleP e b y) (cycleP e b y * d)
  refine Ev.bind g (ev_f (by omega) ?_)
  rw [low_tdiv, low_tdiv', w64 (by omega) (by omega), w64 (by omega) (by omega)]
  exact ev_now _

/-! l1In -/
theorem l1In_eq (a b c : Int) : spec_l1In.f a b c = some (decide (b ≤ a ∧ a ≤ c)) := within_gen (fun _ _ _ => rfl) a b c

/-! daRule -/
theorem daRule_at (e b y : Int) (k : Nat) : spec_daRule.f (k + 1) e b y = some (decide (ruleOk e b y)) := by
  have leaf : ∀ {X : Bool} {P : Prop} [Decidable P], (X = true ↔ P) → some X = some (decide P) := fun h => by
    congr 1
    rw [Bool.eq_iff_iff, decide_eq_true_iff]
    exact h
  simp only [spec_daRule.f, spec_daRule.j0, l1In_eq, Option.bind_some, decide_eq_true_eq]
  unfold ruleOk
  by_cases h1 : 1 ≤ e ∧ e ≤ 10000
  · rw [if_pos h1]
    by_cases h2 : 0 ≤ b ∧ b ≤ 10000
    · rw [if_pos h2]
      by_cases h3 : 0 ≤ y ∧ y ≤ 10000
      · rw [tmod_e h2.1, tmod_e h3.1, if_neg (by simp; omega)]
        by_cases c1 : b = 0
        · rw [if_pos c1]
          refine leaf ?_
          generalize b % e = p
          generalize y % b = q
          rw [beq_iff_eq]
          omega
        · rw [if_neg c1]
          by_cases c2 : b > e
          · rw [if_pos c2, if_neg (by omega)]
            by_cases c3 : b % e = 0
            · rw [if_pos c3]
              by_cases c4 : y = 0
              · rw [if_pos c4]
                refine leaf ?_
                generalize b % e = p at *
                generalize y % b = q at *
                simp
                omega
              · rw [if_neg c4]
                by_cases c5 : y > b
                · rw [if_pos c5]
                  refine leaf ?_
                  rw [beq_iff_eq]
                  generalize b % e = p at *
                  generalize y % b = q at *
                  omega
                · rw [if_neg c5]
                  refine leaf ?_
                  generalize b % e = p at *
                  generalize y % b = q at *
                  simp
                  omega
            · rw [if_neg c3]
              refine leaf ?_
              generalize b % e = p at *
              generalize y % b = q at *
              simp
              omega
          · rw [if_neg c2]
            refine leaf ?_
            generalize b % e = p at *
            generalize y % b = q at *
            simp
            omega
      · rw [if_pos (by simp; omega)]
        refine leaf ?_
        generalize b % e = p at *
        generalize y % b = q at *
        simp
        omega
    · rw [if_neg h2, if_pos trivial]
      refine leaf ?_
      generalize b % e = p at *
      generalize y % b = q at *
      simp
      omega
  · rw [if_neg h1, if_pos trivial]
    refine leaf ?_
    generalize b % e = p at *
    generalize y % b = q at *
    simp
    omega
theorem daRule_ev (e b y : Int) : Ev (fun k => spec_daRule.f k e b y) (decide (ruleOk e b y)) := ev_one (daRule_at e b y)

/-! daFraction -/
theorem daFraction_eq (n d : Int) : spec_daFraction.f n d = some (decide ((2 ≤ d ∧ d ≤ 100000) ∧ (1 ≤ n ∧ n ≤ d - 1))) := by
  unfold spec_daFraction.f
  rw [l1In_eq, Option.bind_some]
  by_cases h : 2 ≤ d ∧ d ≤ 100000
  · rw [if_pos (by simpa using h), w64 (by omega) (by omega), l1In_eq, Option.bind_some]
    congr 1
    rw [Bool.eq_iff_iff, decide_eq_true_iff, decide_eq_true_iff]
    omega
  · rw [if_neg (by simpa using h)]
    congr 1
    symm
    exact decide_eq_false (by omega)

/-! within -/
theorem within_eq (a b c : Int) : impl_within.f a b c = some (decide (b ≤ a ∧ a ≤ c)) := within_gen (fun _ _ _ => rfl) a b c

/-! isMultiple -/
theorem isMultiple_eq (n of : Int) (h : of ≤ 10000) : impl_isMultiple.f n of = some (decide (n = 0 ∨ (0 < of ∧ of < n ∧ n ≤ 10000 ∧ n % of = 0))) := by
  have leaf : ∀ {X : Bool} {P : Prop} [Decidable P], (X = true ↔ P) → some X = some (decide P) := fun h => by
    congr 1
    rw [Bool.eq_iff_iff, decide_eq_true_iff]
    exact h
  unfold impl_isMultiple.f
  by_cases c1 : n = 0
  · rw [if_pos c1]
    exact leaf ⟨fun _ => Or.inl c1, fun _ => rfl⟩
  · rw [if_neg c1]
    by_cases c2 : of > 0
    · rw [if_pos c2, w64 (by omega) (by omega), within_eq, Option.bind_some]
      by_cases c3 : of + 1 ≤ n ∧ n ≤ 10000
      · rw [if_pos (by simpa using c3), if_neg (by omega), tmod_e (by omega)]
        refine leaf ?_
        rw [beq_iff_eq]
        generalize n % of = p
        omega
      · rw [if_neg (by simpa using c3)]
        refine leaf ?_
        generalize n % of = p
        simp
        omega
    · rw [if_neg c2]
      refine leaf ?_
      generalize n % of = p
      simp
      omega

/-! IsLeapRule -/
theorem isLeapRule_eq (e b y : Int) : impl_IsLeapRule.f e b y = some (decide (ruleOk e b y)) := by
  have leaf : ∀ {X : Bool} {P : Prop} [Decidable P], (X = true ↔ P) → some X = some (decide P) := fun h => by
    congr 1
    rw [Bool.eq_iff_iff, decide_eq_true_iff]
    exact h
  unfold impl_IsLeapRule.f
  rw [within_eq, Option.bind_some]
  unfold ruleOk
  by_cases c1 : 1 ≤ e ∧ e ≤ 10000
  · rw [if_pos (by simpa using c1), isMultiple_eq _ _ c1.2, Option.bind_some]
    by_cases c2 : b = 0 ∨ (0 < e ∧ e < b ∧ b ≤ 10000 ∧ b % e = 0)
    · rw [if_pos (by simpa using c2), isMultiple_eq _ _ (by omega), Option.bind_some]
      refine leaf ?_
      rw [decide_eq_true_iff]
      generalize b % e = p at *
      generalize y % b = q at *
      omega
    · rw [if_neg (by simpa using c2)]
      refine leaf ?_
      generalize b % e = p at *
      generalize y % b = q at *
      simp
      omega
  · rw [if_neg (by simpa using c1)]
    refine leaf ?_
    generalize b % e = p at *
    generalize y % b = q at *
    simp
    omega

/-! isFraction -/
theorem isFraction_eq (n d : Int) : impl_isFraction.f n d = some (decide ((2 ≤ d ∧ d ≤ 100000) ∧ (1 ≤ n ∧ n ≤ d - 1))) := by
  unfold impl_isFraction.f
  rw [within_eq, Option.bind_some]
  by_cases h : 1 ≤ d ∧ d ≤ 100000
  · rw [if_pos (by simpa using h), w64 (by omega) (by omega), within_eq, Option.bind_some]
    congr 1
    rw [Bool.eq_iff_iff, decide_eq_true_iff, decide_eq_true_iff]
    omega
  · rw [if_neg (by simpa using h)]
    congr 1
    symm
    exact decide_eq_false (by omega)

/-! YearsForDay -/
def yearsP (e b y n d : Int) : Int × Bool :=
  if lowN (offN e b y n d) (offD e b y d) = 0 then (0, false) else ((lowD (offN e b y n d) (offD e b y d) + (lowN (offN e b y n d) (offD e b y d)).natAbs - 1) / ((lowN (offN e b y n d) (offD e b y d)).natAbs : Int), true)
def YearsForDayP (e b y n d : Int) : Int × Bool := if ruleOk e b y ∧ ((2 ≤ d ∧ d ≤ 100000) ∧ (1 ≤ n ∧ n ≤ d - 1)) then yearsP e b y n d else (0, false)
theorem off_more {e b y n d : Int} (r : ruleOk e b y) (h : (2 ≤ d ∧ d ≤ 100000) ∧ (1 ≤ n ∧ n ≤ d - 1)) : (lowN (offN e b y n d) (offD e b y d)).natAbs ≤ 3000000000 ∧ 1 ≤ lowD (offN e b y n d) (offD e b y d) ∧ lowD (offN e b y n d) (offD e b y d) ≤ 1000000000 := by
  have m := off_bd r h
  have bn := low_bdN (offN e b y n d) (offD e b y d)
  have bd := low_bdD (offN e b y n d) (offD e b y d)
  have p := low_posD (a := offN e b y n d) (b := offD e b y d) (by unfold offD; omega)
  have g1 : (offN e b y n d).natAbs ≤ 3000000000 := by
    unfold offN
    omega
  have g2 : (offD e b y d).natAbs ≤ 1000000000 := by
    unfold offD
    omega
  omega
theorem YearsForDay_spec (e b y n d : Int) : Ev (fun k => spec_YearsForDay.f k e b y n d) (YearsForDayP e b y n d) := by
  have no : ∀ k, spec_YearsForDay.j0 (k + 1) n d true e b y = some (0, false) := fun k => by
    simp [spec_YearsForDay.j0]
  unfold spec_YearsForDay.f YearsForDayP
  refine Ev.bind (daRule_ev e b y) ?_
  by_cases r : ruleOk e b y
  · refine ev_t (by simpa using r) (ev_p (daFraction_eq n d) ?_)
    by_cases h : (2 ≤ d ∧ d ≤ 100000) ∧ (1 ≤ n ∧ n ≤ d - 1)
    · rw [if_pos ⟨r, h⟩, decide_eq_true h]
      have m := off_more r h
      refine ev_succ ?_
      simp only [spec_YearsForDay.j0, Bool.not_true]
      refine ev_f (by simp) (Ev.bind (off_spec r h) ?_)
      unfold yearsP
      generalize lowN (offN e b y n d) (offD e b y d) = p at *
      generalize lowD (offN e b y n d) (offD e b y d) = q at *
      by_cases c : p = 0
      · refine ev_t c ?_
        rw [if_pos c]
        exact ev_now _
      · have b1 := div_le (a := q + p.natAbs - 1) (b := (p.natAbs : Int)) (by omega) (by omega)
        refine ev_f c (ev_p (l1Abs_eq (a := p) (by omega)) (ev_f (by omega) ?_))
        rw [w64 (x := q + (p.natAbs : Int)) (by omega) (by omega), w64 (x := q + (p.natAbs : Int) - 1) (by omega) (by omega), tdiv_e (by omega), w64 (by omega) (by omega), if_neg c]
        exact ev_now _
    · rw [if_neg (fun z => h z.2), decide_eq_false h]
      exact ev_one no
  · rw [if_neg (fun z => r z.1)]
    exact ev_f (by simpa using r) (ev_one no)
theorem YearsForDay_impl (e b y n d : Int) : Ev (fun k => impl_YearsForDay.f k e b y n d) (YearsForDayP e b y n d) := by
  have no : ∀ k, impl_YearsForDay.j0 (k + 1) n d true e b y = some (0, false) := fun k => by
    simp [impl_YearsForDay.j0]
  unfold impl_YearsForDay.f YearsForDayP
  refine ev_p (isLeapRule_eq e b y) ?_
  by_cases r : ruleOk e b y
  · refine ev_t (by simpa using r) (ev_p (isFraction_eq n d) ?_)
    by_cases h : (2 ≤ d ∧ d ≤ 100000) ∧ (1 ≤ n ∧ n ≤ d - 1)
    · rw [if_pos ⟨r, h⟩, decide_eq_true h]
      have m := off_more r h
      refine ev_succ ?_
      simp only [impl_YearsForDay.j0, Bool.not_true]
      refine ev_f (by simp) (Ev.bind (off_impl r h) ?_)
      unfold yearsP
      generalize lowN (offN e b y n d) (offD e b y d) = p at *
      generalize lowD (offN e b y n d) (offD e b y d) = q at *
      rw [mx_abs (x := p) (by omega)]
      by_cases c : p = 0
      · refine ev_t (by omega) ?_
        rw [if_pos c]
        exact ev_now _
      · have b1 := div_le (a := q + p.natAbs - 1) (b := (p.natAbs : Int)) (by omega) (by omega)
        refine ev_f (by omega) ?_
        rw [w64 (x := q + (p.natAbs : Int)) (by omega) (by omega), w64 (x := q + (p.natAbs : Int) - 1) (by omega) (by omega), tdiv_e (by omega), w64 (by omega) (by omega), if_neg c]
        exact ev_now _
    · rw [if_neg (fun z => h z.2), decide_eq_false h]
      exact ev_one no
  · rw [if_neg (fun z => r z.1)]
    exact ev_f (by simpa using r) (ev_one no)

/-! the law -/
theorem law (a0_0 a0_1 a0_2 a1 a2 : Int) (w0_0 : (Lit.int .i64 a0_0).wf = true) (w0_1 : (Lit.int .i64 a0_1).wf = true) (w0_2 : (Lit.int .i64 a0_2).wf = true) (w1 : (Lit.int .i64 a1).wf = true) (w2 : (Lit.int .i64 a2).wf = true) : ∃ k, laws_FnExactYearsForDay.f k a0_0 a0_1 a0_2 a1 a2 = some true := Ev.rounds (g := fun k => laws_FnExactYearsForDay.f k a0_0 a0_1 a0_2 a1 a2) (by
  simp only [laws_FnExactYearsForDay.f, laws_toLeapRule.f, Option.bind_some]
  refine Ev.bind (YearsForDay_spec a0_0 a0_1 a0_2 a1 a2) ?_
  refine Ev.bind (YearsForDay_impl a0_0 a0_1 a0_2 a1 a2) ?_
  repeat (first | refine ev_t rfl ?_ | refine ev_f (by simp) ?_)
  exact ev_now true)

end Go.Proofs.Ytkmakbjkapohlaa.Pure.FnExactYearsForDayWay
