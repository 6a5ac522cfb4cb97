/- FnExactNextLeap: the law's printed function answers true at every input. -/
import Derived.Test.YtifighdccepilaaPFnExactNextLeapx2
import Derived.Test.YtifighdccepilaaLib
set_option linter.unusedVariables false
set_option linter.unusedSimpArgs false
namespace Go.Proofs.Ytifighdccepilaa.Pure.FnExactNextLeapWay
open Go.RowKit Go.Proofs.Ytifighdccepilaa.PFnExactNextLeap Go.Proofs.YtifighdccepilaaW.PrintWords Go.Proofs.YtifighdccepilaaW.PrintLast Go.Proofs.YtifighdccepilaaW.PrintMore Go.Proofs.Ytifighdccepilaa.Lib

/-! l1In -/
theorem l1In_eq (a b c : Int) : spec_l1In.f a b c = some (decide (b ≤ a ∧ a ≤ c)) := within_gen (fun _ _ _ => rfl) a b c

/-! daRule -/
theorem daRule_at (e b y : Int) (k : Nat) : spec_daRule.f (k + 1) e b y = some (decide (ruleOk e b y)) := by
  have leaf : ∀ {X : Bool} {P : Prop} [Decidable P], (X = true ↔ P) → some X = some (decide P) := fun h => by
    congr 1
    rw [Bool.eq_iff_iff, decide_eq_true_iff]
    exact h
  simp only [spec_daRule.f, spec_daRule.j0, l1In_eq, Option.bind_some, decide_eq_true_eq]
  unfold ruleOk
  by_cases h1 : 1 ≤ e ∧ e ≤ 10000
  · rw [if_pos h1]
    by_cases h2 : 0 ≤ b ∧ b ≤ 10000
    · rw [if_pos h2]
      by_cases h3 : 0 ≤ y ∧ y ≤ 10000
      · rw [tmod_e h2.1, tmod_e h3.1, if_neg (by simp; omega)]
        by_cases c1 : b = 0
        · rw [if_pos c1]
          refine leaf ?_
          generalize b % e = p
          generalize y % b = q
          rw [beq_iff_eq]
          omega
        · rw [if_neg c1]
          by_cases c2 : b > e
          · rw [if_pos c2, if_neg (by omega)]
            by_cases c3 : b % e = 0
            · rw [if_pos c3]
              by_cases c4 : y = 0
              · rw [if_pos c4]
                refine leaf ?_
                generalize b % e = p at *
                generalize y % b = q at *
                simp
                omega
              · rw [if_neg c4]
                by_cases c5 : y > b
                · rw [if_pos c5]
                  refine leaf ?_
                  rw [beq_iff_eq]
                  generalize b % e = p at *
                  generalize y % b = q at *
                  omega
                · rw [if_neg c5]
                  refine leaf ?_
                  generalize b % e = p at *
                  generalize y % b = q at *
                  simp
                  omega
            · rw [if_neg c3]
              refine leaf ?_
              generalize b % e = p at *
              generalize y % b = q at *
              simp
              omega
          · rw [if_neg c2]
            refine leaf ?_
            generalize b % e = p at *
            generalize y % b = q at *
            simp
            omega
      · rw [if_pos (by simp; omega)]
        refine leaf ?_
        generalize b % e = p at *
        generalize y % b = q at *
        simp
        omega
    · rw [if_neg h2, if_pos trivial]
      refine leaf ?_
      generalize b % e = p at *
      generalize y % b = q at *
      simp
      omega
  · rw [if_neg h1, if_pos trivial]
    refine leaf ?_
    generalize b % e = p at *
    generalize y % b = q at *
    simp
    omega
theorem daRule_ev (e b y : Int) : Ev (fun k => spec_daRule.f k e b y) (decide (ruleOk e b y)) := ev_one (daRule_at e b y)

/-! daYear -/
theorem daYear_ev (e b y n : Int) : Ev (fun k => spec_daYear.f k e b y n) (decide (ruleOk e b y ∧ 1 ≤ n ∧ n ≤ 1000000)) := by
  unfold spec_daYear.f
  refine Ev.bind (daRule_ev e b y) ?_
  by_cases h : ruleOk e b y
  · refine ev_t (by simpa using h) (ev_con ?_)
    rw [l1In_eq, Option.bind_some]
    congr 1
    rw [Bool.eq_iff_iff]
    simp [h]
  · refine ev_f (by simpa using h) (ev_con ?_)
    simp [h]

/-! daLeap -/
theorem daLeap_eq {e b y n : Int} (r : ruleOk e b y) (hn : 0 ≤ n) : spec_daLeap.f e b y n = some (leapB e b y n) := by
  unfold ruleOk at r
  unfold spec_daLeap.f leapB
  rw [tmod_e hn, tmod_e hn, tmod_e hn, if_neg (by omega)]
  by_cases c1 : n % e = 0
  · rw [if_pos c1]
    by_cases c2 : b = 0
    · rw [if_pos c2]
      simp [c1, c2]
    · rw [if_neg c2]
      by_cases c3 : n % b = 0
      · rw [if_pos c3]
        by_cases c4 : y = 0
        · rw [if_pos c4]
          simp [c1, c2, c3, c4]
        · rw [if_neg c4]
          congr 1
          rw [Bool.eq_iff_iff]
          simp [c1, c2, c3, c4]
      · rw [if_neg c3]
        simp [c1, c3]
  · rw [if_neg c1]
    simp [c1]

/-! within -/
theorem within_eq (a b c : Int) : impl_within.f a b c = some (decide (b ≤ a ∧ a ≤ c)) := within_gen (fun _ _ _ => rfl) a b c

/-! isMultiple -/
theorem isMultiple_eq (n of : Int) (h : of ≤ 10000) : impl_isMultiple.f n of = some (decide (n = 0 ∨ (0 < of ∧ of < n ∧ n ≤ 10000 ∧ n % of = 0))) := by
  have leaf : ∀ {X : Bool} {P : Prop} [Decidable P], (X = true ↔ P) → some X = some (decide P) := fun h => by
    congr 1
    rw [Bool.eq_iff_iff, decide_eq_true_iff]
    exact h
  unfold impl_isMultiple.f
  by_cases c1 : n = 0
  · rw [if_pos c1]
    exact leaf ⟨fun _ => Or.inl c1, fun _ => rfl⟩
  · rw [if_neg c1]
    by_cases c2 : of > 0
    · rw [if_pos c2, w64 (by omega) (by omega), within_eq, Option.bind_some]
      by_cases c3 : of + 1 ≤ n ∧ n ≤ 10000
      · rw [if_pos (by simpa using c3), if_neg (by omega), tmod_e (by omega)]
        refine leaf ?_
        rw [beq_iff_eq]
        generalize n % of = p
        omega
      · rw [if_neg (by simpa using c3)]
        refine leaf ?_
        generalize n % of = p
        simp
        omega
    · rw [if_neg c2]
      refine leaf ?_
      generalize n % of = p
      simp
      omega

/-! IsLeapRule -/
theorem isLeapRule_eq (e b y : Int) : impl_IsLeapRule.f e b y = some (decide (ruleOk e b y)) := by
  have leaf : ∀ {X : Bool} {P : Prop} [Decidable P], (X = true ↔ P) → some X = some (decide P) := fun h => by
    congr 1
    rw [Bool.eq_iff_iff, decide_eq_true_iff]
    exact h
  unfold impl_IsLeapRule.f
  rw [within_eq, Option.bind_some]
  unfold ruleOk
  by_cases c1 : 1 ≤ e ∧ e ≤ 10000
  · rw [if_pos (by simpa using c1), isMultiple_eq _ _ c1.2, Option.bind_some]
    by_cases c2 : b = 0 ∨ (0 < e ∧ e < b ∧ b ≤ 10000 ∧ b % e = 0)
    · rw [if_pos (by simpa using c2), isMultiple_eq _ _ (by omega), Option.bind_some]
      refine leaf ?_
      rw [decide_eq_true_iff]
      generalize b % e = p at *
      generalize y % b = q at *
      omega
    · rw [if_neg (by simpa using c2)]
      refine leaf ?_
      generalize b % e = p at *
      generalize y % b = q at *
      simp
      omega
  · rw [if_neg (by simpa using c1)]
    refine leaf ?_
    generalize b % e = p at *
    generalize y % b = q at *
    simp
    omega

/-! isYear -/
theorem isYear_eq (n : Int) : impl_isYear.f n = some (decide (1 ≤ n ∧ n ≤ 1000000)) := by
  unfold impl_isYear.f
  rw [within_eq, Option.bind_some]

/-! leaps -/
theorem leaps_eq {e b y n : Int} (r : ruleOk e b y) (hn : 0 ≤ n) (hn' : n ≤ 2000000) : impl_LeapRule_leaps.f e b y n = some (leapsP e b y n) := by
  have r' := r
  unfold ruleOk at r'
  have h1 := div_le (b := e) hn (by omega)
  have h2 : 0 < b → _ := fun g => div_le (b := b) hn (by omega)
  have h3 : 0 < y → _ := fun g => div_le (b := y) hn (by omega)
  unfold impl_LeapRule_leaps.f leapsP
  rw [tdiv_e hn, tdiv_e hn, tdiv_e hn, if_neg (by omega)]
  by_cases c1 : 0 < b
  · have h2 := h2 c1
    rw [if_pos c1, if_neg (by omega), if_pos c1]
    by_cases c2 : 0 < y
    · have h3 := h3 c2
      rw [if_pos c2, if_neg (by omega), if_pos c2]
      congr 1
      rw [w64 (x := n / e) (by omega) (by omega), w64 (x := n / b) (by omega) (by omega), w64 (x := n / y) (by omega) (by omega), w64 (x := n / e - n / b) (by omega) (by omega), w64 (by omega) (by omega)]
    · rw [if_neg c2, if_neg c2]
      congr 1
      rw [w64 (x := n / e) (by omega) (by omega), w64 (x := n / b) (by omega) (by omega), w64 (x := n / e - n / b) (by omega) (by omega)]
      omega
  · rw [if_neg c1, if_neg c1, if_neg (by omega), if_neg (by omega)]
    congr 1
    rw [w64 (x := n / e) (by omega) (by omega)]
    omega

/-! isLeap -/
theorem isLeap_eq {e b y n : Int} (r : ruleOk e b y) (hn : 1 ≤ n) (hn' : n ≤ 2000000) : impl_LeapRule_isLeap.f e b y n = some (leapB e b y n) := by
  unfold impl_LeapRule_isLeap.f
  rw [leaps_eq r (by omega) hn', Option.bind_some, w64 (by omega) (by omega), leaps_eq r (by omega) (by omega), Option.bind_some]
  congr 1
  have h := leapsP_step (n := n) r
  cases c : leapB e b y n
  · rw [c] at h
    simp at h
    exact decide_eq_false (by omega)
  · rw [c] at h
    simp at h
    exact decide_eq_true (by omega)

/-! NextLeap -/
def nextP (e b y : Int) : Nat → Int → Int × Bool
  | 0, _ => (0, false)
  | d + 1, m => if m ≤ 1000000 then (if leapB e b y m = true then (m, true) else nextP e b y d (m + e)) else (0, false)
theorem next_gen {e b y : Int} {l0 : Nat → Int → Option (Int × Bool)} (r : ruleOk e b y) (h1 : ∀ k m, 1 ≤ m → m ≤ 1000000 → l0 (k + 1) m = if leapB e b y m = true then some (m, true) else l0 k (m + e))
    (h2 : ∀ k m, 1000000 < m → l0 (k + 1) m = some (0, false)) : ∀ (d : Nat) (m : Int), 1 ≤ m → 1000000 - m < d → Ev (fun k => l0 k m) (nextP e b y (d + 1) m)
  | 0, m, hm, hd => by
    refine ev_one fun k => ?_
    rw [h2 k m (by omega)]
    unfold nextP
    rw [if_neg (by omega)]
  | d + 1, m, hm, hd => by
    have re : 1 ≤ e := r.1
    unfold nextP
    by_cases c : m ≤ 1000000
    · rw [if_pos c]
      by_cases l : leapB e b y m = true
      · rw [if_pos l]
        refine ev_one fun k => ?_
        rw [h1 k m hm c, if_pos l]
      · rw [if_neg l]
        refine ev_succ ?_
        have g : (fun k => l0 (k + 1) m) = fun k => l0 k (m + e) := by
          funext k
          rw [h1 k m hm c, if_neg l]
        rw [g]
        exact next_gen r h1 h2 d (m + e) (by omega) (by omega)
    · rw [if_neg c]
      exact ev_one fun k => h2 k m (by omega)
def nextStart (e n : Int) : Int := n / e * e + e
theorem nextStart_bd {e n : Int} (he : 1 ≤ e) (he' : e ≤ 10000) (hn : 1 ≤ n) (hn' : n ≤ 1000000) : 0 ≤ n / e * e ∧ n / e * e ≤ n ∧ n < nextStart e n := by
  have a := Int.emod_add_mul_ediv n e
  have a0 := Int.emod_nonneg n (show e ≠ 0 by omega)
  have a1 := Int.emod_lt_of_pos n (show 0 < e by omega)
  have a2 := div_le (a := n) (b := e) (by omega) he
  have a3 : n / e * e = e * (n / e) := Int.mul_comm _ _
  have a4 : 0 ≤ n / e * e := Int.mul_nonneg a2.1 (by omega)
  unfold nextStart
  omega
theorem NextLeap_spec (e b y n : Int) : Ev (fun k => spec_NextLeap.f k e b y n) (if ruleOk e b y ∧ 1 ≤ n ∧ n ≤ 1000000 then nextP e b y 1000001 (nextStart e n) else (0, false)) := by
  unfold spec_NextLeap.f
  refine Ev.bind (daYear_ev e b y n) ?_
  by_cases h : ruleOk e b y ∧ 1 ≤ n ∧ n ≤ 1000000
  · rw [if_pos h]
    obtain ⟨r, hn, hn'⟩ := h
    have re : 1 ≤ e := r.1
    have re' : e ≤ 10000 := r.2.1
    have bd := nextStart_bd re re' hn hn'
    have bd' := div_le (a := n) (b := e) (by omega) re
    refine ev_t (by simp; exact ⟨r, hn, hn'⟩) (ev_f (by omega) ?_)
    have st : wrap64 (wrap64 (wrap64 (Int.tdiv n e) * e) + e) = nextStart e n := by
      rw [tdiv_e (by omega), w64 (x := n / e) (by omega) (by omega), w64 (x := n / e * e) (by omega) (by omega), w64 (by omega) (by omega)]
      rfl
    simp only [st]
    refine next_gen (l0 := fun k m => spec_NextLeap.l0 k m e b y) r ?_ ?_ 1000000 (nextStart e n) (by omega) (by omega)
    · intro k m hm hm'
      simp only [spec_NextLeap.l0]
      rw [if_pos hm', daLeap_eq r (by omega), Option.bind_some, w64 (by omega) (by omega)]
    · intro k m hm
      simp only [spec_NextLeap.l0]
      rw [if_neg (by omega)]
  · rw [if_neg h]
    exact ev_f (by simpa using h) (ev_now _)
theorem NextLeap_impl (e b y n : Int) : Ev (fun k => impl_NextLeap.f k e b y n) (if ruleOk e b y ∧ 1 ≤ n ∧ n ≤ 1000000 then nextP e b y 1000001 (nextStart e n) else (0, false)) := by
  have no : ∀ k, impl_NextLeap.j0 (k + 1) n true e b y = some (0, false) := fun k => by
    simp [impl_NextLeap.j0]
  unfold impl_NextLeap.f
  refine ev_p (isLeapRule_eq e b y) ?_
  by_cases r : ruleOk e b y
  · refine ev_t (by simpa using r) (ev_p (isYear_eq n) ?_)
    by_cases h : 1 ≤ n ∧ n ≤ 1000000
    · rw [if_pos ⟨r, h⟩]
      obtain ⟨hn, hn'⟩ := h
      have re : 1 ≤ e := r.1
      have re' : e ≤ 10000 := r.2.1
      have bd := nextStart_bd re re' hn hn'
      have bd' := div_le (a := n) (b := e) (by omega) re
      have z : (!decide (1 ≤ n ∧ n ≤ 1000000)) = false := by simp; exact ⟨hn, hn'⟩
      have st : wrap64 (wrap64 (wrap64 (Int.tdiv n e) + 1) * e) = nextStart e n := by
        have g : (n / e + 1) * e = n / e * e + e := by rw [Int.add_mul, Int.one_mul]
        rw [tdiv_e (by omega), w64 (x := n / e) (by omega) (by omega), w64 (x := n / e + 1) (by omega) (by omega), g, w64 (by omega) (by omega)]
        rfl
      simp only [z]
      refine ev_succ ?_
      simp only [impl_NextLeap.j0]
      refine ev_f (by simp) (ev_f (by omega) ?_)
      simp only [st]
      refine next_gen (l0 := fun k m => impl_NextLeap.l0 k m e b y) r ?_ ?_ 1000000 (nextStart e n) (by omega) (by omega)
      · intro k m hm hm'
        simp only [impl_NextLeap.l0]
        rw [if_pos hm', isLeap_eq r (by omega) (by omega), Option.bind_some, w64 (by omega) (by omega)]
      · intro k m hm
        simp only [impl_NextLeap.l0]
        rw [if_neg (by omega)]
    · rw [if_neg (fun z => h z.2)]
      have z : (!decide (1 ≤ n ∧ n ≤ 1000000)) = true := by
        rw [decide_eq_false h]
        rfl
      simp only [z]
      exact ev_one no
  · rw [if_neg (fun z => r z.1)]
    exact ev_f (by simpa using r) (ev_one no)

/-! the law -/
theorem law (a0_0 a0_1 a0_2 a1 : Int) (w0_0 : (Lit.int .i64 a0_0).wf = true) (w0_1 : (Lit.int .i64 a0_1).wf = true) (w0_2 : (Lit.int .i64 a0_2).wf = true) (w1 : (Lit.int .i64 a1).wf = true) : ∃ k, laws_FnExactNextLeap.f k a0_0 a0_1 a0_2 a1 = some true := Ev.rounds (g := fun k => laws_FnExactNextLeap.f k a0_0 a0_1 a0_2 a1) (by
  simp only [laws_FnExactNextLeap.f, laws_toLeapRule.f, Option.bind_some]
  refine Ev.bind (NextLeap_spec a0_0 a0_1 a0_2 a1) ?_
  refine Ev.bind (NextLeap_impl a0_0 a0_1 a0_2 a1) ?_
  repeat (first | refine ev_t rfl ?_ | refine ev_f (by simp) ?_)
  exact ev_now true)

end Go.Proofs.Ytifighdccepilaa.Pure.FnExactNextLeapWay
