/- FnExactMonthsOf: the law's printed function answers true at every input. -/
import Derived.Test.YtifighdccepilaaPFnExactMonthsOfx2
import Derived.Test.YtifighdccepilaaLib
import Derived.Test.YtifighdccepilaaLibRows
set_option linter.unusedVariables false
set_option linter.unusedSimpArgs false
namespace Go.Proofs.Ytifighdccepilaa.Pure.FnExactMonthsOfWay
open Go.RowKit Go.Proofs.Ytifighdccepilaa.PFnExactMonthsOf Go.Proofs.YtifighdccepilaaW.PrintWords Go.Proofs.YtifighdccepilaaW.PrintLast Go.Proofs.YtifighdccepilaaW.PrintMore Go.Proofs.Ytifighdccepilaa.Lib

/-! l1In -/
theorem l1In_eq (a b c : Int) : spec_l1In.f a b c = some (decide (b ≤ a ∧ a ≤ c)) := within_gen (fun _ _ _ => rfl) a b c

/-! within -/
theorem within_eq (a b c : Int) : impl_within.f a b c = some (decide (b ≤ a ∧ a ≤ c)) := within_gen (fun _ _ _ => rfl) a b c

/-! MonthsOf -/
def MonthsP (a b c : Int) : List Int × Bool := if (1 ≤ a ∧ a ≤ 1000000) ∧ (1 ≤ b ∧ b ≤ a) ∧ (1 ≤ c ∧ c ≤ 400) then (upTo (fun i => wrap64 ((wrap64 (Int.tdiv (wrap64 (i * a)) b)) - (wrap64 (Int.tdiv (wrap64 ((wrap64 (i - 1)) * a)) b)))) 1 c.toNat, true) else ([], false)

theorem MonthsOf_spec (a b c : Int) : Ev (fun k => spec_MonthsOf.f k a b c) (MonthsP a b c) := by
  have no : ∀ k, spec_MonthsOf.j0 (k + 1) a b c true = some ([], false) := fun k => by
    simp [spec_MonthsOf.j0]
  unfold spec_MonthsOf.f MonthsP
  refine ev_p (l1In_eq _ _ _) ?_
  by_cases h1 : 1 ≤ a ∧ a ≤ 1000000
  · refine ev_t (by simpa using h1) (ev_p (l1In_eq _ _ _) ?_)
    by_cases h2 : 1 ≤ b ∧ b ≤ a
    · refine ev_t (by simpa using h2) (ev_p (l1In_eq _ _ _) ?_)
      by_cases h3 : 1 ≤ c ∧ c ≤ 400
      · rw [if_pos ⟨h1, h2, h3⟩]
        have z : (!decide (1 ≤ c ∧ c ≤ 400)) = false := by simp; exact h3
        simp only [z]
        refine ev_succ ?_
        simp only [spec_MonthsOf.j0]
        refine ev_f (by simp) ?_
        have e : (c + 1 - 1).toNat = c.toNat := by omega
        rw [← e]
        refine fill_gen (l0 := fun k acc i => spec_MonthsOf.l0 k a b c acc i) (F := fun acc => (acc, true)) (n := c) (by omega) ?_ ?_
        · intro k acc i a1 a2 a3
          simp only [spec_MonthsOf.l0]
          rw [if_pos a2, if_neg (by omega), if_pos (by omega), w64 (x := i + 1) (by omega) (by omega)]
        · intro k acc i a1
          simp only [spec_MonthsOf.l0]
          rw [if_neg (by omega)]
      · rw [if_neg (fun z => h3 z.2.2)]
        have z : (!decide (1 ≤ c ∧ c ≤ 400)) = true := by
          rw [decide_eq_false h3]
          rfl
        simp only [z]
        exact ev_one no
    · rw [if_neg (fun z => h2 z.2.1)]
      exact ev_f (by simpa using h2) (ev_one no)
  · rw [if_neg (fun z => h1 z.1)]
    exact ev_f (by simpa using h1) (ev_one no)

theorem MonthsOf_impl (a b c : Int) : Ev (fun k => impl_MonthsOf.f k a b c) (MonthsP a b c) := by
  have no : ∀ k, impl_MonthsOf.j0 (k + 1) a b c true = some ([], false) := fun k => by
    simp [impl_MonthsOf.j0]
  unfold impl_MonthsOf.f MonthsP
  refine ev_p (within_eq _ _ _) ?_
  by_cases h1 : 1 ≤ a ∧ a ≤ 1000000
  · refine ev_t (by simpa using h1) (ev_p (within_eq _ _ _) ?_)
    by_cases h2 : 1 ≤ b ∧ b ≤ a
    · refine ev_t (by simpa using h2) (ev_p (within_eq _ _ _) ?_)
      by_cases h3 : 1 ≤ c ∧ c ≤ 400
      · rw [if_pos ⟨h1, h2, h3⟩]
        have z : (!decide (1 ≤ c ∧ c ≤ 400)) = false := by simp; exact h3
        simp only [z]
        refine ev_succ ?_
        simp only [impl_MonthsOf.j0]
        refine ev_f (by simp) ?_
        have e : (c + 1 - 1).toNat = c.toNat := by omega
        rw [← e]
        refine fill_gen (l0 := fun k acc i => impl_MonthsOf.l0 k a b c acc i) (F := fun acc => (acc, true)) (n := c) (by omega) ?_ ?_
        · intro k acc i a1 a2 a3
          simp only [impl_MonthsOf.l0]
          rw [if_pos a2, if_neg (by omega), if_pos (by omega), w64 (x := i + 1) (by omega) (by omega)]
        · intro k acc i a1
          simp only [impl_MonthsOf.l0]
          rw [if_neg (by omega)]
      · rw [if_neg (fun z => h3 z.2.2)]
        have z : (!decide (1 ≤ c ∧ c ≤ 400)) = true := by
          rw [decide_eq_false h3]
          rfl
        simp only [z]
        exact ev_one no
    · rw [if_neg (fun z => h2 z.2.1)]
      exact ev_f (by simpa using h2) (ev_one no)
  · rw [if_neg (fun z => h1 z.1)]
    exact ev_f (by simpa using h1) (ev_one no)

/-! eqIntS -/
theorem eqIntS_ev (l : List Int) (h : l.length ≤ 1000000000) : Ev (fun k => laws_eqIntS.f k l l) true := by
  unfold laws_eqIntS.f
  refine ev_t rfl ?_
  exact scan_gen (g := fun i k => laws_eqIntS.l0 k l l i) (n := l.length) (fun i a b ih => by
    refine ev_succ ?_
    simp only [laws_eqIntS.l0]
    refine ev_t b (ev_t a (ev_t b (ev_t (by first | rfl | trivial) ?_)))
    rw [w64 (by omega) (by omega)]
    exact ih) (by
    refine ev_one fun k => ?_
    simp only [laws_eqIntS.l0]
    rw [if_neg (by omega)]) 0 (by omega) (by omega)

/-! markIntS -/
theorem markIntS_ev (l : List Int) (h : l.length ≤ 1000000000) (m0 : Int) (hm : 0 ≤ m0) (hm' : m0 ≤ 1000000000000) : ∃ m' l', Ev (fun k => laws_markIntS.f k l m0) (m', l') ∧ Ev (fun k => laws_heldIntS.f k l' m0) m' ∧ m' = m0 + l.length := by
  refine ⟨_, _, mark_gen (mk := fun m => m) (s := 1) (l0 := laws_markIntS.l0) (by omega) (by omega) ?_ ?_ l m0 h hm hm', held_gen (mk := fun m => m) (s := 1) (l0 := laws_heldIntS.l0) (by omega) (by omega) 0 ?_ ?_ l.length m0 h hm hm', by omega⟩
  · intro k xs m i a b c d e
    simp only [laws_markIntS.l0]
    rw [if_pos b, if_pos a, w64 (x := m + 1) (by omega) (by omega), w64 (by omega) (by omega)]
  · intro k xs m i a
    simp only [laws_markIntS.l0]
    rw [if_neg a]
  · intro k xs m i a b c d e g
    simp only [laws_heldIntS.l0]
    rw [if_pos b, if_pos a, if_pos (by rw [rd_eq]; exact g), w64 (x := m + 1) (by omega) (by omega), w64 (by omega) (by omega)]
  · intro k xs m i a
    simp only [laws_heldIntS.l0]
    rw [if_neg a]

/-! the law -/
theorem law : laws_FnExactMonthsOf.Pure := by
  intro a b c wa wb wc
  refine Ev.rounds (g := fun k => laws_FnExactMonthsOf.f k a b c) ?_
  have hs := MonthsOf_spec a b c
  have hi := MonthsOf_impl a b c
  have hl : (MonthsP a b c).1.length ≤ 1000000000 := by
    unfold MonthsP
    split
    · rw [upTo_length]
      omega
    · simp
  generalize MonthsP a b c = R at hs hi hl
  obtain ⟨m', l', e1, e2, e3⟩ := markIntS_ev R.1 hl 1 (by omega) (by omega)
  have e0 := eqIntS_ev R.1 hl
  unfold laws_FnExactMonthsOf.f
  refine Ev.bind hs (Ev.bind hi (Ev.bind e0 (ev_t rfl (ev_succ ?_))))
  simp only [laws_FnExactMonthsOf.j0]
  refine ev_f (by simp) (Ev.bind e1 (Ev.bind e2 (ev_f (by omega) (ev_t rfl (Ev.bind hi (Ev.bind e0 (ev_t rfl (ev_succ ?_))))))))
  simp only [laws_FnExactMonthsOf.j1]
  exact ev_f (by simp) (Ev.bind e2 (ev_f (by omega) (ev_t rfl (ev_now true))))

end Go.Proofs.Ytifighdccepilaa.Pure.FnExactMonthsOfWay
namespace Go.Proofs.Ytifighdccepilaa.Pure
/-- The law's pure statement. -/
theorem FnExactMonthsOf : PFnExactMonthsOf.laws_FnExactMonthsOf.Pure := FnExactMonthsOfWay.law
end Go.Proofs.Ytifighdccepilaa.Pure
