/- FnExactSpreadLeaps: the law's printed function answers true at every input. -/
import Derived.Test.YtifighdccepilaaPFnExactSpreadLeapsx2
import Derived.Test.YtifighdccepilaaLib
import Derived.Test.YtifighdccepilaaLibRows
set_option linter.unusedVariables false
set_option linter.unusedSimpArgs false
namespace Go.Proofs.Ytifighdccepilaa.Pure.FnExactSpreadLeapsWay
open Go.RowKit Go.Proofs.Ytifighdccepilaa.PFnExactSpreadLeaps Go.Proofs.YtifighdccepilaaW.PrintWords Go.Proofs.YtifighdccepilaaW.PrintLast Go.Proofs.YtifighdccepilaaW.PrintMore Go.Proofs.Ytifighdccepilaa.Lib

/-! l1In -/
theorem l1In_eq (a b c : Int) : spec_l1In.f a b c = some (decide (b ≤ a ∧ a ≤ c)) := within_gen (fun _ _ _ => rfl) a b c

/-! within -/
theorem within_eq (a b c : Int) : impl_within.f a b c = some (decide (b ≤ a ∧ a ≤ c)) := within_gen (fun _ _ _ => rfl) a b c

/-! SpreadLeaps -/
def SpreadP (a c : Int) : List Bool × Bool := if (1 ≤ c ∧ c ≤ 1000) ∧ (0 ≤ a ∧ a ≤ c) then (upTo (fun i => decide ((wrap64 (Int.tdiv (wrap64 (i * a)) c)) > (wrap64 (Int.tdiv (wrap64 ((wrap64 (i - 1)) * a)) c)))) 1 c.toNat, true) else ([], false)

theorem SpreadLeaps_spec (a c : Int) : Ev (fun k => spec_SpreadLeaps.f k a c) (SpreadP a c) := by
  have no : ∀ k, spec_SpreadLeaps.j0 (k + 1) a c true = some ([], false) := fun k => by
    simp [spec_SpreadLeaps.j0]
  unfold spec_SpreadLeaps.f SpreadP
  refine ev_p (l1In_eq _ _ _) ?_
  by_cases h1 : 1 ≤ c ∧ c ≤ 1000
  · refine ev_t (by simpa using h1) (ev_p (l1In_eq _ _ _) ?_)
    by_cases h3 : 0 ≤ a ∧ a ≤ c
    · rw [if_pos ⟨h1, h3⟩]
      have z : (!decide (0 ≤ a ∧ a ≤ c)) = false := by simp; exact h3
      simp only [z]
      refine ev_succ ?_
      simp only [spec_SpreadLeaps.j0]
      refine ev_f (by simp) ?_
      have e : (c + 1 - 1).toNat = c.toNat := by omega
      rw [← e]
      refine fill_gen (l0 := fun k acc i => spec_SpreadLeaps.l0 k a c acc i) (F := fun acc => (acc, true)) (n := c) (by omega) ?_ ?_
      · intro k acc i a1 a2 a3
        simp only [spec_SpreadLeaps.l0]
        rw [if_pos a2, if_neg (by omega), if_pos (by omega), w64 (x := i + 1) (by omega) (by omega)]
      · intro k acc i a1
        simp only [spec_SpreadLeaps.l0]
        rw [if_neg (by omega)]
    · rw [if_neg (fun z => h3 z.2)]
      have z : (!decide (0 ≤ a ∧ a ≤ c)) = true := by
        rw [decide_eq_false h3]
        rfl
      simp only [z]
      exact ev_one no
  · rw [if_neg (fun z => h1 z.1)]
    exact ev_f (by simpa using h1) (ev_one no)

theorem SpreadLeaps_impl (a c : Int) : Ev (fun k => impl_SpreadLeaps.f k a c) (SpreadP a c) := by
  have no : ∀ k, impl_SpreadLeaps.j0 (k + 1) a c true = some ([], false) := fun k => by
    simp [impl_SpreadLeaps.j0]
  unfold impl_SpreadLeaps.f SpreadP
  refine ev_p (within_eq _ _ _) ?_
  by_cases h1 : 1 ≤ c ∧ c ≤ 1000
  · refine ev_t (by simpa using h1) (ev_p (within_eq _ _ _) ?_)
    by_cases h3 : 0 ≤ a ∧ a ≤ c
    · rw [if_pos ⟨h1, h3⟩]
      have z : (!decide (0 ≤ a ∧ a ≤ c)) = false := by simp; exact h3
      simp only [z]
      refine ev_succ ?_
      simp only [impl_SpreadLeaps.j0]
      refine ev_f (by simp) ?_
      have e : (c + 1 - 1).toNat = c.toNat := by omega
      rw [← e]
      refine fill_gen (l0 := fun k acc i => impl_SpreadLeaps.l0 k a c acc i) (F := fun acc => (acc, true)) (n := c) (by omega) ?_ ?_
      · intro k acc i a1 a2 a3
        simp only [impl_SpreadLeaps.l0]
        rw [if_pos a2, if_neg (by omega), if_pos (by omega), w64 (x := i + 1) (by omega) (by omega)]
      · intro k acc i a1
        simp only [impl_SpreadLeaps.l0]
        rw [if_neg (by omega)]
    · rw [if_neg (fun z => h3 z.2)]
      have z : (!decide (0 ≤ a ∧ a ≤ c)) = true := by
        rw [decide_eq_false h3]
        rfl
      simp only [z]
      exact ev_one no
  · rw [if_neg (fun z => h1 z.1)]
    exact ev_f (by simpa using h1) (ev_one no)

/-! eqBoolS -/
theorem eqBoolS_ev (l : List Bool) (h : l.length ≤ 1000000000) : Ev (fun k => laws_eqBoolS.f k l l) true := by
  unfold laws_eqBoolS.f
  refine ev_t rfl ?_
  exact scan_gen (g := fun i k => laws_eqBoolS.l0 k l l i) (n := l.length) (fun i a b ih => by
    refine ev_succ ?_
    simp only [laws_eqBoolS.l0]
    refine ev_t b (ev_t a (ev_t b (ev_f (by simp) ?_)))
    rw [w64 (by omega) (by omega)]
    exact ih) (by
    refine ev_one fun k => ?_
    simp only [laws_eqBoolS.l0]
    rw [if_neg (by omega)]) 0 (by omega) (by omega)

/-! markBoolS -/
theorem markBoolS_ev (l : List Bool) (h : l.length ≤ 1000000000) (m0 : Int) (hm : 0 ≤ m0) (hm' : m0 ≤ 1000000000000) : ∃ m' l', Ev (fun k => laws_markBoolS.f k l m0) (m', l') ∧ Ev (fun k => laws_heldBoolS.f k l' m0) m' ∧ m' = m0 + l.length := by
  refine ⟨_, _, mark_gen (mk := fun m => Int.tmod m 3 == 0) (s := 1) (l0 := laws_markBoolS.l0) (by omega) (by omega) ?_ ?_ l m0 h hm hm', held_gen (mk := fun m => Int.tmod m 3 == 0) (s := 1) (l0 := laws_heldBoolS.l0) (by omega) (by omega) false ?_ ?_ l.length m0 h hm hm', by omega⟩
  · intro k xs m i a b c d e
    simp only [laws_markBoolS.l0]
    rw [if_pos b, if_pos a, w64 (x := m + 1) (by omega) (by omega), w64 (by omega) (by omega)]
  · intro k xs m i a
    simp only [laws_markBoolS.l0]
    rw [if_neg a]
  · intro k xs m i a b c d e g
    simp only [laws_heldBoolS.l0]
    rw [if_pos b, if_pos a, if_neg (by rw [rdOf_eq, g]; simp), w64 (x := m + 1) (by omega) (by omega), w64 (by omega) (by omega)]
  · intro k xs m i a
    simp only [laws_heldBoolS.l0]
    rw [if_neg a]

/-! the law -/
theorem law : laws_FnExactSpreadLeaps.Pure := by
  intro a c wa wc
  refine Ev.rounds (g := fun k => laws_FnExactSpreadLeaps.f k a c) ?_
  have hs := SpreadLeaps_spec a c
  have hi := SpreadLeaps_impl a c
  have hl : (SpreadP a c).1.length ≤ 1000000000 := by
    unfold SpreadP
    split
    · rw [upTo_length]
      omega
    · simp
  generalize SpreadP a c = R at hs hi hl
  obtain ⟨m', l', e1, e2, e3⟩ := markBoolS_ev R.1 hl 1 (by omega) (by omega)
  have e0 := eqBoolS_ev R.1 hl
  unfold laws_FnExactSpreadLeaps.f
  refine Ev.bind hs (Ev.bind hi (Ev.bind e0 (ev_t rfl (ev_succ ?_))))
  simp only [laws_FnExactSpreadLeaps.j0]
  refine ev_f (by simp) (Ev.bind e1 (Ev.bind e2 (ev_f (by omega) (ev_t rfl (Ev.bind hi (Ev.bind e0 (ev_t rfl (ev_succ ?_))))))))
  simp only [laws_FnExactSpreadLeaps.j1]
  exact ev_f (by simp) (Ev.bind e2 (ev_f (by omega) (ev_t rfl (ev_now true))))

end Go.Proofs.Ytifighdccepilaa.Pure.FnExactSpreadLeapsWay
namespace Go.Proofs.Ytifighdccepilaa.Pure
/-- The law's pure statement. -/
theorem FnExactSpreadLeaps : PFnExactSpreadLeaps.laws_FnExactSpreadLeaps.Pure := FnExactSpreadLeapsWay.law
end Go.Proofs.Ytifighdccepilaa.Pure
