/- FnExactBestRules: the law's printed function answers true at every input. -/
import Derived.Test.YtifighdccepilaaGFnExactBestRulesx3
import Derived.Test.YtifighdccepilaaLib
import Derived.Test.YtifighdccepilaaLibRows
import Derived.Test.YtifighdccepilaaLibGcd
set_option linter.unusedVariables false
set_option linter.unusedSimpArgs false
namespace Go.Proofs.Ytifighdccepilaa.Pure.FnExactBestRulesWay
open Go.RowKit Go.Proofs.Ytifighdccepilaa.GFnExactBestRules Go.Proofs.YtifighdccepilaaW.PrintWords Go.Proofs.YtifighdccepilaaW.PrintLast Go.Proofs.YtifighdccepilaaW.PrintMore Go.Proofs.Ytifighdccepilaa.Lib

/-! l1In -/
theorem l1In_eq (a b c : Int) : spec_l1In.f a b c = some (decide (b ≤ a ∧ a ≤ c)) := within_gen (fun _ _ _ => rfl) a b c

/-! daFraction -/
theorem daFraction_eq (n d : Int) : spec_daFraction.f n d = some (decide ((2 ≤ d ∧ d ≤ 100000) ∧ (1 ≤ n ∧ n ≤ d - 1))) := by
  unfold spec_daFraction.f
  rw [l1In_eq, Option.bind_some]
  by_cases h : 2 ≤ d ∧ d ≤ 100000
  · rw [if_pos (by simpa using h), w64 (by omega) (by omega), l1In_eq, Option.bind_some]
    congr 1
    rw [Bool.eq_iff_iff, decide_eq_true_iff, decide_eq_true_iff]
    omega
  · rw [if_neg (by simpa using h)]
    congr 1
    symm
    exact decide_eq_false (by omega)

/-! within -/
theorem within_eq (a b c : Int) : impl_within.f a b c = some (decide (b ≤ a ∧ a ≤ c)) := within_gen (fun _ _ _ => rfl) a b c

/-! isFraction -/
theorem isFraction_eq (n d : Int) : impl_isFraction.f n d = some (decide ((2 ≤ d ∧ d ≤ 100000) ∧ (1 ≤ n ∧ n ≤ d - 1))) := by
  unfold impl_isFraction.f
  rw [within_eq, Option.bind_some]
  by_cases h : 1 ≤ d ∧ d ≤ 100000
  · rw [if_pos (by simpa using h), w64 (by omega) (by omega), within_eq, Option.bind_some]
    congr 1
    rw [Bool.eq_iff_iff, decide_eq_true_iff, decide_eq_true_iff]
    omega
  · rw [if_neg (by simpa using h)]
    congr 1
    symm
    exact decide_eq_false (by omega)

/-! bestRules -/
theorem rules_ev (most : Int) : ∀ (n : Nat) (num den a b p q : Int) (out : List (List Int)), num.toNat ≤ n → 0 ≤ num → 0 ≤ den → out.length + n ≤ 200000 → (∀ r ∈ out, r.length ≤ 2) → q ≤ most →
    ∃ R : List (List Int), Ev (fun k => spec_BestRules.l0 k num den most a b p q (out ++ [[p, q]])) (R, true) ∧ Ev (fun k => impl_BestRules.l0 k most out p q a b den num) (R, true) ∧ R.length ≤ out.length + n + 1 ∧ ∀ r ∈ R, r.length ≤ 2 := by
  intro n
  induction n with
  | zero =>
    intro num den a b p q out h1 h2 h3 h4 h5 h6
    have z : num = 0 := by omega
    subst z
    refine ⟨out ++ [[p, q]], ev_succ ?_, ev_succ ?_, by simp, ?_⟩
    · simp only [spec_BestRules.l0]
      exact ev_f (by omega) (ev_now _)
    · simp only [impl_BestRules.l0]
      exact ev_t h6 (ev_t (by omega) (ev_p rfl (ev_t (by first | rfl | trivial) (ev_now _))))
    · intro r hr
      rcases List.mem_append.1 hr with hr | hr
      · exact h5 r hr
      · rw [List.mem_singleton.1 hr]
        exact Nat.le_refl _
  | succ n ih =>
    intro num den a b p q out h1 h2 h3 h4 h5 h6
    have h5' : ∀ r ∈ out ++ [[p, q]], r.length ≤ 2 := by
      intro r hr
      rcases List.mem_append.1 hr with hr | hr
      · exact h5 r hr
      · rw [List.mem_singleton.1 hr]
        exact Nat.le_refl _
    have lo : (out ++ [[p, q]]).length = out.length + 1 := by simp
    by_cases z : num = 0
    · subst z
      refine ⟨out ++ [[p, q]], ev_succ ?_, ev_succ ?_, by omega, h5'⟩
      · simp only [spec_BestRules.l0]
        exact ev_f (by omega) (ev_now _)
      · simp only [impl_BestRules.l0]
        exact ev_t h6 (ev_t (by omega) (ev_p rfl (ev_t (by first | rfl | trivial) (ev_now _))))
    · have t0 := Int.emod_nonneg den z
      have t1 := Int.emod_lt_of_pos den (show 0 < num by omega)
      have te := tmod_e (b := num) h3
      by_cases c : wrap64 (wrap64 (wrap64 (Int.tdiv den num) * q) + b) > most
      · refine ⟨out ++ [[p, q]], ev_succ ?_, ev_succ ?_, by omega, h5'⟩
        · simp only [spec_BestRules.l0]
          exact ev_t (by omega) (ev_f z (ev_t c (ev_now _)))
        · simp only [impl_BestRules.l0]
          refine ev_t h6 (ev_t (by omega) (ev_p rfl (ev_f z (ev_succ ?_))))
          simp only [impl_BestRules.l0]
          exact ev_f (by omega) (ev_now _)
      · obtain ⟨R, i1, i2, i3, i4⟩ := ih (Int.tmod den num) num p q (wrap64 (wrap64 (wrap64 (Int.tdiv den num) * p) + a)) (wrap64 (wrap64 (wrap64 (Int.tdiv den num) * q) + b)) (out ++ [[p, q]]) (by rw [te]; omega) (by rw [te]; omega) h2 (by omega) h5' (by omega)
        refine ⟨R, ev_succ ?_, ev_succ ?_, by omega, i4⟩
        · simp only [spec_BestRules.l0]
          exact ev_t (by omega) (ev_f z (ev_f c (ev_t (by omega) i1)))
        · simp only [impl_BestRules.l0]
          exact ev_t h6 (ev_t (by omega) (ev_p rfl (ev_f z i2)))
theorem bestRules_both (num den most : Int) : ∃ R : List (List Int) × Bool, Ev (fun k => spec_BestRules.f k num den most) R ∧ Ev (fun k => impl_BestRules.f k num den most) R ∧ R.1.length ≤ 200001 ∧ ∀ r ∈ R.1, r.length ≤ 2 := by
  unfold spec_BestRules.f impl_BestRules.f
  have no : ∃ R : List (List Int) × Bool, Ev (fun k => spec_BestRules.j0 k num den most true) R ∧ Ev (fun k => impl_BestRules.j0 k num den most true) R ∧ R.1.length ≤ 200001 ∧ ∀ r ∈ R.1, r.length ≤ 2 := by
    refine ⟨([], false), ev_succ ?_, ev_succ ?_, by simp, by simp⟩
    · simp only [spec_BestRules.j0]
      exact ev_t (by first | rfl | trivial) (ev_now _)
    · simp only [impl_BestRules.j0]
      exact ev_t (by first | rfl | trivial) (ev_now _)
  by_cases h : (2 ≤ den ∧ den ≤ 100000) ∧ (1 ≤ num ∧ num ≤ den - 1)
  · by_cases g : 1 ≤ most ∧ most ≤ 100000
    · obtain ⟨R, i1, i2, i3, i4⟩ := rules_ev most num.toNat num den 1 0 0 1 [] (Nat.le_refl _) (by omega) (by omega) (by simp; omega) (by simp) g.1
      refine ⟨(R, true), ev_p (daFraction_eq num den) (ev_t (decide_eq_true h) (ev_p (l1In_eq _ _ _) ?_)), ev_p (isFraction_eq num den) (ev_t (decide_eq_true h) (ev_p (within_eq _ _ _) ?_)), by simp at i3; show R.length ≤ _; omega, i4⟩
      · rw [decide_eq_true g]
        refine ev_succ ?_
        simp only [spec_BestRules.j0]
        exact ev_f (by decide) i1
      · rw [decide_eq_true g]
        refine ev_succ ?_
        simp only [impl_BestRules.j0]
        exact ev_f (by decide) i2
    · obtain ⟨R, i1, i2, i3, i4⟩ := no
      refine ⟨R, ev_p (daFraction_eq num den) (ev_t (decide_eq_true h) (ev_p (l1In_eq _ _ _) ?_)), ev_p (isFraction_eq num den) (ev_t (decide_eq_true h) (ev_p (within_eq _ _ _) ?_)), i3, i4⟩
      · rw [decide_eq_false g]
        exact i1
      · rw [decide_eq_false g]
        exact i2
  · obtain ⟨R, i1, i2, i3, i4⟩ := no
    exact ⟨R, ev_p (daFraction_eq num den) (ev_f (by simp only [decide_eq_true_eq]; exact h) i1), ev_p (isFraction_eq num den) (ev_f (by simp only [decide_eq_true_eq]; exact h) i2), i3, i4⟩

/-! eqIntS -/
theorem eqIntS_ev (l : List Int) (h : l.length ≤ 1000000000) : Ev (fun k => laws_eqIntS.f k l l) true := by
  unfold laws_eqIntS.f
  refine ev_t rfl ?_
  exact scan_gen (g := fun i k => laws_eqIntS.l0 k l l i) (n := l.length) (fun i a b ih => by
    refine ev_succ ?_
    simp only [laws_eqIntS.l0]
    refine ev_t b (ev_t a (ev_t b (ev_t (by first | rfl | trivial) ?_)))
    rw [w64 (by omega) (by omega)]
    exact ih) (by
    refine ev_one fun k => ?_
    simp only [laws_eqIntS.l0]
    rw [if_neg (by omega)]) 0 (by omega) (by omega)

/-! markIntS -/
theorem markIntS_ev (l : List Int) (h : l.length ≤ 1000000000) (m0 : Int) (hm : 0 ≤ m0) (hm' : m0 ≤ 1000000000000) : ∃ m' l', Ev (fun k => laws_markIntS.f k l m0) (m', l') ∧ Ev (fun k => laws_heldIntS.f k l' m0) m' ∧ m' = m0 + l.length := by
  refine ⟨_, _, mark_gen (mk := fun m => m) (s := 1) (l0 := laws_markIntS.l0) (by omega) (by omega) ?_ ?_ l m0 h hm hm', held_gen (mk := fun m => m) (s := 1) (l0 := laws_heldIntS.l0) (by omega) (by omega) 0 ?_ ?_ l.length m0 h hm hm', by omega⟩
  · intro k xs m i a b c d e
    simp only [laws_markIntS.l0]
    rw [if_pos b, if_pos a, w64 (x := m + 1) (by omega) (by omega), w64 (by omega) (by omega)]
  · intro k xs m i a
    simp only [laws_markIntS.l0]
    rw [if_neg a]
  · intro k xs m i a b c d e g
    simp only [laws_heldIntS.l0]
    rw [if_pos b, if_pos a, if_pos (by rw [rd_eq]; exact g), w64 (x := m + 1) (by omega) (by omega), w64 (by omega) (by omega)]
  · intro k xs m i a
    simp only [laws_heldIntS.l0]
    rw [if_neg a]

/-! marksInt -/
/-- Rows of rows, marked and looked at: P: what is known of each row; C: how far a row's marks go. -/
theorem rows_mark (P : List Int → Prop) (C : Int) (hC : 0 ≤ C ∧ C ≤ 1000) (hrow : ∀ (r : List Int) (m : Int), P r → 0 ≤ m → m ≤ 1000000000 → ∃ (m' : Int) (r' : List Int), Ev (fun k => laws_markIntS.f k r m) (m', r') ∧ Ev (fun k => laws_heldIntS.f k r' m) m' ∧ m ≤ m' ∧ m' ≤ m + C) :
    ∀ (d j : Nat) (m : Int) (xs : List (List Int)), j + d = xs.length → (∀ i : Nat, j ≤ i → i < xs.length → P (xs.getD i [])) → xs.length ≤ 500000 → 0 ≤ m → m ≤ C * j + 1 →
      ∃ (m' : Int) (ys : List (List Int)), Ev (fun k => laws_markIntSS.l0 k xs m j) (m', ys) ∧ ys.length = xs.length ∧ (∀ i : Nat, i < j → ys.getD i [] = xs.getD i []) ∧ Ev (fun k => laws_heldIntSS.l0 k ys m j) m' ∧ m ≤ m' := by
  intro d
  induction d with
  | zero =>
    intro j m xs e hP hl h0 h1
    refine ⟨m, xs, ev_one fun k => ?_, rfl, fun _ _ => rfl, ev_one fun k => ?_, Int.le_refl _⟩
    · simp only [laws_markIntSS.l0]
      rw [if_neg (by omega)]
    · simp only [laws_heldIntSS.l0]
      rw [if_neg (by omega)]
  | succ d ih =>
    intro j m xs e hP hl h0 h1
    have q0 : (0 : Int) ≤ (j : Int) := Int.natCast_nonneg j
    have q1 : (j : Int) < (xs.length : Int) := Int.ofNat_lt.2 (by omega)
    have cj : C * (j : Int) ≤ 500000000 := by
      have := Int.mul_le_mul_of_nonneg_right hC.2 (show (0 : Int) ≤ j by omega)
      omega
    have jn : ((j : Int)).toNat = j := Int.toNat_natCast j
    obtain ⟨m1, r1, e1, e2, e3, e4⟩ := hrow (xs.getD j []) m (hP j (Nat.le_refl _) (by omega)) h0 (by omega)
    have cs : C * ((j + 1 : Nat) : Int) = C * j + C := by
      rw [show ((j + 1 : Nat) : Int) = (j : Int) + 1 by omega, Int.mul_add, Int.mul_one]
    obtain ⟨m', ys, f1, f2, f3, f4, f5⟩ := ih (j + 1) m1 (xs.set j r1) (by rw [List.length_set]; omega) (fun i a b => by
      rw [List.length_set] at b
      rw [List.getD_eq_getElem?_getD, List.getElem?_set_ne (by omega), ← List.getD_eq_getElem?_getD]
      exact hP i (by omega) b) (by rw [List.length_set]; exact hl) (by omega) (by rw [cs]; omega)
    rw [List.length_set] at f2
    have yj : ys.getD j [] = r1 := by
      rw [f3 j (by omega), List.getD_eq_getElem?_getD, List.getElem?_set_self (by omega)]
      rfl
    have w1 : Aside0 (wrap64 ((j : Int) + 1) = ((j + 1 : Nat) : Int)) := ⟨by
      rw [w64 (by omega) (by omega)]
      omega⟩
    refine ⟨m', ys, ev_succ ?_, f2, fun i a => ?_, ev_succ ?_, by omega⟩
    · simp only [laws_markIntSS.l0]
      have rx : rd_L1 xs (j : Int) = xs.getD j [] := by
        unfold rd_L1
        rw [jn]
      rw [rx, w1.out, jn]
      exact ev_t q1 (ev_t q0 (Ev.bind (a := (m1, r1)) e1 f1))
    · rw [f3 i (by omega), List.getD_eq_getElem?_getD, List.getElem?_set_ne (by omega), ← List.getD_eq_getElem?_getD]
    · simp only [laws_heldIntSS.l0]
      have rj : rd_L1 ys (j : Int) = r1 := by
        unfold rd_L1
        rw [jn]
        exact yj
      rw [rj, w1.out]
      exact ev_t (by rw [f2]; exact q1) (ev_t q0 (Ev.bind (a := m1) e2 (ev_f (by omega) f4)))
theorem eqSS_ev (l : List (List Int)) (h : l.length ≤ 1000000000) (hr : ∀ r ∈ l, r.length ≤ 1000000000) : Ev (fun k => laws_eqIntSS.f k l l) true := by
  unfold laws_eqIntSS.f
  refine ev_t rfl ?_
  exact scan_gen (g := fun i k => laws_eqIntSS.l0 k l l i) (n := l.length) (fun i a b ih => by
    refine ev_succ ?_
    simp only [laws_eqIntSS.l0]
    have e1 := eqIntS_ev (rd_L1 l i) (by
      unfold rd_L1
      rw [List.getD_eq_getElem?_getD, List.getElem?_eq_getElem (by omega)]
      exact hr _ (List.getElem_mem _))
    refine ev_t b (ev_t a (ev_t b (Ev.bind e1 (ev_t rfl ?_))))
    rw [w64 (by omega) (by omega)]
    exact ih) (by
    refine ev_one fun k => ?_
    simp only [laws_eqIntSS.l0]
    rw [if_neg (by omega)]) 0 (by omega) (by omega)
theorem marks_ev (R : List (List Int)) (c : Nat) (hc : c ≤ 100) (hl : R.length ≤ 500000) (hr : ∀ r ∈ R, r.length ≤ c) : ∃ (m' : Int) (ys : List (List Int)), Ev (fun k => laws_markIntSS.f k R 1) (m', ys) ∧ Ev (fun k => laws_heldIntSS.f k ys 1) m' ∧ 1 ≤ m' := by
  obtain ⟨m', ys, f1, f2, f3, f4, f5⟩ := rows_mark (fun r => r.length ≤ c) 1000 (by omega) (fun r m hp h0 h1 => by
    obtain ⟨m', r', e1, e2, e3⟩ := markIntS_ev r (by omega) m h0 (by omega)
    exact ⟨m', r', e1, e2, by omega, by omega⟩) R.length 0 1 R (by omega) (fun i _ b => by
    rw [List.getD_eq_getElem?_getD, List.getElem?_eq_getElem b]
    exact hr _ (List.getElem_mem _)) hl (by omega) (by omega)
  exact ⟨m', ys, f1, f4, f5⟩

/-! the law -/
theorem law (a0 a1 a2 : Int) (w0 : (Lit.int .i64 a0).wf = true) (w1 : (Lit.int .i64 a1).wf = true) (w2 : (Lit.int .i64 a2).wf = true) : ∃ k, laws_FnExactBestRules.f k a0 a1 a2 = some true := by
  obtain ⟨R, hs, hi, hl, hr⟩ := bestRules_both a0 a1 a2
  obtain ⟨m', ys, e1, e2, e3⟩ := marks_ev R.1 2 (by omega) (by omega) hr
  refine Ev.rounds (g := fun k => laws_FnExactBestRules.f k a0 a1 a2) ?_
  simp only [laws_FnExactBestRules.f]
  refine Ev.bind hs (Ev.bind hi (Ev.bind (eqSS_ev R.1 (by omega) (fun r h => Nat.le_trans (hr r h) (by decide))) (Ev.bind e1 (Ev.bind e2 (ev_t ⟨rfl, rfl, rfl, by omega⟩ (ev_now true))))))

end Go.Proofs.Ytifighdccepilaa.Pure.FnExactBestRulesWay
