/- FnExactFirstPair: the law's printed function answers true at every input. -/
import Derived.Test.YtkmakbjkapohlaaPFnExactFirstPairx2
import Derived.Test.YtkmakbjkapohlaaLib
import Derived.Test.YtkmakbjkapohlaaLibRows
import Derived.Test.YtkmakbjkapohlaaLibGcd
set_option linter.unusedVariables false
set_option linter.unusedSimpArgs false
namespace Go.Proofs.Ytkmakbjkapohlaa.Pure.FnExactFirstPairWay
open Go.RowKit Go.Proofs.Ytkmakbjkapohlaa.PFnExactFirstPair Go.Proofs.YtkmakbjkapohlaaW.PrintWords Go.Proofs.YtkmakbjkapohlaaW.PrintLast Go.Proofs.YtkmakbjkapohlaaW.PrintMore Go.Proofs.Ytkmakbjkapohlaa.Lib

/-! l1In -/
theorem l1In_eq (a b c : Int) : spec_l1In.f a b c = some (decide (b ≤ a ∧ a ≤ c)) := within_gen (fun _ _ _ => rfl) a b c

/-! geWheel -/
theorem geWheel_eq (n : Int) : spec_geWheel.f n = some (decide (6 ≤ n ∧ n ≤ 120)) := by
  unfold spec_geWheel.f
  rw [l1In_eq, Option.bind_some]

/-! geAsked -/
theorem geAsked_eq (a b c : Int) : spec_geAsked.f a b c = some (decide ((1 ≤ a ∧ a ≤ 1000) ∧ (1 ≤ b ∧ b ≤ 1000) ∧ (6 ≤ c ∧ c ≤ 120))) := by
  unfold spec_geAsked.f
  rw [l1In_eq, Option.bind_some]
  by_cases h : 1 ≤ a ∧ a ≤ 1000
  · rw [if_pos (by simpa using h), l1In_eq, Option.bind_some]
    by_cases g : 1 ≤ b ∧ b ≤ 1000
    · rw [if_pos (by simpa using g), geWheel_eq, Option.bind_some]
      congr 1
      rw [Bool.eq_iff_iff, decide_eq_true_iff, decide_eq_true_iff]
      omega
    · rw [if_neg (by simpa using g)]
      congr 1
      symm
      exact decide_eq_false (by omega)
  · rw [if_neg (by simpa using h)]
    congr 1
    symm
    exact decide_eq_false (by omega)

/-! within -/
theorem within_eq (a b c : Int) : impl_within.f a b c = some (decide (b ≤ a ∧ a ≤ c)) := within_gen (fun _ _ _ => rfl) a b c

/-! areTeeth -/
theorem areTeeth_eq (n : Int) : impl_areTeeth.f n = some (decide (6 ≤ n ∧ n ≤ 120)) := by
  unfold impl_areTeeth.f
  rw [within_eq, Option.bind_some]

/-! areRatio -/
theorem areRatio_eq (a b c : Int) : impl_areRatio.f a b c = some (decide ((1 ≤ a ∧ a ≤ 1000) ∧ (1 ≤ b ∧ b ≤ 1000) ∧ (6 ≤ c ∧ c ≤ 120))) := by
  unfold impl_areRatio.f
  rw [within_eq, Option.bind_some]
  by_cases h : 1 ≤ a ∧ a ≤ 1000
  · rw [if_pos (by simpa using h), within_eq, Option.bind_some]
    by_cases g : 1 ≤ b ∧ b ≤ 1000
    · rw [if_pos (by simpa using g), areTeeth_eq, Option.bind_some]
      congr 1
      rw [Bool.eq_iff_iff, decide_eq_true_iff, decide_eq_true_iff]
      omega
    · rw [if_neg (by simpa using g)]
      congr 1
      symm
      exact decide_eq_false (by omega)
  · rw [if_neg (by simpa using h)]
    congr 1
    symm
    exact decide_eq_false (by omega)

/-! gcd -/
theorem gcd_ev (a b : Int) (ha : a.natAbs ≤ 4611686018427387904) (hb : b.natAbs ≤ 4611686018427387904) : Ev (fun k => impl_gcd.f k a b) (Int.gcd a b : Int) := by
  unfold impl_gcd.f
  exact gcd_gen (l0 := impl_gcd.l0) (fun _ _ _ => by simp only [impl_gcd.l0]) b.natAbs a b ha hb (Nat.le_refl _)

/-! lowest -/
theorem lowest_ev (a b : Int) (ha : a.natAbs ≤ 4611686018427387904) (hb : b.natAbs ≤ 4611686018427387904) (h0 : b ≠ 0) : Ev (fun k => impl_lowest.f k a b) (lowN a b, lowD a b) := by
  unfold impl_lowest.f
  have g := gcd_pos (a := a) h0
  have n := low_bdN a b
  have d := low_bdD a b
  refine Ev.bind (gcd_ev a b ha hb) (ev_f (by omega) ?_)
  rw [low_tdiv, low_tdiv', w64 (by omega) (by omega), w64 (by omega) (by omega)]
  exact ev_now _

/-! firstPair -/
theorem mx_max (a b : Int) : mx a b = max a b := by
  unfold mx
  split <;> omega
theorem firstPair_ev {num den most : Int} (hn : 1 ≤ num) (hn' : num ≤ 10000000) (hd : 1 ≤ den) (hd' : den ≤ 10000000) : Ev (fun k => impl_firstPair.f k num den most) (fpA num den, fpB num den, decide (fpA num den ≤ most ∧ fpB num den ≤ most)) := by
  unfold impl_firstPair.f
  have n1 := low_posN hn hd
  have d1 := low_posD (a := num) hd
  have bn := low_bdN num den
  have bd := low_bdD num den
  refine Ev.bind (lowest_ev num den (by omega) (by omega) (by omega)) (ev_con ?_)
  show (if lowN num den = 0 then none else if lowD num den = 0 then none else _) = _
  rw [if_neg (by omega), if_neg (by omega)]
  have q1 := div_le (a := 6 + lowN num den - 1) (b := lowN num den) (by omega) n1
  have q2 := div_le (a := 6 + lowD num den - 1) (b := lowD num den) (by omega) d1
  have b := fp_bd hn hd
  have b' := fp_ge hn hd
  have f : mx (wrap64 (Int.tdiv (wrap64 (wrap64 (6 + lowN num den) - 1)) (lowN num den))) (wrap64 (Int.tdiv (wrap64 (wrap64 (6 + lowD num den) - 1)) (lowD num den))) = facP num den := by
    rw [w64 (x := 6 + lowN num den) (by omega) (by omega), w64 (x := 6 + lowD num den) (by omega) (by omega), w64 (x := 6 + lowN num den - 1) (by omega) (by omega), w64 (x := 6 + lowD num den - 1) (by omega) (by omega), tdiv_e (by omega), tdiv_e (by omega), w64 (by omega) (by omega), w64 (by omega) (by omega), mx_max]
    rfl
  dsimp only
  rw [f]
  unfold fpA fpB at *
  rw [w64 (x := facP num den * lowN num den) (by omega) (by omega), w64 (x := facP num den * lowD num den) (by omega) (by omega)]
  split
  · rename_i c
    have e : decide (facP num den * lowD num den ≤ most) = decide (facP num den * lowN num den ≤ most ∧ facP num den * lowD num den ≤ most) := decide_eq_decide.2 ⟨fun z => ⟨c, z⟩, fun z => z.2⟩
    rw [e]
  · rename_i c
    have e : false = decide (facP num den * lowN num den ≤ most ∧ facP num den * lowD num den ≤ most) := (decide_eq_false (fun z => c z.1)).symm
    rw [← e]

/-! FirstPair -/
def FirstPairP (num den most : Int) : Int × Int × Bool := if ((1 ≤ num ∧ num ≤ 1000) ∧ (1 ≤ den ∧ den ≤ 1000) ∧ (6 ≤ most ∧ most ≤ 120)) ∧ (fpA num den ≤ most ∧ fpB num den ≤ most) then (fpA num den, fpB num den, true) else (0, 0, false)
theorem FirstPair_impl (num den most : Int) : Ev (fun k => impl_FirstPair.f k num den most) (FirstPairP num den most) := by
  unfold impl_FirstPair.f FirstPairP
  refine ev_p (areRatio_eq num den most) ?_
  by_cases h : (1 ≤ num ∧ num ≤ 1000) ∧ (1 ≤ den ∧ den ≤ 1000) ∧ (6 ≤ most ∧ most ≤ 120)
  · refine ev_t (decide_eq_true h) (Ev.bind (firstPair_ev (by omega) (by omega) (by omega) (by omega)) ?_)
    dsimp only
    by_cases g : fpA num den ≤ most ∧ fpB num den ≤ most
    · refine ev_t (decide_eq_true g) ?_
      rw [if_pos ⟨h, g⟩]
      exact ev_now _
    · refine ev_f (by simp only [decide_eq_true_eq]; exact g) ?_
      rw [if_neg (fun z => g z.2)]
      exact ev_now _
  · rw [if_neg (fun z => h z.1)]
    exact ev_f (by simp only [decide_eq_true_eq]; exact h) (ev_now _)
theorem FirstPair_spec (num den most : Int) : Ev (fun k => spec_FirstPair.f k num den most) (FirstPairP num den most) := by
  unfold spec_FirstPair.f FirstPairP
  refine ev_p (geAsked_eq num den most) ?_
  by_cases h : (1 ≤ num ∧ num ≤ 1000) ∧ (1 ≤ den ∧ den ≤ 1000) ∧ (6 ≤ most ∧ most ≤ 120)
  · refine ev_t (decide_eq_true h) ?_
    have hn : 1 ≤ num := by omega
    have hd : 1 ≤ den := by omega
    -- a round that is no hit goes on
    have miss : ∀ i (R : Int × Int × Bool), 6 ≤ i → i ≤ most → ¬ ((i * den) % num = 0 ∧ 6 ≤ (i * den) / num ∧ (i * den) / num ≤ most) → Ev (fun k => spec_FirstPair.l0 k num den most (i + 1)) R → Ev (fun k => spec_FirstPair.l0 k num den most i) R := by
      intro i R a1 a2 a3 ev
      have m := mul_bd (a := i) (b := den) (A := 120) (B := 1000) (by omega) (by omega) (by omega) (by omega)
      have dv := div_le (a := i * den) (b := num) m.1 hn
      refine ev_succ ?_
      simp only [spec_FirstPair.l0]
      rw [w64 (x := i * den) (by omega) (by omega), tmod_e m.1, tdiv_e m.1, w64 (x := (i * den) / num) (by omega) (by omega), w64 (x := i + 1) (by omega) (by omega)]
      refine ev_t a2 (ev_f (by omega) ?_)
      by_cases c : (i * den) % num = 0
      · exact ev_t c (ev_p (l1In_eq _ _ _) (ev_f (by simp only [decide_eq_true_eq]; exact fun z => a3 ⟨c, z⟩) ev))
      · exact ev_f c ev
    by_cases g : fpA num den ≤ most ∧ fpB num den ≤ most
    · rw [if_pos ⟨h, g⟩]
      have f6 := fp_ge hn hd
      refine scan_from (g := fun i k => spec_FirstPair.l0 k num den most i) (n := fpA num den) (i0 := 6) ?_ ?_ f6.1
      · intro i a1 a2 ev
        refine miss i _ a1 (by omega) ?_ ev
        intro z
        have := hit_least hn hd a1 z.1 z.2.1
        omega
      · have m := mul_bd (a := fpA num den) (b := den) (A := 120) (B := 1000) (by omega) (by omega) (by omega) (by omega)
        have q := hit_fp hn hd
        refine ev_succ ?_
        simp only [spec_FirstPair.l0]
        rw [w64 (x := fpA num den * den) (by omega) (by omega), tmod_e m.1, tdiv_e m.1, q.1, q.2, w64 (x := fpB num den) (by omega) (by omega)]
        exact ev_t g.1 (ev_f (by omega) (ev_t rfl (ev_p (l1In_eq _ _ _) (ev_t (decide_eq_true ⟨f6.2, g.2⟩) (ev_now _)))))
    · rw [if_neg (fun z => g z.2)]
      refine scan_from (g := fun i k => spec_FirstPair.l0 k num den most i) (n := most + 1) (i0 := 6) ?_ ?_ (by omega)
      · intro i a1 a2 ev
        refine miss i _ a1 (by omega) ?_ ev
        intro z
        have := hit_least hn hd a1 z.1 z.2.1
        omega
      · refine ev_one fun k => ?_
        simp only [spec_FirstPair.l0]
        rw [if_neg (by omega)]
  · rw [if_neg (fun z => h z.1)]
    exact ev_f (by simp only [decide_eq_true_eq]; exact h) (ev_now _)

/-! the law -/
theorem law : laws_FnExactFirstPair.Pure := by
  intro a b c wa wb wc
  refine Ev.rounds (g := fun k => laws_FnExactFirstPair.f k a b c) ?_
  unfold laws_FnExactFirstPair.f
  refine Ev.bind (FirstPair_spec a b c) (Ev.bind (FirstPair_impl a b c) (ev_p (a := true) ?_ ?_))
  · simp [laws_eqPair.f]
  · exact ev_t rfl (ev_f (by simp) (ev_now true))

end Go.Proofs.Ytkmakbjkapohlaa.Pure.FnExactFirstPairWay
namespace Go.Proofs.Ytkmakbjkapohlaa.Pure
/-- The law's pure statement. -/
theorem FnExactFirstPair : PFnExactFirstPair.laws_FnExactFirstPair.Pure := FnExactFirstPairWay.law
end Go.Proofs.Ytkmakbjkapohlaa.Pure
