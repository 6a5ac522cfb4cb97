/- FnExactMeshesUntilSame: the law's printed function answers true at every input. -/
import Derived.Test.YtkmakbjkapohlaaPFnExactMeshesUntilSamex1
import Derived.Test.YtkmakbjkapohlaaLib
import Derived.Test.YtkmakbjkapohlaaLibRows
import Derived.Test.YtkmakbjkapohlaaLibGcd
set_option linter.unusedVariables false
set_option linter.unusedSimpArgs false
namespace Go.Proofs.Ytkmakbjkapohlaa.Pure.FnExactMeshesUntilSameWay
open Go.RowKit Go.Proofs.Ytkmakbjkapohlaa.PFnExactMeshesUntilSame Go.Proofs.YtkmakbjkapohlaaW.PrintWords Go.Proofs.YtkmakbjkapohlaaW.PrintLast Go.Proofs.YtkmakbjkapohlaaW.PrintMore Go.Proofs.Ytkmakbjkapohlaa.Lib

/-! within -/
theorem within_eq (a b c : Int) : impl_within.f a b c = some (decide (b ≤ a ∧ a ≤ c)) := within_gen (fun _ _ _ => rfl) a b c

/-! areTeeth -/
theorem areTeeth_eq (n : Int) : impl_areTeeth.f n = some (decide (6 ≤ n ∧ n ≤ 120)) := by
  unfold impl_areTeeth.f
  rw [within_eq, Option.bind_some]

/-! IsPair -/
theorem isPair_eq (a b : Int) : impl_IsPair.f a b = some (decide ((6 ≤ a ∧ a ≤ 120) ∧ (6 ≤ b ∧ b ≤ 120))) := by
  unfold impl_IsPair.f
  rw [areTeeth_eq, Option.bind_some]
  by_cases h : 6 ≤ a ∧ a ≤ 120
  · rw [if_pos (by simpa using h), areTeeth_eq, Option.bind_some]
    congr 1
    rw [Bool.eq_iff_iff, decide_eq_true_iff, decide_eq_true_iff]
    omega
  · rw [if_neg (by simpa using h)]
    congr 1
    symm
    exact decide_eq_false (by omega)

/-! l1In -/
theorem l1In_eq (a b c : Int) : spec_l1In.f a b c = some (decide (b ≤ a ∧ a ≤ c)) := within_gen (fun _ _ _ => rfl) a b c

/-! geWheel -/
theorem geWheel_eq (n : Int) : spec_geWheel.f n = some (decide (6 ≤ n ∧ n ≤ 120)) := by
  unfold spec_geWheel.f
  rw [l1In_eq, Option.bind_some]

/-! gePair -/
theorem gePair_eq (a b : Int) : spec_gePair.f a b = some (decide ((6 ≤ a ∧ a ≤ 120) ∧ (6 ≤ b ∧ b ≤ 120))) := by
  unfold spec_gePair.f
  rw [geWheel_eq, Option.bind_some]
  by_cases h : 6 ≤ a ∧ a ≤ 120
  · rw [if_pos (by simpa using h), geWheel_eq, Option.bind_some]
    congr 1
    rw [Bool.eq_iff_iff, decide_eq_true_iff, decide_eq_true_iff]
    omega
  · rw [if_neg (by simpa using h)]
    congr 1
    symm
    exact decide_eq_false (by omega)

/-! gcd -/
theorem gcd_ev (a b : Int) (ha : a.natAbs ≤ 4611686018427387904) (hb : b.natAbs ≤ 4611686018427387904) : Ev (fun k => impl_gcd.f k a b) (Int.gcd a b : Int) := by
  unfold impl_gcd.f
  exact gcd_gen (l0 := impl_gcd.l0) (fun _ _ _ => by simp only [impl_gcd.l0]) b.natAbs a b ha hb (Nat.le_refl _)

/-! lowest -/
theorem lowest_ev (a b : Int) (ha : a.natAbs ≤ 4611686018427387904) (hb : b.natAbs ≤ 4611686018427387904) (h0 : b ≠ 0) : Ev (fun k => impl_lowest.f k a b) (lowN a b, lowD a b) := by
  unfold impl_lowest.f
  have g := gcd_pos (a := a) h0
  have n := low_bdN a b
  have d := low_bdD a b
  refine Ev.bind (gcd_ev a b ha hb) (ev_f (by omega) ?_)
  rw [low_tdiv, low_tdiv', w64 (by omega) (by omega), w64 (by omega) (by omega)]
  exact ev_now _

/-! diCommon -/
theorem diCommon_ev (a b : Int) (ha : 0 ≤ a) (hb : 0 ≤ b) : Ev (fun k => spec_diCommon.f k a b) (Int.gcd a b : Int) := by
  unfold spec_diCommon.f
  exact common_gen (l0 := spec_diCommon.l0) (fun _ _ _ => by simp only [spec_diCommon.l0]) b.natAbs a b ha hb (Nat.le_refl _)

/-! MeshesUntilSame -/
def MeshesP (a b : Int) : Int × Int × Bool := if (6 ≤ a ∧ a ≤ 120) ∧ (6 ≤ b ∧ b ≤ 120) then (lowN b a, lowD b a, true) else (0, 0, false)
theorem MeshesUntilSame_spec (a b : Int) : Ev (fun k => spec_MeshesUntilSame.f k a b) (MeshesP a b) := by
  unfold spec_MeshesUntilSame.f MeshesP
  refine ev_p (gePair_eq a b) ?_
  by_cases h : (6 ≤ a ∧ a ≤ 120) ∧ (6 ≤ b ∧ b ≤ 120)
  · rw [if_pos h]
    have g := diCommon_ev a b (by omega) (by omega)
    rw [Int.gcd_comm] at g
    have p := gcd_pos (a := b) (b := a) (by omega)
    have bn := low_bdN b a
    have bd := low_bdD b a
    refine ev_t (decide_eq_true h) (Ev.bind g (ev_f (by omega) ?_))
    rw [low_tdiv, low_tdiv', w64 (by omega) (by omega), w64 (by omega) (by omega)]
    exact ev_now _
  · rw [if_neg h]
    exact ev_f (by simp only [decide_eq_true_eq]; exact h) (ev_now _)
theorem MeshesUntilSame_impl (a b : Int) : Ev (fun k => impl_MeshesUntilSame.f k a b) (MeshesP a b) := by
  unfold impl_MeshesUntilSame.f MeshesP
  refine ev_p (isPair_eq a b) ?_
  by_cases h : (6 ≤ a ∧ a ≤ 120) ∧ (6 ≤ b ∧ b ≤ 120)
  · rw [if_pos h]
    exact ev_t (decide_eq_true h) (Ev.bind (lowest_ev b a (by omega) (by omega) (by omega)) (ev_now _))
  · rw [if_neg h]
    exact ev_f (by simp only [decide_eq_true_eq]; exact h) (ev_now _)

/-! the law -/
theorem law_of {a0_0 a0_1 : Int} {R : _} (hs : Ev (fun k => spec_MeshesUntilSame.f k a0_0 a0_1) R) (hi : Ev (fun k => impl_MeshesUntilSame.f k a0_0 a0_1) R) : ∃ k, laws_FnExactMeshesUntilSame.f k a0_0 a0_1 = some true := Ev.rounds (g := fun k => laws_FnExactMeshesUntilSame.f k a0_0 a0_1) (by
  simp only [laws_FnExactMeshesUntilSame.f, laws_toPair.f, Option.bind_some]
  refine Ev.bind hs ?_
  refine Ev.bind hi ?_
  repeat (first | exact ev_now true | refine ev_t (by first | rfl | trivial) ?_ | refine ev_f (by simp) ?_))
theorem law (a0_0 a0_1 : Int) (w0_0 : (Lit.int .i64 a0_0).wf = true) (w0_1 : (Lit.int .i64 a0_1).wf = true) : ∃ k, laws_FnExactMeshesUntilSame.f k a0_0 a0_1 = some true := law_of  (MeshesUntilSame_spec a0_0 a0_1) (MeshesUntilSame_impl a0_0 a0_1)

end Go.Proofs.Ytkmakbjkapohlaa.Pure.FnExactMeshesUntilSameWay
