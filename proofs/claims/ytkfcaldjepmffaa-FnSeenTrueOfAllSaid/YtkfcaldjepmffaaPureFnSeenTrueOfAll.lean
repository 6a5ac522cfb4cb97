/- FnSeenTrueOfAll: the law's printed function answers true at every input. -/
import Derived.Test.YtkfcaldjepmffaaGFnSeenTrueOfAllx15
import Derived.Test.YtkfcaldjepmffaaLib
import Derived.Test.YtkfcaldjepmffaaLibRows
import Derived.Test.YtkfcaldjepmffaaLibGcd
import Derived.Test.YtkfcaldjepmffaaLibTurn
set_option linter.unusedVariables false
set_option linter.unusedSimpArgs false
namespace Go.Proofs.Ytkfcaldjepmffaa.Pure.FnSeenTrueOfAllWay
open Go.RowKit Go.Proofs.Ytkfcaldjepmffaa.GFnSeenTrueOfAll Go.Proofs.YtkfcaldjepmffaaW.PrintWords Go.Proofs.YtkfcaldjepmffaaW.PrintLast Go.Proofs.YtkfcaldjepmffaaW.PrintMore Go.Proofs.Ytkfcaldjepmffaa.Lib

/-! gcd -/
theorem gcd_ev (a b : Int) (ha : a.natAbs ≤ 4611686018427387904) (hb : b.natAbs ≤ 4611686018427387904) : Ev (fun k => impl_gcd.f k a b) (Int.gcd a b : Int) := by
  unfold impl_gcd.f
  exact gcd_gen (l0 := impl_gcd.l0) (fun _ _ _ => by simp only [impl_gcd.l0]) b.natAbs a b ha hb (Nat.le_refl _)

/-! part -/
theorem floorDiv_eq {n d : Int} (hd : 1 ≤ d) (hd' : d ≤ 1000000000000000000) (hn : -1000000000000000000 ≤ n) (hn' : n ≤ 1000000000000000000) : ∃ q, impl_floorDiv.f n d = some (q, n % d) := by
  unfold impl_floorDiv.f
  have r0 := Int.emod_nonneg n (show d ≠ 0 by omega)
  have r1 := Int.emod_lt_of_pos n (show 0 < d by omega)
  rw [if_neg (by omega)]
  have e := Int.tmod_eq_emod (a := n) (b := d)
  have na : (d.natAbs : Int) = d := Int.natAbs_of_nonneg (by omega)
  by_cases c : Int.tmod n d < 0
  · rw [if_pos c]
    have e1 : wrap64 (Int.tmod n d + d) = n % d := by
      split at e
      · omega
      · rw [w64 (by omega) (by omega)]
        omega
    rw [e1]
    exact ⟨_, rfl⟩
  · rw [if_neg c]
    have e1 : Int.tmod n d = n % d := by
      split at e <;> omega
    rw [e1]
    exact ⟨_, rfl⟩
theorem part_ev {n d : Int} (hd : 1 ≤ d) (hd' : d ≤ 1000000000000000000) (hn : -1000000000000000000 ≤ n) (hn' : n ≤ 1000000000000000000) : Ev (fun k => impl_part.f k n d) (turnN n d, turnD n d) := by
  obtain ⟨q, hq⟩ := floorDiv_eq hd hd' hn hn'
  have r0 := Int.emod_nonneg n (show d ≠ 0 by omega)
  have r1 := Int.emod_lt_of_pos n (show 0 < d by omega)
  have g := gcd_pos (a := n % d) (b := d) (by omega)
  have b1 := low_bdN (n % d) d
  have b2 := low_bdD (n % d) d
  unfold impl_part.f turnN turnD
  refine ev_p hq (Ev.bind (gcd_ev (n % d) d (by omega) (by omega)) (ev_f (by omega) ?_))
  dsimp only
  rw [low_tdiv, low_tdiv', w64 (by omega) (by omega), w64 (by omega) (by omega)]
  exact ev_now _

/-! diCommon -/
theorem diCommon_ev (a b : Int) (ha : 0 ≤ a) (hb : 0 ≤ b) : Ev (fun k => spec_diCommon.f k a b) (Int.gcd a b : Int) := by
  unfold spec_diCommon.f
  exact common_gen (l0 := spec_diCommon.l0) (fun _ _ _ => by simp only [spec_diCommon.l0]) b.natAbs a b ha hb (Nat.le_refl _)

/-! diMake -/
def makeP (n d : Int) : Int × Int × Bool := if turnD n d > 1000000 then (0, 0, false) else (turnN n d, turnD n d, true)
theorem diMake_ev {n d : Int} (hd : 1 ≤ d) (hd' : d ≤ 1000000000000000000) (hn : -1000000000000000000 ≤ n) (hn' : n ≤ 1000000000000000000) : Ev (fun k => spec_diMake.f k n d) (makeP n d) := by
  have r0 := Int.emod_nonneg n (show d ≠ 0 by omega)
  have r1 := Int.emod_lt_of_pos n (show 0 < d by omega)
  have t0 := Int.lt_tmod_of_pos n (show 0 < d by omega)
  have t1 := Int.tmod_lt_of_pos n (show 0 < d by omega)
  have g := gcd_pos (a := n % d) (b := d) (by omega)
  have b1 := low_bdN (n % d) d
  have b2 := low_bdD (n % d) d
  have e : Int.tmod (wrap64 (Int.tmod n d + d)) d = n % d := by
    rw [w64 (by omega) (by omega), tmod_e (by omega), Int.add_emod_right]
    have := Int.dvd_self_sub_tmod (x := n) (m := d)
    exact (Int.emod_eq_emod_iff_emod_sub_eq_zero.2 (Int.emod_eq_zero_of_dvd this)).symm
  unfold spec_diMake.f makeP
  refine ev_f (by omega) ?_
  rw [e]
  refine Ev.bind (diCommon_ev (n % d) d (by omega) (by omega)) (ev_f (by omega) ?_)
  rw [low_tdiv, low_tdiv', w64 (x := lowN (n % d) d) (by omega) (by omega), w64 (x := lowD (n % d) d) (by omega) (by omega)]
  by_cases c : turnD n d > 1000000
  · refine ev_t c ?_
    rw [if_pos c]
    exact ev_now _
  · refine ev_f c ?_
    rw [if_neg c]
    exact ev_now _

/-! diTimes -/
theorem diTimes_ev {n d m : Int} (h1 : 1 ≤ d) (h2 : d ≤ 1000000) (h3 : 0 ≤ n) (h4 : n < d) (h5 : -10000000 ≤ m) (h6 : m ≤ 10000000) : Ev (fun k => spec_diTimes.f k n d m) (turnN (n * m) d, turnD (n * m) d) := by
  have b : -10000000000000 ≤ n * m ∧ n * m ≤ 10000000000000 := by
    rcases Int.le_total 0 m with c | c
    · have := mul_bd (a := n) (b := m) (A := 1000000) (B := 10000000) h3 (by omega) c h6
      omega
    · have := mul_bd (a := n) (b := -m) (A := 1000000) (B := 10000000) h3 (by omega) (by omega) (by omega)
      rw [Int.mul_neg] at this
      omega
  have t := turn_bd (n := n * m) (d := d) h1
  have mk := diMake_ev (n := n * m) (d := d) h1 (by omega) (by omega) (by omega)
  unfold makeP at mk
  rw [if_neg (by omega)] at mk
  unfold spec_diTimes.f
  rw [w64 (by omega) (by omega)]
  exact Ev.bind mk (ev_now _)

/-! tm -/
theorem tm_bd {n d m : Int} (h3 : 0 ≤ n) (h4 : n < d) (h2 : d ≤ 1000000) (h5 : -1000 ≤ m) (h6 : m ≤ 1000) : -1000000000 ≤ n * m ∧ n * m ≤ 1000000000 := by
  rcases Int.le_total 0 m with c | c
  · have := mul_bd (a := n) (b := m) (A := 1000000) (B := 1000) h3 (by omega) c h6
    omega
  · have := mul_bd (a := n) (b := -m) (A := 1000000) (B := 1000) h3 (by omega) (by omega) (by omega)
    rw [Int.mul_neg] at this
    omega
theorem times_ev {n d m : Int} (h : turnB n d = true) (h5 : -1000 ≤ m) (h6 : m ≤ 1000) : Ev (fun k => impl_Turn_times.f k n d m) (turnN (n * m) d, turnD (n * m) d) := by
  have t := turnB_of h
  have b := tm_bd (n := n) (d := d) (m := m) (by omega) (by omega) (by omega) h5 h6
  unfold impl_Turn_times.f
  rw [w64 (by omega) (by omega)]
  exact Ev.bind (part_ev (by omega) (by omega) (by omega) (by omega)) (ev_now _)
theorem diTm_ev {n d m : Int} (h : turnB n d = true) (h5 : -1000 ≤ m) (h6 : m ≤ 1000) : Ev (fun k => spec_diTimes.f k n d m) (turnN (n * m) d, turnD (n * m) d) := by
  have t := turnB_of h
  exact diTimes_ev (by omega) (by omega) (by omega) (by omega) (by omega) (by omega)
theorem tm_B {n d m : Int} (h : turnB n d = true) : turnB (turnN (n * m) d) (turnD (n * m) d) = true := by
  have t := turnB_of h
  have b := turn_bd (n := n * m) (d := d) (by omega)
  exact turn_B (by omega) (by omega)

/-! within -/
theorem within_eq (a b c : Int) : impl_within.f a b c = some (decide (b ≤ a ∧ a ≤ c)) := within_gen (fun _ _ _ => rfl) a b c

/-! isDial -/
theorem isDial_eq (n : Int) : impl_isDial.f n = some (decide (2 ≤ n ∧ n ≤ 24)) := by
  unfold impl_isDial.f
  rw [within_eq, Option.bind_some]

/-! IsTurn -/
theorem isTurn_ev (n d : Int) : Ev (fun k => impl_IsTurn.f k n d) (turnB n d) := by
  unfold impl_IsTurn.f turnB
  refine ev_p (within_eq _ _ _) ?_
  by_cases h : 1 ≤ d ∧ d ≤ 1000000
  · refine ev_t (decide_eq_true h) (ev_p (within_eq _ _ _) ?_)
    rw [w64 (by omega) (by omega), decide_eq_true h]
    by_cases g : 0 ≤ n ∧ n ≤ d - 1
    · refine ev_t (decide_eq_true g) (Ev.bind (gcd_ev n d (by omega) (by omega)) (ev_con ?_))
      rw [decide_eq_true g]
      simp only [Bool.true_and]
      congr 1
      rw [Bool.eq_iff_iff, beq_iff_eq, decide_eq_true_iff]
      omega
    · rw [decide_eq_false g]
      exact ev_f (by simp) (ev_now _)
  · refine ev_f (by simp only [decide_eq_true_eq]; exact h) ?_
    rw [decide_eq_false h]
    exact ev_now _

/-! isTime -/
theorem isTime_ev (h n d : Int) : Ev (fun k => impl_isTime.f k h n d) (decide (2 ≤ h ∧ h ≤ 24) && turnB n d) := by
  unfold impl_isTime.f
  refine ev_p (isDial_eq h) ?_
  by_cases c : 2 ≤ h ∧ h ≤ 24
  · refine ev_t (decide_eq_true c) (Ev.bind (isTurn_ev n d) (ev_con ?_))
    rw [decide_eq_true c, Bool.true_and]
  · refine ev_f (by simp only [decide_eq_true_eq]; exact c) ?_
    rw [decide_eq_false c]
    exact ev_now _

/-! l1In -/
theorem l1In_eq (a b c : Int) : spec_l1In.f a b c = some (decide (b ≤ a ∧ a ≤ c)) := within_gen (fun _ _ _ => rfl) a b c

/-! diHours -/
theorem diHours_eq (n : Int) : spec_diHours.f n = some (decide (2 ≤ n ∧ n ≤ 24)) := by
  unfold spec_diHours.f
  rw [l1In_eq, Option.bind_some]

/-! diGood -/
theorem diGood_ev (n d : Int) : Ev (fun k => spec_diGood.f k n d) (turnB n d) := by
  unfold spec_diGood.f turnB
  refine ev_p (l1In_eq _ _ _) ?_
  by_cases h : 1 ≤ d ∧ d ≤ 1000000
  · refine ev_t (decide_eq_true h) (ev_p (l1In_eq _ _ _) ?_)
    rw [w64 (by omega) (by omega), decide_eq_true h]
    by_cases g : 0 ≤ n ∧ n ≤ d - 1
    · refine ev_t (decide_eq_true g) (Ev.bind (diCommon_ev n d (by omega) (by omega)) (ev_con ?_))
      rw [decide_eq_true g]
      simp only [Bool.true_and]
      congr 1
      rw [Bool.eq_iff_iff, beq_iff_eq, decide_eq_true_iff]
      omega
    · rw [decide_eq_false g]
      exact ev_f (by simp) (ev_now _)
  · refine ev_f (by simp only [decide_eq_true_eq]; exact h) ?_
    rw [decide_eq_false h]
    exact ev_now _

/-! diAsked -/
theorem diAsked_ev (h n d : Int) : Ev (fun k => spec_diAsked.f k h n d) (decide (2 ≤ h ∧ h ≤ 24) && turnB n d) := by
  unfold spec_diAsked.f
  refine ev_p (diHours_eq h) ?_
  by_cases c : 2 ≤ h ∧ h ≤ 24
  · refine ev_t (decide_eq_true c) (Ev.bind (diGood_ev n d) (ev_con ?_))
    rw [decide_eq_true c, Bool.true_and]
  · refine ev_f (by simp only [decide_eq_true_eq]; exact c) ?_
    rw [decide_eq_false c]
    exact ev_now _

/-! seenOf -/
def dialB (h n d : Int) : Bool := decide (2 ≤ h ∧ h ≤ 24) && turnB n d
theorem dialB_of {h n d : Int} (e : dialB h n d = true) : 2 ≤ h ∧ h ≤ 24 ∧ turnB n d = true := by
  unfold dialB at e
  simp only [Bool.and_eq_true, decide_eq_true_eq] at e
  exact ⟨e.1.1, e.1.2, e.2⟩
def seenP (h n d : Int) : Int × Int × Int × Int × Bool := if dialB h n d = true then (n, d, turnN (n * h) d, turnD (n * h) d, true) else (0, 0, 0, 0, false)
theorem SeenOf_impl (h n d : Int) : Ev (fun k => impl_SeenOf.f k h n d) (seenP h n d) := by
  unfold impl_SeenOf.f seenP
  refine Ev.bind (isTime_ev h n d) ?_
  by_cases z : dialB h n d = true
  · have t := dialB_of z
    rw [if_pos z]
    exact ev_t z (Ev.bind (times_ev t.2.2 (by omega) (by omega)) (ev_now _))
  · rw [if_neg z]
    exact ev_f z (ev_now _)
theorem seOf_ev {h n d : Int} (t : turnB n d = true) (z1 : -1000 ≤ h) (z2 : h ≤ 1000) : Ev (fun k => spec_seOf.f k h n d) (n, d, turnN (n * h) d, turnD (n * h) d) := by
  unfold spec_seOf.f
  exact Ev.bind (diTm_ev t z1 z2) (ev_now _)
theorem SeenOf_spec (h n d : Int) : Ev (fun k => spec_SeenOf.f k h n d) (seenP h n d) := by
  unfold spec_SeenOf.f seenP
  refine Ev.bind (diAsked_ev h n d) ?_
  by_cases z : dialB h n d = true
  · have t := dialB_of z
    rw [if_pos z]
    exact ev_t z (Ev.bind (seOf_ev t.2.2 (by omega) (by omega)) (ev_now _))
  · rw [if_neg z]
    exact ev_f z (ev_now _)

/-! areTurns -/
def allT (l : List S23) : Bool := l.all fun t => turnB t.f0 t.f1
theorem rdT_get (l : List S23) (i : Nat) (h : i < l.length) : rd_T23 l i = l[i] := by
  unfold rd_T23
  rw [List.getD_eq_getElem?_getD, show ((i : Int)).toNat = i by omega, List.getElem?_eq_getElem h]
  rfl
theorem areTurns_ev (l : List S23) (h : l.length ≤ 1000000) : Ev (fun k => impl_areTurns.f k l) (allT l) := by
  have go : ∀ (d j : Nat), j + d = l.length → ∃ r : Int, Ev (fun k => impl_Turn_89.l0 k l (l.length : Int) j) r ∧ decide (r ≥ 0) = !((l.drop j).all fun t => turnB t.f0 t.f1) := by
    intro d
    induction d with
    | zero =>
      intro j a
      refine ⟨-1, ev_one fun k => ?_, ?_⟩
      · simp only [impl_Turn_89.l0]
        rw [if_neg (by omega)]
      · rw [List.drop_of_length_le (by omega)]
        rfl
    | succ d ih =>
      intro j a
      have hj : j < l.length := by omega
      have ls : Ev (fun k => impl_areTurns_1.f k (rd_T23 l j).f0 (rd_T23 l j).f1) (!(turnB l[j].f0 l[j].f1)) := by
        unfold impl_areTurns_1.f
        rw [rdT_get l j hj]
        exact Ev.bind (isTurn_ev _ _) (ev_now _)
      rw [List.drop_eq_getElem_cons hj]
      cases c : turnB l[j].f0 l[j].f1
      · rw [c] at ls
        refine ⟨j, ev_succ ?_, ?_⟩
        · simp only [impl_Turn_89.l0]
          exact ev_t (by omega) (ev_t (by omega) (ev_t (by omega) (Ev.bind ls (ev_t rfl (ev_now _)))))
        · rw [List.all_cons, c, decide_eq_true (by omega)]
          rfl
      · rw [c] at ls
        obtain ⟨r, hr, er⟩ := ih (j + 1) (by omega)
        refine ⟨r, ev_succ ?_, ?_⟩
        · simp only [impl_Turn_89.l0]
          rw [w64 (by omega) (by omega)]
          exact ev_t (by omega) (ev_t (by omega) (ev_t (by omega) (Ev.bind ls (ev_f (by simp) hr))))
        · rw [List.all_cons, c, er]
          rfl
  obtain ⟨r, hr, er⟩ := go l.length 0 (by omega)
  rw [List.drop_zero] at er
  have hr' : Ev (fun k => impl_Turn_89.f k l) r := hr
  unfold impl_areTurns.f impl_Turn_77.f
  have e2 : Ev (fun k => (impl_Turn_89.f k l).bind fun t => some (decide (t ≥ 0))) (!(allT l)) := by
    refine Ev.bind hr' ?_
    rw [er]
    exact ev_now _
  refine Ev.bind e2 (ev_con ?_)
  simp

/-! seenB -/
def seenB (a b c d : Int) : Bool := turnB a b && turnB c d
def askB (h a b c d : Int) : Bool := decide (2 ≤ h ∧ h ≤ 24) && seenB a b c d
theorem seenB_of {a b c d : Int} (h : seenB a b c d = true) : turnB a b = true ∧ turnB c d = true := by
  unfold seenB at h
  simpa using h
theorem askB_of {h a b c d : Int} (e : askB h a b c d = true) : 2 ≤ h ∧ h ≤ 24 ∧ turnB a b = true ∧ turnB c d = true := by
  unfold askB at e
  simp only [Bool.and_eq_true, decide_eq_true_eq] at e
  have := seenB_of e.2
  exact ⟨e.1.1, e.1.2, this.1, this.2⟩
theorem IsSeen_ev (a b c d : Int) : Ev (fun k => impl_IsSeen.f k a b c d) (seenB a b c d) := by
  have e := areTurns_ev [(⟨a, b⟩ : S23), (⟨c, d⟩ : S23)] (by simp)
  have q : allT [(⟨a, b⟩ : S23), (⟨c, d⟩ : S23)] = seenB a b c d := by simp [allT, seenB]
  rw [q] at e
  unfold impl_IsSeen.f
  exact Ev.bind e (ev_now _)
theorem isSeenOf_ev (h a b c d : Int) : Ev (fun k => impl_isSeenOf.f k h a b c d) (askB h a b c d) := by
  unfold impl_isSeenOf.f askB
  refine ev_p (isDial_eq h) ?_
  by_cases z : 2 ≤ h ∧ h ≤ 24
  · refine ev_t (decide_eq_true z) (Ev.bind (IsSeen_ev a b c d) (ev_con ?_))
    rw [decide_eq_true z, Bool.true_and]
  · refine ev_f (by simp only [decide_eq_true_eq]; exact z) ?_
    rw [decide_eq_false z]
    exact ev_now _
theorem seGood_ev (a b c d : Int) : Ev (fun k => spec_seGood.f k a b c d) (seenB a b c d) := by
  unfold spec_seGood.f seenB
  refine Ev.bind (diGood_ev a b) ?_
  cases turnB a b
  · exact ev_f (by simp) (ev_now _)
  · exact ev_t rfl (Ev.bind (diGood_ev c d) (ev_now _))
theorem seAsked_ev (h a b c d : Int) : Ev (fun k => spec_seAsked.f k h a b c d) (askB h a b c d) := by
  unfold spec_seAsked.f askB
  refine ev_p (diHours_eq h) ?_
  by_cases z : 2 ≤ h ∧ h ≤ 24
  · refine ev_t (decide_eq_true z) (Ev.bind (seGood_ev a b c d) (ev_con ?_))
    rw [decide_eq_true z, Bool.true_and]
  · refine ev_f (by simp only [decide_eq_true_eq]; exact z) ?_
    rw [decide_eq_false z]
    exact ev_now _
theorem specIsSeen_ev (a b c d : Int) : Ev (fun k => spec_IsSeen.f k a b c d) (seenB a b c d) := by
  unfold spec_IsSeen.f
  exact Ev.bind (seGood_ev a b c d) (ev_now _)

/-! trueB -/
def trueB (h a b c d : Int) : Bool := turnN (a * h) b == c && turnD (a * h) b == d
theorem isTrue_ev {h a b : Int} (c d : Int) (t : turnB a b = true) (z1 : -1000 ≤ h) (z2 : h ≤ 1000) : Ev (fun k => impl_isTrue.f k h a b c d) (trueB h a b c d) := by
  unfold impl_isTrue.f
  exact Ev.bind (times_ev t z1 z2) (ev_now _)
theorem seTrue_ev {h a b : Int} (c d : Int) (t : turnB a b = true) (z1 : -1000 ≤ h) (z2 : h ≤ 1000) : Ev (fun k => spec_seTrue.f k h a b c d) (trueB h a b c d) := by
  unfold spec_seTrue.f
  exact Ev.bind (diTm_ev t z1 z2) (ev_now _)
def timeSeenP (h a b c d : Int) : Int × Int × Bool := if askB h a b c d = true then (if trueB h a b c d = true then (a, b, true) else (0, 0, false)) else (0, 0, false)
theorem TimeSeen_impl (h a b c d : Int) : Ev (fun k => impl_TimeSeen.f k h a b c d) (timeSeenP h a b c d) := by
  unfold impl_TimeSeen.f timeSeenP
  refine Ev.bind (isSeenOf_ev h a b c d) ?_
  by_cases z : askB h a b c d = true
  · have t := askB_of z
    rw [if_pos z]
    refine ev_t z (Ev.bind (isTrue_ev c d t.2.2.1 (by omega) (by omega)) ?_)
    by_cases y : trueB h a b c d = true
    · refine ev_t y ?_
      rw [if_pos y]
      exact ev_now _
    · refine ev_f y ?_
      rw [if_neg y]
      exact ev_now _
  · rw [if_neg z]
    exact ev_f z (ev_now _)
theorem TimeSeen_spec (h a b c d : Int) : Ev (fun k => spec_TimeSeen.f k h a b c d) (timeSeenP h a b c d) := by
  unfold spec_TimeSeen.f timeSeenP
  refine Ev.bind (seAsked_ev h a b c d) ?_
  by_cases z : askB h a b c d = true
  · have t := askB_of z
    rw [if_pos z]
    refine ev_t z (Ev.bind (seTrue_ev c d t.2.2.1 (by omega) (by omega)) ?_)
    by_cases y : trueB h a b c d = true
    · refine ev_t y ?_
      rw [if_pos y]
      exact ev_now _
    · refine ev_f y ?_
      rw [if_neg y]
      exact ev_now _
  · rw [if_neg z]
    exact ev_f z (ev_now _)
def isTrueP (h a b c d : Int) : Bool × Bool := (askB h a b c d && trueB h a b c d, askB h a b c d)
theorem IsTrueSeen_impl (h a b c d : Int) : Ev (fun k => impl_IsTrueSeen.f k h a b c d) (isTrueP h a b c d) := by
  unfold impl_IsTrueSeen.f isTrueP
  refine Ev.bind (isSeenOf_ev h a b c d) ?_
  by_cases z : askB h a b c d = true
  · have t := askB_of z
    refine ev_t z (Ev.bind (isTrue_ev c d t.2.2.1 (by omega) (by omega)) (Ev.bind (isSeenOf_ev h a b c d) (ev_con ?_)))
    rw [z, Bool.true_and]
  · refine ev_f z (Ev.bind (isSeenOf_ev h a b c d) (ev_con ?_))
    rw [Bool.not_eq_true] at z
    rw [z, Bool.false_and]
theorem IsTrueSeen_spec (h a b c d : Int) : Ev (fun k => spec_IsTrueSeen.f k h a b c d) (isTrueP h a b c d) := by
  unfold spec_IsTrueSeen.f isTrueP
  refine Ev.bind (seAsked_ev h a b c d) ?_
  by_cases z : askB h a b c d = true
  · have t := askB_of z
    refine ev_t z (Ev.bind (seTrue_ev c d t.2.2.1 (by omega) (by omega)) (ev_con ?_))
    rw [z, Bool.true_and]
  · refine ev_f z (ev_con ?_)
    rw [Bool.not_eq_true] at z
    rw [z, Bool.false_and]

/-! exTime -/
def exB (h n d : Int) : Bool := dialB h n d && trueB h (turnN (n * h) d) (turnD (n * h) d) n d
def exP (h n d : Int) : Int × Int × Bool := if exB h n d = true then (turnN (n * h) d, turnD (n * h) d, true) else (0, 0, false)
theorem ExTime_impl (h n d : Int) : Ev (fun k => impl_ExchangedTime.f k h n d) (exP h n d) := by
  unfold impl_ExchangedTime.f exP exB impl_Seen_exchanged.f
  refine Ev.bind (SeenOf_impl h n d) ?_
  unfold seenP
  by_cases z : dialB h n d = true
  · have t := dialB_of z
    have b := tm_B (m := h) t.2.2
    rw [if_pos z]
    refine ev_t rfl (ev_p rfl (Ev.bind (TimeSeen_impl _ _ _ _ _) (ev_con ?_)))
    have a : askB h (turnN (n * h) d) (turnD (n * h) d) n d = true := by
      unfold askB seenB
      rw [decide_eq_true ⟨t.1, t.2.1⟩, b, t.2.2]
      rfl
    unfold timeSeenP
    rw [if_pos a, z, Bool.true_and]
  · rw [if_neg z]
    refine ev_f (by simp) ?_
    rw [Bool.not_eq_true] at z
    rw [z, Bool.false_and, if_neg (by simp)]
    exact ev_now _
theorem ExTime_spec (h n d : Int) : Ev (fun k => spec_ExchangedTime.f k h n d) (exP h n d) := by
  unfold spec_ExchangedTime.f exP exB spec_seExchange.f
  refine Ev.bind (diAsked_ev h n d) ?_
  by_cases z : dialB h n d = true
  · have t := dialB_of z
    have b := tm_B (m := h) t.2.2
    refine ev_t z (Ev.bind (seOf_ev t.2.2 (by omega) (by omega)) (ev_p rfl (Ev.bind (seTrue_ev _ _ b (by omega) (by omega)) ?_)))
    rw [z, Bool.true_and]
    by_cases y : trueB h (turnN (n * h) d) (turnD (n * h) d) n d = true
    · rw [if_pos y]
      exact ev_t y (Ev.bind (diTm_ev t.2.2 (by omega) (by omega)) (ev_now _))
    · rw [if_neg y]
      exact ev_f y (ev_now _)
  · refine ev_f z ?_
    rw [Bool.not_eq_true] at z
    rw [z, Bool.false_and, if_neg (by simp)]
    exact ev_now _

/-! frac -/
theorem frac_eq {a b c d : Int} (h : turnB a b = true) (g : turnB c d = true) (e : a * d = c * b) : a = c ∧ b = d := by
  have t := turnB_of h
  have u := turnB_of g
  have s1 := low_scale (x := a) (y := b) (g := d) (by omega)
  have s2 := low_scale (x := c) (y := d) (g := b) (by omega)
  rw [e, Int.mul_comm b d] at s1
  have p1 : lowN a b = a ∧ lowD a b = b := by
    unfold lowN lowD
    rw [t.2.2.2.2]
    simp
  have p2 : lowN c d = c ∧ lowD c d = d := by
    unfold lowN lowD
    rw [u.2.2.2.2]
    simp
  constructor
  · rw [← p1.1, ← p2.1, ← s1.1, ← s2.1]
  · rw [← p1.2, ← p2.2, ← s1.2, ← s2.2]
theorem cross_bd {a b c d : Int} (h : turnB a b = true) (g : turnB c d = true) : 0 ≤ a * d ∧ a * d ≤ 1000000000000 := by
  have t := turnB_of h
  have u := turnB_of g
  have := mul_bd (a := a) (b := d) (A := 1000000) (B := 1000000) (by omega) (by omega) (by omega) (by omega)
  omega

/-! turnStep -/
theorem turn_step {x d m : Int} (hd : 1 ≤ d) (hm : 1 ≤ m) : turnN (turnN x d * m) (turnD x d) = turnN (x * m) d ∧ turnD (turnN x d * m) (turnD x d) = turnD (x * m) d := by
  have g := gcd_pos (a := x % d) (b := d) (by omega)
  have e1 := low_num (x % d) d
  have e2 := low_den (x % d) d
  have r : (lowN (x % d) d * m) % lowD (x % d) d * (Int.gcd (x % d) d : Int) = (x * m) % d := by
    have q := Int.mul_emod_mul_of_pos (lowN (x % d) d * m) (lowD (x % d) d) (show 0 < (Int.gcd (x % d) d : Int) by omega)
    rw [Int.mul_comm _ (Int.gcd (x % d) d : Int), ← q, Int.mul_comm (Int.gcd (x % d) d : Int) (lowD (x % d) d), e2, ← Int.mul_assoc, Int.mul_comm (Int.gcd (x % d) d : Int) (lowN (x % d) d), e1, Int.mul_emod (x % d) m d, Int.emod_emod, ← Int.mul_emod]
  have s := low_scale (x := (lowN (x % d) d * m) % lowD (x % d) d) (y := lowD (x % d) d) g
  rw [r, e2] at s
  unfold turnN turnD
  exact ⟨s.1.symm, s.2.symm⟩

/-! exFacts -/
theorem trueB_eq {h a b c d : Int} (e : trueB h a b c d = true) : turnN (a * h) b = c ∧ turnD (a * h) b = d := by
  unfold trueB at e
  simpa using e
theorem exB_of {h n d : Int} (e : exB h n d = true) : 2 ≤ h ∧ h ≤ 24 ∧ turnB n d = true ∧ turnN (turnN (n * h) d * h) (turnD (n * h) d) = n ∧ turnD (turnN (n * h) d * h) (turnD (n * h) d) = d := by
  unfold exB at e
  simp only [Bool.and_eq_true] at e
  have a := dialB_of e.1
  have b := trueB_eq e.2
  exact ⟨a.1, a.2.1, a.2.2, b.1, b.2⟩
theorem ex_back {h n d : Int} (e : exB h n d = true) : exP h (turnN (n * h) d) (turnD (n * h) d) = (n, d, true) := by
  have t := exB_of e
  have b := tm_B (m := h) t.2.2.1
  have o : exB h (turnN (n * h) d) (turnD (n * h) d) = true := by
    unfold exB dialB trueB
    rw [decide_eq_true ⟨t.1, t.2.1⟩, b, t.2.2.2.1, t.2.2.2.2]
    simp
  unfold exP
  rw [if_pos o, t.2.2.2.1, t.2.2.2.2]
theorem ex_dvd {h n d : Int} (e : exB h n d = true) : (h * h - 1) % d = 0 := by
  have t := exB_of e
  have u := turnB_of t.2.2.1
  obtain ⟨s1, s2⟩ := turn_step (x := n * h) (d := d) (m := h) (by omega) (by omega)
  rw [t.2.2.2.1] at s1
  rw [t.2.2.2.2] at s2
  have r0 := Int.emod_nonneg (n * h * h) (show d ≠ 0 by omega)
  have g := gcd_pos (a := n * h * h % d) (b := d) (by omega)
  have e1 := low_num (n * h * h % d) d
  have e2 := low_den (n * h * h % d) d
  have q1 : lowN (n * h * h % d) d = n := s1.symm
  have q2 : lowD (n * h * h % d) d = d := s2.symm
  rw [q2] at e2
  have g1 : (Int.gcd (n * h * h % d) d : Int) = 1 := by
    have : d * (Int.gcd (n * h * h % d) d : Int) = d * 1 := by rw [Int.mul_one]; exact e2
    exact Int.eq_of_mul_eq_mul_left (by omega) this
  rw [q1, g1, Int.mul_one] at e1
  have k : d ∣ n * (h * h - 1) := by
    have z := Int.dvd_self_sub_emod (x := n * h * h) (m := d)
    rw [← e1] at z
    have w : n * h * h - n = n * (h * h - 1) := by rw [Int.mul_sub, Int.mul_one, Int.mul_assoc]
    rwa [w] at z
  have c : Nat.Coprime d.natAbs n.natAbs := by
    have := u.2.2.2.2
    rw [Int.gcd_comm, Int.gcd_eq_natAbs_gcd_natAbs] at this
    exact this
  refine Int.emod_eq_zero_of_dvd (Int.natAbs_dvd_natAbs.1 (c.dvd_of_dvd_mul_left ?_))
  rw [← Int.natAbs_mul]
  exact Int.natAbs_dvd_natAbs.2 k

/-! cmpCompare -/
/-! l1Sign -/
/-! two -/
/-- Two turns in order, a double left out. -/
def two (p q : S23) : List S23 := if p.f0 * q.f1 < q.f0 * p.f1 then [p, q] else if q.f0 = p.f0 ∧ q.f1 = p.f1 then [p] else [q, p]
def srt : List S23 → List S23
  | [p, q] => two p q
  | l => l
theorem cpt2 (u v : S23) : cpt [u, v] = if v.f0 = u.f0 ∧ v.f1 = u.f1 then [u] else [u, v] := rfl
theorem compare_eq {p q : S23} (hp : turnB p.f0 p.f1 = true) (hq : turnB q.f0 q.f1 = true) : impl_Turn_compare.f p.f0 p.f1 q.f0 q.f1 = some (if p.f0 * q.f1 < q.f0 * p.f1 then -1 else if p.f0 * q.f1 > q.f0 * p.f1 then 1 else 0) := by
  have b1 := cross_bd hp hq
  have b2 := cross_bd hq hp
  unfold impl_Turn_compare.f
  rw [w64 (by omega) (by omega), w64 (by omega) (by omega)]
  unfold cmp_Compare_int.f cmp_isNaN_int.f
  simp only [bne_self_eq_false, Option.bind_some, Bool.false_eq_true, if_false]
  split
  · rfl
  · split <;> rfl
theorem sorted_ev (l : List S23) (h : l.length ≤ 2) (hl : ∀ x ∈ l, turnB x.f0 x.f1 = true) : Ev (fun k => impl_sorted.f k l) (srt l) := by
  unfold impl_sorted.f impl_Turn_73.f
  refine ev_t h ?_
  rw [Option.bind_some, if_pos (by simp only [List.length_nil]; omega), List.nil_append]
  refine ev_p rfl (ev_t h ?_)
  unfold impl_Turn_91.f
  match l, h, hl with
  | [], _, _ =>
    refine Ev.bind (a := ([] : List S23)) (ev_one fun k => ?_) (ev_t (by decide) (ev_now _))
    simp only [impl_Turn_91.l0]
    rw [if_neg (by rw [w64 (by omega) (by omega)]; simp)]
  | [p], _, _ =>
    refine Ev.bind (a := [p]) (ev_one fun k => ?_) (ev_t (by simp) (ev_now _))
    simp only [impl_Turn_91.l0]
    rw [if_neg (by rw [w64 (by omega) (by omega)]; simp)]
  | [p, q], _, hl =>
    have hp := hl p (by simp)
    have hq := hl q (by simp)
    have c := compare_eq hq hp
    have x1 : wrap64 (0 + 1) = 1 := w64 (by omega) (by omega)
    have x0 : wrap64 (1 - 1) = 0 := w64 (by omega) (by omega)
    have x2 : wrap64 (1 + 1) = 2 := w64 (by omega) (by omega)
    have r1 : rd_T23 [p, q] 1 = q := rfl
    have r0 : rd_T23 [p, q] 0 = p := rfl
    have fin : ∀ s : List S23, Ev (fun k => impl_Turn_91.l0 k s 0 2 2) s := fun s => ev_one fun k => by
      simp only [impl_Turn_91.l0]
      rw [if_neg (by decide)]
    have go : Ev (fun k => impl_Turn_91.l0 k [p, q] 0 (([p, q] : List S23).length : Int) (wrap64 (0 + 1))) (if q.f0 * p.f1 < p.f0 * q.f1 then [q, p] else [p, q]) := by
      rw [x1]
      refine ev_succ ?_
      simp only [impl_Turn_91.l0]
      refine ev_t (by simp) (ev_succ ?_)
      simp only [impl_Turn_91.l1]
      rw [x0, r1, r0, x2]
      refine ev_t (by decide) (ev_t (by decide) (ev_t (by simp) (ev_t (by decide) (ev_t (by simp) (ev_p c ?_)))))
      by_cases d : q.f0 * p.f1 < p.f0 * q.f1
      · rw [if_pos d, if_pos d]
        refine ev_t (by decide) ?_
        have e : (([p, q] : List S23).set (1 : Int).toNat ⟨p.f0, p.f1⟩).set (0 : Int).toNat ⟨q.f0, q.f1⟩ = [q, p] := rfl
        rw [e]
        refine ev_succ ?_
        simp only [impl_Turn_91.l1]
        rw [x2]
        exact ev_f (by decide) (fin [q, p])
      · rw [if_neg d, if_neg d]
        refine ev_f ?_ (fin [p, q])
        split <;> decide
    refine Ev.bind go (ev_t (by split <;> simp) (ev_con ?_))
    congr 1
    show _ = two p q
    unfold two
    by_cases d : q.f0 * p.f1 < p.f0 * q.f1
    · rw [if_pos d, if_neg (by omega)]
      have n : ¬ (q.f0 = p.f0 ∧ q.f1 = p.f1) := fun z => by
        rw [z.1, z.2] at d
        omega
      rw [cpt2, if_neg n, if_neg (fun z => n ⟨z.1.symm, z.2.symm⟩)]
    · rw [if_neg d]
      by_cases e : p.f0 * q.f1 < q.f0 * p.f1
      · rw [if_pos e]
        rw [cpt2, if_neg (fun z => by rw [z.1, z.2] at e; omega)]
      · rw [if_neg e]
        have f := frac_eq hp hq (by omega)
        rw [cpt2, if_pos ⟨f.1.symm, f.2.symm⟩, if_pos ⟨f.1.symm, f.2.symm⟩]

/-! sePut -/
theorem diCompare_eq {p q : S23} (hp : turnB p.f0 p.f1 = true) (hq : turnB q.f0 q.f1 = true) : spec_diCompare.f p.f0 p.f1 q.f0 q.f1 = some (if p.f0 * q.f1 - q.f0 * p.f1 > 0 then 1 else if p.f0 * q.f1 - q.f0 * p.f1 < 0 then -1 else 0) := by
  have b1 := cross_bd hp hq
  have b2 := cross_bd hq hp
  unfold spec_diCompare.f spec_l1Sign.f
  rw [w64 (x := p.f0 * q.f1) (by omega) (by omega), w64 (x := q.f0 * p.f1) (by omega) (by omega), w64 (by omega) (by omega)]
  split
  · rfl
  · split <;> rfl
theorem sePut_nil (q : S23) : Ev (fun k => spec_sePut.f k [] q.f0 q.f1) [q] := by
  unfold spec_sePut.f
  refine ev_one fun k => ?_
  simp [spec_sePut.l0]
theorem sePut_one {p q : S23} (hp : turnB p.f0 p.f1 = true) (hq : turnB q.f0 q.f1 = true) : Ev (fun k => spec_sePut.f k [p] q.f0 q.f1) (two p q) := by
  have c := diCompare_eq hp hq
  have r0 : rd_T23 [p] 0 = p := rfl
  have x1 : wrap64 (0 + 1) = 1 := w64 (by omega) (by omega)
  unfold spec_sePut.f two
  by_cases d : p.f0 * q.f1 < q.f0 * p.f1
  · rw [if_pos d]
    rw [if_neg (by omega), if_pos (by omega)] at c
    refine ev_two fun k => ?_
    simp only [spec_sePut.l0]
    rw [r0, c, x1]
    simp
  · rw [if_neg d]
    by_cases e : q.f0 = p.f0 ∧ q.f1 = p.f1
    · rw [if_pos e]
      rw [if_neg (by rw [e.1, e.2]; omega), if_neg (by rw [e.1, e.2]; omega)] at c
      refine ev_one fun k => ?_
      simp only [spec_sePut.l0]
      rw [r0, c]
      simp [e.1, e.2]
    · rw [if_neg e]
      have f : p.f0 * q.f1 - q.f0 * p.f1 > 0 := by
        rcases Int.lt_or_le (q.f0 * p.f1) (p.f0 * q.f1) with z | z
        · omega
        · have g := frac_eq hp hq (by omega)
          exact absurd ⟨g.1.symm, g.2.symm⟩ e
      rw [if_pos f] at c
      have n : ¬ (p.f0 == q.f0 && p.f1 == q.f1) = true := by
        intro z
        simp only [Bool.and_eq_true, beq_iff_eq] at z
        exact e ⟨z.1.symm, z.2.symm⟩
      refine ev_one fun k => ?_
      simp only [spec_sePut.l0]
      rw [r0, c]
      simp [n]

/-! alike -/
def alikeL (h a b c d : Int) : List S23 := srt ((if trueB h a b c d = true then [(⟨a, b⟩ : S23)] else []) ++ (if trueB h c d a b = true then [(⟨c, d⟩ : S23)] else []))
def alikeP (h a b c d : Int) : List S23 × Bool := if askB h a b c d = true then (alikeL h a b c d, true) else ([], false)
theorem alikeJ {h a b c d : Int} (l : List S23) (hl : l.length ≤ 1) (hb : ∀ x ∈ l, turnB x.f0 x.f1 = true) (t : turnB c d = true) (z1 : -1000 ≤ h) (z2 : h ≤ 1000) :
    Ev (fun k => impl_TimesAlike.j0 k h l a b c d) (srt (l ++ (if trueB h c d a b = true then [(⟨c, d⟩ : S23)] else [])), true) := by
  refine ev_succ ?_
  simp only [impl_TimesAlike.j0, impl_Seen_exchanged.f]
  refine ev_p rfl (Ev.bind (isTrue_ev _ _ t z1 z2) ?_)
  by_cases y : trueB h c d a b = true
  · rw [if_pos y]
    refine ev_t y (ev_t (by omega) (Ev.bind (sorted_ev _ ?_ ?_) (ev_now _)))
    · rw [List.length_append, List.length_singleton]
      omega
    · intro x hx
      rcases List.mem_append.1 hx with w | w
      · exact hb x w
      · obtain rfl := List.mem_singleton.1 w
        exact t
  · rw [if_neg y, List.append_nil]
    exact ev_f y (Ev.bind (sorted_ev _ (by omega) hb) (ev_now _))
theorem TimesAlike_impl (h a b c d : Int) : Ev (fun k => impl_TimesAlike.f k h a b c d) (alikeP h a b c d) := by
  unfold impl_TimesAlike.f alikeP
  refine Ev.bind (isSeenOf_ev h a b c d) ?_
  by_cases z : askB h a b c d = true
  · have t := askB_of z
    rw [if_pos z]
    refine ev_t z (ev_p rfl (Ev.bind (isTrue_ev c d t.2.2.1 (by omega) (by omega)) ?_))
    unfold alikeL
    by_cases y : trueB h a b c d = true
    · rw [if_pos y]
      refine ev_t y (ev_t (by simp) ?_)
      rw [List.nil_append]
      exact alikeJ [(⟨a, b⟩ : S23)] (by simp) (fun x hx => by obtain rfl := List.mem_singleton.1 hx; exact t.2.2.1) t.2.2.2 (by omega) (by omega)
    · rw [if_neg y]
      exact ev_f y (alikeJ [] (by simp) (fun x hx => by cases hx) t.2.2.2 (by omega) (by omega))
  · rw [if_neg z]
    exact ev_f z (ev_now _)
theorem TimesAlike_spec (h a b c d : Int) : Ev (fun k => spec_TimesAlike.f k h a b c d) (alikeP h a b c d) := by
  unfold spec_TimesAlike.f alikeP spec_seExchange.f
  refine Ev.bind (seAsked_ev h a b c d) ?_
  by_cases z : askB h a b c d = true
  · have t := askB_of z
    rw [if_pos z]
    refine ev_t z (ev_p rfl (ev_p rfl ?_))
    have x1 : wrap64 (0 + 1) = 1 := w64 (by omega) (by omega)
    have x2 : wrap64 (1 + 1) = 2 := w64 (by omega) (by omega)
    generalize hR : [(⟨(⟨a, b⟩ : S23), (⟨c, d⟩ : S23)⟩ : S25), (⟨(⟨c, d⟩ : S23), (⟨a, b⟩ : S23)⟩ : S25)] = R
    have r0 : rd_T25 R 0 = (⟨(⟨a, b⟩ : S23), (⟨c, d⟩ : S23)⟩ : S25) := by rw [← hR]; rfl
    have r1 : rd_T25 R 1 = (⟨(⟨c, d⟩ : S23), (⟨a, b⟩ : S23)⟩ : S25) := by rw [← hR]; rfl
    have hn : R.length = 2 := by rw [← hR]; rfl
    have fin : ∀ l : List S23, Ev (fun k => spec_TimesAlike.l0 k h l R (R.length : Int) 2) (l, true) := fun l => ev_one fun k => by
      simp only [spec_TimesAlike.l0]
      rw [if_neg (by omega)]
    have last : ∀ (l r : List S23), (trueB h c d a b = true → Ev (fun k => spec_sePut.f k l c d) r) → (¬ trueB h c d a b = true → r = l) → Ev (fun k => spec_TimesAlike.l0 k h l R (R.length : Int) 1) (r, true) := fun l r g1 g2 => by
      refine ev_succ ?_
      simp only [spec_TimesAlike.l0]
      rw [r1, x2]
      refine ev_t (by omega) (ev_t (by decide) (ev_t (by omega) (Ev.bind (seTrue_ev _ _ t.2.2.2 (by omega) (by omega)) ?_)))
      dsimp only
      by_cases y : trueB h c d a b = true
      · exact ev_t y (Ev.bind (g1 y) (fin r))
      · rw [g2 y]
        exact ev_f y (fin l)
    refine ev_succ ?_
    simp only [spec_TimesAlike.l0]
    rw [r0, x1]
    refine ev_t (by omega) (ev_t (by decide) (ev_t (by omega) (Ev.bind (seTrue_ev _ _ t.2.2.1 (by omega) (by omega)) ?_)))
    dsimp only
    unfold alikeL
    by_cases y : trueB h a b c d = true
    · rw [if_pos y]
      refine ev_t y (Ev.bind (sePut_nil ⟨a, b⟩) (last _ _ (fun g => ?_) (fun g => ?_)))
      · rw [if_pos g]
        exact sePut_one (p := ⟨a, b⟩) (q := ⟨c, d⟩) t.2.2.1 t.2.2.2
      · rw [if_neg g]
        rfl
    · rw [if_neg y]
      refine ev_f y (last _ _ (fun g => ?_) (fun g => ?_))
      · rw [if_pos g]
        exact sePut_nil ⟨c, d⟩
      · rw [if_neg g]
        rfl
  · rw [if_neg z]
    exact ev_f z (ev_now _)

/-! wHas -/
def hasB (l : List S23) (a b : Int) : Bool := l.any fun x => x.f0 == a && x.f1 == b
theorem wHas_ev (l : List S23) (a b : Int) (h : l.length ≤ 1000000) : Ev (fun k => laws_wHas.f k l a b) (hasB l a b) := by
  have go : ∀ (d j : Nat), j + d = l.length → Ev (fun k => laws_wHas.l0 k l (l.length : Int) j a b) ((l.drop j).any fun x => x.f0 == a && x.f1 == b) := by
    intro d
    induction d with
    | zero =>
      intro j e
      refine ev_one fun k => ?_
      simp only [laws_wHas.l0]
      rw [if_neg (by omega), List.drop_of_length_le (by omega)]
      rfl
    | succ d ih =>
      intro j e
      have hj : j < l.length := by omega
      refine ev_succ ?_
      simp only [laws_wHas.l0]
      rw [w64 (by omega) (by omega), rdT_get l j hj, List.drop_eq_getElem_cons hj, List.any_cons]
      refine ev_t (by omega) (ev_t (by omega) (ev_t (by omega) ?_))
      cases c : (l[j].f0 == a && l[j].f1 == b)
      · rw [Bool.false_or]
        exact ev_f (by simp) (ih (j + 1) (by omega))
      · rw [Bool.true_or]
        exact ev_t rfl (ev_now _)
  have := go l.length 0 (by omega)
  rw [List.drop_zero] at this
  exact this

/-! wRises -/
theorem wRises_ev (l : List S23) (h : l.length ≤ 1000000) (hb : ∀ j : Int, 0 ≤ j → j < l.length → turnB (rd_T23 l j).f0 (rd_T23 l j).f1 = true)
    (hr : ∀ j : Int, 1 ≤ j → j < l.length → (rd_T23 l (j - 1)).f0 * (rd_T23 l j).f1 < (rd_T23 l j).f0 * (rd_T23 l (j - 1)).f1) : Ev (fun k => laws_wRises.f k l) true := by
  unfold laws_wRises.f
  rcases Nat.lt_or_ge l.length 1 with c | c
  · refine ev_one fun k => ?_
    simp only [laws_wRises.l0]
    rw [if_neg (by omega)]
  · refine scan_from (g := fun i k => laws_wRises.l0 k l i) (n := l.length) (fun i a b ih => ?_) (ev_one fun k => by
      simp only [laws_wRises.l0]
      rw [if_neg (by omega)]) (by omega)
    have b1 := hb i (by omega) b
    have b0 := hb (i - 1) (by omega) (by omega)
    have c1 := cross_bd b0 b1
    have c2 := cross_bd b1 b0
    have r := hr i a b
    refine ev_succ ?_
    simp only [laws_wRises.l0]
    rw [w64 (x := i - 1) (by omega) (by omega), w64 (x := (rd_T23 l (i - 1)).f0 * (rd_T23 l i).f1) (by omega) (by omega), w64 (x := (rd_T23 l i).f0 * (rd_T23 l (i - 1)).f1) (by omega) (by omega), w64 (x := i + 1) (by omega) (by omega)]
    exact ev_t b (ev_t (by omega) (ev_t (by omega) (ev_t (by omega) (ev_f (by omega) ih))))

/-! alikeFacts -/
theorem rd_0 (p : S23) (l : List S23) : rd_T23 (p :: l) 0 = p := rfl
theorem rd_1 (p q : S23) (l : List S23) : rd_T23 (p :: q :: l) 1 = q := rfl
theorem rises_one (p : S23) (hp : turnB p.f0 p.f1 = true) : Ev (fun k => laws_wRises.f k [p]) true :=
  wRises_ev [p] (by simp) (fun j a b => by
    simp only [List.length_cons, List.length_nil] at b
    obtain rfl : j = 0 := by omega
    rw [rd_0]
    exact hp) (fun j a b => by
    simp only [List.length_cons, List.length_nil] at b
    omega)
theorem rises_two (p q : S23) (hp : turnB p.f0 p.f1 = true) (hq : turnB q.f0 q.f1 = true) (h : p.f0 * q.f1 < q.f0 * p.f1) : Ev (fun k => laws_wRises.f k [p, q]) true :=
  wRises_ev [p, q] (by simp) (fun j a b => by
    simp only [List.length_cons, List.length_nil] at b
    rcases (by omega : j = 0 ∨ j = 1) with rfl | rfl
    · rw [rd_0]
      exact hp
    · rw [rd_1]
      exact hq) (fun j a b => by
    simp only [List.length_cons, List.length_nil] at b
    obtain rfl : j = 1 := by omega
    rw [show (1 : Int) - 1 = 0 by omega, rd_0, rd_1]
    exact h)
theorem two_cases {p q : S23} (hp : turnB p.f0 p.f1 = true) (hq : turnB q.f0 q.f1 = true) :
    (two p q = [p, q] ∧ p.f0 * q.f1 < q.f0 * p.f1 ∧ ¬ (q.f0 = p.f0 ∧ q.f1 = p.f1)) ∨ (two p q = [p] ∧ q.f0 = p.f0 ∧ q.f1 = p.f1) ∨ (two p q = [q, p] ∧ q.f0 * p.f1 < p.f0 * q.f1 ∧ ¬ (q.f0 = p.f0 ∧ q.f1 = p.f1)) := by
  unfold two
  by_cases d : p.f0 * q.f1 < q.f0 * p.f1
  · rw [if_pos d]
    exact Or.inl ⟨rfl, d, fun z => by rw [z.1, z.2] at d; omega⟩
  · rw [if_neg d]
    by_cases e : q.f0 = p.f0 ∧ q.f1 = p.f1
    · rw [if_pos e]
      exact Or.inr (Or.inl ⟨rfl, e⟩)
    · rw [if_neg e]
      refine Or.inr (Or.inr ⟨rfl, ?_, e⟩)
      rcases Int.lt_or_le (q.f0 * p.f1) (p.f0 * q.f1) with z | z
      · exact z
      · have g := frac_eq hp hq (by omega)
        exact absurd ⟨g.1.symm, g.2.symm⟩ e
/-- What is told of two turns in order: it rises, it has the two, and it has one or two of them. -/
theorem two_facts {p q : S23} (hp : turnB p.f0 p.f1 = true) (hq : turnB q.f0 q.f1 = true) :
    Ev (fun k => laws_wRises.f k (two p q)) true ∧ hasB (two p q) p.f0 p.f1 = true ∧ hasB (two p q) q.f0 q.f1 = true ∧ ((two p q).length : Int) = (if q.f0 = p.f0 ∧ q.f1 = p.f1 then 1 else 2) := by
  rcases two_cases hp hq with ⟨e, d, n⟩ | ⟨e, n⟩ | ⟨e, d, n⟩ <;> rw [e]
  · refine ⟨rises_two p q hp hq d, by simp [hasB], by simp [hasB], ?_⟩
    rw [if_neg n]
    rfl
  · refine ⟨rises_one p hp, by simp [hasB], by simp [hasB, n.1, n.2], ?_⟩
    rw [if_pos n]
    rfl
  · refine ⟨rises_two q p hq hp d, by simp [hasB], by simp [hasB], ?_⟩
    rw [if_neg n]
    rfl
theorem srt_len : ∀ (l : List S23), l.length ≤ 2 → (srt l).length ≤ 2
  | [], _ => by simp [srt]
  | [p], _ => by simp [srt]
  | [p, q], _ => by
    show (two p q).length ≤ 2
    unfold two
    split
    · simp
    · split <;> simp
theorem alikeL_len (h a b c d : Int) : (alikeL h a b c d).length ≤ 2 := by
  unfold alikeL
  refine srt_len _ ?_
  rw [List.length_append]
  split <;> split <;> simp

/-! roots -/
def rootP (n d k : Int) : List S23 := upTo (fun i => (⟨turnN (n + i * d) (d * k), turnD (n + i * d) (d * k)⟩ : S23)) 0 k.toNat
theorem rootP_len (n d k : Int) : (rootP n d k).length = k.toNat := upTo_length _ _ _
theorem roots_ev {n d k : Int} (hn : 0 ≤ n) (hn' : n < d) (hd : d ≤ 1000000000000) (hk : 0 ≤ k) (hk' : k ≤ 1000) : Ev (fun z => impl_roots.f z n d k) (rootP n d k, allT (rootP n d k)) := by
  unfold impl_roots.f
  have e : (k - 1 + 1 - 0).toNat = k.toNat := by omega
  have dk := mul_bd (a := d) (b := k) (A := 1000000000000) (B := 1000) (by omega) hd hk hk'
  have go : ∀ (e j : Nat), (j : Int) + e = k → Ev (fun z => impl_roots.l0 z k (upTo (fun i => (⟨turnN (n + i * d) (d * k), turnD (n + i * d) (d * k)⟩ : S23)) 0 j) k j n d) (rootP n d k, allT (rootP n d k)) := by
    intro e
    induction e with
    | zero =>
      intro j a
      refine ev_succ ?_
      simp only [impl_roots.l0]
      refine ev_f (by omega) ?_
      have ej : upTo (fun i => (⟨turnN (n + i * d) (d * k), turnD (n + i * d) (d * k)⟩ : S23)) 0 j = rootP n d k := by
        unfold rootP
        rw [show k.toNat = j by omega]
      rw [ej]
      exact Ev.bind (areTurns_ev _ (by rw [rootP_len]; omega)) (ev_now _)
    | succ e ih =>
      intro j a
      have jd := mul_bd (a := (j : Int)) (b := d) (A := 1000) (B := 1000000000000) (by omega) (by omega) (by omega) hd
      have kp := mul_pos1 (a := d) (b := k) (by omega) (by omega)
      refine ev_succ ?_
      simp only [impl_roots.l0]
      refine ev_t (by omega) ?_
      rw [w64 (x := (j : Int) * d) (by omega) (by omega), w64 (x := n + (j : Int) * d) (by omega) (by omega), w64 (x := d * k) (by omega) (by omega), w64 (x := (j : Int) + 1) (by omega) (by omega)]
      refine Ev.bind (part_ev (n := n + (j : Int) * d) (d := d * k) (by omega) (by omega) (by omega) (by omega)) (ev_t (by rw [upTo_length]; omega) ?_)
      have := ih (j + 1) (by omega)
      rw [upTo_snoc, Int.zero_add] at this
      exact this
  have := go k.toNat 0 (by omega)
  exact this
theorem ifTurns_ev (l : List S23) (h : l.length ≤ 1000000) : Ev (fun k => impl_ifTurns.f k l (allT l)) (if allT l = true then (l, true) else ([], false)) := by
  unfold impl_ifTurns.f
  by_cases c : allT l = true
  · refine ev_t c (Ev.bind (areTurns_ev l h) (ev_t c ?_))
    rw [if_pos c]
    exact ev_now _
  · refine ev_f c ?_
    rw [if_neg c]
    exact ev_now _

/-! seParts -/
theorem seParts_ev {n : Int} (h : 1 ≤ n) (h' : n ≤ 1000) : Ev (fun k => spec_seParts.f k 0 n) (upTo (fun i => (⟨turnN i n, turnD i n⟩ : S23)) 0 n.toNat) := by
  have e : (n - 1 + 1 - 0).toNat = n.toNat := by omega
  rw [← e]
  unfold spec_seParts.f
  have go : ∀ (d j : Nat), (j : Int) + d = n → Ev (fun k => spec_seParts.l0 k 0 n (upTo (fun i => (⟨turnN i n, turnD i n⟩ : S23)) 0 j) j) (upTo (fun i => (⟨turnN i n, turnD i n⟩ : S23)) 0 (n - 1 + 1 - 0).toNat) := by
    intro d
    induction d with
    | zero =>
      intro j a
      refine ev_succ ?_
      simp only [spec_seParts.l0]
      rw [w64 (by omega) (by omega), show (n - 1 + 1 - 0).toNat = j by omega]
      exact ev_f (by omega) (ev_now _)
    | succ d ih =>
      intro j a
      have b := turn_bd (n := (j : Int)) (d := n) h
      have mk := diMake_ev (n := (j : Int)) (d := n) h (by omega) (by omega) (by omega)
      unfold makeP at mk
      rw [if_neg (by omega)] at mk
      refine ev_succ ?_
      simp only [spec_seParts.l0]
      rw [w64 (x := (0 : Int) + n) (by omega) (by omega), w64 (x := (j : Int) + 1) (by omega) (by omega)]
      refine ev_t (by omega) (Ev.bind mk (ev_t (by rw [upTo_length]; omega) ?_))
      have := ih (j + 1) (by omega)
      rw [upTo_snoc, Int.zero_add] at this
      exact this
  exact go n.toNat 0 (by omega)
theorem parts_root {n : Int} (h : 1 ≤ n) (h' : n ≤ 1000) : rootP 0 1 n = upTo (fun i => (⟨turnN i n, turnD i n⟩ : S23)) 0 n.toNat ∧ allT (rootP 0 1 n) = true := by
  have e : rootP 0 1 n = upTo (fun i => (⟨turnN i n, turnD i n⟩ : S23)) 0 n.toNat := by
    unfold rootP
    refine upTo_congr _ _ (fun j _ _ => ?_)
    show (⟨turnN (0 + j * 1) (1 * n), turnD (0 + j * 1) (1 * n)⟩ : S23) = _
    rw [Int.zero_add, Int.mul_one, Int.one_mul]
  refine ⟨e, ?_⟩
  rw [e]
  unfold allT
  rw [List.all_eq_true]
  intro t ht
  obtain ⟨j, _, _, rfl⟩ := upTo_mem _ _ ht
  have b := turn_bd (n := j) (d := n) h
  exact turn_B h (by omega)

/-! allEx -/
def partL (m : Int) : List S23 := upTo (fun i => (⟨turnN i m, turnD i m⟩ : S23)) 0 m.toNat
def allP (n : Int) : List S23 × Bool := if 2 ≤ n ∧ n ≤ 24 then (partL (n * n - 1), true) else ([], false)
theorem sq_bd {n : Int} (h : 2 ≤ n) (h' : n ≤ 24) : 4 ≤ n * n ∧ n * n ≤ 576 := by
  have a : 2 * 2 ≤ n * n := Int.mul_le_mul h h (by omega) (by omega)
  have b : n * n ≤ 24 * 24 := Int.mul_le_mul h' h' (by omega) (by omega)
  omega
theorem AllEx_impl (n : Int) : Ev (fun k => impl_AllExchanged.f k n) (allP n) := by
  unfold impl_AllExchanged.f allP partL
  refine ev_p (isDial_eq n) ?_
  by_cases c : 2 ≤ n ∧ n ≤ 24
  · have s := sq_bd c.1 c.2
    obtain ⟨p1, p2⟩ := parts_root (n := n * n - 1) (by omega) (by omega)
    have f := ifTurns_ev (rootP 0 1 (n * n - 1)) (by rw [rootP_len]; omega)
    rw [p2, if_pos rfl] at f
    rw [if_pos c]
    refine ev_t (decide_eq_true c) ?_
    rw [w64 (x := n * n) (by omega) (by omega), w64 (x := n * n - 1) (by omega) (by omega)]
    refine Ev.bind (roots_ev (n := 0) (d := 1) (k := n * n - 1) (by omega) (by omega) (by omega) (by omega) (by omega)) ?_
    dsimp only
    rw [p2]
    refine Ev.bind f ?_
    rw [p1]
    exact ev_now _
  · rw [if_neg c]
    exact ev_f (by simp only [decide_eq_true_eq]; exact c) (ev_now _)
theorem AllEx_spec (n : Int) : Ev (fun k => spec_AllExchanged.f k n) (allP n) := by
  unfold spec_AllExchanged.f allP partL
  refine ev_p (diHours_eq n) ?_
  by_cases c : 2 ≤ n ∧ n ≤ 24
  · have s := sq_bd c.1 c.2
    rw [if_pos c]
    refine ev_t (decide_eq_true c) ?_
    rw [w64 (x := n * n) (by omega) (by omega), w64 (x := n * n - 1) (by omega) (by omega)]
    exact Ev.bind (seParts_ev (by omega) (by omega)) (ev_now _)
  · rw [if_neg c]
    exact ev_f (by simp only [decide_eq_true_eq]; exact c) (ev_now _)
def unsP (n : Int) : Int × Bool := if 2 ≤ n ∧ n ≤ 24 then (n * n - n, true) else (0, false)
theorem Count_impl (n : Int) : impl_CountUnsure.f n = some (unsP n) := by
  unfold impl_CountUnsure.f unsP
  rw [isDial_eq, Option.bind_some]
  by_cases c : 2 ≤ n ∧ n ≤ 24
  · have s := sq_bd c.1 c.2
    rw [if_pos (decide_eq_true c), if_pos c, w64 (x := n * n) (by omega) (by omega), w64 (by omega) (by omega)]
  · rw [if_neg (by simp only [decide_eq_true_eq]; exact c), if_neg c]
theorem Count_spec (n : Int) : spec_CountUnsure.f n = some (unsP n) := by
  unfold spec_CountUnsure.f unsP
  rw [diHours_eq, Option.bind_some]
  by_cases c : 2 ≤ n ∧ n ≤ 24
  · have s := sq_bd c.1 c.2
    rw [if_pos (decide_eq_true c), if_pos c, w64 (x := n * n) (by omega) (by omega), w64 (x := n * n - 1) (by omega) (by omega), w64 (x := n - 1) (by omega) (by omega), w64 (by omega) (by omega), show n * n - 1 - (n - 1) = n * n - n by omega]
  · rw [if_neg (by simp only [decide_eq_true_eq]; exact c), if_neg c]

/-! partChk -/
def pN (n i : Int) : Int := turnN i (n * n - 1)
def pD (n i : Int) : Int := turnD i (n * n - 1)
def unsB (n i : Int) : Bool := !(turnN (pN n i * n) (pD n i) == pN n i) || !(turnD (pN n i * n) (pD n i) == pD n i)
def partOk (n i : Int) : Bool := trueB n (turnN (pN n i * n) (pD n i)) (turnD (pN n i * n) (pD n i)) (pN n i) (pD n i) && (decide (i + 1 = n * n - 1) || decide (pN n i * pD n (i + 1) < pN n (i + 1) * pD n i))
def partsOk (n : Int) : Nat → Bool
  | 0 => true
  | j + 1 => partsOk n j && partOk n j
def unsTo (n : Int) : Nat → Int
  | 0 => 0
  | j + 1 => unsTo n j + (if unsB n j = true then 1 else 0)
def dialOk (n : Nat) : Bool := partsOk n (n * n - 1) && decide (unsTo n (n * n - 1) = (n : Int) * n - n)
theorem dials_ok : (List.range 23).all (fun j => dialOk (j + 2)) = true := by decide +kernel
theorem partsOk_at {n : Int} : ∀ {m : Nat}, partsOk n m = true → ∀ j : Nat, j < m → partOk n j = true
  | 0, _, j, h => by omega
  | m + 1, e, j, h => by
    unfold partsOk at e
    simp only [Bool.and_eq_true] at e
    rcases Nat.lt_or_ge j m with c | c
    · exact partsOk_at e.1 j c
    · obtain rfl : j = m := by omega
      exact e.2
theorem dial_ok {n : Int} (h : 2 ≤ n) (h' : n ≤ 24) : partsOk n (n * n - 1).toNat = true ∧ unsTo n (n * n - 1).toNat = n * n - n := by
  have a := List.all_eq_true.1 dials_ok (n - 2).toNat (List.mem_range.2 (by omega))
  obtain ⟨m, rfl⟩ : ∃ m : Nat, n = m := ⟨n.toNat, by omega⟩
  rw [show ((m : Int) - 2).toNat + 2 = m by omega] at a
  unfold dialOk at a
  simp only [Bool.and_eq_true, decide_eq_true_eq] at a
  have e : ((m : Int) * m - 1).toNat = m * m - 1 := by
    have : (m : Int) * m = (m * m : Nat) := (Int.natCast_mul m m).symm
    rw [this]
    omega
  rw [e]
  exact a
theorem partL_at {m : Int} (j : Int) (h0 : 0 ≤ j) (h1 : j < m) : rd_T23 (partL m) j = ⟨turnN j m, turnD j m⟩ := by
  unfold rd_T23 partL
  have := upTo_get (fun i => (⟨turnN i m, turnD i m⟩ : S23)) z23 m.toNat 0 j.toNat (by omega)
  rw [this]
  rw [show (0 : Int) + (j.toNat : Int) = j by omega]
theorem partL_len (m : Int) : (partL m).length = m.toNat := upTo_length _ _ _
theorem part_turn {n : Int} (h : 2 ≤ n) (h' : n ≤ 24) (j : Int) : turnB (pN n j) (pD n j) = true := by
  have s := sq_bd h h'
  have b := turn_bd (n := j) (d := n * n - 1) (by omega)
  exact turn_B (by omega) (by omega)

/-! mirror -/
def mirP (a b c d : Int) : Int × Int × Int × Int × Bool := if seenB a b c d = true then (turnN (a * -1) b, turnD (a * -1) b, turnN (c * -1) d, turnD (c * -1) d, true) else (0, 0, 0, 0, false)
theorem implMirror_ev {n d : Int} (t : turnB n d = true) : Ev (fun k => impl_Turn_mirror.f k n d) (turnN (n * -1) d, turnD (n * -1) d) := by
  unfold impl_Turn_mirror.f
  exact Ev.bind (times_ev t (by omega) (by omega)) (ev_now _)
theorem diMirror_ev {n d : Int} (t : turnB n d = true) : Ev (fun k => spec_diMirror.f k n d) (turnN (n * -1) d, turnD (n * -1) d) := by
  unfold spec_diMirror.f
  exact Ev.bind (diTm_ev t (by omega) (by omega)) (ev_now _)
theorem seMirror_ev {a b c d : Int} (t : turnB a b = true) (u : turnB c d = true) : Ev (fun k => spec_seMirror.f k a b c d) (turnN (a * -1) b, turnD (a * -1) b, turnN (c * -1) d, turnD (c * -1) d) := by
  unfold spec_seMirror.f
  exact Ev.bind (diMirror_ev t) (Ev.bind (diMirror_ev u) (ev_now _))
theorem MirrorSeen_impl (a b c d : Int) : Ev (fun k => impl_MirrorSeen.f k a b c d) (mirP a b c d) := by
  unfold impl_MirrorSeen.f mirP
  refine Ev.bind (IsSeen_ev a b c d) ?_
  by_cases z : seenB a b c d = true
  · have t := seenB_of z
    rw [if_pos z]
    exact ev_t z (Ev.bind (implMirror_ev t.1) (Ev.bind (implMirror_ev t.2) (ev_now _)))
  · rw [if_neg z]
    exact ev_f z (ev_now _)

/-! own -/
def topB (a b : Int) : Prop := (a = 0 ∧ b = 1) ∨ (a = 1 ∧ b = 2)
theorem top_turn {a b : Int} (h : topB a b) : turnB a b = true ∧ turnN (a * -1) b = a ∧ turnD (a * -1) b = b := by
  rcases h with ⟨rfl, rfl⟩ | ⟨rfl, rfl⟩ <;> decide +kernel
theorem top_half (n : Int) : topB (turnN n 2) (turnD n 2) := by
  unfold turnN turnD
  rcases Int.emod_two_eq n with e | e <;> rw [e]
  · exact Or.inl (by decide +kernel)
  · exact Or.inr (by decide +kernel)
theorem top_times {a b : Int} (h : topB a b) (n : Int) : topB (turnN (a * n) b) (turnD (a * n) b) := by
  rcases h with ⟨rfl, rfl⟩ | ⟨rfl, rfl⟩
  · rw [Int.zero_mul]
    exact Or.inl (by decide +kernel)
  · rw [Int.one_mul]
    exact top_half n
def ownL : List S23 := [⟨0, 1⟩, ⟨1, 2⟩]
theorem own_top (j : Int) (h0 : 0 ≤ j) (h1 : j < 2) : topB (rd_T23 ownL j).f0 (rd_T23 ownL j).f1 := by
  rcases (by omega : j = 0 ∨ j = 1) with rfl | rfl
  · exact Or.inl ⟨rfl, rfl⟩
  · exact Or.inr ⟨rfl, rfl⟩
def ownP (n : Int) : List S23 × Bool := if 2 ≤ n ∧ n ≤ 24 then (ownL, true) else ([], false)
theorem Own_impl (n : Int) : impl_OwnMirrors.f n = some (ownP n) := by
  unfold impl_OwnMirrors.f ownP ownL
  rw [isDial_eq, Option.bind_some]
  by_cases c : 2 ≤ n ∧ n ≤ 24
  · rw [if_pos (decide_eq_true c), if_pos c]
  · rw [if_neg (by simp only [decide_eq_true_eq]; exact c), if_neg c]
theorem parts_two : upTo (fun i => (⟨turnN i 2, turnD i 2⟩ : S23)) 0 (2 : Int).toNat = ownL := by
  have e0 : turnN 0 2 = 0 ∧ turnD 0 2 = 1 := by decide +kernel
  have e1 : turnN (0 + 1) 2 = 1 ∧ turnD (0 + 1) 2 = 2 := by decide +kernel
  show [(⟨turnN 0 2, turnD 0 2⟩ : S23), ⟨turnN (0 + 1) 2, turnD (0 + 1) 2⟩] = _
  rw [e0.1, e0.2, e1.1, e1.2]
  rfl
theorem Own_spec (n : Int) : Ev (fun k => spec_OwnMirrors.f k n) (ownP n) := by
  unfold spec_OwnMirrors.f ownP
  refine ev_p (diHours_eq n) ?_
  by_cases c : 2 ≤ n ∧ n ≤ 24
  · rw [if_pos c]
    have p := seParts_ev (n := 2) (by omega) (by omega)
    rw [parts_two] at p
    refine ev_t (decide_eq_true c) (Ev.bind p ?_)
    have x1 : wrap64 (0 + 1) = 1 := w64 (by omega) (by omega)
    have x2 : wrap64 (1 + 1) = 2 := w64 (by omega) (by omega)
    have fin : Ev (fun k => spec_OwnMirrors.l0 k n ownL ownL (ownL.length : Int) 2) (ownL, true) := ev_one fun k => by
      simp only [spec_OwnMirrors.l0]
      rw [if_neg (by decide)]
    have step : ∀ (j : Int) (l : List S23), 0 ≤ j → j < 2 → l.length ≤ 2 → Ev (fun k => spec_OwnMirrors.l0 k n (l ++ [(⟨(rd_T23 ownL j).f0, (rd_T23 ownL j).f1⟩ : S23)]) ownL (ownL.length : Int) (j + 1)) (ownL, true) → Ev (fun k => spec_OwnMirrors.l0 k n l ownL (ownL.length : Int) j) (ownL, true) := by
      intro j l a b hl ih
      have t := own_top j a b
      have u := top_times t n
      have t1 := top_turn t
      have u1 := top_turn u
      have so := seOf_ev (h := n) t1.1 (by omega) (by omega)
      refine ev_succ ?_
      simp only [spec_OwnMirrors.l0]
      rw [w64 (x := j + 1) (by omega) (by omega)]
      refine ev_t b (ev_t a (ev_t b (Ev.bind so (Ev.bind (seMirror_ev t1.1 u1.1) (Ev.bind so (ev_t ?_ (ev_t (by omega) ih)))))))
      dsimp only
      rw [t1.2.1, t1.2.2, u1.2.1, u1.2.2]
      simp
    refine step 0 [] (by omega) (by omega) (by simp) (step 1 _ (by omega) (by omega) (by simp) ?_)
    exact fin
  · rw [if_neg c]
    exact ev_f (by simp only [decide_eq_true_eq]; exact c) (ev_now _)

/-! wTurns -/
theorem wTurns_ev (l : List S23) (h : l.length ≤ 1000000) : Ev (fun k => laws_wTurns.f k l l) true := by
  unfold laws_wTurns.f
  refine ev_t rfl ?_
  exact scan_gen (g := fun i k => laws_wTurns.l0 k l l (l.length : Int) i) (n := l.length) (fun i a b ih => by
    refine ev_succ ?_
    simp only [laws_wTurns.l0]
    refine ev_t b (ev_t a (ev_t b (ev_t b (ev_f (by simp) ?_))))
    rw [w64 (by omega) (by omega)]
    exact ih) (by
    refine ev_one fun k => ?_
    simp only [laws_wTurns.l0]
    rw [if_neg (by omega)]) 0 (by omega) (by omega)

/-! exchange -/
def exSeenP (a b c d : Int) : Int × Int × Int × Int × Bool := if seenB a b c d = true then (c, d, a, b, true) else (0, 0, 0, 0, false)
theorem ExchangeSeen_impl (a b c d : Int) : Ev (fun k => impl_ExchangeSeen.f k a b c d) (exSeenP a b c d) := by
  unfold impl_ExchangeSeen.f exSeenP impl_Seen_exchanged.f
  refine Ev.bind (IsSeen_ev a b c d) ?_
  by_cases z : seenB a b c d = true
  · refine ev_t z (ev_p rfl ?_)
    rw [if_pos z]
    exact ev_now _
  · refine ev_f z ?_
    rw [if_neg z]
    exact ev_now _
theorem ExchangeSeen_spec (a b c d : Int) : Ev (fun k => spec_ExchangeSeen.f k a b c d) (exSeenP a b c d) := by
  unfold spec_ExchangeSeen.f exSeenP spec_seExchange.f
  refine Ev.bind (seGood_ev a b c d) ?_
  by_cases z : seenB a b c d = true
  · refine ev_t z (ev_p rfl ?_)
    rw [if_pos z]
    exact ev_now _
  · refine ev_f z ?_
    rw [if_neg z]
    exact ev_now _

/-! the law -/
abbrev J9 (x3 s0 s1 s2 s3 k0 k1 k2 k3 : Int) : Prop := Ev (fun z => laws_FnSeenTrueOfAll.j9 z x3 s0 s1 s2 s3 k0 k1 k2 k3) true
theorem tail10 (k0 k1 k2 k3 : Int) : Ev (fun z => laws_FnSeenTrueOfAll.j10 z false k0 k1 k2 k3) true := by
  refine ev_succ ?_
  simp only [laws_FnSeenTrueOfAll.j10]
  have q : (exSeenP k0 k1 k2 k3).2.2.2.2 = seenB k0 k1 k2 k3 := by
    unfold exSeenP
    by_cases z : seenB k0 k1 k2 k3 = true
    · rw [if_pos z, z]
    · rw [if_neg z]
      rw [Bool.not_eq_true] at z
      exact z.symm
  refine ev_f (by simp) (Ev.bind (ExchangeSeen_impl k0 k1 k2 k3) (Ev.bind (ExchangeSeen_spec k0 k1 k2 k3) (ev_f (by simp) (ev_f (by simp) (Ev.bind (IsSeen_ev k0 k1 k2 k3) (ev_f (by rw [q]; simp) (Ev.bind (IsSeen_ev k0 k1 k2 k3) (Ev.bind (specIsSeen_ev k0 k1 k2 k3) (ev_f (by simp) (ev_now _))))))))))
theorem tail9 (x3 s0 s1 s2 s3 k0 k1 k2 k3 : Int) : J9 x3 s0 s1 s2 s3 k0 k1 k2 k3 := by
  have al := alikeL_len x3 s0 s1 s2 s3
  have len : (alikeP x3 s0 s1 s2 s3).1.length ≤ 1000000 := by
    unfold alikeP
    split
    · simp only
      omega
    · simp
  have two' : (alikeP x3 s0 s1 s2 s3).2 = askB x3 s0 s1 s2 s3 := by
    unfold alikeP
    by_cases z : askB x3 s0 s1 s2 s3 = true
    · rw [if_pos z, z]
    · rw [if_neg z]
      rw [Bool.not_eq_true] at z
      exact z.symm
  refine ev_succ ?_
  simp only [laws_FnSeenTrueOfAll.j9]
  refine Ev.bind (TimeSeen_impl x3 s0 s1 s2 s3) (Ev.bind (TimeSeen_spec x3 s0 s1 s2 s3) (Ev.bind (IsTrueSeen_impl x3 s0 s1 s2 s3) (Ev.bind (IsTrueSeen_spec x3 s0 s1 s2 s3) (Ev.bind (TimesAlike_impl x3 s0 s1 s2 s3) (Ev.bind (TimesAlike_spec x3 s0 s1 s2 s3) (ev_f (by simp) (ev_f (by simp) (ev_f (by simp) (ev_f (by simp) (ev_f (by simp) (Ev.bind (wTurns_ev _ len) (ev_t (by first | rfl | trivial) ?_))))))))))))
  rw [two']
  have j : (askB x3 s0 s1 s2 s3 != (isTrueP x3 s0 s1 s2 s3).2) = false := by simp [isTrueP]
  rw [j]
  unfold isTrueP timeSeenP
  dsimp only
  by_cases z : askB x3 s0 s1 s2 s3 = true
  · refine ev_t z (ev_f ?_ (tail10 _ _ _ _))
    rw [if_pos z, z, Bool.true_and]
    by_cases y : trueB x3 s0 s1 s2 s3 = true
    · rw [if_pos y, y]
      simp
    · rw [if_neg y]
      rw [Bool.not_eq_true] at y
      rw [y]
      simp
  · refine ev_f z (ev_f ?_ (tail10 _ _ _ _))
    rw [if_neg z]
    simp
abbrev LP (n : Int) : List S23 := partL (n * n - 1)
theorem loop1 {n : Int} (h : 2 ≤ n) (h' : n ≤ 24) (x3 s0 s1 s2 s3 k0 k1 k2 k3 : Int) : Ev (fun z => laws_FnSeenTrueOfAll.l1 z n x3 ownL ownL (ownL.length : Int) 0 s0 s1 s2 s3 k0 k1 k2 k3) true := by
  have rise : Ev (fun z => laws_wRises.f z ownL) true := rises_two ⟨0, 1⟩ ⟨1, 2⟩ (by decide +kernel) (by decide +kernel) (by decide)
  refine scan_gen (g := fun i z => laws_FnSeenTrueOfAll.l1 z n x3 ownL ownL (ownL.length : Int) i s0 s1 s2 s3 k0 k1 k2 k3) (n := (ownL.length : Int)) (fun i a b ih => ?_) ?_ 0 (by omega) (by decide)
  · have b2 : i < 2 := b
    have t := own_top i a b2
    have u := top_times t n
    have t1 := top_turn t
    have u1 := top_turn u
    have e1 : dialB n (rd_T23 ownL i).f0 (rd_T23 ownL i).f1 = true := by
      unfold dialB
      rw [decide_eq_true ⟨h, h'⟩, t1.1]
      rfl
    have so := SeenOf_impl n (rd_T23 ownL i).f0 (rd_T23 ownL i).f1
    unfold seenP at so
    rw [if_pos e1] at so
    have mi := MirrorSeen_impl (rd_T23 ownL i).f0 (rd_T23 ownL i).f1 (turnN ((rd_T23 ownL i).f0 * n) (rd_T23 ownL i).f1) (turnD ((rd_T23 ownL i).f0 * n) (rd_T23 ownL i).f1)
    unfold mirP seenB at mi
    rw [t1.1, u1.1, if_pos (by rfl), t1.2.1, t1.2.2, u1.2.1, u1.2.2] at mi
    refine ev_succ ?_
    simp only [laws_FnSeenTrueOfAll.l1]
    rw [w64 (x := i + 1) (by omega) (by omega)]
    exact ev_t b (ev_t a (ev_t b (Ev.bind so (Ev.bind mi (ev_t (by first | rfl | trivial) (ev_t (by first | rfl | trivial) (ev_f (by simp) ih)))))))
  · refine ev_succ ?_
    simp only [laws_FnSeenTrueOfAll.l1]
    exact ev_f (by omega) (Ev.bind rise (ev_t (by first | rfl | trivial) (ev_t (by first | rfl | trivial) (tail9 _ _ _ _ _ _ _ _ _))))
theorem loop0 {n : Int} (h : 2 ≤ n) (h' : n ≤ 24) (x3 s0 s1 s2 s3 k0 k1 k2 k3 : Int) : Ev (fun z => laws_FnSeenTrueOfAll.l0 z n x3 (LP n) (n * n - n) ownL 0 (LP n) ((LP n).length : Int) 0 s0 s1 s2 s3 k0 k1 k2 k3) true := by
  have sq := sq_bd h h'
  obtain ⟨ok, cn⟩ := dial_ok h h'
  have ln : ((LP n).length : Int) = n * n - 1 := by
    rw [partL_len]
    omega
  have rise : Ev (fun z => laws_wRises.f z (LP n)) true := by
    refine wRises_ev (LP n) (by omega) (fun j a b => ?_) (fun j a b => ?_)
    · rw [partL_at j a (by omega)]
      exact part_turn h h' j
    · rw [partL_at j (by omega) (by omega), partL_at (j - 1) (by omega) (by omega)]
      have p := partsOk_at ok (j - 1).toNat (by omega)
      rw [show (((j - 1).toNat : Nat) : Int) = j - 1 by omega] at p
      unfold partOk at p
      simp only [Bool.and_eq_true, Bool.or_eq_true, decide_eq_true_eq] at p
      rcases p.2 with e | e
      · omega
      · rw [show j - 1 + 1 = j by omega] at e
        exact e
  have go : ∀ (d j : Nat), (j : Int) + d = n * n - 1 → Ev (fun z => laws_FnSeenTrueOfAll.l0 z n x3 (LP n) (n * n - n) ownL (unsTo n j) (LP n) ((LP n).length : Int) j s0 s1 s2 s3 k0 k1 k2 k3) true ∧ 0 ≤ unsTo n j ∧ unsTo n j ≤ j := by
    have cb : ∀ j : Nat, 0 ≤ unsTo n j ∧ unsTo n j ≤ j := by
      intro j
      induction j with
      | zero => exact ⟨Int.le_refl 0, Int.le_refl 0⟩
      | succ j ih =>
        unfold unsTo
        split <;> omega
    intro d
    induction d with
    | zero =>
      intro j e
      have ej : j = (n * n - 1).toNat := by omega
      refine ⟨ev_succ ?_, cb j⟩
      simp only [laws_FnSeenTrueOfAll.l0]
      rw [ej, cn]
      refine ev_f (by omega) (ev_t ?_ (Ev.bind rise (ev_t (by first | rfl | trivial) ?_)))
      · rw [w64 (x := n * n) (by omega) (by omega), w64 (x := n * n - 1) (by omega) (by omega)]
        exact ln
      · have b0 : (n * n - n != n * n - n) = false := by simp
        rw [b0]
        refine ev_succ ?_
        simp only [laws_FnSeenTrueOfAll.j7]
        exact ev_f (by simp) (loop1 h h' _ _ _ _ _ _ _ _ _)
    | succ d ih =>
      intro j e
      have cj := cb j
      obtain ⟨ih, _⟩ := ih (j + 1) (by omega)
      have p := partsOk_at ok j (by omega)
      unfold partOk at p
      simp only [Bool.and_eq_true] at p
      have tj := part_turn h h' (j : Int)
      have xb : exB n (pN n j) (pD n j) = true := by
        unfold exB dialB
        rw [decide_eq_true ⟨h, h'⟩, tj, p.1]
        rfl
      have ex := ExTime_impl n (pN n j) (pD n j)
      unfold exP at ex
      rw [if_pos xb] at ex
      refine ⟨ev_succ ?_, cj⟩
      simp only [laws_FnSeenTrueOfAll.l0]
      rw [partL_at (j : Int) (by omega) (by omega), w64 (x := (j : Int) + 1) (by omega) (by omega), w64 (x := unsTo n j + 1) (by omega) (by omega)]
      refine ev_t (by omega) (ev_t (by omega) (ev_t (by omega) (Ev.bind ex (ev_t (by first | rfl | trivial) ?_))))
      unfold unsTo at ih
      by_cases u : unsB n j = true
      · rw [if_pos u] at ih
        exact ev_t u ih
      · rw [if_neg u, Int.add_zero] at ih
        exact ev_f u ih
  exact (go (n * n - 1).toNat 0 (by omega)).1
theorem mid (n x3 s0 s1 s2 s3 k0 k1 k2 k3 : Int) : Ev (fun z => laws_FnSeenTrueOfAll.j4 z n x3 s0 s1 s2 s3 k0 k1 k2 k3) true := by
  refine ev_succ ?_
  simp only [laws_FnSeenTrueOfAll.j4]
  refine Ev.bind (AllEx_impl n) (Ev.bind (AllEx_spec n) (ev_p (Count_impl n) (ev_p (Count_spec n) (ev_p (Own_impl n) (Ev.bind (Own_spec n) (ev_f (by simp) ?_))))))
  unfold allP unsP ownP
  by_cases c : 2 ≤ n ∧ n ≤ 24
  · have sq := sq_bd c.1 c.2
    rw [if_pos c, if_pos c, if_pos c]
    refine Ev.bind (wTurns_ev _ (by rw [partL_len]; omega)) (ev_t (by first | rfl | trivial) (ev_f (by simp) (ev_t (by first | rfl | trivial) (ev_f (by simp) (Ev.bind (wTurns_ev _ (by decide)) (ev_t (by first | rfl | trivial) (ev_f (by simp) ?_)))))))
    refine ev_succ ?_
    simp only [laws_FnSeenTrueOfAll.j5]
    exact ev_f (by simp) (ev_t (by first | rfl | trivial) (loop0 c.1 c.2 _ _ _ _ _ _ _ _ _))
  · rw [if_neg c, if_neg c, if_neg c]
    refine Ev.bind (wTurns_ev _ (by simp)) (ev_t (by first | rfl | trivial) (ev_f (by simp) (ev_t (by first | rfl | trivial) (ev_f (by simp) (Ev.bind (wTurns_ev _ (by simp)) (ev_t (by first | rfl | trivial) (ev_f (by simp) ?_)))))))
    refine ev_succ ?_
    simp only [laws_FnSeenTrueOfAll.j5]
    exact ev_f (by simp) (ev_f (by simp) (tail9 _ _ _ _ _ _ _ _ _))
theorem j3_no (h n d x2 x3 s0 s1 s2 s3 k0 k1 k2 k3 y0 y1 : Int) : Ev (fun z => laws_FnSeenTrueOfAll.j3 z h x2 x3 false n d s0 s1 s2 s3 k0 k1 k2 k3 y0 y1) true := by
  refine ev_succ ?_
  simp only [laws_FnSeenTrueOfAll.j3]
  exact ev_f (by simp) (mid _ _ _ _ _ _ _ _ _ _)
theorem j3_yes {h n d : Int} (e : exB h n d = true) (x2 x3 s0 s1 s2 s3 k0 k1 k2 k3 : Int) : Ev (fun z => laws_FnSeenTrueOfAll.j3 z h x2 x3 true n d s0 s1 s2 s3 k0 k1 k2 k3 (turnN (n * h) d) (turnD (n * h) d)) true := by
  have t := exB_of e
  have u := turnB_of t.2.2.1
  have sq := sq_bd t.1 t.2.1
  have ex := ExTime_impl h (turnN (n * h) d) (turnD (n * h) d)
  rw [ex_back e] at ex
  refine ev_succ ?_
  simp only [laws_FnSeenTrueOfAll.j3]
  refine ev_t (by first | rfl | trivial) (Ev.bind ex (ev_t (by first | rfl | trivial) (ev_f (by simp) (ev_f (by omega) (ev_t ?_ (mid _ _ _ _ _ _ _ _ _ _))))))
  rw [w64 (x := h * h) (by omega) (by omega), w64 (x := h * h - 1) (by omega) (by omega), tmod_e (by omega)]
  exact ex_dvd e
theorem law (a0 a1_0 a1_1 a2 a3 a4_0 a4_1 a4_2 a4_3 a5_0 a5_1 a5_2 a5_3 : Int) (w0 : (Lit.int .i64 a0).wf = true) (w1_0 : (Lit.int .i64 a1_0).wf = true) (w1_1 : (Lit.int .i64 a1_1).wf = true) (w2 : (Lit.int .i64 a2).wf = true) (w3 : (Lit.int .i64 a3).wf = true)
    (w4_0 : (Lit.int .i64 a4_0).wf = true) (w4_1 : (Lit.int .i64 a4_1).wf = true) (w4_2 : (Lit.int .i64 a4_2).wf = true) (w4_3 : (Lit.int .i64 a4_3).wf = true) (w5_0 : (Lit.int .i64 a5_0).wf = true) (w5_1 : (Lit.int .i64 a5_1).wf = true) (w5_2 : (Lit.int .i64 a5_2).wf = true) (w5_3 : (Lit.int .i64 a5_3).wf = true) :
    ∃ k, laws_FnSeenTrueOfAll.f k a0 a1_0 a1_1 a2 a3 a4_0 a4_1 a4_2 a4_3 a5_0 a5_1 a5_2 a5_3 = some true := by
  refine Ev.rounds (g := fun k => laws_FnSeenTrueOfAll.f k a0 a1_0 a1_1 a2 a3 a4_0 a4_1 a4_2 a4_3 a5_0 a5_1 a5_2 a5_3) ?_
  unfold laws_FnSeenTrueOfAll.f
  refine Ev.bind (ExTime_impl a0 a1_0 a1_1) (Ev.bind (ExTime_spec a0 a1_0 a1_1) (Ev.bind (SeenOf_impl a0 a1_0 a1_1) (Ev.bind (SeenOf_spec a0 a1_0 a1_1) (ev_f (by simp) (ev_f (by simp) (ev_f (by simp) (ev_f (by simp) ?_)))))))
  unfold exP seenP
  by_cases dl : dialB a0 a1_0 a1_1 = true
  · have t := dialB_of dl
    have b := tm_B (m := a0) t.2.2
    rw [if_pos dl]
    have ask : askB a0 a1_0 a1_1 (turnN (a1_0 * a0) a1_1) (turnD (a1_0 * a0) a1_1) = true := by
      unfold askB seenB
      rw [decide_eq_true ⟨t.1, t.2.1⟩, b, t.2.2]
      rfl
    have ask' : askB a0 (turnN (a1_0 * a0) a1_1) (turnD (a1_0 * a0) a1_1) a1_0 a1_1 = true := by
      unfold askB seenB
      rw [decide_eq_true ⟨t.1, t.2.1⟩, b, t.2.2]
      rfl
    have tru : trueB a0 a1_0 a1_1 (turnN (a1_0 * a0) a1_1) (turnD (a1_0 * a0) a1_1) = true := by simp [trueB]
    have sn : seenB a1_0 a1_1 (turnN (a1_0 * a0) a1_1) (turnD (a1_0 * a0) a1_1) = true := by
      unfold seenB
      rw [t.2.2, b]
      rfl
    have bk : trueB a0 (turnN (a1_0 * a0) a1_1) (turnD (a1_0 * a0) a1_1) a1_0 a1_1 = exB a0 a1_0 a1_1 := by
      unfold exB
      rw [dl, Bool.true_and]
    have i1 := IsTrueSeen_impl a0 a1_0 a1_1 (turnN (a1_0 * a0) a1_1) (turnD (a1_0 * a0) a1_1)
    unfold isTrueP at i1
    rw [ask, tru] at i1
    have i2 := TimeSeen_impl a0 a1_0 a1_1 (turnN (a1_0 * a0) a1_1) (turnD (a1_0 * a0) a1_1)
    unfold timeSeenP at i2
    rw [if_pos ask, if_pos tru] at i2
    have i3 := ExchangeSeen_impl a1_0 a1_1 (turnN (a1_0 * a0) a1_1) (turnD (a1_0 * a0) a1_1)
    unfold exSeenP at i3
    rw [if_pos sn] at i3
    have i4 := IsTrueSeen_impl a0 (turnN (a1_0 * a0) a1_1) (turnD (a1_0 * a0) a1_1) a1_0 a1_1
    unfold isTrueP at i4
    rw [ask', bk, Bool.true_and] at i4
    have i5 := TimesAlike_impl a0 a1_0 a1_1 (turnN (a1_0 * a0) a1_1) (turnD (a1_0 * a0) a1_1)
    unfold alikeP alikeL at i5
    rw [if_pos ask, if_pos tru, bk] at i5
    have i6 := IsSeen_ev a1_0 a1_1 (turnN (a1_0 * a0) a1_1) (turnD (a1_0 * a0) a1_1)
    rw [sn] at i6
    by_cases ok : exB a0 a1_0 a1_1 = true
    · rw [if_pos ok]
      rw [ok] at i4
      rw [if_pos ok] at i5
      have tf := two_facts (p := ⟨a1_0, a1_1⟩) (q := ⟨turnN (a1_0 * a0) a1_1, turnD (a1_0 * a0) a1_1⟩) t.2.2 b
      have i5' : Ev (fun k => impl_TimesAlike.f k a0 a1_0 a1_1 (turnN (a1_0 * a0) a1_1) (turnD (a1_0 * a0) a1_1)) (two ⟨a1_0, a1_1⟩ ⟨turnN (a1_0 * a0) a1_1, turnD (a1_0 * a0) a1_1⟩, true) := i5
      generalize hT : two ⟨a1_0, a1_1⟩ ⟨turnN (a1_0 * a0) a1_1, turnD (a1_0 * a0) a1_1⟩ = T at i5' tf
      have ln2 : T.length ≤ 1000000 := by
        have := tf.2.2.2
        split at this <;> omega
      have h1 := wHas_ev T a1_0 a1_1 ln2
      have h2 := wHas_ev T (turnN (a1_0 * a0) a1_1) (turnD (a1_0 * a0) a1_1) ln2
      rw [tf.2.1] at h1
      rw [tf.2.2.1] at h2
      refine ev_t (by first | rfl | trivial) (ev_succ ?_)
      simp only [laws_FnSeenTrueOfAll.j0]
      refine ev_f (by simp) (ev_t (by first | rfl | trivial) (Ev.bind i1 (Ev.bind i2 (Ev.bind i3 (Ev.bind i4 (Ev.bind i5' (Ev.bind i6 (ev_t (by first | rfl | trivial) (ev_t (by first | rfl | trivial) (ev_t (by first | rfl | trivial) (ev_t (by first | rfl | trivial) (ev_f (by simp) (ev_t (by first | rfl | trivial) (ev_t (by first | rfl | trivial) (ev_f (by simp) (ev_t (by first | rfl | trivial) (Ev.bind h1 (ev_t (by first | rfl | trivial) (Ev.bind tf.1 ?_)))))))))))))))))))
      refine ev_succ ?_
      simp only [laws_FnSeenTrueOfAll.j1]
      refine ev_f (by simp) (ev_t (by first | rfl | trivial) (ev_succ ?_))
      simp only [laws_FnSeenTrueOfAll.j2]
      have j3 := j3_yes ok a2 a3 a4_0 a4_1 a4_2 a4_3 a5_0 a5_1 a5_2 a5_3
      have l2 := tf.2.2.2
      dsimp only at l2
      by_cases sm : turnN (a1_0 * a0) a1_1 = a1_0 ∧ turnD (a1_0 * a0) a1_1 = a1_1
      · rw [if_pos sm] at l2
        exact ev_f (by simp [sm.1, sm.2]) (ev_t l2 (ev_t (by first | rfl | trivial) (Ev.bind h2 (ev_t (by first | rfl | trivial) j3))))
      · rw [if_neg sm] at l2
        refine ev_t ?_ (ev_t l2 (ev_t (by first | rfl | trivial) (Ev.bind h2 (ev_t (by first | rfl | trivial) j3))))
        rw [Bool.or_eq_true, Bool.not_eq_true', Bool.not_eq_true', beq_eq_false_iff_ne, beq_eq_false_iff_ne]
        by_cases s1 : turnN (a1_0 * a0) a1_1 = a1_0
        · exact Or.inr (fun z => sm ⟨s1, z⟩)
        · exact Or.inl s1
    · rw [if_neg ok]
      rw [Bool.not_eq_true] at ok
      rw [ok] at i4
      rw [if_neg (by rw [ok]; simp)] at i5
      have i5' : Ev (fun k => impl_TimesAlike.f k a0 a1_0 a1_1 (turnN (a1_0 * a0) a1_1) (turnD (a1_0 * a0) a1_1)) ([(⟨a1_0, a1_1⟩ : S23)], true) := i5
      have h1 := wHas_ev [(⟨a1_0, a1_1⟩ : S23)] a1_0 a1_1 (by simp)
      rw [show hasB [(⟨a1_0, a1_1⟩ : S23)] a1_0 a1_1 = true by simp [hasB]] at h1
      refine ev_f (by simp) (ev_succ ?_)
      simp only [laws_FnSeenTrueOfAll.j0]
      refine ev_f (by simp) (ev_t (by first | rfl | trivial) (Ev.bind i1 (Ev.bind i2 (Ev.bind i3 (Ev.bind i4 (Ev.bind i5' (Ev.bind i6 (ev_t (by first | rfl | trivial) (ev_t (by first | rfl | trivial) (ev_t (by first | rfl | trivial) (ev_t (by first | rfl | trivial) (ev_f (by simp) (ev_t (by first | rfl | trivial) (ev_t (by first | rfl | trivial) (ev_f (by simp) (ev_t (by first | rfl | trivial) (Ev.bind h1 (ev_t (by first | rfl | trivial) (Ev.bind (rises_one ⟨a1_0, a1_1⟩ t.2.2) ?_)))))))))))))))))))
      refine ev_succ ?_
      simp only [laws_FnSeenTrueOfAll.j1]
      refine ev_f (by simp) (ev_f (by simp) (ev_succ ?_))
      simp only [laws_FnSeenTrueOfAll.j2]
      exact ev_f (by simp) (ev_t (by first | rfl | trivial) (ev_f (by simp) (j3_no _ _ _ _ _ _ _ _ _ _ _ _ _ _ _)))
  · have ok : exB a0 a1_0 a1_1 = false := by
      rw [Bool.not_eq_true] at dl
      unfold exB
      rw [dl, Bool.false_and]
    rw [if_neg dl, if_neg (by rw [ok]; simp)]
    refine ev_f (by simp) (ev_succ ?_)
    simp only [laws_FnSeenTrueOfAll.j0]
    exact ev_f (by simp) (ev_f (by simp) (j3_no _ _ _ _ _ _ _ _ _ _ _ _ _ _ _))

end Go.Proofs.Ytkfcaldjepmffaa.Pure.FnSeenTrueOfAllWay
