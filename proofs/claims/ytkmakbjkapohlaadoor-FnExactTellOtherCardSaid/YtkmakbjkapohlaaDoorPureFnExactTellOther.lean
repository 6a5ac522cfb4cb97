/- FnExactTellOther: the law's printed function answers true at every input. -/
import Derived.Test.YtkmakbjkapohlaaDoorGFnExactTellOtherx4
import Derived.Test.YtkmakbjkapohlaaDoorLib
import Derived.Test.YtkmakbjkapohlaaDoorLibRows
import Derived.Test.YtkmakbjkapohlaaDoorLibGcd
import Derived.Test.YtkmakbjkapohlaaDoorLibTurn
set_option linter.unusedVariables false
set_option linter.unusedSimpArgs false
namespace Go.Proofs.YtkmakbjkapohlaaDoor.Pure.FnExactTellOtherWay
open Go.RowKit Go.Proofs.YtkmakbjkapohlaaDoor.GFnExactTellOther Go.Proofs.YtkmakbjkapohlaaDoorW.PrintWords Go.Proofs.YtkmakbjkapohlaaDoorW.PrintLast Go.Proofs.YtkmakbjkapohlaaDoorW.PrintMore Go.Proofs.YtkmakbjkapohlaaDoor.Lib

/-! within -/
theorem within_eq (a b c : Int) : impl_within.f a b c = some (decide (b ≤ a ∧ a ≤ c)) := within_gen (fun _ _ _ => rfl) a b c

/-! isDial -/
theorem isDial_eq (n : Int) : impl_isDial.f n = some (decide (2 ≤ n ∧ n ≤ 24)) := by
  unfold impl_isDial.f
  rw [within_eq, Option.bind_some]

/-! gcd -/
theorem gcd_ev (a b : Int) (ha : a.natAbs ≤ 4611686018427387904) (hb : b.natAbs ≤ 4611686018427387904) : Ev (fun k => impl_gcd.f k a b) (Int.gcd a b : Int) := by
  unfold impl_gcd.f
  exact gcd_gen (l0 := impl_gcd.l0) (fun _ _ _ => by simp only [impl_gcd.l0]) b.natAbs a b ha hb (Nat.le_refl _)

/-! IsTurn -/
theorem isTurn_ev (n d : Int) : Ev (fun k => impl_IsTurn.f k n d) (turnB n d) := by
  unfold impl_IsTurn.f turnB
  refine ev_p (within_eq _ _ _) ?_
  by_cases h : 1 ≤ d ∧ d ≤ 1000000
  · refine ev_t (decide_eq_true h) (ev_p (within_eq _ _ _) ?_)
    rw [w64 (by omega) (by omega), decide_eq_true h]
    by_cases g : 0 ≤ n ∧ n ≤ d - 1
    · refine ev_t (decide_eq_true g) (Ev.bind (gcd_ev n d (by omega) (by omega)) (ev_con ?_))
      rw [decide_eq_true g]
      simp only [Bool.true_and]
      congr 1
      rw [Bool.eq_iff_iff, beq_iff_eq, decide_eq_true_iff]
      omega
    · rw [decide_eq_false g]
      exact ev_f (by simp) (ev_now _)
  · refine ev_f (by simp only [decide_eq_true_eq]; exact h) ?_
    rw [decide_eq_false h]
    exact ev_now _

/-! isTime -/
theorem isTime_ev (h n d : Int) : Ev (fun k => impl_isTime.f k h n d) (decide (2 ≤ h ∧ h ≤ 24) && turnB n d) := by
  unfold impl_isTime.f
  refine ev_p (isDial_eq h) ?_
  by_cases c : 2 ≤ h ∧ h ≤ 24
  · refine ev_t (decide_eq_true c) (Ev.bind (isTurn_ev n d) (ev_con ?_))
    rw [decide_eq_true c, Bool.true_and]
  · refine ev_f (by simp only [decide_eq_true_eq]; exact c) ?_
    rw [decide_eq_false c]
    exact ev_now _

/-! l1In -/
theorem l1In_eq (a b c : Int) : spec_l1In.f a b c = some (decide (b ≤ a ∧ a ≤ c)) := within_gen (fun _ _ _ => rfl) a b c

/-! diHours -/
theorem diHours_eq (n : Int) : spec_diHours.f n = some (decide (2 ≤ n ∧ n ≤ 24)) := by
  unfold spec_diHours.f
  rw [l1In_eq, Option.bind_some]

/-! diCommon -/
theorem diCommon_ev (a b : Int) (ha : 0 ≤ a) (hb : 0 ≤ b) : Ev (fun k => spec_diCommon.f k a b) (Int.gcd a b : Int) := by
  unfold spec_diCommon.f
  exact common_gen (l0 := spec_diCommon.l0) (fun _ _ _ => by simp only [spec_diCommon.l0]) b.natAbs a b ha hb (Nat.le_refl _)

/-! diGood -/
theorem diGood_ev (n d : Int) : Ev (fun k => spec_diGood.f k n d) (turnB n d) := by
  unfold spec_diGood.f turnB
  refine ev_p (l1In_eq _ _ _) ?_
  by_cases h : 1 ≤ d ∧ d ≤ 1000000
  · refine ev_t (decide_eq_true h) (ev_p (l1In_eq _ _ _) ?_)
    rw [w64 (by omega) (by omega), decide_eq_true h]
    by_cases g : 0 ≤ n ∧ n ≤ d - 1
    · refine ev_t (decide_eq_true g) (Ev.bind (diCommon_ev n d (by omega) (by omega)) (ev_con ?_))
      rw [decide_eq_true g]
      simp only [Bool.true_and]
      congr 1
      rw [Bool.eq_iff_iff, beq_iff_eq, decide_eq_true_iff]
      omega
    · rw [decide_eq_false g]
      exact ev_f (by simp) (ev_now _)
  · refine ev_f (by simp only [decide_eq_true_eq]; exact h) ?_
    rw [decide_eq_false h]
    exact ev_now _

/-! diAsked -/
theorem diAsked_ev (h n d : Int) : Ev (fun k => spec_diAsked.f k h n d) (decide (2 ≤ h ∧ h ≤ 24) && turnB n d) := by
  unfold spec_diAsked.f
  refine ev_p (diHours_eq h) ?_
  by_cases c : 2 ≤ h ∧ h ≤ 24
  · refine ev_t (decide_eq_true c) (Ev.bind (diGood_ev n d) (ev_con ?_))
    rw [decide_eq_true c, Bool.true_and]
  · refine ev_f (by simp only [decide_eq_true_eq]; exact c) ?_
    rw [decide_eq_false c]
    exact ev_now _

/-! part -/
theorem floorDiv_eq {n d : Int} (hd : 1 ≤ d) (hd' : d ≤ 1000000000000000000) (hn : -1000000000000000000 ≤ n) (hn' : n ≤ 1000000000000000000) : ∃ q, impl_floorDiv.f n d = some (q, n % d) := by
  unfold impl_floorDiv.f
  have r0 := Int.emod_nonneg n (show d ≠ 0 by omega)
  have r1 := Int.emod_lt_of_pos n (show 0 < d by omega)
  rw [if_neg (by omega)]
  have e := Int.tmod_eq_emod (a := n) (b := d)
  have na : (d.natAbs : Int) = d := Int.natAbs_of_nonneg (by omega)
  by_cases c : Int.tmod n d < 0
  · rw [if_pos c]
    have e1 : wrap64 (Int.tmod n d + d) = n % d := by
      split at e
      · omega
      · rw [w64 (by omega) (by omega)]
        omega
    rw [e1]
    exact ⟨_, rfl⟩
  · rw [if_neg c]
    have e1 : Int.tmod n d = n % d := by
      split at e <;> omega
    rw [e1]
    exact ⟨_, rfl⟩
theorem part_ev {n d : Int} (hd : 1 ≤ d) (hd' : d ≤ 1000000000000000000) (hn : -1000000000000000000 ≤ n) (hn' : n ≤ 1000000000000000000) : Ev (fun k => impl_part.f k n d) (turnN n d, turnD n d) := by
  obtain ⟨q, hq⟩ := floorDiv_eq hd hd' hn hn'
  have r0 := Int.emod_nonneg n (show d ≠ 0 by omega)
  have r1 := Int.emod_lt_of_pos n (show 0 < d by omega)
  have g := gcd_pos (a := n % d) (b := d) (by omega)
  have b1 := low_bdN (n % d) d
  have b2 := low_bdD (n % d) d
  unfold impl_part.f turnN turnD
  refine ev_p hq (Ev.bind (gcd_ev (n % d) d (by omega) (by omega)) (ev_f (by omega) ?_))
  dsimp only
  rw [low_tdiv, low_tdiv', w64 (by omega) (by omega), w64 (by omega) (by omega)]
  exact ev_now _

/-! numP -/
def numP (n : Int) : ByteArray := ⟨(Go.Lib.itoa n).toArray⟩
theorem dec_len : ∀ (m u : Nat), u ≤ m → (Go.Lib.decDigits u).length ≤ u + 1 := by
  intro m
  induction m with
  | zero =>
    intro u h
    rw [show u = 0 by omega, Go.Lib.decDigits_one (by omega)]
    simp
  | succ m ih =>
    intro u h
    by_cases c : u < 10
    · rw [Go.Lib.decDigits_one c]
      simp
    · rw [Go.Lib.decDigits, dif_neg c, List.length_append]
      have := ih (u / 10) (by omega)
      simp only [List.length_cons, List.length_nil]
      omega
theorem itoa_nn {n : Int} (h : 0 ≤ n) : Go.Lib.itoa n = Go.Lib.decDigits n.toNat := by
  unfold Go.Lib.itoa
  rw [if_neg (by omega)]
theorem numP_sz {n : Int} (h : 0 ≤ n) (h' : n ≤ 1000000) : (numP n).size ≤ 1000001 := by
  have := dec_len n.toNat n.toNat (Nat.le_refl _)
  unfold numP
  show (Go.Lib.itoa n).toArray.size ≤ 1000001
  rw [List.size_toArray, itoa_nn h]
  omega
theorem numP_one {n : Int} (h : 0 ≤ n) (h' : n < 10) : strOfNums [(wrap64 (48 + n)) % 256] = numP n := by
  rw [w64 (by omega) (by omega)]
  unfold numP
  rw [itoa_nn h, Go.Lib.decDigits_one (by omega)]
  simp only [strOfNums, List.map_cons, List.map_nil]
  congr 2
  apply congrArg (fun x => [x])
  apply UInt8.toNat.inj
  simp
  omega
theorem numP_step {n : Int} (h : 10 ≤ n) : numP (n / 10) ++ strOfNums [(wrap64 (48 + Int.tmod n 10)) % 256] = numP n := by
  have e := tmod_e (a := n) (b := 10) (by omega)
  rw [e, numP_one (n := n % 10) (by omega) (by omega)]
  unfold numP
  rw [itoa_nn (n := n) (by omega), itoa_nn (n := n / 10) (by omega), itoa_nn (n := n % 10) (by omega), Go.Lib.decDigits_one (i := (n % 10).toNat) (by omega)]
  conv => rhs; rw [Go.Lib.decDigits, dif_neg (by omega)]
  rw [show (n / 10).toNat = n.toNat / 10 by omega, show (n % 10).toNat = n.toNat % 10 by omega]
  apply ByteArray.ext
  simp [ByteArray.data_append]
def twoP (n : Int) : ByteArray := if n < 10 then (⟨#[48]⟩ : ByteArray) ++ numP n else numP n
theorem szOneP (b : UInt8) : (⟨#[b]⟩ : ByteArray).size = 1 := rfl
theorem twoP_sz {n : Int} (h : 0 ≤ n) (h' : n ≤ 1000000) : (twoP n).size ≤ 1000002 := by
  have := numP_sz h h'
  unfold twoP
  split
  · rw [ByteArray.size_append, szOneP]
    omega
  · omega
theorem itoa_ev {n : Int} (h : 0 ≤ n) (h' : n ≤ 1000000) : Ev (fun k => strconv_Itoa.f k n) (numP n) := by
  unfold strconv_Itoa.f
  exact ev_t ⟨h, h'⟩ (ev_now _)
theorem l1Num_ev : ∀ (m : Nat) (n : Int), 0 ≤ n → n ≤ m → n ≤ 1000000 → Ev (fun k => spec_l1Num.f k n) (numP n) := by
  intro m
  induction m with
  | zero =>
    intro n h h' h2
    refine ev_succ ?_
    simp only [spec_l1Num.f]
    refine ev_t (by omega) ?_
    rw [numP_one h (by omega)]
    exact ev_now _
  | succ m ih =>
    intro n h h' h2
    refine ev_succ ?_
    simp only [spec_l1Num.f]
    by_cases c : n < 10
    · refine ev_t c ?_
      rw [numP_one h c]
      exact ev_now _
    · have e := tdiv_e (a := n) (b := 10) h
      refine ev_f c ?_
      rw [e, w64 (x := n / 10) (by omega) (by omega)]
      refine Ev.bind (ih (n / 10) (by omega) (by omega) (by omega)) (ev_p rfl (ev_t ?_ ?_))
      · have := numP_sz (n := n / 10) (by omega) (by omega)
        rw [strOfNums_size]
        simp only [List.length_cons, List.length_nil]
        omega
      · rw [numP_step (by omega)]
        exact ev_now _
theorem twoDigits_ev {n : Int} (h : 0 ≤ n) (h' : n ≤ 1000000) : Ev (fun k => impl_twoDigits.f k n) (twoP n) := by
  have z := numP_sz h h'
  unfold impl_twoDigits.f twoP
  by_cases c : n < 10
  · rw [if_pos c]
    exact ev_t c (Ev.bind (itoa_ev h h') (ev_t (by omega) (ev_now _)))
  · rw [if_neg c]
    exact ev_f c (Ev.bind (itoa_ev h h') (ev_now _))
theorem diTwo_ev {n : Int} (h : 0 ≤ n) (h' : n ≤ 1000000) : Ev (fun k => spec_diTwo.f k n) (twoP n) := by
  have z := numP_sz h h'
  unfold spec_diTwo.f twoP
  by_cases c : n < 10
  · rw [if_pos c]
    exact ev_t c (Ev.bind (l1Num_ev n.toNat n h (by omega) h') (ev_t (by omega) (ev_now _)))
  · rw [if_neg c]
    exact ev_f c (Ev.bind (l1Num_ev n.toNat n h (by omega) h') (ev_now _))

/-! diMake -/
def makeP (n d : Int) : Int × Int × Bool := if turnD n d > 1000000 then (0, 0, false) else (turnN n d, turnD n d, true)
theorem diMake_ev {n d : Int} (hd : 1 ≤ d) (hd' : d ≤ 1000000000000000000) (hn : -1000000000000000000 ≤ n) (hn' : n ≤ 1000000000000000000) : Ev (fun k => spec_diMake.f k n d) (makeP n d) := by
  have r0 := Int.emod_nonneg n (show d ≠ 0 by omega)
  have r1 := Int.emod_lt_of_pos n (show 0 < d by omega)
  have t0 := Int.lt_tmod_of_pos n (show 0 < d by omega)
  have t1 := Int.tmod_lt_of_pos n (show 0 < d by omega)
  have g := gcd_pos (a := n % d) (b := d) (by omega)
  have b1 := low_bdN (n % d) d
  have b2 := low_bdD (n % d) d
  have e : Int.tmod (wrap64 (Int.tmod n d + d)) d = n % d := by
    rw [w64 (by omega) (by omega), tmod_e (by omega), Int.add_emod_right]
    have := Int.dvd_self_sub_tmod (x := n) (m := d)
    exact (Int.emod_eq_emod_iff_emod_sub_eq_zero.2 (Int.emod_eq_zero_of_dvd this)).symm
  unfold spec_diMake.f makeP
  refine ev_f (by omega) ?_
  rw [e]
  refine Ev.bind (diCommon_ev (n % d) d (by omega) (by omega)) (ev_f (by omega) ?_)
  rw [low_tdiv, low_tdiv', w64 (x := lowN (n % d) d) (by omega) (by omega), w64 (x := lowD (n % d) d) (by omega) (by omega)]
  by_cases c : turnD n d > 1000000
  · refine ev_t c ?_
    rw [if_pos c]
    exact ev_now _
  · refine ev_f c ?_
    rw [if_neg c]
    exact ev_now _

/-! diTimes -/
theorem diTimes_ev {n d m : Int} (h1 : 1 ≤ d) (h2 : d ≤ 1000000) (h3 : 0 ≤ n) (h4 : n < d) (h5 : -10000000 ≤ m) (h6 : m ≤ 10000000) : Ev (fun k => spec_diTimes.f k n d m) (turnN (n * m) d, turnD (n * m) d) := by
  have b : -10000000000000 ≤ n * m ∧ n * m ≤ 10000000000000 := by
    rcases Int.le_total 0 m with c | c
    · have := mul_bd (a := n) (b := m) (A := 1000000) (B := 10000000) h3 (by omega) c h6
      omega
    · have := mul_bd (a := n) (b := -m) (A := 1000000) (B := 10000000) h3 (by omega) (by omega) (by omega)
      rw [Int.mul_neg] at this
      omega
  have t := turn_bd (n := n * m) (d := d) h1
  have mk := diMake_ev (n := n * m) (d := d) h1 (by omega) (by omega) (by omega)
  unfold makeP at mk
  rw [if_neg (by omega)] at mk
  unfold spec_diTimes.f
  rw [w64 (by omega) (by omega)]
  exact Ev.bind mk (ev_now _)

/-! timeP -/
def timeP (H M S a b : Int) : ByteArray :=
  if a > 0 then (((((twoP H ++ (⟨#[58]⟩ : ByteArray)) ++ twoP M) ++ (⟨#[58]⟩ : ByteArray)) ++ twoP S) ++ ((((⟨#[43]⟩ : ByteArray) ++ numP a) ++ (⟨#[47]⟩ : ByteArray)) ++ numP b))
  else ((((twoP H ++ (⟨#[58]⟩ : ByteArray)) ++ twoP M) ++ (⟨#[58]⟩ : ByteArray)) ++ twoP S)
theorem time_div {n h d : Int} (hd : 1 ≤ d) (hn : 0 ≤ n) (hh : 0 ≤ h) :
    n * h * 3600 / d / 3600 = n * h * 60 / d / 60 ∧ n * h * 3600 / d / 60 % 60 = n * h * 60 / d % 60 ∧ n * h * 3600 / d % 60 = turnN (n * h * 60) d * 60 / turnD (n * h * 60) d ∧ 0 ≤ n * h * 60 / d := by
  have g := gcd_pos (a := n * h * 60 % d) (b := d) (by omega)
  have e1 := low_num (n * h * 60 % d) d
  have e2 := low_den (n * h * 60 % d) d
  have m0 : 0 ≤ n * h := Int.mul_nonneg hn hh
  have e : n * h * 3600 = 60 * (n * h * 60 % d) + d * (60 * (n * h * 60 / d)) := by
    have := Int.emod_add_mul_ediv (n * h * 60) d
    have q : d * (60 * (n * h * 60 / d)) = 60 * (d * (n * h * 60 / d)) := by rw [Int.mul_left_comm]
    omega
  have s : n * h * 3600 / d = 60 * (n * h * 60 % d) / d + 60 * (n * h * 60 / d) := by
    rw [e, Int.add_mul_ediv_left _ _ (by omega)]
  have r0 := Int.emod_nonneg (n * h * 60) (show d ≠ 0 by omega)
  have r1 := Int.emod_lt_of_pos (n * h * 60) (show 0 < d by omega)
  have f0 : 0 ≤ 60 * (n * h * 60 % d) / d := Int.ediv_nonneg (by omega) (by omega)
  have f1 : 60 * (n * h * 60 % d) / d < 60 := Int.ediv_lt_of_lt_mul (by omega) (by omega)
  have t : turnN (n * h * 60) d * 60 / turnD (n * h * 60) d = 60 * (n * h * 60 % d) / d := by
    unfold turnN turnD
    have := Int.mul_ediv_mul_of_pos_left (lowN (n * h * 60 % d) d * 60) (lowD (n * h * 60 % d) d) (show 0 < (Int.gcd (n * h * 60 % d) d : Int) by omega)
    rw [e2, Int.mul_right_comm, e1] at this
    rw [← this, Int.mul_comm]
  have q0 : 0 ≤ n * h * 60 / d := Int.ediv_nonneg (by omega) (by omega)
  rw [t, s]
  refine ⟨?_, ?_, ?_, q0⟩ <;> omega
theorem turn_step {x d m : Int} (hd : 1 ≤ d) (hm : 1 ≤ m) : turnN (turnN x d * m) (turnD x d) = turnN (x * m) d ∧ turnD (turnN x d * m) (turnD x d) = turnD (x * m) d := by
  have g := gcd_pos (a := x % d) (b := d) (by omega)
  have e1 := low_num (x % d) d
  have e2 := low_den (x % d) d
  have r : (lowN (x % d) d * m) % lowD (x % d) d * (Int.gcd (x % d) d : Int) = (x * m) % d := by
    have q := Int.mul_emod_mul_of_pos (lowN (x % d) d * m) (lowD (x % d) d) (show 0 < (Int.gcd (x % d) d : Int) by omega)
    rw [Int.mul_comm _ (Int.gcd (x % d) d : Int), ← q, Int.mul_comm (Int.gcd (x % d) d : Int) (lowD (x % d) d), e2, ← Int.mul_assoc, Int.mul_comm (Int.gcd (x % d) d : Int) (lowN (x % d) d), e1, Int.mul_emod (x % d) m d, Int.emod_emod, ← Int.mul_emod]
  have s := low_scale (x := (lowN (x % d) d * m) % lowD (x % d) d) (y := lowD (x % d) d) g
  rw [r, e2] at s
  unfold turnN turnD
  exact ⟨s.1.symm, s.2.symm⟩
theorem diText_ev {h n d : Int} (hh : 2 ≤ h) (hh' : h ≤ 24) (t : turnB n d = true) : Ev (fun k => spec_diText.f k h n d) (timeP (n * h * 3600 / d / 3600) (n * h * 3600 / d / 60 % 60) (n * h * 3600 / d % 60) (turnN (n * (h * 3600)) d) (turnD (n * (h * 3600)) d)) := by
  have b := turnB_of t
  have m := mul_bd (a := n) (b := h) (A := 1000000) (B := 24) (by omega) (by omega) (by omega) hh'
  have lt : n * h * 3600 / d < 86400 := by
    have : n * h * 3600 < 86400 * d := by
      have a1 : n * h ≤ (d - 1) * 24 := Int.mul_le_mul (by omega) hh' (by omega) (by omega)
      omega
    exact Int.ediv_lt_of_lt_mul (by omega) this
  have ge : 0 ≤ n * h * 3600 / d := Int.ediv_nonneg (by omega) (by omega)
  have tb := turn_bd (n := n * (h * 3600)) (d := d) (by omega)
  have z1 := twoP_sz (n := n * h * 3600 / d / 3600) (by omega) (by omega)
  have z2 := twoP_sz (n := n * h * 3600 / d / 60 % 60) (by omega) (by omega)
  have z3 := twoP_sz (n := n * h * 3600 / d % 60) (by omega) (by omega)
  have z4 := numP_sz (n := turnN (n * (h * 3600)) d) (by omega) (by omega)
  have z5 := numP_sz (n := turnD (n * (h * 3600)) d) (by omega) (by omega)
  unfold spec_diText.f timeP
  refine ev_f (by omega) ?_
  rw [w64 (x := n * h) (by omega) (by omega), w64 (x := n * h * 3600) (by omega) (by omega), tdiv_e (a := n * h * 3600) (by omega), w64 (x := n * h * 3600 / d) (by omega) (by omega), tdiv_e (a := n * h * 3600 / d) ge, tdiv_e (a := n * h * 3600 / d) ge, tmod_e (a := n * h * 3600 / d) ge, w64 (x := n * h * 3600 / d / 3600) (by omega) (by omega), w64 (x := n * h * 3600 / d / 60) (by omega) (by omega), tmod_e (a := n * h * 3600 / d / 60) (by omega), w64 (x := h * 3600) (by omega) (by omega)]
  refine Ev.bind (diTwo_ev (by omega) (by omega)) (ev_t (by omega) (Ev.bind (diTwo_ev (by omega) (by omega)) (ev_t ?_ (ev_t ?_ (Ev.bind (diTwo_ev (by omega) (by omega)) (ev_t ?_ (Ev.bind (diTimes_ev (by omega) (by omega) (by omega) (by omega) (by omega) (by omega)) ?_)))))))
  · simp only [ByteArray.size_append, szOneP]; omega
  · simp only [ByteArray.size_append, szOneP]; omega
  · simp only [ByteArray.size_append, szOneP]; omega
  · dsimp only
    by_cases c : turnN (n * (h * 3600)) d > 0
    · rw [if_pos c]
      refine ev_t c (Ev.bind (l1Num_ev (turnN (n * (h * 3600)) d).toNat _ (by omega) (by omega) (by omega)) (ev_t (by omega) (ev_t ?_ (Ev.bind (l1Num_ev (turnD (n * (h * 3600)) d).toNat _ (by omega) (by omega) (by omega)) (ev_t ?_ (ev_t ?_ (ev_now _)))))))
      · simp only [ByteArray.size_append, szOneP]; omega
      · simp only [ByteArray.size_append, szOneP]; omega
      · simp only [ByteArray.size_append, szOneP]; omega
    · rw [if_neg c]
      exact ev_f c (ev_now _)

/-! diText -/
/-! TimeText -/
def tellP (h n d : Int) : ByteArray × Bool :=
  if (2 ≤ h ∧ h ≤ 24) ∧ turnB n d = true then (timeP (n * h * 3600 / d / 3600) (n * h * 3600 / d / 60 % 60) (n * h * 3600 / d % 60) (turnN (n * (h * 3600)) d) (turnD (n * (h * 3600)) d), true) else (⟨#[]⟩, false)
theorem specTime_ev (h n d : Int) : Ev (fun k => spec_TimeText.f k h n d) (tellP h n d) := by
  unfold spec_TimeText.f tellP
  refine Ev.bind (diAsked_ev h n d) ?_
  by_cases c : (2 ≤ h ∧ h ≤ 24) ∧ turnB n d = true
  · rw [if_pos c]
    refine ev_t (by rw [decide_eq_true c.1, c.2]; rfl) (Ev.bind (diText_ev c.1.1 c.1.2 c.2) (ev_now _))
  · rw [if_neg c]
    refine ev_f ?_ (ev_now _)
    intro z
    simp only [Bool.and_eq_true, decide_eq_true_eq] at z
    exact c z
theorem split_ev {h n d : Int} (hh : 2 ≤ h) (hh' : h ≤ 24) (t : turnB n d = true) : Ev (fun k => impl_split.f k h n d) (n * h * 60 / d / 60, n * h * 60 / d % 60, turnN (n * h * 60) d, turnD (n * h * 60) d) := by
  have b := turnB_of t
  have m := mul_bd (a := n) (b := h) (A := 1000000) (B := 24) (by omega) (by omega) (by omega) hh'
  have ge : 0 ≤ n * h * 60 / d := Int.ediv_nonneg (by omega) (by omega)
  have le := div_le (a := n * h * 60) (b := d) (by omega) (by omega)
  unfold impl_split.f
  refine ev_f (by omega) ?_
  rw [w64 (x := n * h) (by omega) (by omega), w64 (x := n * h * 60) (by omega) (by omega), tdiv_e (a := n * h * 60) (by omega), w64 (x := n * h * 60 / d) (by omega) (by omega), tdiv_e (a := n * h * 60 / d) ge, tmod_e (a := n * h * 60 / d) ge, w64 (x := n * h * 60 / d / 60) (by omega) (by omega)]
  exact Ev.bind (part_ev (by omega) (by omega) (by omega) (by omega)) (ev_now _)
theorem implTime_ev (h n d : Int) : Ev (fun k => impl_TimeText.f k h n d) (tellP h n d) := by
  unfold impl_TimeText.f tellP
  refine Ev.bind (isTime_ev h n d) ?_
  by_cases c : (2 ≤ h ∧ h ≤ 24) ∧ turnB n d = true
  · rw [if_pos c]
    refine ev_t (by rw [decide_eq_true c.1, c.2]; rfl) ?_
    have b := turnB_of c.2
    have m := mul_bd (a := n) (b := h) (A := 1000000) (B := 24) (by omega) (by omega) (by omega) c.1.2
    have lt : n * h * 3600 / d < 86400 := by
      have : n * h * 3600 < 86400 * d := by
        have a1 : n * h ≤ (d - 1) * 24 := Int.mul_le_mul (by omega) c.1.2 (by omega) (by omega)
        omega
      exact Int.ediv_lt_of_lt_mul (by omega) this
    have ge : 0 ≤ n * h * 3600 / d := Int.ediv_nonneg (by omega) (by omega)
    obtain ⟨d1, d2, d3, q0⟩ := time_div (n := n) (h := h) (d := d) (by omega) (by omega) (by omega)
    have tb := turn_bd (n := n * h * 60) (d := d) (by omega)
    obtain ⟨s1, s2⟩ := turn_step (x := n * h * 60) (d := d) (m := 60) (by omega) (by omega)
    rw [show n * h * 60 * 60 = n * (h * 3600) by rw [← Int.mul_assoc]; omega] at s1 s2
    have tb2 := turn_bd (n := n * (h * 3600)) (d := d) (by omega)
    rw [d1, d2, d3] 
    have z1 := twoP_sz (n := n * h * 60 / d / 60) (by omega) (by omega)
    have z2 := twoP_sz (n := n * h * 60 / d % 60) (by omega) (by omega)
    have z3 := twoP_sz (n := turnN (n * h * 60) d * 60 / turnD (n * h * 60) d) (by omega) (by omega)
    have z4 := numP_sz (n := turnN (n * (h * 3600)) d) (by omega) (by omega)
    have z5 := numP_sz (n := turnD (n * (h * 3600)) d) (by omega) (by omega)
    unfold timeP
    refine Ev.bind (split_ev c.1.1 c.1.2 c.2) ?_
    dsimp only
    refine Ev.bind (twoDigits_ev (by omega) (by omega)) (ev_t (by omega) (Ev.bind (twoDigits_ev (by omega) (by omega)) (ev_t ?_ (ev_t ?_ (ev_f (by omega) ?_)))))
    · simp only [ByteArray.size_append, szOneP]; omega
    · simp only [ByteArray.size_append, szOneP]; omega
    · rw [w64 (x := turnN (n * h * 60) d * 60) (by omega) (by omega), tdiv_e (a := turnN (n * h * 60) d * 60) (by omega), w64 (x := turnN (n * h * 60) d * 60 / turnD (n * h * 60) d) (by omega) (by omega)]
      refine Ev.bind (twoDigits_ev (by omega) (by omega)) (ev_t ?_ (Ev.bind (part_ev (by omega) (by omega) (by omega) (by omega)) ?_))
      · simp only [ByteArray.size_append, szOneP]; omega
      · rw [s1, s2]
        dsimp only
        by_cases g : turnN (n * (h * 3600)) d > 0
        · rw [if_pos g]
          refine ev_t g (Ev.bind (itoa_ev (by omega) (by omega)) (ev_t (by omega) (ev_t ?_ (Ev.bind (itoa_ev (by omega) (by omega)) (ev_t ?_ (ev_t ?_ (ev_now _)))))))
          · simp only [ByteArray.size_append, szOneP]; omega
          · simp only [ByteArray.size_append, szOneP]; omega
          · simp only [ByteArray.size_append, szOneP]; omega
        · rw [if_neg g]
          exact ev_f g (ev_now _)
  · rw [if_neg c]
    refine ev_f ?_ (ev_now _)
    intro z
    simp only [Bool.and_eq_true, decide_eq_true_eq] at z
    exact c z

/-! TellOther -/
def otherP (a b n d : Int) : ByteArray × Bool := if 2 ≤ a ∧ a ≤ 24 then tellP b n d else (⟨#[]⟩, false)
theorem tell_no {h n d : Int} (c : ¬ turnB n d = true) : tellP h n d = (⟨#[]⟩, false) := by
  unfold tellP
  rw [if_neg (fun z => c z.2)]
theorem TellOther_spec (a b n d : Int) : Ev (fun k => spec_TellOther.f k a b n d) (otherP a b n d) := by
  unfold spec_TellOther.f otherP
  refine Ev.bind (diAsked_ev a n d) ?_
  by_cases c : 2 ≤ a ∧ a ≤ 24
  · rw [if_pos c]
    by_cases t : turnB n d = true
    · exact ev_t (by rw [decide_eq_true c, t]; rfl) (Ev.bind (specTime_ev b n d) (ev_now _))
    · rw [tell_no t]
      refine ev_f ?_ (ev_now _)
      intro z
      simp only [Bool.and_eq_true] at z
      exact t z.2
  · rw [if_neg c]
    refine ev_f ?_ (ev_now _)
    intro z
    simp only [Bool.and_eq_true, decide_eq_true_eq] at z
    exact c z.1
theorem TellOther_impl (a b n d : Int) : Ev (fun k => impl_TellOther.f k a b n d) (otherP a b n d) := by
  unfold impl_TellOther.f otherP
  refine ev_p (isDial_eq a) ?_
  by_cases c : 2 ≤ a ∧ a ≤ 24
  · rw [if_pos c]
    exact ev_t (decide_eq_true c) (Ev.bind (implTime_ev b n d) (ev_now _))
  · rw [if_neg c]
    refine ev_f ?_ (ev_now _)
    simp only [decide_eq_true_eq]
    exact c

/-! the law -/
theorem law (a0 a1 a2_0 a2_1 : Int) : ∃ k, laws_FnExactTellOther.f k a0 a1 a2_0 a2_1 = some true := Ev.rounds (g := fun k => laws_FnExactTellOther.f k a0 a1 a2_0 a2_1) (by
  simp only [laws_FnExactTellOther.f, laws_toTurn.f, Option.bind_some]
  refine Ev.bind (TellOther_spec _ _ _ _) (Ev.bind (TellOther_impl _ _ _ _) ?_)
  exact ev_t rfl (ev_f (by simp) (ev_now true)))

end Go.Proofs.YtkmakbjkapohlaaDoor.Pure.FnExactTellOtherWay
