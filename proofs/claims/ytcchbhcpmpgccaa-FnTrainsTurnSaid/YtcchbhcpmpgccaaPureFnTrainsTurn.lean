/- FnTrainsTurn: the law's printed function answers true at every input. -/
import Derived.Test.YtcchbhcpmpgccaaGFnTrainsTurnx10
import Derived.Test.YtcchbhcpmpgccaaLib
import Derived.Test.YtcchbhcpmpgccaaLibRows
import Derived.Test.YtcchbhcpmpgccaaLibGcd
set_option linter.unusedVariables false
set_option linter.unusedSimpArgs false
namespace Go.Proofs.Ytcchbhcpmpgccaa.Pure.FnTrainsTurnWay
open Go.RowKit Go.Proofs.Ytcchbhcpmpgccaa.GFnTrainsTurn Go.Proofs.YtcchbhcpmpgccaaW.PrintWords Go.Proofs.YtcchbhcpmpgccaaW.PrintLast Go.Proofs.YtcchbhcpmpgccaaW.PrintMore Go.Proofs.Ytcchbhcpmpgccaa.Lib

/-! kPairs -/
theorem kPairs_ev (l : List S41) (h : l.length ≤ 1000000000) : Ev (fun k => laws_kPairs.f k l l) true := by
  unfold laws_kPairs.f
  refine ev_t rfl ?_
  have go : ∀ (d j : Nat), j + d = l.length → Ev (fun k => laws_kPairs.l0 k l l (l.length : Int) j) true := by
    intro d
    induction d with
    | zero =>
      intro j a
      refine ev_one fun k => ?_
      simp only [laws_kPairs.l0]
      rw [if_neg (by omega)]
    | succ d ih =>
      intro j a
      refine ev_succ ?_
      simp only [laws_kPairs.l0]
      refine ev_t (by omega) (ev_t (by omega) (ev_t (by omega) (ev_t (by omega) (ev_f (by simp) ?_))))
      rw [w64 (by omega) (by omega)]
      exact ih (j + 1) (by omega)
  exact go l.length 0 (by omega)

/-! trainB -/
def pairC (p : S41) : Bool := decide ((6 ≤ p.f0 ∧ p.f0 ≤ 120) ∧ (6 ≤ p.f1 ∧ p.f1 ≤ 120))
def trainB (l : List S41) : Bool := decide (l.length ≤ 4) && !(l.any fun p => !pairC p)
theorem trainB_of {l : List S41} (h : trainB l = true) : l.length ≤ 4 ∧ ∀ p ∈ l, (6 ≤ p.f0 ∧ p.f0 ≤ 120) ∧ (6 ≤ p.f1 ∧ p.f1 ≤ 120) := by
  unfold trainB at h
  simp only [Bool.and_eq_true, decide_eq_true_eq, Bool.not_eq_true', List.any_eq_false] at h
  refine ⟨h.1, fun p hp => ?_⟩
  have := h.2 p hp
  simp [pairC] at this
  omega
theorem rdP_get (l : List S41) (i : Nat) (h : i < l.length) : rd_T41 l i = l[i] := by
  unfold rd_T41
  rw [List.getD_eq_getElem?_getD, show ((i : Int)).toNat = i by omega, List.getElem?_eq_getElem h]
  rfl
theorem rdP_mem (l : List S41) (i : Int) (h0 : 0 ≤ i) (h : i < l.length) : rd_T41 l i ∈ l := by
  have e : rd_T41 l i = rd_T41 l (i.toNat : Nat) := by rw [show ((i.toNat : Nat) : Int) = i by omega]
  rw [e, rdP_get l i.toNat (by omega)]
  exact List.getElem_mem _

/-! IsTrain -/
theorem isTrain_ev (l : List S41) : Ev (fun k => impl_IsTrain.f k l) (trainB l) := ev_con rfl

/-! l1In -/
theorem l1In_eq (a b c : Int) : spec_l1In.f a b c = some (decide (b ≤ a ∧ a ≤ c)) := within_gen (fun _ _ _ => rfl) a b c

/-! geWheel -/
theorem geWheel_eq (n : Int) : spec_geWheel.f n = some (decide (6 ≤ n ∧ n ≤ 120)) := by
  unfold spec_geWheel.f
  rw [l1In_eq, Option.bind_some]

/-! gePair -/
theorem gePair_eq (a b : Int) : spec_gePair.f a b = some (decide ((6 ≤ a ∧ a ≤ 120) ∧ (6 ≤ b ∧ b ≤ 120))) := by
  unfold spec_gePair.f
  rw [geWheel_eq, Option.bind_some]
  by_cases h : 6 ≤ a ∧ a ≤ 120
  · rw [if_pos (by simpa using h), geWheel_eq, Option.bind_some]
    congr 1
    rw [Bool.eq_iff_iff, decide_eq_true_iff, decide_eq_true_iff]
    omega
  · rw [if_neg (by simpa using h)]
    congr 1
    symm
    exact decide_eq_false (by omega)

/-! geTrain -/
theorem geTrain_ev (l : List S41) : Ev (fun k => spec_geTrain.f k l) (trainB l) := by
  unfold spec_geTrain.f
  by_cases h : (l.length : Int) > 4
  · have e : trainB l = false := by
      unfold trainB
      rw [decide_eq_false (by omega)]
      rfl
    rw [e]
    exact ev_t h (ev_now _)
  · refine ev_f h ?_
    have e : trainB l = !(l.any fun p => !pairC p) := by
      unfold trainB
      rw [decide_eq_true (by omega)]
      rfl
    rw [e]
    have pr : ∀ p : S41, spec_gePair.f p.f0 p.f1 = some (pairC p) := fun p => gePair_eq p.f0 p.f1
    have go : ∀ (d j : Nat), j + d = l.length → Ev (fun k => spec_geTrain.l0 k l (l.length : Int) j) (!((l.drop j).any fun p => !pairC p)) := by
      intro d
      induction d with
      | zero =>
        intro j a
        refine ev_one fun k => ?_
        simp only [spec_geTrain.l0]
        rw [if_neg (by omega), List.drop_of_length_le (by omega)]
        rfl
      | succ d ih =>
        intro j a
        refine ev_succ ?_
        simp only [spec_geTrain.l0]
        refine ev_t (by omega) (ev_t (by omega) (ev_t (by omega) (ev_p (pr _) ?_)))
        rw [List.drop_eq_getElem_cons (show j < l.length by omega), rdP_get l j (by omega)]
        cases c : pairC l[j]
        · refine ev_f (by simp) ?_
          rw [List.any_cons, c]
          exact ev_now _
        · refine ev_t rfl ?_
          rw [w64 (by omega) (by omega), List.any_cons, c]
          exact ih (j + 1) (by omega)
    have := go l.length 0 (by omega)
    rw [List.drop_zero] at this
    exact this

/-! DirectionOf -/
def dirP (l : List S41) : Int := 1 - (2 * ((l.length : Int) % 2))
theorem DirectionOf_spec (l : List S41) : Ev (fun k => spec_DirectionOf.f k l) (if trainB l = true then (dirP l, true) else (0, false)) := by
  unfold spec_DirectionOf.f
  refine Ev.bind (geTrain_ev l) ?_
  by_cases h : trainB l = true
  · refine ev_t h ?_
    rw [if_pos h]
    exact ev_con rfl
  · refine ev_f h ?_
    rw [if_neg h]
    exact ev_now _
theorem DirectionOf_impl (l : List S41) : Ev (fun k => impl_DirectionOf.f k l) (if trainB l = true then (dirP l, true) else (0, false)) := by
  unfold impl_DirectionOf.f
  refine Ev.bind (isTrain_ev l) ?_
  by_cases h : trainB l = true
  · refine ev_t h ?_
    rw [if_pos h]
    exact ev_con rfl
  · refine ev_f h ?_
    rw [if_neg h]
    exact ev_now _

/-! TeethOf -/
def sumP : List S41 → Int
  | [] => 0
  | p :: l => p.f0 + p.f1 + sumP l

theorem teethS_go {l : List S41} (h : trainB l = true) : ∀ (d j : Nat) (s : Int), j + d = l.length → 0 ≤ s → s ≤ 1000 * j → Ev (fun k => spec_TeethOf.l0 k s l (l.length : Int) j) (s + sumP (l.drop j), true) := by
  have tb := trainB_of h
  intro d
  induction d with
  | zero =>
    intro j s a b c
    refine ev_one fun k => ?_
    simp only [spec_TeethOf.l0]
    rw [if_neg (by omega), List.drop_of_length_le (by omega)]
    simp [sumP]
  | succ d ih =>
    intro j s a b c
    refine ev_succ ?_
    simp only [spec_TeethOf.l0]
    refine ev_t (by omega) (ev_t (by omega) (ev_t (by omega) ?_))
    have m := tb.2 _ (rdP_mem l j (by omega) (by omega))
    rw [w64 (x := (j : Int) + 1) (by omega) (by omega), w64 (x := (rd_T41 l j).f0 + (rd_T41 l j).f1) (by omega) (by omega), w64 (by omega) (by omega)]
    have := ih (j + 1) (s + ((rd_T41 l j).f0 + (rd_T41 l j).f1)) (by omega) (by omega) (by omega)
    rw [List.drop_eq_getElem_cons (show j < l.length by omega)]
    rw [rdP_get l j (by omega)] at this ⊢
    have e : s + sumP (l[j] :: l.drop (j + 1)) = s + (l[j].f0 + l[j].f1) + sumP (l.drop (j + 1)) := by simp only [sumP]; omega
    rw [e]
    exact this

theorem teethI_go {l : List S41} (h : trainB l = true) : ∀ (d j : Nat) (s : Int), j + d = l.length → 0 ≤ s → s ≤ 1000 * j → Ev (fun k => impl_teeth.l0 k s l (l.length : Int) j) (s + sumP (l.drop j)) := by
  have tb := trainB_of h
  intro d
  induction d with
  | zero =>
    intro j s a b c
    refine ev_one fun k => ?_
    simp only [impl_teeth.l0]
    rw [if_neg (by omega), List.drop_of_length_le (by omega)]
    simp [sumP]
  | succ d ih =>
    intro j s a b c
    refine ev_succ ?_
    simp only [impl_teeth.l0]
    refine ev_t (by omega) (ev_t (by omega) (ev_t (by omega) ?_))
    have m := tb.2 _ (rdP_mem l j (by omega) (by omega))
    rw [w64 (x := (j : Int) + 1) (by omega) (by omega), w64 (x := (rd_T41 l j).f0 + (rd_T41 l j).f1) (by omega) (by omega), w64 (by omega) (by omega)]
    have := ih (j + 1) (s + ((rd_T41 l j).f0 + (rd_T41 l j).f1)) (by omega) (by omega) (by omega)
    rw [List.drop_eq_getElem_cons (show j < l.length by omega)]
    rw [rdP_get l j (by omega)] at this ⊢
    have e : s + sumP (l[j] :: l.drop (j + 1)) = s + (l[j].f0 + l[j].f1) + sumP (l.drop (j + 1)) := by simp only [sumP]; omega
    rw [e]
    exact this

theorem TeethOf_spec (l : List S41) : Ev (fun k => spec_TeethOf.f k l) (if trainB l = true then (sumP l, true) else (0, false)) := by
  unfold spec_TeethOf.f
  refine Ev.bind (geTrain_ev l) ?_
  by_cases h : trainB l = true
  · rw [if_pos h]
    have := teethS_go h l.length 0 0 (by omega) (by omega) (by omega)
    exact ev_t h (by simpa using this)
  · rw [if_neg h]
    exact ev_f h (ev_now _)
theorem teeth_ev {l : List S41} (h : trainB l = true) : Ev (fun k => impl_teeth.f k l) (sumP l) := by
  have := teethI_go h l.length 0 0 (by omega) (by omega) (by omega)
  unfold impl_teeth.f
  simpa using this
theorem TeethOf_impl (l : List S41) : Ev (fun k => impl_TeethOf.f k l) (if trainB l = true then (sumP l, true) else (0, false)) := by
  unfold impl_TeethOf.f
  refine Ev.bind (isTrain_ev l) ?_
  by_cases h : trainB l = true
  · rw [if_pos h]
    exact ev_t h (Ev.bind (teeth_ev h) (ev_now _))
  · rw [if_neg h]
    exact ev_f h (ev_now _)

/-! ratioP -/
def prN : List S41 → Int → Int
  | [], a => a
  | p :: l, a => prN l (a * p.f0)
def prD : List S41 → Int → Int
  | [], a => a
  | p :: l, a => prD l (a * p.f1)
def bdP : Nat → Int
  | 0 => 1
  | 1 => 120
  | 2 => 14400
  | 3 => 1728000
  | _ + 4 => 207360000
theorem bdP_step {j : Nat} (h : j < 4) : bdP j * 120 = bdP (j + 1) ∧ 1 ≤ bdP j ∧ bdP (j + 1) ≤ 207360000 := by
  match j, h with
  | 0, _ => decide
  | 1, _ => decide
  | 2, _ => decide
  | 3, _ => decide
theorem bdP_le (j : Nat) : bdP j ≤ 207360000 := by
  match j with
  | 0 => decide
  | 1 => decide
  | 2 => decide
  | 3 => decide
  | j + 4 => exact Int.le_refl _
theorem bd_mul {a p : Int} {j : Nat} (h : j < 4) (a1 : 1 ≤ a) (a2 : a ≤ bdP j) (p1 : 6 ≤ p) (p2 : p ≤ 120) : 1 ≤ a * p ∧ a * p ≤ bdP (j + 1) := by
  have m := mul_bd (a := a) (b := p) (A := bdP j) (B := 120) (by omega) a2 (by omega) p2
  have := mul_pos1 (a := a) (b := p) a1 (by omega)
  have := bdP_step h
  omega
theorem pr_bd {l : List S41} (h : trainB l = true) : ∀ (d j : Nat) (a b : Int), j + d = l.length → 1 ≤ a → a ≤ bdP j → 1 ≤ b → b ≤ bdP j → (1 ≤ prN (l.drop j) a ∧ prN (l.drop j) a ≤ 207360000) ∧ (1 ≤ prD (l.drop j) b ∧ prD (l.drop j) b ≤ 207360000) := by
  have tb := trainB_of h
  intro d
  induction d with
  | zero =>
    intro j a b e a1 a2 b1 b2
    have := bdP_le j
    rw [List.drop_of_length_le (by omega)]
    simp only [prN, prD]
    omega
  | succ d ih =>
    intro j a b e a1 a2 b1 b2
    have m := tb.2 _ (List.getElem_mem (show j < l.length by omega))
    have x := bd_mul (j := j) (by omega) a1 a2 m.1.1 m.1.2
    have y := bd_mul (j := j) (by omega) b1 b2 m.2.1 m.2.2
    rw [List.drop_eq_getElem_cons (show j < l.length by omega)]
    simp only [prN, prD]
    exact ih (j + 1) _ _ (by omega) x.1 x.2 y.1 y.2
theorem pr_bd0 {l : List S41} (h : trainB l = true) : (1 ≤ prN l 1 ∧ prN l 1 ≤ 207360000) ∧ (1 ≤ prD l 1 ∧ prD l 1 ≤ 207360000) := by
  have := pr_bd h l.length 0 1 1 (by omega) (by omega) (by decide) (by omega) (by decide)
  simpa using this

/-! gcd -/
theorem gcd_ev (a b : Int) (ha : a.natAbs ≤ 4611686018427387904) (hb : b.natAbs ≤ 4611686018427387904) : Ev (fun k => impl_gcd.f k a b) (Int.gcd a b : Int) := by
  unfold impl_gcd.f
  exact gcd_gen (l0 := impl_gcd.l0) (fun _ _ _ => by simp only [impl_gcd.l0]) b.natAbs a b ha hb (Nat.le_refl _)

/-! lowest -/
theorem lowest_ev (a b : Int) (ha : a.natAbs ≤ 4611686018427387904) (hb : b.natAbs ≤ 4611686018427387904) (h0 : b ≠ 0) : Ev (fun k => impl_lowest.f k a b) (lowN a b, lowD a b) := by
  unfold impl_lowest.f
  have g := gcd_pos (a := a) h0
  have n := low_bdN a b
  have d := low_bdD a b
  refine Ev.bind (gcd_ev a b ha hb) (ev_f (by omega) ?_)
  rw [low_tdiv, low_tdiv', w64 (by omega) (by omega), w64 (by omega) (by omega)]
  exact ev_now _

/-! diCommon -/
theorem diCommon_ev (a b : Int) (ha : 0 ≤ a) (hb : 0 ≤ b) : Ev (fun k => spec_diCommon.f k a b) (Int.gcd a b : Int) := by
  unfold spec_diCommon.f
  exact common_gen (l0 := spec_diCommon.l0) (fun _ _ _ => by simp only [spec_diCommon.l0]) b.natAbs a b ha hb (Nat.le_refl _)

/-! geRatio -/
theorem geRatio_go {l : List S41} (h : trainB l = true) : ∀ (d j : Nat) (a b : Int), j + d = l.length → 1 ≤ a → a ≤ bdP j → 1 ≤ b → b ≤ bdP j → Ev (fun k => spec_geRatio.l0 k a b l (l.length : Int) j) (lowN (prN (l.drop j) a) (prD (l.drop j) b), lowD (prN (l.drop j) a) (prD (l.drop j) b)) := by
  have tb := trainB_of h
  intro d
  induction d with
  | zero =>
    intro j a b e a1 a2 b1 b2
    have bl := bdP_le j
    refine ev_succ ?_
    simp only [spec_geRatio.l0]
    refine ev_f (by omega) ?_
    rw [List.drop_of_length_le (by omega)]
    simp only [prN, prD]
    have p := gcd_pos (a := a) (b := b) (by omega)
    have bn := low_bdN a b
    have bd := low_bdD a b
    refine Ev.bind (diCommon_ev a b (by omega) (by omega)) (ev_f (by omega) ?_)
    rw [low_tdiv, low_tdiv', w64 (by omega) (by omega), w64 (by omega) (by omega)]
    exact ev_now _
  | succ d ih =>
    intro j a b e a1 a2 b1 b2
    have m := tb.2 _ (List.getElem_mem (show j < l.length by omega))
    have x := bd_mul (j := j) (by omega) a1 a2 m.1.1 m.1.2
    have y := bd_mul (j := j) (by omega) b1 b2 m.2.1 m.2.2
    have bl := bdP_le (j + 1)
    refine ev_succ ?_
    simp only [spec_geRatio.l0]
    refine ev_t (by omega) (ev_t (by omega) (ev_t (by omega) ?_))
    rw [rdP_get l j (by omega), w64 (x := (j : Int) + 1) (by omega) (by omega), w64 (x := a * l[j].f0) (by omega) (by omega), w64 (x := b * l[j].f1) (by omega) (by omega), List.drop_eq_getElem_cons (show j < l.length by omega)]
    simp only [prN, prD]
    exact ih (j + 1) _ _ (by omega) x.1 x.2 y.1 y.2
def ratN (l : List S41) : Int := lowN (prN l 1) (prD l 1)
def ratD (l : List S41) : Int := lowD (prN l 1) (prD l 1)
theorem geRatio_ev {l : List S41} (h : trainB l = true) : Ev (fun k => spec_geRatio.f k l) (ratN l, ratD l) := by
  have := geRatio_go h l.length 0 1 1 (by omega) (by omega) (by decide) (by omega) (by decide)
  unfold spec_geRatio.f
  rw [List.drop_zero] at this
  exact this
theorem rat_bd {l : List S41} (h : trainB l = true) : (1 ≤ ratN l ∧ ratN l ≤ 207360000) ∧ (1 ≤ ratD l ∧ ratD l ≤ 207360000) := by
  have b := pr_bd0 h
  have p1 := low_posN b.1.1 b.2.1
  have p2 := low_posD (a := prN l 1) b.2.1
  have b1 := low_bdN (prN l 1) (prD l 1)
  have b2 := low_bdD (prN l 1) (prD l 1)
  unfold ratN ratD
  omega

/-! ratio -/
theorem ratio_go {l : List S41} (h : trainB l = true) : ∀ (d j : Nat) (a b : Int), j + d = l.length → 1 ≤ a → a ≤ bdP j → 1 ≤ b → b ≤ bdP j → Ev (fun k => impl_ratio.l0 k (lowN a b) (lowD a b) l (l.length : Int) j) (lowN (prN (l.drop j) a) (prD (l.drop j) b), lowD (prN (l.drop j) a) (prD (l.drop j) b)) := by
  have tb := trainB_of h
  intro d
  induction d with
  | zero =>
    intro j a b e a1 a2 b1 b2
    refine ev_one fun k => ?_
    simp only [impl_ratio.l0]
    rw [if_neg (by omega), List.drop_of_length_le (by omega)]
    rfl
  | succ d ih =>
    intro j a b e a1 a2 b1 b2
    have m := tb.2 _ (List.getElem_mem (show j < l.length by omega))
    have x := bd_mul (j := j) (by omega) a1 a2 m.1.1 m.1.2
    have y := bd_mul (j := j) (by omega) b1 b2 m.2.1 m.2.2
    have bl := bdP_le j
    have n1 := low_bdN a b
    have n2 := low_bdD a b
    have p1 := low_posN a1 b1
    have p2 := low_posD (a := a) b1
    have u := mul_bd (a := lowN a b) (b := l[j].f0) (A := 207360000) (B := 120) (by omega) (by omega) (by omega) (by omega)
    have v := mul_bd (a := lowD a b) (b := l[j].f1) (A := 207360000) (B := 120) (by omega) (by omega) (by omega) (by omega)
    have v1 := mul_pos1 (a := lowD a b) (b := l[j].f1) p2 (by omega)
    have st := low_step (n := a) (d := b) (p := l[j].f0) (q := l[j].f1) b1
    refine ev_succ ?_
    simp only [impl_ratio.l0]
    refine ev_t (by omega) (ev_t (by omega) (ev_t (by omega) ?_))
    rw [rdP_get l j (by omega), w64 (x := (j : Int) + 1) (by omega) (by omega), w64 (x := lowN a b * l[j].f0) (by omega) (by omega), w64 (x := lowD a b * l[j].f1) (by omega) (by omega), List.drop_eq_getElem_cons (show j < l.length by omega)]
    have lo := lowest_ev (lowN a b * l[j].f0) (lowD a b * l[j].f1) (by omega) (by omega) (by omega)
    rw [st.1, st.2] at lo
    refine Ev.bind lo ?_
    simp only [prN, prD]
    exact ih (j + 1) _ _ (by omega) x.1 x.2 y.1 y.2
theorem ratio_ev {l : List S41} (h : trainB l = true) : Ev (fun k => impl_ratio.f k l) (ratN l, ratD l) := by
  have := ratio_go h l.length 0 1 1 (by omega) (by omega) (by decide) (by omega) (by decide)
  have e1 : lowN 1 1 = 1 := by decide
  have e2 : lowD 1 1 = 1 := by decide
  rw [e1, e2, List.drop_zero] at this
  unfold impl_ratio.f
  exact this

/-! RatioOf -/
theorem RatioOf_spec (l : List S41) : Ev (fun k => spec_RatioOf.f k l) (if trainB l = true then (ratN l, ratD l, true) else (0, 0, false)) := by
  unfold spec_RatioOf.f
  refine Ev.bind (geTrain_ev l) ?_
  by_cases h : trainB l = true
  · rw [if_pos h]
    exact ev_t h (Ev.bind (geRatio_ev h) (ev_now _))
  · rw [if_neg h]
    exact ev_f h (ev_now _)

theorem RatioOf_impl (l : List S41) : Ev (fun k => impl_RatioOf.f k l) (if trainB l = true then (ratN l, ratD l, true) else (0, 0, false)) := by
  unfold impl_RatioOf.f
  refine Ev.bind (isTrain_ev l) ?_
  by_cases h : trainB l = true
  · rw [if_pos h]
    exact ev_t h (Ev.bind (ratio_ev h) (ev_now _))
  · rw [if_neg h]
    exact ev_f h (ev_now _)

/-! BackTrain -/
def swP (p : S41) : S41 := ⟨p.f1, p.f0⟩
def BackP (l : List S41) : List S41 × Bool := if trainB l = true then (l.reverse.map swP, true) else (([] : List S41), false)
theorem back_go (l : List S41) (h : l.length ≤ 4) : ∀ (d : Nat) (acc : List S41), d ≤ l.length → acc.length + d ≤ 4 → Ev (fun k => spec_BackTrain.l0 k l acc ((d : Int) - 1)) (acc ++ ((l.take d).reverse.map swP), true) := by
  intro d
  induction d with
  | zero =>
    intro acc _ _
    refine ev_one fun k => ?_
    simp only [spec_BackTrain.l0]
    rw [if_neg (by omega)]
    simp
  | succ d ih =>
    intro acc a b
    refine ev_succ ?_
    simp only [spec_BackTrain.l0]
    rw [show (((d + 1 : Nat) : Int) - 1) = (d : Int) by omega]
    refine ev_t (by omega) (ev_t (by omega) (ev_t (by omega) (ev_t (by omega) ?_)))
    rw [w64 (by omega) (by omega), rdP_get l d (by omega)]
    have := ih (acc ++ [swP l[d]]) (by omega) (by simp; omega)
    rw [show acc ++ ((l.take (d + 1)).reverse.map swP) = (acc ++ [swP l[d]]) ++ ((l.take d).reverse.map swP) from by rw [List.take_succ_eq_append_getElem (show d < l.length by omega), List.reverse_append, List.map_append, List.append_assoc]; rfl]
    exact this
theorem BackTrain_spec (l : List S41) : Ev (fun k => spec_BackTrain.f k l) (BackP l) := by
  unfold spec_BackTrain.f
  refine Ev.bind (geTrain_ev l) ?_
  by_cases h : trainB l = true
  · have t := trainB_of h
    rw [show BackP l = _ from if_pos h]
    refine ev_t h ?_
    rw [w64 (by omega) (by omega)]
    have := back_go l t.1 l.length [] (by omega) (by simp; omega)
    rw [List.take_length] at this
    simpa using this
  · rw [show BackP l = _ from if_neg h]
    exact ev_f h (ev_now _)
theorem BackTrain_impl (l : List S41) : Ev (fun k => impl_BackTrain.f k l) (BackP l) := by
  unfold impl_BackTrain.f
  refine Ev.bind (isTrain_ev l) ?_
  by_cases h : trainB l = true
  · have t := trainB_of h
    rw [show BackP l = _ from if_pos h]
    exact ev_t h (ev_t t.1 (ev_now _))
  · rw [show BackP l = _ from if_neg h]
    exact ev_f h (ev_now _)
/-! takeTrain -/
theorem trainB_take {l : List S41} (h : trainB l = true) (n : Nat) : trainB (l.take n) = true := by
  have tb := trainB_of h
  unfold trainB
  simp only [Bool.and_eq_true, decide_eq_true_eq, Bool.not_eq_true', List.any_eq_false]
  refine ⟨by simp; omega, fun p hp => ?_⟩
  have := tb.2 p (List.mem_of_mem_take hp)
  simp [pairC]
  omega
theorem prD_dvd : ∀ (l m : List S41) (a : Int), prD l a ∣ prD (l ++ m) a
  | [], m, a => by
    have : ∀ (m : List S41) (a : Int), a ∣ prD m a := by
      intro m
      induction m with
      | nil => exact fun a => Int.dvd_refl _
      | cons p m ih => exact fun a => Int.dvd_trans (Int.dvd_mul_right a p.f1) (ih _)
    exact this m a
  | p :: l, m, a => prD_dvd l m (a * p.f1)
theorem prD_take (l : List S41) (n : Nat) : prD (l.take n) 1 ∣ prD l 1 := by
  have := prD_dvd (l.take n) (l.drop n) 1
  rwa [List.take_append_drop] at this

/-! TurnsUntilSame -/
def tusP (l : List S41) : Nat → Nat → Int → Int
  | 0, _, t => t
  | d + 1, j, t => tusP l d (j + 1) (lowN t (ratD (l.take (j + 1))) * ratD (l.take (j + 1)))

theorem turns_spec_go {l : List S41} (h : trainB l = true) : ∀ (d j : Nat) (t : Int), j + d = l.length → 1 ≤ t → t ∣ prD l 1 → Ev (fun k => spec_TurnsUntilSame.l0 k l t (l.length : Int) j) (tusP l d j t, true) := by
  have b := (pr_bd0 h).2
  have tb := (trainB_of h).1
  intro d
  induction d with
  | zero =>
    intro j t e t1 t2
    refine ev_one fun k => ?_
    simp only [spec_TurnsUntilSame.l0]
    rw [if_neg (by omega)]
    rfl
  | succ d ih =>
    intro j t e t1 t2
    have th := trainB_take h (j + 1)
    have rb := rat_bd th
    have tle := Int.le_of_dvd (by omega) t2
    have dd : ratD (l.take (j + 1)) ∣ prD l 1 := by
      refine Int.dvd_trans ?_ (prD_take l (j + 1))
      exact ⟨_, (low_den (prN (l.take (j + 1)) 1) (prD (l.take (j + 1)) 1)).symm⟩
    have lc := lcm_dvd (a := t) (b := ratD (l.take (j + 1))) t1 rb.2.1 t2 dd
    have lle := Int.le_of_dvd (by omega) lc.1
    have g := gcd_pos (a := t) (b := ratD (l.take (j + 1))) (by omega)
    have pN := low_posN t1 rb.2.1
    have nN : lowN t (ratD (l.take (j + 1))) ≤ 207360000 := by
      have nb := low_bdN t (ratD (l.take (j + 1)))
      omega
    have lle' : lowN t (ratD (l.take (j + 1))) * ratD (l.take (j + 1)) ≤ 207360000 := by omega
    refine ev_succ ?_
    simp only [spec_TurnsUntilSame.l0]
    rw [w64 (x := (j : Int) + 1) (by omega) (by omega)]
    have e3 : ((j : Int) + 1).toNat = j + 1 := by omega
    rw [e3]
    refine ev_t (by omega) (ev_t (by omega) (ev_t (by omega) (Ev.bind (geRatio_ev th) ?_)))
    dsimp only
    have step : wrap64 (wrap64 (Int.tdiv t (Int.gcd t (ratD (l.take (j + 1))) : Int)) * ratD (l.take (j + 1))) = lowN t (ratD (l.take (j + 1))) * ratD (l.take (j + 1)) := by
      have lc2 := lc.2
      rw [low_tdiv]
      generalize lowN t (ratD (l.take (j + 1))) = x at *
      generalize ratD (l.take (j + 1)) = y at *
      rw [w64 (x := x) (by omega) (by omega), w64 (x := x * y) (by omega) (by omega)]
    refine Ev.bind (diCommon_ev t (ratD (l.take (j + 1))) (by omega) (by omega)) (ev_f (by omega) ?_)
    rw [step]
    exact ih (j + 1) _ (by omega) lc.2 lc.1

theorem turns_impl_go {l : List S41} (h : trainB l = true) : ∀ (d j : Nat) (t : Int), j + d = l.length → 1 ≤ t → t ∣ prD l 1 → Ev (fun k => impl_TurnsUntilSame.l0 k l t (l.length : Int) j) (tusP l d j t, true) := by
  have b := (pr_bd0 h).2
  have tb := (trainB_of h).1
  intro d
  induction d with
  | zero =>
    intro j t e t1 t2
    refine ev_one fun k => ?_
    simp only [impl_TurnsUntilSame.l0]
    rw [if_neg (by omega)]
    rfl
  | succ d ih =>
    intro j t e t1 t2
    have th := trainB_take h (j + 1)
    have rb := rat_bd th
    have tle := Int.le_of_dvd (by omega) t2
    have dd : ratD (l.take (j + 1)) ∣ prD l 1 := by
      refine Int.dvd_trans ?_ (prD_take l (j + 1))
      exact ⟨_, (low_den (prN (l.take (j + 1)) 1) (prD (l.take (j + 1)) 1)).symm⟩
    have lc := lcm_dvd (a := t) (b := ratD (l.take (j + 1))) t1 rb.2.1 t2 dd
    have lle := Int.le_of_dvd (by omega) lc.1
    have g := gcd_pos (a := t) (b := ratD (l.take (j + 1))) (by omega)
    have pN := low_posN t1 rb.2.1
    have nN : lowN t (ratD (l.take (j + 1))) ≤ 207360000 := by
      have nb := low_bdN t (ratD (l.take (j + 1)))
      omega
    have lle' : lowN t (ratD (l.take (j + 1))) * ratD (l.take (j + 1)) ≤ 207360000 := by omega
    refine ev_succ ?_
    simp only [impl_TurnsUntilSame.l0]
    rw [w64 (x := (j : Int) + 1) (by omega) (by omega)]
    have e3 : ((j : Int) + 1).toNat = j + 1 := by omega
    rw [e3]
    refine ev_t (by omega) (ev_t (by omega) (ev_t (by omega) (Ev.bind (ratio_ev th) ?_)))
    dsimp only
    have step : wrap64 (wrap64 (Int.tdiv t (Int.gcd t (ratD (l.take (j + 1))) : Int)) * ratD (l.take (j + 1))) = lowN t (ratD (l.take (j + 1))) * ratD (l.take (j + 1)) := by
      have lc2 := lc.2
      rw [low_tdiv]
      generalize lowN t (ratD (l.take (j + 1))) = x at *
      generalize ratD (l.take (j + 1)) = y at *
      rw [w64 (x := x) (by omega) (by omega), w64 (x := x * y) (by omega) (by omega)]
    have lm : Ev (fun k => impl_lcm.f k t (ratD (l.take (j + 1)))) (lowN t (ratD (l.take (j + 1))) * ratD (l.take (j + 1))) := by
      unfold impl_lcm.f
      refine Ev.bind (gcd_ev t (ratD (l.take (j + 1))) (by omega) (by omega)) (ev_f (by omega) ?_)
      rw [step]
      exact ev_now _
    refine Ev.bind lm ?_
    exact ih (j + 1) _ (by omega) lc.2 lc.1

theorem TurnsUntilSame_spec (l : List S41) : Ev (fun k => spec_TurnsUntilSame.f k l) (if trainB l = true then (tusP l l.length 0 1, true) else (0, false)) := by
  unfold spec_TurnsUntilSame.f
  refine Ev.bind (geTrain_ev l) ?_
  by_cases h : trainB l = true
  · rw [if_pos h]
    exact ev_t h (turns_spec_go h l.length 0 1 (by omega) (by omega) (Int.one_dvd _))
  · rw [if_neg h]
    exact ev_f h (ev_now _)

theorem TurnsUntilSame_impl (l : List S41) : Ev (fun k => impl_TurnsUntilSame.f k l) (if trainB l = true then (tusP l l.length 0 1, true) else (0, false)) := by
  unfold impl_TurnsUntilSame.f
  refine Ev.bind (isTrain_ev l) ?_
  by_cases h : trainB l = true
  · rw [if_pos h]
    exact ev_t h (turns_impl_go h l.length 0 1 (by omega) (by omega) (Int.one_dvd _))
  · rw [if_neg h]
    exact ev_f h (ev_now _)

/-! within -/
theorem within_eq (a b c : Int) : impl_within.f a b c = some (decide (b ≤ a ∧ a ≤ c)) := within_gen (fun _ _ _ => rfl) a b c

/-! l1Most -/
theorem l1Most_eq (a b : Int) : spec_l1Most.f a b = some (max a b) := most_gen (fun _ _ => rfl) a b

/-! l1Abs -/
theorem l1Abs_eq {a : Int} (h : a.natAbs ≤ 4611686018427387904) : spec_l1Abs.f a = some (a.natAbs : Int) := by
  unfold spec_l1Abs.f
  rw [w64 (by omega) (by omega), l1Most_eq, Option.bind_some]
  congr 1
  omega

/-! TurnsOfLast -/
def dirL (l : List S41) : Int := 1 - (2 * ((l.length : Int) % 2))
def tolP (l : List S41) (t : Int) : Int × Int × Bool := (lowN (ratN l * t * dirL l) (ratD l), lowD (ratN l * t * dirL l) (ratD l), true)
def TurnsOfLastP (l : List S41) (t : Int) : Int × Int × Bool := if trainB l = true ∧ -1000 ≤ t ∧ t ≤ 1000 then tolP l t else (0, 0, false)
theorem tol_bd {l : List S41} {t : Int} (h : trainB l = true) (h1 : -1000 ≤ t) (h2 : t ≤ 1000) : (dirL l = 1 ∨ dirL l = -1) ∧ (-207360000000 ≤ ratN l * t ∧ ratN l * t ≤ 207360000000) ∧ (-207360000000 ≤ ratN l * t * dirL l ∧ ratN l * t * dirL l ≤ 207360000000) := by
  have d : dirL l = 1 ∨ dirL l = -1 := by unfold dirL; omega
  have r := rat_bd h
  have m : -207360000000 ≤ ratN l * t ∧ ratN l * t ≤ 207360000000 := by
    by_cases c : 0 ≤ t
    · have := mul_bd (a := ratN l) (b := t) (A := 207360000) (B := 1000) (by omega) (by omega) c h2
      omega
    · have := mul_bd (a := ratN l) (b := -t) (A := 207360000) (B := 1000) (by omega) (by omega) (by omega) (by omega)
      rw [Int.mul_neg] at this
      omega
  refine ⟨d, m, ?_⟩
  rcases d with d | d <;> rw [d] <;> omega
theorem TurnsOfLast_spec (l : List S41) (t : Int) : Ev (fun k => spec_TurnsOfLast.f k l t) (TurnsOfLastP l t) := by
  have no : ∀ k, spec_TurnsOfLast.j0 (k + 1) l t true = some (0, 0, false) := fun k => by
    simp [spec_TurnsOfLast.j0]
  unfold spec_TurnsOfLast.f TurnsOfLastP
  refine Ev.bind (geTrain_ev l) ?_
  by_cases h : trainB l = true
  · refine ev_t h (ev_p (l1In_eq _ _ _) ?_)
    by_cases g : -1000 ≤ t ∧ t ≤ 1000
    · rw [if_pos ⟨h, g⟩, decide_eq_true g]
      have b := tol_bd h g.1 g.2
      have rb := rat_bd h
      refine ev_succ ?_
      simp only [spec_TurnsOfLast.j0, Bool.not_true]
      refine ev_f (by simp) (Ev.bind (geRatio_ev h) (ev_p rfl ?_))
      show Ev (fun n => (spec_l1Abs.f (wrap64 (ratN l * (wrap64 (t * dirL l))))).bind _) _
      have e1 : wrap64 (ratN l * (wrap64 (t * dirL l))) = ratN l * t * dirL l := by
        have e2 : wrap64 (t * dirL l) = t * dirL l := by
          rcases b.1 with d | d <;> rw [d] <;> exact w64 (by omega) (by omega)
        rw [e2, ← Int.mul_assoc, w64 (by omega) (by omega)]
      rw [e1]
      refine ev_p (l1Abs_eq (by omega)) ?_
      have gc := diCommon_ev ((ratN l * t * dirL l).natAbs : Int) (ratD l) (by omega) (by omega)
      rw [gcd_abs] at gc
      have p := gcd_pos (a := ratN l * t * dirL l) (b := ratD l) (by omega)
      have bn := low_bdN (ratN l * t * dirL l) (ratD l)
      have bd := low_bdD (ratN l * t * dirL l) (ratD l)
      refine Ev.bind gc (ev_f (by omega) ?_)
      dsimp only
      show Ev (fun n => some (wrap64 (Int.tdiv (wrap64 (ratN l * (wrap64 (t * dirL l)))) _), _, true)) _
      rw [e1, low_tdiv, low_tdiv', w64 (by omega) (by omega), w64 (by omega) (by omega)]
      exact ev_now _
    · rw [if_neg (fun z => g z.2), decide_eq_false g]
      exact ev_one no
  · rw [if_neg (fun z => h z.1)]
    exact ev_f h (ev_one no)
theorem TurnsOfLast_impl (l : List S41) (t : Int) : Ev (fun k => impl_TurnsOfLast.f k l t) (TurnsOfLastP l t) := by
  have no : ∀ k, impl_TurnsOfLast.j0 (k + 1) l t true = some (0, 0, false) := fun k => by
    simp [impl_TurnsOfLast.j0]
  unfold impl_TurnsOfLast.f TurnsOfLastP
  refine Ev.bind (isTrain_ev l) ?_
  by_cases h : trainB l = true
  · refine ev_t h (ev_p (within_eq _ _ _) ?_)
    by_cases g : -1000 ≤ t ∧ t ≤ 1000
    · rw [if_pos ⟨h, g⟩, decide_eq_true g]
      have b := tol_bd h g.1 g.2
      have rb := rat_bd h
      refine ev_succ ?_
      simp only [impl_TurnsOfLast.j0, Bool.not_true]
      refine ev_f (by simp) (Ev.bind (ratio_ev h) (ev_p rfl ?_))
      show Ev (fun n => (impl_lowest.f n (wrap64 ((wrap64 (ratN l * t)) * dirL l)) (ratD l)).bind _) _
      rw [w64 (x := ratN l * t) (by omega) (by omega), w64 (by omega) (by omega)]
      exact Ev.bind (lowest_ev _ _ (by omega) (by omega) (by omega)) (ev_now _)
    · rw [if_neg (fun z => g z.2), decide_eq_false g]
      exact ev_one no
  · rw [if_neg (fun z => h z.1)]
    exact ev_f h (ev_one no)

/-! cmpCompare -/
def sgn (a b : Int) : Int := if a < b then -1 else if b < a then 1 else 0
theorem cmp_eq (a b : Int) : cmp_Compare_int.f a b = some (sgn a b) := by
  unfold cmp_Compare_int.f cmp_isNaN_int.f sgn
  simp
  split
  · rfl
  · split <;> rfl

/-! l1Sign -/
theorem l1Sign_eq (a b : Int) (h : -1000000000000000000 ≤ a) (h' : a ≤ 1000000000000000000) (g : -1000000000000000000 ≤ b) (g' : b ≤ 1000000000000000000) : spec_l1Sign.f (wrap64 (a - b)) = some (sgn a b) := by
  unfold spec_l1Sign.f sgn
  rw [w64 (by omega) (by omega)]
  by_cases c1 : a < b
  · rw [if_neg (by omega), if_pos (by omega), if_pos c1]
  · by_cases c2 : b < a
    · rw [if_pos (by omega), if_neg c1, if_pos c2]
    · rw [if_neg (by omega), if_neg (by omega), if_neg c1, if_neg c2]

/-! CompareRatios -/
def CompareP (l m : List S41) : Int × Bool := if trainB l = true ∧ trainB m = true then (sgn (ratN l * ratD m) (ratN m * ratD l), true) else (0, false)
theorem cmp_bd {l m : List S41} (h : trainB l = true) (g : trainB m = true) : 0 ≤ ratN l * ratD m ∧ ratN l * ratD m ≤ 42998169600000000 := by
  have a := rat_bd h
  have b := rat_bd g
  have := mul_bd (a := ratN l) (b := ratD m) (A := 207360000) (B := 207360000) (by omega) (by omega) (by omega) (by omega)
  omega
theorem CompareRatios_spec (l m : List S41) : Ev (fun k => spec_CompareRatios.f k l m) (CompareP l m) := by
  have no : ∀ k, spec_CompareRatios.j0 (k + 1) l m true = some (0, false) := fun k => by
    simp [spec_CompareRatios.j0]
  unfold spec_CompareRatios.f CompareP
  refine Ev.bind (geTrain_ev l) ?_
  by_cases h : trainB l = true
  · refine ev_t h (Ev.bind (geTrain_ev m) ?_)
    by_cases g : trainB m = true
    · rw [if_pos ⟨h, g⟩, g]
      have b1 := cmp_bd h g
      have b2 := cmp_bd g h
      refine ev_succ ?_
      simp only [spec_CompareRatios.j0, Bool.not_true]
      refine ev_f (by simp) (Ev.bind (geRatio_ev h) (Ev.bind (geRatio_ev g) ?_))
      dsimp only
      rw [w64 (x := ratN l * ratD m) (by omega) (by omega), w64 (x := ratN m * ratD l) (by omega) (by omega)]
      exact ev_p (l1Sign_eq _ _ (by omega) (by omega) (by omega) (by omega)) (ev_now _)
    · rw [if_neg (fun z => g z.2), Bool.eq_false_iff.2 g]
      exact ev_one no
  · rw [if_neg (fun z => h z.1)]
    exact ev_f h (ev_one no)
theorem CompareRatios_impl (l m : List S41) : Ev (fun k => impl_CompareRatios.f k l m) (CompareP l m) := by
  have no : ∀ k, impl_CompareRatios.j0 (k + 1) l m true = some (0, false) := fun k => by
    simp [impl_CompareRatios.j0]
  unfold impl_CompareRatios.f CompareP
  refine Ev.bind (isTrain_ev l) ?_
  by_cases h : trainB l = true
  · refine ev_t h (Ev.bind (isTrain_ev m) ?_)
    by_cases g : trainB m = true
    · rw [if_pos ⟨h, g⟩, g]
      have b1 := cmp_bd h g
      have b2 := cmp_bd g h
      refine ev_succ ?_
      simp only [impl_CompareRatios.j0, Bool.not_true]
      refine ev_f (by simp) (Ev.bind (ratio_ev h) (Ev.bind (ratio_ev g) ?_))
      dsimp only
      rw [w64 (x := ratN l * ratD m) (by omega) (by omega), w64 (x := ratN m * ratD l) (by omega) (by omega)]
      exact ev_p (cmp_eq _ _) (ev_now _)
    · rw [if_neg (fun z => g z.2), Bool.eq_false_iff.2 g]
      exact ev_one no
  · rw [if_neg (fun z => h z.1)]
    exact ev_f h (ev_one no)

/-! areTeeth -/
theorem areTeeth_eq (n : Int) : impl_areTeeth.f n = some (decide (6 ≤ n ∧ n ≤ 120)) := by
  unfold impl_areTeeth.f
  rw [within_eq, Option.bind_some]

/-! IsPair -/
theorem isPair_eq (a b : Int) : impl_IsPair.f a b = some (decide ((6 ≤ a ∧ a ≤ 120) ∧ (6 ≤ b ∧ b ≤ 120))) := by
  unfold impl_IsPair.f
  rw [areTeeth_eq, Option.bind_some]
  by_cases h : 6 ≤ a ∧ a ≤ 120
  · rw [if_pos (by simpa using h), areTeeth_eq, Option.bind_some]
    congr 1
    rw [Bool.eq_iff_iff, decide_eq_true_iff, decide_eq_true_iff]
    omega
  · rw [if_neg (by simpa using h)]
    congr 1
    symm
    exact decide_eq_false (by omega)

/-! MeshesUntilSame -/
def MeshesP (a b : Int) : Int × Int × Bool := if (6 ≤ a ∧ a ≤ 120) ∧ (6 ≤ b ∧ b ≤ 120) then (lowN b a, lowD b a, true) else (0, 0, false)
theorem MeshesUntilSame_spec (a b : Int) : Ev (fun k => spec_MeshesUntilSame.f k a b) (MeshesP a b) := by
  unfold spec_MeshesUntilSame.f MeshesP
  refine ev_p (gePair_eq a b) ?_
  by_cases h : (6 ≤ a ∧ a ≤ 120) ∧ (6 ≤ b ∧ b ≤ 120)
  · rw [if_pos h]
    have g := diCommon_ev a b (by omega) (by omega)
    rw [Int.gcd_comm] at g
    have p := gcd_pos (a := b) (b := a) (by omega)
    have bn := low_bdN b a
    have bd := low_bdD b a
    refine ev_t (decide_eq_true h) (Ev.bind g (ev_f (by omega) ?_))
    rw [low_tdiv, low_tdiv', w64 (by omega) (by omega), w64 (by omega) (by omega)]
    exact ev_now _
  · rw [if_neg h]
    exact ev_f (by simp only [decide_eq_true_eq]; exact h) (ev_now _)
theorem MeshesUntilSame_impl (a b : Int) : Ev (fun k => impl_MeshesUntilSame.f k a b) (MeshesP a b) := by
  unfold impl_MeshesUntilSame.f MeshesP
  refine ev_p (isPair_eq a b) ?_
  by_cases h : (6 ≤ a ∧ a ≤ 120) ∧ (6 ≤ b ∧ b ≤ 120)
  · rw [if_pos h]
    exact ev_t (decide_eq_true h) (Ev.bind (lowest_ev b a (by omega) (by omega) (by omega)) (ev_now _))
  · rw [if_neg h]
    exact ev_f (by simp only [decide_eq_true_eq]; exact h) (ev_now _)

/-! turnFacts -/
theorem low_swap (a b : Int) : lowN b a = lowD a b ∧ lowD b a = lowN a b := by
  unfold lowN lowD
  rw [Int.gcd_comm b a]
  exact ⟨rfl, rfl⟩
theorem prN_mul : ∀ (l : List S41) (a : Int), prN l a = a * prN l 1
  | [], a => by simp [prN]
  | p :: l, a => by
    simp only [prN]
    rw [prN_mul l (a * p.f0), prN_mul l (1 * p.f0), Int.one_mul, Int.mul_assoc]
theorem prD_mul : ∀ (l : List S41) (a : Int), prD l a = a * prD l 1
  | [], a => by simp [prD]
  | p :: l, a => by
    simp only [prD]
    rw [prD_mul l (a * p.f1), prD_mul l (1 * p.f1), Int.one_mul, Int.mul_assoc]
theorem prN_app : ∀ (l m : List S41) (a : Int), prN (l ++ m) a = prN m (prN l a)
  | [], _, _ => rfl
  | p :: l, m, a => prN_app l m (a * p.f0)
theorem prD_app : ∀ (l m : List S41) (a : Int), prD (l ++ m) a = prD m (prD l a)
  | [], _, _ => rfl
  | p :: l, m, a => prD_app l m (a * p.f1)
theorem pr_back : ∀ (l : List S41), prN (l.reverse.map swP) 1 = prD l 1 ∧ prD (l.reverse.map swP) 1 = prN l 1
  | [] => ⟨rfl, rfl⟩
  | p :: l => by
    have ih := pr_back l
    rw [List.reverse_cons, List.map_append, prN_app, prD_app, ih.1, ih.2]
    show prD l 1 * p.f1 = prD l (1 * p.f1) ∧ prN l 1 * p.f0 = prN l (1 * p.f0)
    rw [prD_mul l (1 * p.f1), prN_mul l (1 * p.f0), Int.one_mul, Int.one_mul]
    exact ⟨Int.mul_comm _ _, Int.mul_comm _ _⟩
theorem back_train {l : List S41} (h : trainB l = true) : trainB (l.reverse.map swP) = true := by
  have t := trainB_of h
  unfold trainB
  simp only [Bool.and_eq_true, decide_eq_true_eq, Bool.not_eq_true', List.any_eq_false]
  refine ⟨by simp; omega, fun p hp => ?_⟩
  obtain ⟨q, hq, rfl⟩ := List.mem_map.1 hp
  have := t.2 q (List.mem_reverse.1 hq)
  have e : pairC (swP q) = true := decide_eq_true ⟨this.2, this.1⟩
  rw [e]
  decide
theorem rat_back (l : List S41) : ratN (l.reverse.map swP) = ratD l ∧ ratD (l.reverse.map swP) = ratN l := by
  unfold ratN ratD
  rw [(pr_back l).1, (pr_back l).2]
  exact low_swap _ _
theorem back_back (l : List S41) : ((l.reverse.map swP).reverse.map swP) = l := by
  rw [← List.map_reverse, List.reverse_reverse, List.map_map]
  have : swP ∘ swP = id := by funext p; rfl
  rw [this, List.map_id]
theorem rat_cross (l : List S41) : ratN l * prD l 1 = prN l 1 * ratD l := by
  have e1 := low_num (prN l 1) (prD l 1)
  have e2 := low_den (prN l 1) (prD l 1)
  unfold ratN ratD
  generalize lowN (prN l 1) (prD l 1) = x at *
  generalize lowD (prN l 1) (prD l 1) = y at *
  rw [← e2]
  conv => rhs; rw [← e1]
  generalize (Int.gcd (prN l 1) (prD l 1) : Int) = g
  rw [Int.mul_assoc x g y, Int.mul_comm g y]
/-- What is told of the turns: every wheel's own number of turns goes into it. -/
theorem tus_dvd {l : List S41} (h : trainB l = true) : ∀ (d j : Nat) (t : Int), j + d = l.length → 1 ≤ t → 1 ≤ tusP l d j t ∧ t ∣ tusP l d j t ∧ ∀ i, j ≤ i → i < l.length → ratD (l.take (i + 1)) ∣ tusP l d j t := by
  intro d
  induction d with
  | zero => exact fun j t e t1 => ⟨t1, Int.dvd_refl _, fun i a b => by omega⟩
  | succ d ih =>
    intro j t e t1
    have rb := rat_bd (trainB_take h (j + 1))
    have p := low_posN t1 rb.2.1
    have q : 1 ≤ lowN t (ratD (l.take (j + 1))) * ratD (l.take (j + 1)) := by
      have := mul_pos1 p rb.2.1
      omega
    obtain ⟨a1, a2, a3⟩ := ih (j + 1) (lowN t (ratD (l.take (j + 1))) * ratD (l.take (j + 1))) (by omega) q
    refine ⟨a1, Int.dvd_trans ?_ a2, fun i b c => ?_⟩
    · have e1 := low_num t (ratD (l.take (j + 1)))
      have e2 := low_den t (ratD (l.take (j + 1)))
      refine ⟨lowD t (ratD (l.take (j + 1))), ?_⟩
      generalize lowN t (ratD (l.take (j + 1))) = x at *
      generalize lowD t (ratD (l.take (j + 1))) = y at *
      conv => lhs; rw [← e2]
      conv => rhs; rw [← e1]
      rw [Int.mul_assoc, Int.mul_comm y]
    · by_cases z : i = j
      · subst z
        exact Int.dvd_trans (Int.dvd_mul_left _ _) a2
      · exact a3 i (by omega) c
theorem dvd_of_cop {a b c : Int} (h : a ∣ c * b) (g : Int.gcd a b = 1) : a ∣ c := by
  have h1 := Int.natAbs_dvd_natAbs.2 h
  rw [Int.natAbs_mul] at h1
  exact Int.natAbs_dvd_natAbs.1 (Nat.Coprime.dvd_of_dvd_mul_right (k := a.natAbs) (n := b.natAbs) g h1)
theorem low_cross (q p : Int) : lowN q p * p = lowD q p * q := by
  have e1 := low_num q p
  have e2 := low_den q p
  generalize lowN q p = x at *
  generalize lowD q p = y at *
  generalize (Int.gcd q p : Int) = g at *
  subst e1 e2
  rw [← Int.mul_assoc, ← Int.mul_assoc, Int.mul_comm x y]
theorem coprime_eq {a b c d : Int} (ha : 1 ≤ a) (hc : 1 ≤ c) (h1 : Int.gcd a b = 1) (h2 : Int.gcd c d = 1) (e : a * d = c * b) : a = c := by
  have x : a ∣ c := dvd_of_cop ⟨d, e.symm⟩ h1
  have y : c ∣ a := dvd_of_cop ⟨b, e⟩ h2
  exact Int.dvd_antisymm (by omega) (by omega) x y
theorem rat_gcd {l : List S41} (h : trainB l = true) : Int.gcd (ratN l) (ratD l) = 1 := by
  have := pr_bd0 h
  exact low_one (by omega)

/-! drawState -/
theorem bits255 (x : Int) : 0 ≤ Go.bits .and .u64 x 255 ∧ Go.bits .and .u64 x 255 ≤ 255 := by
  have h : (BitVec.ofInt 64 x &&& BitVec.ofInt 64 255).toNat ≤ 255 := by
    rw [BitVec.toNat_and]
    exact Nat.le_trans Nat.and_le_right (by decide)
  have g : ∀ n : Nat, n ≤ 255 → 0 ≤ IntKind.wrap .u64 (n : Int) ∧ IntKind.wrap .u64 (n : Int) ≤ 255 := by
    intro n hn
    unfold IntKind.wrap
    simp [IntKind.signed, IntKind.bits]
    omega
  exact g _ h
def u8L (l : List Int) : Prop := ∀ x ∈ l, 0 ≤ x ∧ x ≤ 255
theorem rd_u8 {l : List Int} (h : u8L l) {i : Int} (h0 : 0 ≤ i) (h1 : i < (l.length : Int)) : 0 ≤ rd l i ∧ rd l i ≤ 255 := by
  unfold rd
  rw [List.getD_eq_getElem?_getD, List.getElem?_eq_getElem (by omega)]
  exact h _ (List.getElem_mem _)
theorem next_some {l : List Int} (h : u8L l) {s t : Int} (s0 : 0 ≤ s) (s1 : s ≤ 1000000) : ∃ v u, spec_l1Cur_next.f l s t = some (v, s + 1, u) ∧ 0 ≤ v ∧ v ≤ 255 := by
  unfold spec_l1Cur_next.f
  rw [w64 (x := s + 1) (by omega) (by omega)]
  by_cases c : s < (l.length : Int)
  · have r := rd_u8 h s0 c
    rw [if_pos c, if_pos s0, if_pos (by omega), w64 (x := rd l s) (by omega) (by omega)]
    exact ⟨_, _, rfl, r.1, r.2⟩
  · rw [if_neg c]
    by_cases d : s + 1 ≤ (l.length : Int)
    · rw [if_pos d]
      exact ⟨_, _, rfl, by omega, by omega⟩
    · rw [if_neg d]
      refine ⟨_, _, rfl, ?_⟩
      generalize IntKind.u64.wrap (IntKind.u64.wrap (IntKind.u64.wrap (t * 6364136223846793005)) + 1442695040888963407) / 1099511627776 = q
      have b := bits255 q
      rw [w64 (by omega) (by omega)]
      exact b
theorem pick_some {l : List Int} (h : u8L l) {s t n : Int} (s0 : 0 ≤ s) (s1 : s ≤ 900000) (n1 : 1 ≤ n) (n2 : n ≤ 1000000000) : ∃ v s' u, spec_l1Cur_pick.f l s t n = some (v, s', u) ∧ (0 ≤ v ∧ v < n) ∧ (s ≤ s' ∧ s' ≤ s + 2) := by
  unfold spec_l1Cur_pick.f
  by_cases c : n ≤ 1
  · rw [if_pos c]
    exact ⟨0, s, t, rfl, by omega, by omega⟩
  · rw [if_neg c]
    obtain ⟨v, u, e, v0, v1⟩ := next_some h (t := t) s0 (by omega)
    rw [e, Option.bind_some]
    by_cases d : n > 200
    · rw [if_pos d]
      obtain ⟨v', u', e', v0', v1'⟩ := next_some h (s := s + 1) (t := u) (by omega) (by omega)
      rw [e', Option.bind_some, if_neg (by omega)]
      dsimp only
      rw [w64 (x := v * 256) (by omega) (by omega), w64 (x := v * 256 + v') (by omega) (by omega), tmod_e (by omega)]
      have a0 := Int.emod_nonneg (v * 256 + v') (show n ≠ 0 by omega)
      have a1 := Int.emod_lt_of_pos (v * 256 + v') (show 0 < n by omega)
      exact ⟨_, _, _, rfl, ⟨a0, a1⟩, by omega⟩
    · rw [if_neg d, if_neg (by omega)]
      dsimp only
      rw [tmod_e v0]
      have a0 := Int.emod_nonneg v (show n ≠ 0 by omega)
      have a1 := Int.emod_lt_of_pos v (show 0 < n by omega)
      exact ⟨_, _, _, rfl, ⟨a0, a1⟩, by omega⟩
theorem among_some {l m : List Int} (h : u8L l) {s t : Int} (s0 : 0 ≤ s) (s1 : s ≤ 900000) (m1 : 1 ≤ m.length) (m2 : m.length ≤ 1000) : ∃ v s' u, spec_l1Cur_among.f l s t m = some (v, s', u) ∧ (s ≤ s' ∧ s' ≤ s + 2) := by
  unfold spec_l1Cur_among.f
  obtain ⟨v, s', u, e, v0, v1⟩ := pick_some h (t := t) (n := (m.length : Int)) s0 s1 (by omega) (by omega)
  rw [e, Option.bind_some, if_pos v0.1, if_pos v0.2]
  exact ⟨_, _, _, rfl, v1⟩

/-! drawTrain -/
theorem one_some {l : List Int} (h : u8L l) {s t n : Int} (s0 : 0 ≤ s) (s1 : s ≤ 900000) (n1 : 1 ≤ n) (n2 : n ≤ 1000000000) : ∃ v s' u, spec_l1Cur_one.f l s t n = some (v, s', u) ∧ (s ≤ s' ∧ s' ≤ s + 2) := by
  unfold spec_l1Cur_one.f
  obtain ⟨v, s', u, e, v0, v1⟩ := pick_some h (t := t) s0 s1 n1 n2
  rw [e, Option.bind_some]
  exact ⟨_, _, _, rfl, v1⟩
theorem pair_some {l : List Int} (h : u8L l) {s t : Int} (s0 : 0 ≤ s) (s1 : s ≤ 890000) : ∃ a b s' u, spec_l1Cur_pair.f l s t = some (a, b, s', u) ∧ (s ≤ s' ∧ s' ≤ s + 4) := by
  unfold spec_l1Cur_pair.f
  obtain ⟨v, s1', u, e, v0, v1⟩ := pick_some h (s := s) (t := t) (n := 30) s0 (by omega) (by omega) (by omega)
  rw [e, Option.bind_some]
  dsimp only
  obtain ⟨v', s2', u', e', v0', v1'⟩ := pick_some h (s := s1') (t := u) (n := 60) (by omega) (by omega) (by omega) (by omega)
  rw [e', Option.bind_some]
  refine ⟨_, _, _, _, rfl, ?_, ?_⟩ <;> (try dsimp only) <;> omega
theorem train_l1 {l : List Int} (h : u8L l) : ∀ (d : Nat) (x : List S41) (s t : Int), x.length + d = 6 → 0 ≤ s → s + 2 * d ≤ 890000 → ∃ tr s' u, Ev (fun k => spec_l1Cur_train.l1 k x l s t) (tr, s', u) ∧ (s ≤ s' ∧ s' ≤ s + 2 * d + 2) := by
  intro d
  induction d with
  | zero =>
    intro x s t e s0 s1
    obtain ⟨v, s', u, p, v0, v1⟩ := pick_some h (s := s) (t := t) (n := 2) s0 (by omega) (by omega) (by omega)
    refine ⟨x, s', u, ev_succ ?_, by omega, by omega⟩
    simp only [spec_l1Cur_train.l1]
    refine ev_p p ?_
    dsimp only
    rw [w64 (x := 4 + v) (by omega) (by omega)]
    exact ev_f (by omega) (ev_now _)
  | succ d ih =>
    intro x s t e s0 s1
    obtain ⟨v, s', u, p, v0, v1⟩ := pick_some h (s := s) (t := t) (n := 2) s0 (by omega) (by omega) (by omega)
    by_cases c : (x.length : Int) < 4 + v
    · obtain ⟨tr, s2, u2, q, z⟩ := ih (x ++ [(⟨120, 7⟩ : S41)]) s' u (by simp; omega) (by omega) (by omega)
      refine ⟨tr, s2, u2, ev_succ ?_, by omega, by omega⟩
      simp only [spec_l1Cur_train.l1]
      refine ev_p p ?_
      dsimp only
      rw [w64 (x := 4 + v) (by omega) (by omega)]
      exact ev_t c (ev_t (by omega) q)
    · refine ⟨x, s', u, ev_succ ?_, by omega, by omega⟩
      simp only [spec_l1Cur_train.l1]
      refine ev_p p ?_
      dsimp only
      rw [w64 (x := 4 + v) (by omega) (by omega)]
      exact ev_f c (ev_now _)
theorem train_l0 {l : List Int} (h : u8L l) : ∀ (n : Nat) (x : List S41) (s t : Int), x.length + n ≤ 3 → 0 ≤ s → s + 4 * n ≤ 880000 → ∃ tr s' u, Ev (fun k => spec_l1Cur_train.l0 k x (n : Int) l s t) (tr, s', u) ∧ (s ≤ s' ∧ s' ≤ s + 4 * n + 30) := by
  intro n
  induction n with
  | zero =>
    intro x s t e s0 s1
    obtain ⟨v, s', u, p, v0, v1⟩ := pick_some h (s := s) (t := t) (n := 14) s0 (by omega) (by omega) (by omega)
    by_cases c0 : v = 0
    · obtain ⟨v3, s3, u3, e3, w3⟩ := among_some h (m := [5, 6, 120, 121]) (s := s') (t := u) (by omega) (by omega) (by simp) (by simp)
      obtain ⟨v4, s4, u4, e4, w4⟩ := among_some h (m := [0, 6, 120, 121, (-1)]) (s := s3) (t := u3) (by omega) (by omega) (by simp) (by simp)
      refine ⟨x ++ [(⟨v3, v4⟩ : S41)], s4, u4, ev_succ ?_, by omega, by omega⟩
      simp only [spec_l1Cur_train.l0]
      refine ev_f (by omega) (ev_p p ?_)
      exact ev_t c0 (ev_p e3 (ev_p e4 (ev_t (by omega) (ev_now _))))
    · by_cases c1 : v = 1
      · obtain ⟨tr, s2, u2, q, z⟩ := train_l1 h (6 - x.length) x s' u (by omega) (by omega) (by omega)
        refine ⟨tr, s2, u2, ev_succ ?_, by omega, by omega⟩
        simp only [spec_l1Cur_train.l0]
        refine ev_f (by omega) (ev_p p ?_)
        exact ev_f c0 (ev_t c1 q)
      · refine ⟨x, s', u, ev_succ ?_, by omega, by omega⟩
        simp only [spec_l1Cur_train.l0]
        refine ev_f (by omega) (ev_p p ?_)
        exact ev_f c0 (ev_f c1 (ev_now _))
  | succ n ih =>
    intro x s t e s0 s1
    obtain ⟨a, b, s', u, p, v1⟩ := pair_some h (s := s) (t := t) s0 (by omega)
    obtain ⟨tr, s2, u2, q, z⟩ := ih (x ++ [(⟨a, b⟩ : S41)]) s' u (by simp; omega) (by omega) (by omega)
    refine ⟨tr, s2, u2, ev_succ ?_, by omega, by omega⟩
    simp only [spec_l1Cur_train.l0]
    refine ev_t (by omega) (ev_p p ?_)
    dsimp only
    rw [w64 (x := ((n + 1 : Nat) : Int) - 1) (by omega) (by omega), show ((n + 1 : Nat) : Int) - 1 = (n : Int) by omega]
    exact ev_t (by omega) q
theorem train_some {l : List Int} (h : u8L l) {s t : Int} (s0 : 0 ≤ s) (s1 : s ≤ 800000) : ∃ tr s' u, Ev (fun k => spec_l1Cur_train.f k l s t) (tr, s', u) ∧ (s ≤ s' ∧ s' ≤ s + 60) := by
  unfold spec_l1Cur_train.f
  obtain ⟨v, s', u, p, v0, v1⟩ := pick_some h (s := s) (t := t) (n := 4) s0 (by omega) (by omega) (by omega)
  obtain ⟨tr, s2, u2, q, z⟩ := train_l0 h v.toNat [] s' u (by simp; omega) (by omega) (by omega)
  rw [show ((v.toNat : Nat) : Int) = v by omega] at q
  exact ⟨tr, s2, u2, ev_p p q, by omega, by omega⟩
theorem drawRatio_some {l : List Int} (h : u8L l) : ∃ tr, Ev (fun k => spec_DrawRatioOf.f k l) tr := by
  obtain ⟨tr, s', u, q, _⟩ := train_some h (s := 0) (t := 0) (by omega) (by omega)
  unfold spec_DrawRatioOf.f spec_DrawIsTrain.f spec_DrawIsTrain.s
  exact ⟨tr, Ev.bind (Ev.bind (Ev.bind q (ev_now _)) (ev_now _)) (ev_now _)⟩
theorem drawTurns_some {l : List Int} (h : u8L l) : ∃ tr x, Ev (fun k => spec_DrawTurnsOfLast.f k l) (tr, x) := by
  obtain ⟨tr, s', u, q, w⟩ := train_some h (s := 0) (t := 0) (by omega) (by omega)
  obtain ⟨x, s2, u2, e, w2⟩ := among_some h (m := [0, 1, (-1), 2, 12, (-60), 1000, (-1000), 1001]) (s := s') (t := u) (by omega) (by omega) (by simp) (by simp)
  unfold spec_DrawTurnsOfLast.f spec_DrawTurnsOfLast.s
  exact ⟨tr, x, Ev.bind (Ev.bind q (ev_p e (ev_now _))) (ev_now _)⟩
theorem drawMeshes_some {l : List Int} (h : u8L l) : ∃ p q, spec_DrawMeshesUntilSame.f l = some (p, q) := by
  unfold spec_DrawMeshesUntilSame.f spec_DrawIsPair.f spec_DrawIsPair.s
  obtain ⟨v, s', u, e, w⟩ := one_some h (s := 0) (t := 0) (n := 3) (by omega) (by omega) (by omega) (by omega)
  rw [e, Option.bind_some]
  dsimp only
  by_cases c : v = true
  · obtain ⟨v3, s3, u3, e3, w3⟩ := among_some h (m := [5, 6, 7, 120, 121, (-1)]) (s := s') (t := u) (by omega) (by omega) (by simp) (by simp)
    obtain ⟨v4, s4, u4, e4, w4⟩ := among_some h (m := [5, 6, 120, 121, 0]) (s := s3) (t := u3) (by omega) (by omega) (by simp) (by simp)
    rw [if_pos c, e3, Option.bind_some]
    dsimp only
    rw [e4]
    exact ⟨_, _, rfl⟩
  · obtain ⟨a, b, s3, u3, e3, w3⟩ := pair_some h (s := s') (t := u) (by omega) (by omega)
    rw [if_neg c, e3]
    exact ⟨_, _, rfl⟩
theorem drawCompare_some {l : List Int} (h : u8L l) : ∃ a b, Ev (fun k => spec_DrawCompareRatios.f k l) (a, b) := by
  obtain ⟨a, s1, u1, q1, w1⟩ := train_some h (s := 0) (t := 0) (by omega) (by omega)
  unfold spec_DrawCompareRatios.f spec_DrawCompareRatios.s
  have g := geTrain_ev a
  by_cases ht : trainB a = true
  · have tb := (trainB_of ht).1
    rw [ht] at g
    by_cases c : (a.length : Int) > 1
    · obtain ⟨v, s2, u2, e, w2⟩ := one_some h (s := s1) (t := u1) (n := 3) (by omega) (by omega) (by omega) (by omega)
      have k1 : 1 < (a.length : Int) := by omega
      have k0 : 0 < (a.length : Int) := by omega
      have k2 : 2 ≤ (a.length : Int) := by omega
      by_cases cv : v = true
      · refine ⟨a, _, Ev.bind (Ev.bind q1 (Ev.bind g (ev_t rfl (ev_t c (ev_p e (ev_t cv (ev_t k1 (ev_t k0 (ev_p rfl (ev_t k2 (ev_p rfl (ev_t ?_ (ev_now _))))))))))))) (ev_now _)⟩
        simp
        omega
      · obtain ⟨b, s3, u3, q3, w3⟩ := train_some h (s := s2) (t := u2) (by omega) (by omega)
        exact ⟨a, b, Ev.bind (Ev.bind q1 (Ev.bind g (ev_t rfl (ev_t c (ev_p e (ev_f cv (Ev.bind q3 (ev_now _)))))))) (ev_now _)⟩
    · obtain ⟨b, s3, u3, q3, w3⟩ := train_some h (s := s1) (t := u1) (by omega) (by omega)
      exact ⟨a, b, Ev.bind (Ev.bind q1 (Ev.bind g (ev_t rfl (ev_f c (Ev.bind q3 (ev_now _)))))) (ev_now _)⟩
  · obtain ⟨b, s3, u3, q3, w3⟩ := train_some h (s := s1) (t := u1) (by omega) (by omega)
    exact ⟨a, b, Ev.bind (Ev.bind q1 (Ev.bind g (ev_f ht (Ev.bind q3 (ev_now _))))) (ev_now _)⟩

/-! the law -/
theorem ev_eq {g : Nat → Option Bool} {b : Bool} (hb : b = true) (h : Ev g b) : Ev g true := hb ▸ h
theorem j8_ev (x4 x5 : List S41) (p q : Int) : Ev (fun k => laws_FnTrainsTurn.j7 k x4 x5 (CompareP x4 x5).1 (CompareP x4 x5).2 false) true := by
  refine ev_succ ?_
  simp only [laws_FnTrainsTurn.j7]
  refine ev_f (by simp) ?_
  by_cases h : trainB x4 = true ∧ trainB x5 = true
  · rw [show CompareP x4 x5 = _ from if_pos h]
    have c2 : CompareP x5 x4 = _ := if_pos ⟨h.2, h.1⟩
    have r4 := RatioOf_impl x4
    have r5 := RatioOf_impl x5
    rw [if_pos h.1] at r4
    rw [if_pos h.2] at r5
    have cc := CompareRatios_impl x5 x4
    rw [c2] at cc
    have b1 := cmp_bd h.1 h.2
    have b2 := cmp_bd h.2 h.1
    have a4 := rat_bd h.1
    have a5 := rat_bd h.2
    refine ev_t (by trivial) (Ev.bind cc (Ev.bind r4 (Ev.bind r5 (ev_t (by trivial) ?_))))
    dsimp only
    have cop : ratN x4 * ratD x5 = ratN x5 * ratD x4 → ratN x4 = ratN x5 := coprime_eq a4.1.1 a5.1.1 (rat_gcd h.1) (rat_gcd h.2)
    have can : ratN x4 = ratN x5 → ratN x4 * ratD x5 = ratN x5 * ratD x4 → ratD x4 = ratD x5 := fun e1 e2 => by
      rw [e1] at e2
      exact (Int.eq_of_mul_eq_mul_left (by omega) e2).symm
    have can2 : ratN x4 = ratN x5 → ratD x4 = ratD x5 → ratN x4 * ratD x5 = ratN x5 * ratD x4 := fun e1 e2 => by rw [e1, e2]
    rw [w64 (x := ratN x4 * ratD x5) (by omega) (by omega), w64 (x := ratN x5 * ratD x4) (by omega) (by omega)]
    generalize ratN x4 * ratD x5 = A at *
    generalize ratN x5 * ratD x4 = B at *
    have sg : -1 ≤ sgn A B ∧ sgn A B ≤ 1 := by unfold sgn; split; omega; split <;> omega
    refine ev_t ?_ (ev_t (by trivial) (ev_t (by trivial) ?_))
    · rw [w64 (by omega) (by omega)]
      unfold sgn
      by_cases u : A < B
      · rw [if_pos u, if_neg (by omega), if_pos u]; rfl
      · by_cases v : B < A
        · simp only [if_neg u, if_pos v]
        · rw [if_neg u, if_neg v, if_neg v, if_neg u]; rfl
    have last : (decide (sgn A B > 0) == decide (A > B)) = true := by
      unfold sgn
      by_cases u : A < B
      · rw [if_pos u]; simp; omega
      · by_cases v : B < A
        · rw [if_neg u, if_pos v]; simp; omega
        · rw [if_neg u, if_neg v]; simp; omega
    have zero : sgn A B = 0 ↔ A = B := by
      unfold sgn
      by_cases u : A < B
      · rw [if_pos u]; omega
      · by_cases v : B < A
        · rw [if_neg u, if_pos v]; omega
        · rw [if_neg u, if_neg v]; omega
    by_cases e : ratN x4 = ratN x5
    · refine ev_t e (ev_t ?_ (ev_con (by rw [last])))
      by_cases g : A = B
      · rw [beq_iff_eq.2 (zero.2 g), beq_iff_eq.2 (can e g)]; rfl
      · rw [beq_eq_false_iff_ne.2 (fun z => g (zero.1 z)), beq_eq_false_iff_ne.2 (fun z => g (can2 e z))]; rfl
    · refine ev_f e (ev_t ?_ (ev_con (by rw [last])))
      rw [beq_eq_false_iff_ne.2 (fun z => e (cop (zero.1 z)))]; rfl
  · rw [show CompareP x4 x5 = _ from if_neg h]
    exact ev_f (by simp) (ev_now _)
theorem j7_ev (x4 x5 : List S41) (p q : Int) : Ev (fun k => laws_FnTrainsTurn.j6 k (MeshesP p q).1 (MeshesP p q).2.1 (MeshesP p q).2.2 x4 x5 (CompareP x4 x5).1 (CompareP x4 x5).2 p q) true := by
  refine ev_succ ?_
  simp only [laws_FnTrainsTurn.j6]
  by_cases h : (6 ≤ p ∧ p ≤ 120) ∧ (6 ≤ q ∧ q ≤ 120)
  · rw [show MeshesP p q = _ from if_pos h]
    have e1 := low_num q p
    have e2 := low_den q p
    have p1 := low_posN (a := q) (b := p) (by omega) (by omega)
    have p2 := low_posD (a := q) (b := p) (by omega)
    dsimp only
    have d1 : lowN q p ∣ q := ⟨_, e1.symm⟩
    have d2 : lowD q p ∣ p := ⟨_, e2.symm⟩
    have eq := low_cross q p
    refine ev_t (by trivial) (ev_t (by rw [eq]) (ev_f (by omega) (ev_f (by omega) (ev_t (Int.tmod_eq_zero_of_dvd d1) (ev_f (by omega) ?_)))))
    rw [Int.tmod_eq_zero_of_dvd d2]
    exact j8_ev x4 x5 p q
  · rw [show MeshesP p q = _ from if_neg h]
    exact ev_f (by simp) (j8_ev x4 x5 p q)
theorem j6_ev (x1 : List S41) (t : Int) (x4 x5 : List S41) (p q : Int) : Ev (fun k => laws_FnTrainsTurn.j5 k x1 t (TurnsOfLastP x1 t).1 (TurnsOfLastP x1 t).2.1 (TurnsOfLastP x1 t).2.2 (MeshesP p q).1 (MeshesP p q).2.1 (MeshesP p q).2.2 x4 x5 (CompareP x4 x5).1 (CompareP x4 x5).2 false p q) true := by
  refine ev_succ ?_
  simp only [laws_FnTrainsTurn.j5]
  refine ev_f (by simp) ?_
  by_cases h : trainB x1 = true ∧ -1000 ≤ t ∧ t ≤ 1000
  · rw [show TurnsOfLastP x1 t = _ from if_pos h]
    unfold tolP
    have r1 := RatioOf_impl x1
    rw [if_pos h.1] at r1
    have r2 := DirectionOf_impl x1
    rw [if_pos h.1] at r2
    have b := tol_bd h.1 h.2.1 h.2.2
    have rb := rat_bd h.1
    have e1 := low_num (ratN x1 * t * dirL x1) (ratD x1)
    have e2 := low_den (ratN x1 * t * dirL x1) (ratD x1)
    have p2 := low_posD (a := ratN x1 * t * dirL x1) (b := ratD x1) (by omega)
    refine ev_t (by trivial) (Ev.bind r1 (Ev.bind r2 (ev_t (by trivial) (ev_t (by trivial) ?_))))
    dsimp only
    refine ev_f (by omega) (ev_t ?_ (j7_ev x4 x5 p q))
    rw [w64 (x := ratN x1 * t) (by omega) (by omega), show dirP x1 = dirL x1 from rfl, w64 (x := ratN x1 * t * dirL x1) (by omega) (by omega)]
    rw [low_cross, Int.mul_comm]
  · rw [show TurnsOfLastP x1 t = _ from if_neg h]
    exact ev_f (by simp) (j7_ev x4 x5 p q)
theorem isPair_C (p q : Int) : impl_IsPair.f p q = some (decide ((6 ≤ p ∧ p ≤ 120) ∧ (6 ≤ q ∧ q ≤ 120))) := isPair_eq p q
theorem j5_ev {m : List Int} (hm : u8L m) : Ev (fun k => laws_FnTrainsTurn.j4 k m) true := by
  obtain ⟨x1, t, hT⟩ := drawTurns_some hm
  obtain ⟨p, q, hM⟩ := drawMeshes_some hm
  obtain ⟨x4, x5, hC⟩ := drawCompare_some hm
  refine ev_succ ?_
  simp only [laws_FnTrainsTurn.j4]
  have hp : (MeshesP p q).2.2 = decide ((6 ≤ p ∧ p ≤ 120) ∧ (6 ≤ q ∧ q ≤ 120)) := by
    unfold MeshesP
    split
    · exact (decide_eq_true ‹_›).symm
    · exact (decide_eq_false ‹_›).symm
  have sp : spec_IsPair.f p q = some (decide ((6 ≤ p ∧ p ≤ 120) ∧ (6 ≤ q ∧ q ≤ 120))) := by
    unfold spec_IsPair.f
    rw [gePair_eq, Option.bind_some]
  refine Ev.bind hT (Ev.bind (TurnsOfLast_impl x1 t) (Ev.bind (TurnsOfLast_spec x1 t) (ev_p hM (Ev.bind (MeshesUntilSame_impl p q) (Ev.bind (MeshesUntilSame_spec p q) (Ev.bind hC (Ev.bind (CompareRatios_impl x4 x5) (Ev.bind (CompareRatios_spec x4 x5) ?_))))))))
  refine ev_f (by simp) (ev_t (by trivial) (ev_t (by trivial) (ev_f (by simp) (ev_t (by trivial) (ev_t (by trivial) (ev_p (isPair_C p q) (ev_f (by rw [hp]; simp) (ev_p (isPair_C p q) (ev_p sp (ev_f (by simp) (ev_f (by simp) ?_)))))))))))
  rw [bne_self_eq_false]
  exact j6_ev x1 t x4 x5 p q
theorem l1_ev {x0 : List S41} (h : trainB x0 = true) {m : List Int} (hm : u8L m) : ∀ (d j : Nat), j + d = x0.length → Ev (fun k => laws_FnTrainsTurn.l1 k m x0 (tusP x0 x0.length 0 1) (x0.length : Int) j) true := by
  have tb := (trainB_of h).1
  have td := tus_dvd h x0.length 0 1 (by omega) (by omega)
  intro d
  induction d with
  | zero =>
    intro j a
    refine ev_succ ?_
    simp only [laws_FnTrainsTurn.l1]
    exact ev_f (by omega) (j5_ev hm)
  | succ d ih =>
    intro j a
    refine ev_succ ?_
    simp only [laws_FnTrainsTurn.l1]
    rw [w64 (x := (j : Int) + 1) (by omega) (by omega), show ((j : Int) + 1).toNat = j + 1 by omega]
    have rr := RatioOf_impl (x0.take (j + 1))
    rw [if_pos (trainB_take h (j + 1))] at rr
    have rb := rat_bd (trainB_take h (j + 1))
    refine ev_t (by omega) (ev_t (by omega) (ev_t (by omega) (Ev.bind rr (ev_t (by trivial) ?_))))
    dsimp only
    refine ev_f (by omega) (ev_t (Int.tmod_eq_zero_of_dvd (td.2.2 j (by omega) (by omega))) ?_)
    exact ih (j + 1) (by omega)
theorem l0_ev {x0 : List S41} (h : trainB x0 = true) {m : List Int} (hm : u8L m) : ∀ (d j : Nat) (a b s : Int), j + d = x0.length → 1 ≤ a → a ≤ bdP j → 1 ≤ b → b ≤ bdP j → 0 ≤ s → s ≤ 240 * j → prN (x0.drop j) a = prN x0 1 → prD (x0.drop j) b = prD x0 1 → s + sumP (x0.drop j) = sumP x0 →
    Ev (fun k => laws_FnTrainsTurn.l0 k m x0 (ratN x0) (ratD x0) (dirP x0) (x0.reverse.map swP) (tusP x0 x0.length 0 1) (sumP x0) a b s x0 (x0.length : Int) j) true := by
  have tb := trainB_of h
  have td := tus_dvd h x0.length 0 1 (by omega) (by omega)
  have rb := rat_bd h
  intro d
  induction d with
  | zero =>
    intro j a b s e a1 a2 b1 b2 s1 s2 hN hD hS
    rw [List.drop_of_length_le (by omega)] at hN hD hS
    simp only [prN, prD, sumP] at hN hD hS
    have hS' : s = sumP x0 := by omega
    subst hN hD hS'
    refine ev_succ ?_
    simp only [laws_FnTrainsTurn.l0]
    have rr := RatioOf_impl (x0.reverse.map swP)
    rw [if_pos (back_train h), (rat_back x0).1, (rat_back x0).2] at rr
    have bb := BackTrain_impl (x0.reverse.map swP)
    rw [show BackP (x0.reverse.map swP) = _ from if_pos (back_train h), back_back] at bb
    have nx : Ev (fun k => laws_FnTrainsTurn.j2 k m x0 (tusP x0 x0.length 0 1) (decide (tusP x0 x0.length 0 1 < 1))) true := by
      refine ev_succ ?_
      simp only [laws_FnTrainsTurn.j2]
      exact ev_f (by simp; omega) (l1_ev h hm x0.length 0 (by omega))
    refine ev_f (by omega) (Ev.bind rr (Ev.bind bb (ev_t (by rw [rat_cross]) (ev_f (by omega) (ev_f (by omega) (ev_t (by trivial) (ev_t (by trivial) (ev_t (by trivial) (ev_t (by trivial) (Ev.bind (kPairs_ev x0 (by omega)) (ev_t (by trivial) (ev_t (by trivial) ?_))))))))))))
    unfold dirP
    by_cases c : (x0.length : Int) % 2 = 0
    · rw [c]
      exact ev_t (by omega) (ev_f (by decide) nx)
    · have c1 : (x0.length : Int) % 2 = 1 := by omega
      rw [c1]
      exact ev_f (by omega) (ev_t (by omega) (ev_f (by decide) nx))
  | succ d ih =>
    intro j a b s e a1 a2 b1 b2 s1 s2 hN hD hS
    refine ev_succ ?_
    simp only [laws_FnTrainsTurn.l0]
    have m := tb.2 _ (List.getElem_mem (show j < x0.length by omega))
    have y1 := bd_mul (j := j) (by omega) a1 a2 m.1.1 m.1.2
    have y2 := bd_mul (j := j) (by omega) b1 b2 m.2.1 m.2.2
    have z := bdP_le (j + 1)
    have ip : impl_IsPair.f x0[j].f0 x0[j].f1 = some true := by rw [isPair_C, decide_eq_true m]
    rw [rdP_get x0 j (by omega), w64 (x := (j : Int) + 1) (by omega) (by omega), w64 (x := a * x0[j].f0) (by omega) (by omega), w64 (x := b * x0[j].f1) (by omega) (by omega), w64 (x := x0[j].f0 + x0[j].f1) (by omega) (by omega), w64 (by omega) (by omega)]
    refine ev_t (by omega) (ev_t (by omega) (ev_t (by omega) (ev_p ip (ev_t (by trivial) ?_))))
    rw [List.drop_eq_getElem_cons (show j < x0.length by omega)] at hN hD hS
    simp only [prN, prD, sumP] at hN hD hS
    exact ih (j + 1) _ _ _ (by omega) y1.1 y1.2 y2.1 y2.2 (by omega) (by omega) hN hD (by omega)
theorem u8_of {l : List Int} (h : ∀ x ∈ l, (Lit.int .u8 x).wf = true) : u8L l := fun x hx => by
  have := h x hx
  simp [Lit.wf, IntKind.min, IntKind.max, IntKind.signed, IntKind.bits] at this
  omega
theorem law : laws_FnTrainsTurn.Pure := by
  intro l m hl0 hl1 hl2 hm0 hm1 hm2
  refine Ev.rounds (g := fun k => laws_FnTrainsTurn.f k l m) ?_
  have hm := u8_of hm2
  obtain ⟨l0, hD⟩ := drawRatio_some (u8_of hl2)
  unfold laws_FnTrainsTurn.f
  have hbig : ∃ q, laws_big.f l m = some q := by
    unfold laws_big.f
    split <;> exact ⟨_, rfl⟩
  obtain ⟨q, hq⟩ := hbig
  refine ev_p hq ?_
  cases q with
  | true => exact ev_t rfl (ev_now _)
  | false =>
  refine ev_f (by simp) (Ev.bind hD ?_)
  have st : Ev (fun k => spec_IsTrain.f k l0) (trainB l0) := by
    unfold spec_IsTrain.f
    exact Ev.bind (geTrain_ev l0) (ev_now _)
  have f1 := RatioOf_impl l0
  have f2 := RatioOf_spec l0
  have f3 := DirectionOf_impl l0
  have f4 := DirectionOf_spec l0
  have f5 := BackTrain_impl l0
  have f6 := BackTrain_spec l0
  have f7 := TurnsUntilSame_impl l0
  have f8 := TurnsUntilSame_spec l0
  have f9 := TeethOf_impl l0
  have f10 := TeethOf_spec l0
  have it := isTrain_ev l0
  by_cases h : trainB l0 = true
  · have hl := (trainB_of h).1
    rw [if_pos h] at f1 f2 f3 f4 f7 f8 f9 f10
    rw [show BackP l0 = _ from if_pos h] at f5 f6
    rw [h] at it st
    refine (Ev.bind f1 (Ev.bind f2 (Ev.bind f3 (Ev.bind f4 (Ev.bind f5 (Ev.bind f6 (Ev.bind f7 (Ev.bind f8 (Ev.bind f9 (Ev.bind f10 ?_))))))))))
    refine ev_f (by simp) (ev_t (by trivial) (ev_t (by trivial) (ev_f (by simp) (ev_t (by trivial) (ev_f (by simp) (Ev.bind (kPairs_ev _ (by simp; omega)) (ev_t (by trivial) (ev_f (by simp) (ev_t (by trivial) (ev_f (by simp) (ev_t (by trivial) (Ev.bind it (ev_f (by simp) (Ev.bind it (Ev.bind st (ev_f (by simp) (ev_f (by simp) (ev_f (by simp) (ev_f (by simp) ?_)))))))))))))))))))
    refine ev_succ ?_
    simp only [laws_FnTrainsTurn.j0]
    exact ev_f (by simp) (ev_t (by trivial) (l0_ev h hm l0.length 0 1 1 0 (by omega) (by omega) (by decide) (by omega) (by decide) (by omega) (by omega) rfl rfl (by simp)))
  · have hf : trainB l0 = false := by simpa using h
    rw [if_neg h] at f1 f2 f3 f4 f7 f8 f9 f10
    rw [show BackP l0 = _ from if_neg h] at f5 f6
    rw [hf] at it st
    refine (Ev.bind f1 (Ev.bind f2 (Ev.bind f3 (Ev.bind f4 (Ev.bind f5 (Ev.bind f6 (Ev.bind f7 (Ev.bind f8 (Ev.bind f9 (Ev.bind f10 ?_))))))))))
    refine ev_f (by simp) (ev_t (by trivial) (ev_t (by trivial) (ev_f (by simp) (ev_t (by trivial) (ev_f (by simp) (Ev.bind (kPairs_ev _ (by simp)) (ev_t (by trivial) (ev_f (by simp) (ev_t (by trivial) (ev_f (by simp) (ev_t (by trivial) (Ev.bind it (ev_f (by simp) (Ev.bind it (Ev.bind st (ev_f (by simp) (ev_f (by simp) (ev_f (by simp) (ev_f (by simp) ?_)))))))))))))))))))
    refine ev_succ ?_
    simp only [laws_FnTrainsTurn.j0]
    exact ev_f (by simp) (ev_f (by simp) (j5_ev hm))

end Go.Proofs.Ytcchbhcpmpgccaa.Pure.FnTrainsTurnWay
namespace Go.Proofs.Ytcchbhcpmpgccaa.Pure
/-- The law's pure statement. -/
theorem FnTrainsTurn : GFnTrainsTurn.laws_FnTrainsTurn.Pure := FnTrainsTurnWay.law
end Go.Proofs.Ytcchbhcpmpgccaa.Pure
