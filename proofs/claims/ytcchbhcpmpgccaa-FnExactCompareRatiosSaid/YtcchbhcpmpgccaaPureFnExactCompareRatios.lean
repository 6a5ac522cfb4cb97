/- FnExactCompareRatios: the law's printed function answers true at every input. -/
import Derived.Test.YtcchbhcpmpgccaaGFnExactCompareRatiosx3
import Derived.Test.YtcchbhcpmpgccaaLib
import Derived.Test.YtcchbhcpmpgccaaLibRows
import Derived.Test.YtcchbhcpmpgccaaLibGcd
set_option linter.unusedVariables false
set_option linter.unusedSimpArgs false
namespace Go.Proofs.Ytcchbhcpmpgccaa.Pure.FnExactCompareRatiosWay
open Go.RowKit Go.Proofs.Ytcchbhcpmpgccaa.GFnExactCompareRatios Go.Proofs.YtcchbhcpmpgccaaW.PrintWords Go.Proofs.YtcchbhcpmpgccaaW.PrintLast Go.Proofs.YtcchbhcpmpgccaaW.PrintMore Go.Proofs.Ytcchbhcpmpgccaa.Lib

/-! szPairS -/
theorem szPairS_eq (l : List S54) (n : Int) (h : l.length ≤ maxLen) (h0 : 0 ≤ n) (h1 : n ≤ 1048576) : laws_szPairS.f l n = some (if (l.length : Int) ≤ n then n - (l.length : Int) else -1) := by
  unfold maxLen at h
  unfold laws_szPairS.f
  rw [w64 (by omega) (by omega)]
  by_cases c : (l.length : Int) ≤ n
  · rw [if_neg (by omega), if_pos c]
  · rw [if_pos (by omega), if_neg c]

/-! toPairS -/
def toP (l : List S54) : List S41 := l.map fun p => ⟨p.f0, p.f1⟩
theorem toP_length (l : List S54) : (toP l).length = l.length := by simp [toP]
theorem toPairS_ev (l : List S54) (h : l.length ≤ 1000000000) : Ev (fun k => laws_toPairS.f k l) (toP l) := by
  unfold laws_toPairS.f
  refine ev_t (by omega) (ev_t (by omega) ?_)
  refine copy_gen (cv := fun p : S54 => (⟨p.f0, p.f1⟩ : S41)) (d := z54) (l0 := laws_toPairS.l0) ?_ ?_ l _ (by simp) h
  · intro k xs ys i a b c d
    simp only [laws_toPairS.l0]
    rw [if_pos b, if_pos a]
    simp only [laws_toPair.f, Option.bind_some]
    rw [if_pos (by omega), w64 (by omega) (by omega)]
    rfl
  · intro k xs ys i a
    simp only [laws_toPairS.l0]
    rw [if_neg a]

/-! eqPairS -/
theorem eqPairS_ev (l : List S41) (h : l.length ≤ 1000000000) : Ev (fun k => laws_eqPairS.f k l l) true := by
  unfold laws_eqPairS.f
  refine ev_t rfl ?_
  exact scan_gen (g := fun i k => laws_eqPairS.l0 k l l i) (n := l.length) (fun i a b ih => by
    refine ev_succ ?_
    simp only [laws_eqPairS.l0]
    refine ev_t b (ev_t a (ev_t b (ev_p (a := true) (by simp [laws_eqPair.f]) (ev_t rfl ?_))))
    rw [w64 (by omega) (by omega)]
    exact ih) (by
    refine ev_one fun k => ?_
    simp only [laws_eqPairS.l0]
    rw [if_neg (by omega)]) 0 (by omega) (by omega)

/-! trainB -/
def pairC (p : S41) : Bool := decide ((6 ≤ p.f0 ∧ p.f0 ≤ 120) ∧ (6 ≤ p.f1 ∧ p.f1 ≤ 120))
def trainB (l : List S41) : Bool := decide (l.length ≤ 4) && !(l.any fun p => !pairC p)
theorem trainB_of {l : List S41} (h : trainB l = true) : l.length ≤ 4 ∧ ∀ p ∈ l, (6 ≤ p.f0 ∧ p.f0 ≤ 120) ∧ (6 ≤ p.f1 ∧ p.f1 ≤ 120) := by
  unfold trainB at h
  simp only [Bool.and_eq_true, decide_eq_true_eq, Bool.not_eq_true', List.any_eq_false] at h
  refine ⟨h.1, fun p hp => ?_⟩
  have := h.2 p hp
  simp [pairC] at this
  omega
theorem rdP_get (l : List S41) (i : Nat) (h : i < l.length) : rd_T41 l i = l[i] := by
  unfold rd_T41
  rw [List.getD_eq_getElem?_getD, show ((i : Int)).toNat = i by omega, List.getElem?_eq_getElem h]
  rfl
theorem rdP_mem (l : List S41) (i : Int) (h0 : 0 ≤ i) (h : i < l.length) : rd_T41 l i ∈ l := by
  have e : rd_T41 l i = rd_T41 l (i.toNat : Nat) := by rw [show ((i.toNat : Nat) : Int) = i by omega]
  rw [e, rdP_get l i.toNat (by omega)]
  exact List.getElem_mem _

/-! IsTrain -/
theorem isTrain_ev (l : List S41) : Ev (fun k => impl_IsTrain.f k l) (trainB l) := ev_con rfl

/-! l1In -/
theorem l1In_eq (a b c : Int) : spec_l1In.f a b c = some (decide (b ≤ a ∧ a ≤ c)) := within_gen (fun _ _ _ => rfl) a b c

/-! geWheel -/
theorem geWheel_eq (n : Int) : spec_geWheel.f n = some (decide (6 ≤ n ∧ n ≤ 120)) := by
  unfold spec_geWheel.f
  rw [l1In_eq, Option.bind_some]

/-! gePair -/
theorem gePair_eq (a b : Int) : spec_gePair.f a b = some (decide ((6 ≤ a ∧ a ≤ 120) ∧ (6 ≤ b ∧ b ≤ 120))) := by
  unfold spec_gePair.f
  rw [geWheel_eq, Option.bind_some]
  by_cases h : 6 ≤ a ∧ a ≤ 120
  · rw [if_pos (by simpa using h), geWheel_eq, Option.bind_some]
    congr 1
    rw [Bool.eq_iff_iff, decide_eq_true_iff, decide_eq_true_iff]
    omega
  · rw [if_neg (by simpa using h)]
    congr 1
    symm
    exact decide_eq_false (by omega)

/-! geTrain -/
theorem geTrain_ev (l : List S41) : Ev (fun k => spec_geTrain.f k l) (trainB l) := by
  unfold spec_geTrain.f
  by_cases h : (l.length : Int) > 4
  · have e : trainB l = false := by
      unfold trainB
      rw [decide_eq_false (by omega)]
      rfl
    rw [e]
    exact ev_t h (ev_now _)
  · refine ev_f h ?_
    have e : trainB l = !(l.any fun p => !pairC p) := by
      unfold trainB
      rw [decide_eq_true (by omega)]
      rfl
    rw [e]
    have pr : ∀ p : S41, spec_gePair.f p.f0 p.f1 = some (pairC p) := fun p => gePair_eq p.f0 p.f1
    have go : ∀ (d j : Nat), j + d = l.length → Ev (fun k => spec_geTrain.l0 k l (l.length : Int) j) (!((l.drop j).any fun p => !pairC p)) := by
      intro d
      induction d with
      | zero =>
        intro j a
        refine ev_one fun k => ?_
        simp only [spec_geTrain.l0]
        rw [if_neg (by omega), List.drop_of_length_le (by omega)]
        rfl
      | succ d ih =>
        intro j a
        refine ev_succ ?_
        simp only [spec_geTrain.l0]
        refine ev_t (by omega) (ev_t (by omega) (ev_t (by omega) (ev_p (pr _) ?_)))
        rw [List.drop_eq_getElem_cons (show j < l.length by omega), rdP_get l j (by omega)]
        cases c : pairC l[j]
        · refine ev_f (by simp) ?_
          rw [List.any_cons, c]
          exact ev_now _
        · refine ev_t rfl ?_
          rw [w64 (by omega) (by omega), List.any_cons, c]
          exact ih (j + 1) (by omega)
    have := go l.length 0 (by omega)
    rw [List.drop_zero] at this
    exact this

/-! ratioP -/
def prN : List S41 → Int → Int
  | [], a => a
  | p :: l, a => prN l (a * p.f0)
def prD : List S41 → Int → Int
  | [], a => a
  | p :: l, a => prD l (a * p.f1)
def bdP : Nat → Int
  | 0 => 1
  | 1 => 120
  | 2 => 14400
  | 3 => 1728000
  | _ + 4 => 207360000
theorem bdP_step {j : Nat} (h : j < 4) : bdP j * 120 = bdP (j + 1) ∧ 1 ≤ bdP j ∧ bdP (j + 1) ≤ 207360000 := by
  match j, h with
  | 0, _ => decide
  | 1, _ => decide
  | 2, _ => decide
  | 3, _ => decide
theorem bdP_le (j : Nat) : bdP j ≤ 207360000 := by
  match j with
  | 0 => decide
  | 1 => decide
  | 2 => decide
  | 3 => decide
  | j + 4 => exact Int.le_refl _
theorem bd_mul {a p : Int} {j : Nat} (h : j < 4) (a1 : 1 ≤ a) (a2 : a ≤ bdP j) (p1 : 6 ≤ p) (p2 : p ≤ 120) : 1 ≤ a * p ∧ a * p ≤ bdP (j + 1) := by
  have m := mul_bd (a := a) (b := p) (A := bdP j) (B := 120) (by omega) a2 (by omega) p2
  have := mul_pos1 (a := a) (b := p) a1 (by omega)
  have := bdP_step h
  omega
theorem pr_bd {l : List S41} (h : trainB l = true) : ∀ (d j : Nat) (a b : Int), j + d = l.length → 1 ≤ a → a ≤ bdP j → 1 ≤ b → b ≤ bdP j → (1 ≤ prN (l.drop j) a ∧ prN (l.drop j) a ≤ 207360000) ∧ (1 ≤ prD (l.drop j) b ∧ prD (l.drop j) b ≤ 207360000) := by
  have tb := trainB_of h
  intro d
  induction d with
  | zero =>
    intro j a b e a1 a2 b1 b2
    have := bdP_le j
    rw [List.drop_of_length_le (by omega)]
    simp only [prN, prD]
    omega
  | succ d ih =>
    intro j a b e a1 a2 b1 b2
    have m := tb.2 _ (List.getElem_mem (show j < l.length by omega))
    have x := bd_mul (j := j) (by omega) a1 a2 m.1.1 m.1.2
    have y := bd_mul (j := j) (by omega) b1 b2 m.2.1 m.2.2
    rw [List.drop_eq_getElem_cons (show j < l.length by omega)]
    simp only [prN, prD]
    exact ih (j + 1) _ _ (by omega) x.1 x.2 y.1 y.2
theorem pr_bd0 {l : List S41} (h : trainB l = true) : (1 ≤ prN l 1 ∧ prN l 1 ≤ 207360000) ∧ (1 ≤ prD l 1 ∧ prD l 1 ≤ 207360000) := by
  have := pr_bd h l.length 0 1 1 (by omega) (by omega) (by decide) (by omega) (by decide)
  simpa using this

/-! gcd -/
theorem gcd_ev (a b : Int) (ha : a.natAbs ≤ 4611686018427387904) (hb : b.natAbs ≤ 4611686018427387904) : Ev (fun k => impl_gcd.f k a b) (Int.gcd a b : Int) := by
  unfold impl_gcd.f
  exact gcd_gen (l0 := impl_gcd.l0) (fun _ _ _ => by simp only [impl_gcd.l0]) b.natAbs a b ha hb (Nat.le_refl _)

/-! lowest -/
theorem lowest_ev (a b : Int) (ha : a.natAbs ≤ 4611686018427387904) (hb : b.natAbs ≤ 4611686018427387904) (h0 : b ≠ 0) : Ev (fun k => impl_lowest.f k a b) (lowN a b, lowD a b) := by
  unfold impl_lowest.f
  have g := gcd_pos (a := a) h0
  have n := low_bdN a b
  have d := low_bdD a b
  refine Ev.bind (gcd_ev a b ha hb) (ev_f (by omega) ?_)
  rw [low_tdiv, low_tdiv', w64 (by omega) (by omega), w64 (by omega) (by omega)]
  exact ev_now _

/-! diCommon -/
theorem diCommon_ev (a b : Int) (ha : 0 ≤ a) (hb : 0 ≤ b) : Ev (fun k => spec_diCommon.f k a b) (Int.gcd a b : Int) := by
  unfold spec_diCommon.f
  exact common_gen (l0 := spec_diCommon.l0) (fun _ _ _ => by simp only [spec_diCommon.l0]) b.natAbs a b ha hb (Nat.le_refl _)

/-! geRatio -/
theorem geRatio_go {l : List S41} (h : trainB l = true) : ∀ (d j : Nat) (a b : Int), j + d = l.length → 1 ≤ a → a ≤ bdP j → 1 ≤ b → b ≤ bdP j → Ev (fun k => spec_geRatio.l0 k a b l (l.length : Int) j) (lowN (prN (l.drop j) a) (prD (l.drop j) b), lowD (prN (l.drop j) a) (prD (l.drop j) b)) := by
  have tb := trainB_of h
  intro d
  induction d with
  | zero =>
    intro j a b e a1 a2 b1 b2
    have bl := bdP_le j
    refine ev_succ ?_
    simp only [spec_geRatio.l0]
    refine ev_f (by omega) ?_
    rw [List.drop_of_length_le (by omega)]
    simp only [prN, prD]
    have p := gcd_pos (a := a) (b := b) (by omega)
    have bn := low_bdN a b
    have bd := low_bdD a b
    refine Ev.bind (diCommon_ev a b (by omega) (by omega)) (ev_f (by omega) ?_)
    rw [low_tdiv, low_tdiv', w64 (by omega) (by omega), w64 (by omega) (by omega)]
    exact ev_now _
  | succ d ih =>
    intro j a b e a1 a2 b1 b2
    have m := tb.2 _ (List.getElem_mem (show j < l.length by omega))
    have x := bd_mul (j := j) (by omega) a1 a2 m.1.1 m.1.2
    have y := bd_mul (j := j) (by omega) b1 b2 m.2.1 m.2.2
    have bl := bdP_le (j + 1)
    refine ev_succ ?_
    simp only [spec_geRatio.l0]
    refine ev_t (by omega) (ev_t (by omega) (ev_t (by omega) ?_))
    rw [rdP_get l j (by omega), w64 (x := (j : Int) + 1) (by omega) (by omega), w64 (x := a * l[j].f0) (by omega) (by omega), w64 (x := b * l[j].f1) (by omega) (by omega), List.drop_eq_getElem_cons (show j < l.length by omega)]
    simp only [prN, prD]
    exact ih (j + 1) _ _ (by omega) x.1 x.2 y.1 y.2
def ratN (l : List S41) : Int := lowN (prN l 1) (prD l 1)
def ratD (l : List S41) : Int := lowD (prN l 1) (prD l 1)
theorem geRatio_ev {l : List S41} (h : trainB l = true) : Ev (fun k => spec_geRatio.f k l) (ratN l, ratD l) := by
  have := geRatio_go h l.length 0 1 1 (by omega) (by omega) (by decide) (by omega) (by decide)
  unfold spec_geRatio.f
  rw [List.drop_zero] at this
  exact this
theorem rat_bd {l : List S41} (h : trainB l = true) : (1 ≤ ratN l ∧ ratN l ≤ 207360000) ∧ (1 ≤ ratD l ∧ ratD l ≤ 207360000) := by
  have b := pr_bd0 h
  have p1 := low_posN b.1.1 b.2.1
  have p2 := low_posD (a := prN l 1) b.2.1
  have b1 := low_bdN (prN l 1) (prD l 1)
  have b2 := low_bdD (prN l 1) (prD l 1)
  unfold ratN ratD
  omega

/-! ratio -/
theorem ratio_go {l : List S41} (h : trainB l = true) : ∀ (d j : Nat) (a b : Int), j + d = l.length → 1 ≤ a → a ≤ bdP j → 1 ≤ b → b ≤ bdP j → Ev (fun k => impl_ratio.l0 k (lowN a b) (lowD a b) l (l.length : Int) j) (lowN (prN (l.drop j) a) (prD (l.drop j) b), lowD (prN (l.drop j) a) (prD (l.drop j) b)) := by
  have tb := trainB_of h
  intro d
  induction d with
  | zero =>
    intro j a b e a1 a2 b1 b2
    refine ev_one fun k => ?_
    simp only [impl_ratio.l0]
    rw [if_neg (by omega), List.drop_of_length_le (by omega)]
    rfl
  | succ d ih =>
    intro j a b e a1 a2 b1 b2
    have m := tb.2 _ (List.getElem_mem (show j < l.length by omega))
    have x := bd_mul (j := j) (by omega) a1 a2 m.1.1 m.1.2
    have y := bd_mul (j := j) (by omega) b1 b2 m.2.1 m.2.2
    have bl := bdP_le j
    have n1 := low_bdN a b
    have n2 := low_bdD a b
    have p1 := low_posN a1 b1
    have p2 := low_posD (a := a) b1
    have u := mul_bd (a := lowN a b) (b := l[j].f0) (A := 207360000) (B := 120) (by omega) (by omega) (by omega) (by omega)
    have v := mul_bd (a := lowD a b) (b := l[j].f1) (A := 207360000) (B := 120) (by omega) (by omega) (by omega) (by omega)
    have v1 := mul_pos1 (a := lowD a b) (b := l[j].f1) p2 (by omega)
    have st := low_step (n := a) (d := b) (p := l[j].f0) (q := l[j].f1) b1
    refine ev_succ ?_
    simp only [impl_ratio.l0]
    refine ev_t (by omega) (ev_t (by omega) (ev_t (by omega) ?_))
    rw [rdP_get l j (by omega), w64 (x := (j : Int) + 1) (by omega) (by omega), w64 (x := lowN a b * l[j].f0) (by omega) (by omega), w64 (x := lowD a b * l[j].f1) (by omega) (by omega), List.drop_eq_getElem_cons (show j < l.length by omega)]
    have lo := lowest_ev (lowN a b * l[j].f0) (lowD a b * l[j].f1) (by omega) (by omega) (by omega)
    rw [st.1, st.2] at lo
    refine Ev.bind lo ?_
    simp only [prN, prD]
    exact ih (j + 1) _ _ (by omega) x.1 x.2 y.1 y.2
theorem ratio_ev {l : List S41} (h : trainB l = true) : Ev (fun k => impl_ratio.f k l) (ratN l, ratD l) := by
  have := ratio_go h l.length 0 1 1 (by omega) (by omega) (by decide) (by omega) (by decide)
  have e1 : lowN 1 1 = 1 := by decide
  have e2 : lowD 1 1 = 1 := by decide
  rw [e1, e2, List.drop_zero] at this
  unfold impl_ratio.f
  exact this

/-! cmpCompare -/
def sgn (a b : Int) : Int := if a < b then -1 else if b < a then 1 else 0
theorem cmp_eq (a b : Int) : cmp_Compare_int.f a b = some (sgn a b) := by
  unfold cmp_Compare_int.f cmp_isNaN_int.f sgn
  simp
  split
  · rfl
  · split <;> rfl

/-! l1Sign -/
theorem l1Sign_eq (a b : Int) (h : -1000000000000000000 ≤ a) (h' : a ≤ 1000000000000000000) (g : -1000000000000000000 ≤ b) (g' : b ≤ 1000000000000000000) : spec_l1Sign.f (wrap64 (a - b)) = some (sgn a b) := by
  unfold spec_l1Sign.f sgn
  rw [w64 (by omega) (by omega)]
  by_cases c1 : a < b
  · rw [if_neg (by omega), if_pos (by omega), if_pos c1]
  · by_cases c2 : b < a
    · rw [if_pos (by omega), if_neg c1, if_pos c2]
    · rw [if_neg (by omega), if_neg (by omega), if_neg c1, if_neg c2]

/-! CompareRatios -/
def CompareP (l m : List S41) : Int × Bool := if trainB l = true ∧ trainB m = true then (sgn (ratN l * ratD m) (ratN m * ratD l), true) else (0, false)
theorem cmp_bd {l m : List S41} (h : trainB l = true) (g : trainB m = true) : 0 ≤ ratN l * ratD m ∧ ratN l * ratD m ≤ 42998169600000000 := by
  have a := rat_bd h
  have b := rat_bd g
  have := mul_bd (a := ratN l) (b := ratD m) (A := 207360000) (B := 207360000) (by omega) (by omega) (by omega) (by omega)
  omega
theorem CompareRatios_spec (l m : List S41) : Ev (fun k => spec_CompareRatios.f k l m) (CompareP l m) := by
  have no : ∀ k, spec_CompareRatios.j0 (k + 1) l m true = some (0, false) := fun k => by
    simp [spec_CompareRatios.j0]
  unfold spec_CompareRatios.f CompareP
  refine Ev.bind (geTrain_ev l) ?_
  by_cases h : trainB l = true
  · refine ev_t h (Ev.bind (geTrain_ev m) ?_)
    by_cases g : trainB m = true
    · rw [if_pos ⟨h, g⟩, g]
      have b1 := cmp_bd h g
      have b2 := cmp_bd g h
      refine ev_succ ?_
      simp only [spec_CompareRatios.j0, Bool.not_true]
      refine ev_f (by simp) (Ev.bind (geRatio_ev h) (Ev.bind (geRatio_ev g) ?_))
      dsimp only
      rw [w64 (x := ratN l * ratD m) (by omega) (by omega), w64 (x := ratN m * ratD l) (by omega) (by omega)]
      exact ev_p (l1Sign_eq _ _ (by omega) (by omega) (by omega) (by omega)) (ev_now _)
    · rw [if_neg (fun z => g z.2), Bool.eq_false_iff.2 g]
      exact ev_one no
  · rw [if_neg (fun z => h z.1)]
    exact ev_f h (ev_one no)
theorem CompareRatios_impl (l m : List S41) : Ev (fun k => impl_CompareRatios.f k l m) (CompareP l m) := by
  have no : ∀ k, impl_CompareRatios.j0 (k + 1) l m true = some (0, false) := fun k => by
    simp [impl_CompareRatios.j0]
  unfold impl_CompareRatios.f CompareP
  refine Ev.bind (isTrain_ev l) ?_
  by_cases h : trainB l = true
  · refine ev_t h (Ev.bind (isTrain_ev m) ?_)
    by_cases g : trainB m = true
    · rw [if_pos ⟨h, g⟩, g]
      have b1 := cmp_bd h g
      have b2 := cmp_bd g h
      refine ev_succ ?_
      simp only [impl_CompareRatios.j0, Bool.not_true]
      refine ev_f (by simp) (Ev.bind (ratio_ev h) (Ev.bind (ratio_ev g) ?_))
      dsimp only
      rw [w64 (x := ratN l * ratD m) (by omega) (by omega), w64 (x := ratN m * ratD l) (by omega) (by omega)]
      exact ev_p (cmp_eq _ _) (ev_now _)
    · rw [if_neg (fun z => g z.2), Bool.eq_false_iff.2 g]
      exact ev_one no
  · rw [if_neg (fun z => h z.1)]
    exact ev_f h (ev_one no)

/-! the law -/
theorem law_of {R : _} (l0 l1 : List S54) (hl : l0.length + l1.length ≤ 1048576) (hs : Ev (fun k => spec_CompareRatios.f k (toP l0) (toP l1)) R) (hi : Ev (fun k => impl_CompareRatios.f k (toP l0) (toP l1)) R) : Ev (fun k => laws_FnExactCompareRatios.f k l0 l1) true := by
  have ht0 := toPairS_ev l0 (by omega)
  have ht1 := toPairS_ev l1 (by omega)
  have he0 := eqPairS_ev (toP l0) (by rw [toP_length]; omega)
  have he1 := eqPairS_ev (toP l1) (by rw [toP_length]; omega)
  unfold laws_FnExactCompareRatios.f
  refine ev_p (szPairS_eq l0 1048576 (by unfold maxLen; omega) (by omega) (by omega)) ?_
  rw [if_pos (by omega)]
  refine ev_f (by omega) (ev_p (szPairS_eq l1 _ (by unfold maxLen; omega) (by omega) (by omega)) ?_)
  rw [if_pos (by omega)]
  refine ev_f (by omega) (Ev.bind ht0 (Ev.bind ht1 (Ev.bind hs (Ev.bind ht0 (Ev.bind ht1 (Ev.bind hi (ev_t rfl (ev_succ ?_))))))))
  simp only [laws_FnExactCompareRatios.j0]
  exact ev_f (by simp) (Ev.bind ht0 (Ev.bind he0 (ev_t rfl (Ev.bind ht1 (Ev.bind he1 (ev_t rfl (ev_now true)))))))
theorem law (l0 l1 : List S54) (hn0 : l0.length ≤ maxLen) (hw0 : ∀ x ∈ l0, (Lit.int .i64 x.f0).wf = true ∧ (Lit.int .i64 x.f1).wf = true) (hn1 : l1.length ≤ maxLen) (hw1 : ∀ x ∈ l1, (Lit.int .i64 x.f0).wf = true ∧ (Lit.int .i64 x.f1).wf = true) : ∃ k, laws_FnExactCompareRatios.f k l0 l1 = some true := by
  refine Ev.rounds (g := fun k => laws_FnExactCompareRatios.f k l0 l1) ?_
  by_cases hl : l0.length + l1.length ≤ 1048576
  · exact law_of l0 l1 hl (CompareRatios_spec _ _) (CompareRatios_impl _ _)
  · unfold laws_FnExactCompareRatios.f
    refine ev_p (szPairS_eq l0 1048576 hn0 (by omega) (by omega)) ?_
    by_cases h0 : (l0.length : Int) ≤ 1048576
    · rw [if_pos h0]
      refine ev_f (by omega) (ev_p (szPairS_eq l1 _ hn1 (by omega) (by omega)) ?_)
      rw [if_neg (by omega)]
      exact ev_t (by omega) (ev_now true)
    · rw [if_neg h0]
      exact ev_t (by omega) (ev_now true)

end Go.Proofs.Ytcchbhcpmpgccaa.Pure.FnExactCompareRatiosWay
