/- FnExactTurnsOfLast: the law's printed function answers true at every input. -/
import Derived.Test.YtcchbhcpmpgccaaGFnExactTurnsOfLastx3
import Derived.Test.YtcchbhcpmpgccaaLib
import Derived.Test.YtcchbhcpmpgccaaLibRows
import Derived.Test.YtcchbhcpmpgccaaLibGcd
set_option linter.unusedVariables false
set_option linter.unusedSimpArgs false
namespace Go.Proofs.Ytcchbhcpmpgccaa.Pure.FnExactTurnsOfLastWay
open Go.RowKit Go.Proofs.Ytcchbhcpmpgccaa.GFnExactTurnsOfLast Go.Proofs.YtcchbhcpmpgccaaW.PrintWords Go.Proofs.YtcchbhcpmpgccaaW.PrintLast Go.Proofs.YtcchbhcpmpgccaaW.PrintMore Go.Proofs.Ytcchbhcpmpgccaa.Lib

/-! szPairS -/
theorem szPairS_eq (l : List S54) (n : Int) (h : l.length ≤ maxLen) (h0 : 0 ≤ n) (h1 : n ≤ 1048576) : laws_szPairS.f l n = some (if (l.length : Int) ≤ n then n - (l.length : Int) else -1) := by
  unfold maxLen at h
  unfold laws_szPairS.f
  rw [w64 (by omega) (by omega)]
  by_cases c : (l.length : Int) ≤ n
  · rw [if_neg (by omega), if_pos c]
  · rw [if_pos (by omega), if_neg c]

/-! toPairS -/
def toP (l : List S54) : List S41 := l.map fun p => ⟨p.f0, p.f1⟩
theorem toP_length (l : List S54) : (toP l).length = l.length := by simp [toP]
theorem toPairS_ev (l : List S54) (h : l.length ≤ 1000000000) : Ev (fun k => laws_toPairS.f k l) (toP l) := by
  unfold laws_toPairS.f
  refine ev_t (by omega) (ev_t (by omega) ?_)
  refine copy_gen (cv := fun p : S54 => (⟨p.f0, p.f1⟩ : S41)) (d := z54) (l0 := laws_toPairS.l0) ?_ ?_ l _ (by simp) h
  · intro k xs ys i a b c d
    simp only [laws_toPairS.l0]
    rw [if_pos b, if_pos a]
    simp only [laws_toPair.f, Option.bind_some]
    rw [if_pos (by omega), w64 (by omega) (by omega)]
    rfl
  · intro k xs ys i a
    simp only [laws_toPairS.l0]
    rw [if_neg a]

/-! eqPairS -/
theorem eqPairS_ev (l : List S41) (h : l.length ≤ 1000000000) : Ev (fun k => laws_eqPairS.f k l l) true := by
  unfold laws_eqPairS.f
  refine ev_t rfl ?_
  exact scan_gen (g := fun i k => laws_eqPairS.l0 k l l i) (n := l.length) (fun i a b ih => by
    refine ev_succ ?_
    simp only [laws_eqPairS.l0]
    refine ev_t b (ev_t a (ev_t b (ev_p (a := true) (by simp [laws_eqPair.f]) (ev_t rfl ?_))))
    rw [w64 (by omega) (by omega)]
    exact ih) (by
    refine ev_one fun k => ?_
    simp only [laws_eqPairS.l0]
    rw [if_neg (by omega)]) 0 (by omega) (by omega)

/-! trainB -/
def pairC (p : S41) : Bool := decide ((6 ≤ p.f0 ∧ p.f0 ≤ 120) ∧ (6 ≤ p.f1 ∧ p.f1 ≤ 120))
def trainB (l : List S41) : Bool := decide (l.length ≤ 4) && !(l.any fun p => !pairC p)
theorem trainB_of {l : List S41} (h : trainB l = true) : l.length ≤ 4 ∧ ∀ p ∈ l, (6 ≤ p.f0 ∧ p.f0 ≤ 120) ∧ (6 ≤ p.f1 ∧ p.f1 ≤ 120) := by
  unfold trainB at h
  simp only [Bool.and_eq_true, decide_eq_true_eq, Bool.not_eq_true', List.any_eq_false] at h
  refine ⟨h.1, fun p hp => ?_⟩
  have := h.2 p hp
  simp [pairC] at this
  omega
theorem rdP_get (l : List S41) (i : Nat) (h : i < l.length) : rd_T41 l i = l[i] := by
  unfold rd_T41
  rw [List.getD_eq_getElem?_getD, show ((i : Int)).toNat = i by omega, List.getElem?_eq_getElem h]
  rfl
theorem rdP_mem (l : List S41) (i : Int) (h0 : 0 ≤ i) (h : i < l.length) : rd_T41 l i ∈ l := by
  have e : rd_T41 l i = rd_T41 l (i.toNat : Nat) := by rw [show ((i.toNat : Nat) : Int) = i by omega]
  rw [e, rdP_get l i.toNat (by omega)]
  exact List.getElem_mem _

/-! IsTrain -/
theorem isTrain_ev (l : List S41) : Ev (fun k => impl_IsTrain.f k l) (trainB l) := ev_con rfl

/-! l1In -/
theorem l1In_eq (a b c : Int) : spec_l1In.f a b c = some (decide (b ≤ a ∧ a ≤ c)) := within_gen (fun _ _ _ => rfl) a b c

/-! geWheel -/
theorem geWheel_eq (n : Int) : spec_geWheel.f n = some (decide (6 ≤ n ∧ n ≤ 120)) := by
  unfold spec_geWheel.f
  rw [l1In_eq, Option.bind_some]

/-! gePair -/
theorem gePair_eq (a b : Int) : spec_gePair.f a b = some (decide ((6 ≤ a ∧ a ≤ 120) ∧ (6 ≤ b ∧ b ≤ 120))) := by
  unfold spec_gePair.f
  rw [geWheel_eq, Option.bind_some]
  by_cases h : 6 ≤ a ∧ a ≤ 120
  · rw [if_pos (by simpa using h), geWheel_eq, Option.bind_some]
    congr 1
    rw [Bool.eq_iff_iff, decide_eq_true_iff, decide_eq_true_iff]
    omega
  · rw [if_neg (by simpa using h)]
    congr 1
    symm
    exact decide_eq_false (by omega)

/-! geTrain -/
theorem geTrain_ev (l : List S41) : Ev (fun k => spec_geTrain.f k l) (trainB l) := by
  unfold spec_geTrain.f
  by_cases h : (l.length : Int) > 4
  · have e : trainB l = false := by
      unfold trainB
      rw [decide_eq_false (by omega)]
      rfl
    rw [e]
    exact ev_t h (ev_now _)
  · refine ev_f h ?_
    have e : trainB l = !(l.any fun p => !pairC p) := by
      unfold trainB
      rw [decide_eq_true (by omega)]
      rfl
    rw [e]
    have pr : ∀ p : S41, spec_gePair.f p.f0 p.f1 = some (pairC p) := fun p => gePair_eq p.f0 p.f1
    have go : ∀ (d j : Nat), j + d = l.length → Ev (fun k => spec_geTrain.l0 k l (l.length : Int) j) (!((l.drop j).any fun p => !pairC p)) := by
      intro d
      induction d with
      | zero =>
        intro j a
        refine ev_one fun k => ?_
        simp only [spec_geTrain.l0]
        rw [if_neg (by omega), List.drop_of_length_le (by omega)]
        rfl
      | succ d ih =>
        intro j a
        refine ev_succ ?_
        simp only [spec_geTrain.l0]
        refine ev_t (by omega) (ev_t (by omega) (ev_t (by omega) (ev_p (pr _) ?_)))
        rw [List.drop_eq_getElem_cons (show j < l.length by omega), rdP_get l j (by omega)]
        cases c : pairC l[j]
        · refine ev_f (by simp) ?_
          rw [List.any_cons, c]
          exact ev_now _
        · refine ev_t rfl ?_
          rw [w64 (by omega) (by omega), List.any_cons, c]
          exact ih (j + 1) (by omega)
    have := go l.length 0 (by omega)
    rw [List.drop_zero] at this
    exact this

/-! ratioP -/
def prN : List S41 → Int → Int
  | [], a => a
  | p :: l, a => prN l (a * p.f0)
def prD : List S41 → Int → Int
  | [], a => a
  | p :: l, a => prD l (a * p.f1)
def bdP : Nat → Int
  | 0 => 1
  | 1 => 120
  | 2 => 14400
  | 3 => 1728000
  | _ + 4 => 207360000
theorem bdP_step {j : Nat} (h : j < 4) : bdP j * 120 = bdP (j + 1) ∧ 1 ≤ bdP j ∧ bdP (j + 1) ≤ 207360000 := by
  match j, h with
  | 0, _ => decide
  | 1, _ => decide
  | 2, _ => decide
  | 3, _ => decide
theorem bdP_le (j : Nat) : bdP j ≤ 207360000 := by
  match j with
  | 0 => decide
  | 1 => decide
  | 2 => decide
  | 3 => decide
  | j + 4 => exact Int.le_refl _
theorem bd_mul {a p : Int} {j : Nat} (h : j < 4) (a1 : 1 ≤ a) (a2 : a ≤ bdP j) (p1 : 6 ≤ p) (p2 : p ≤ 120) : 1 ≤ a * p ∧ a * p ≤ bdP (j + 1) := by
  have m := mul_bd (a := a) (b := p) (A := bdP j) (B := 120) (by omega) a2 (by omega) p2
  have := mul_pos1 (a := a) (b := p) a1 (by omega)
  have := bdP_step h
  omega
theorem pr_bd {l : List S41} (h : trainB l = true) : ∀ (d j : Nat) (a b : Int), j + d = l.length → 1 ≤ a → a ≤ bdP j → 1 ≤ b → b ≤ bdP j → (1 ≤ prN (l.drop j) a ∧ prN (l.drop j) a ≤ 207360000) ∧ (1 ≤ prD (l.drop j) b ∧ prD (l.drop j) b ≤ 207360000) := by
  have tb := trainB_of h
  intro d
  induction d with
  | zero =>
    intro j a b e a1 a2 b1 b2
    have := bdP_le j
    rw [List.drop_of_length_le (by omega)]
    simp only [prN, prD]
    omega
  | succ d ih =>
    intro j a b e a1 a2 b1 b2
    have m := tb.2 _ (List.getElem_mem (show j < l.length by omega))
    have x := bd_mul (j := j) (by omega) a1 a2 m.1.1 m.1.2
    have y := bd_mul (j := j) (by omega) b1 b2 m.2.1 m.2.2
    rw [List.drop_eq_getElem_cons (show j < l.length by omega)]
    simp only [prN, prD]
    exact ih (j + 1) _ _ (by omega) x.1 x.2 y.1 y.2
theorem pr_bd0 {l : List S41} (h : trainB l = true) : (1 ≤ prN l 1 ∧ prN l 1 ≤ 207360000) ∧ (1 ≤ prD l 1 ∧ prD l 1 ≤ 207360000) := by
  have := pr_bd h l.length 0 1 1 (by omega) (by omega) (by decide) (by omega) (by decide)
  simpa using this

/-! gcd -/
theorem gcd_ev (a b : Int) (ha : a.natAbs ≤ 4611686018427387904) (hb : b.natAbs ≤ 4611686018427387904) : Ev (fun k => impl_gcd.f k a b) (Int.gcd a b : Int) := by
  unfold impl_gcd.f
  exact gcd_gen (l0 := impl_gcd.l0) (fun _ _ _ => by simp only [impl_gcd.l0]) b.natAbs a b ha hb (Nat.le_refl _)

/-! lowest -/
theorem lowest_ev (a b : Int) (ha : a.natAbs ≤ 4611686018427387904) (hb : b.natAbs ≤ 4611686018427387904) (h0 : b ≠ 0) : Ev (fun k => impl_lowest.f k a b) (lowN a b, lowD a b) := by
  unfold impl_lowest.f
  have g := gcd_pos (a := a) h0
  have n := low_bdN a b
  have d := low_bdD a b
  refine Ev.bind (gcd_ev a b ha hb) (ev_f (by omega) ?_)
  rw [low_tdiv, low_tdiv', w64 (by omega) (by omega), w64 (by omega) (by omega)]
  exact ev_now _

/-! diCommon -/
theorem diCommon_ev (a b : Int) (ha : 0 ≤ a) (hb : 0 ≤ b) : Ev (fun k => spec_diCommon.f k a b) (Int.gcd a b : Int) := by
  unfold spec_diCommon.f
  exact common_gen (l0 := spec_diCommon.l0) (fun _ _ _ => by simp only [spec_diCommon.l0]) b.natAbs a b ha hb (Nat.le_refl _)

/-! geRatio -/
theorem geRatio_go {l : List S41} (h : trainB l = true) : ∀ (d j : Nat) (a b : Int), j + d = l.length → 1 ≤ a → a ≤ bdP j → 1 ≤ b → b ≤ bdP j → Ev (fun k => spec_geRatio.l0 k a b l (l.length : Int) j) (lowN (prN (l.drop j) a) (prD (l.drop j) b), lowD (prN (l.drop j) a) (prD (l.drop j) b)) := by
  have tb := trainB_of h
  intro d
  induction d with
  | zero =>
    intro j a b e a1 a2 b1 b2
    have bl := bdP_le j
    refine ev_succ ?_
    simp only [spec_geRatio.l0]
    refine ev_f (by omega) ?_
    rw [List.drop_of_length_le (by omega)]
    simp only [prN, prD]
    have p := gcd_pos (a := a) (b := b) (by omega)
    have bn := low_bdN a b
    have bd := low_bdD a b
    refine Ev.bind (diCommon_ev a b (by omega) (by omega)) (ev_f (by omega) ?_)
    rw [low_tdiv, low_tdiv', w64 (by omega) (by omega), w64 (by omega) (by omega)]
    exact ev_now _
  | succ d ih =>
    intro j a b e a1 a2 b1 b2
    have m := tb.2 _ (List.getElem_mem (show j < l.length by omega))
    have x := bd_mul (j := j) (by omega) a1 a2 m.1.1 m.1.2
    have y := bd_mul (j := j) (by omega) b1 b2 m.2.1 m.2.2
    have bl := bdP_le (j + 1)
    refine ev_succ ?_
    simp only [spec_geRatio.l0]
    refine ev_t (by omega) (ev_t (by omega) (ev_t (by omega) ?_))
    rw [rdP_get l j (by omega), w64 (x := (j : Int) + 1) (by omega) (by omega), w64 (x := a * l[j].f0) (by omega) (by omega), w64 (x := b * l[j].f1) (by omega) (by omega), List.drop_eq_getElem_cons (show j < l.length by omega)]
    simp only [prN, prD]
    exact ih (j + 1) _ _ (by omega) x.1 x.2 y.1 y.2
def ratN (l : List S41) : Int := lowN (prN l 1) (prD l 1)
def ratD (l : List S41) : Int := lowD (prN l 1) (prD l 1)
theorem geRatio_ev {l : List S41} (h : trainB l = true) : Ev (fun k => spec_geRatio.f k l) (ratN l, ratD l) := by
  have := geRatio_go h l.length 0 1 1 (by omega) (by omega) (by decide) (by omega) (by decide)
  unfold spec_geRatio.f
  rw [List.drop_zero] at this
  exact this
theorem rat_bd {l : List S41} (h : trainB l = true) : (1 ≤ ratN l ∧ ratN l ≤ 207360000) ∧ (1 ≤ ratD l ∧ ratD l ≤ 207360000) := by
  have b := pr_bd0 h
  have p1 := low_posN b.1.1 b.2.1
  have p2 := low_posD (a := prN l 1) b.2.1
  have b1 := low_bdN (prN l 1) (prD l 1)
  have b2 := low_bdD (prN l 1) (prD l 1)
  unfold ratN ratD
  omega

/-! ratio -/
theorem ratio_go {l : List S41} (h : trainB l = true) : ∀ (d j : Nat) (a b : Int), j + d = l.length → 1 ≤ a → a ≤ bdP j → 1 ≤ b → b ≤ bdP j → Ev (fun k => impl_ratio.l0 k (lowN a b) (lowD a b) l (l.length : Int) j) (lowN (prN (l.drop j) a) (prD (l.drop j) b), lowD (prN (l.drop j) a) (prD (l.drop j) b)) := by
  have tb := trainB_of h
  intro d
  induction d with
  | zero =>
    intro j a b e a1 a2 b1 b2
    refine ev_one fun k => ?_
    simp only [impl_ratio.l0]
    rw [if_neg (by omega), List.drop_of_length_le (by omega)]
    rfl
  | succ d ih =>
    intro j a b e a1 a2 b1 b2
    have m := tb.2 _ (List.getElem_mem (show j < l.length by omega))
    have x := bd_mul (j := j) (by omega) a1 a2 m.1.1 m.1.2
    have y := bd_mul (j := j) (by omega) b1 b2 m.2.1 m.2.2
    have bl := bdP_le j
    have n1 := low_bdN a b
    have n2 := low_bdD a b
    have p1 := low_posN a1 b1
    have p2 := low_posD (a := a) b1
    have u := mul_bd (a := lowN a b) (b := l[j].f0) (A := 207360000) (B := 120) (by omega) (by omega) (by omega) (by omega)
    have v := mul_bd (a := lowD a b) (b := l[j].f1) (A := 207360000) (B := 120) (by omega) (by omega) (by omega) (by omega)
    have v1 := mul_pos1 (a := lowD a b) (b := l[j].f1) p2 (by omega)
    have st := low_step (n := a) (d := b) (p := l[j].f0) (q := l[j].f1) b1
    refine ev_succ ?_
    simp only [impl_ratio.l0]
    refine ev_t (by omega) (ev_t (by omega) (ev_t (by omega) ?_))
    rw [rdP_get l j (by omega), w64 (x := (j : Int) + 1) (by omega) (by omega), w64 (x := lowN a b * l[j].f0) (by omega) (by omega), w64 (x := lowD a b * l[j].f1) (by omega) (by omega), List.drop_eq_getElem_cons (show j < l.length by omega)]
    have lo := lowest_ev (lowN a b * l[j].f0) (lowD a b * l[j].f1) (by omega) (by omega) (by omega)
    rw [st.1, st.2] at lo
    refine Ev.bind lo ?_
    simp only [prN, prD]
    exact ih (j + 1) _ _ (by omega) x.1 x.2 y.1 y.2
theorem ratio_ev {l : List S41} (h : trainB l = true) : Ev (fun k => impl_ratio.f k l) (ratN l, ratD l) := by
  have := ratio_go h l.length 0 1 1 (by omega) (by omega) (by decide) (by omega) (by decide)
  have e1 : lowN 1 1 = 1 := by decide
  have e2 : lowD 1 1 = 1 := by decide
  rw [e1, e2, List.drop_zero] at this
  unfold impl_ratio.f
  exact this

/-! within -/
theorem within_eq (a b c : Int) : impl_within.f a b c = some (decide (b ≤ a ∧ a ≤ c)) := within_gen (fun _ _ _ => rfl) a b c

/-! l1Most -/
theorem l1Most_eq (a b : Int) : spec_l1Most.f a b = some (max a b) := most_gen (fun _ _ => rfl) a b

/-! l1Abs -/
theorem l1Abs_eq {a : Int} (h : a.natAbs ≤ 4611686018427387904) : spec_l1Abs.f a = some (a.natAbs : Int) := by
  unfold spec_l1Abs.f
  rw [w64 (by omega) (by omega), l1Most_eq, Option.bind_some]
  congr 1
  omega

/-! TurnsOfLast -/
def dirL (l : List S41) : Int := 1 - (2 * ((l.length : Int) % 2))
def tolP (l : List S41) (t : Int) : Int × Int × Bool := (lowN (ratN l * t * dirL l) (ratD l), lowD (ratN l * t * dirL l) (ratD l), true)
def TurnsOfLastP (l : List S41) (t : Int) : Int × Int × Bool := if trainB l = true ∧ -1000 ≤ t ∧ t ≤ 1000 then tolP l t else (0, 0, false)
theorem tol_bd {l : List S41} {t : Int} (h : trainB l = true) (h1 : -1000 ≤ t) (h2 : t ≤ 1000) : (dirL l = 1 ∨ dirL l = -1) ∧ (-207360000000 ≤ ratN l * t ∧ ratN l * t ≤ 207360000000) ∧ (-207360000000 ≤ ratN l * t * dirL l ∧ ratN l * t * dirL l ≤ 207360000000) := by
  have d : dirL l = 1 ∨ dirL l = -1 := by unfold dirL; omega
  have r := rat_bd h
  have m : -207360000000 ≤ ratN l * t ∧ ratN l * t ≤ 207360000000 := by
    by_cases c : 0 ≤ t
    · have := mul_bd (a := ratN l) (b := t) (A := 207360000) (B := 1000) (by omega) (by omega) c h2
      omega
    · have := mul_bd (a := ratN l) (b := -t) (A := 207360000) (B := 1000) (by omega) (by omega) (by omega) (by omega)
      rw [Int.mul_neg] at this
      omega
  refine ⟨d, m, ?_⟩
  rcases d with d | d <;> rw [d] <;> omega
theorem TurnsOfLast_spec (l : List S41) (t : Int) : Ev (fun k => spec_TurnsOfLast.f k l t) (TurnsOfLastP l t) := by
  have no : ∀ k, spec_TurnsOfLast.j0 (k + 1) l t true = some (0, 0, false) := fun k => by
    simp [spec_TurnsOfLast.j0]
  unfold spec_TurnsOfLast.f TurnsOfLastP
  refine Ev.bind (geTrain_ev l) ?_
  by_cases h : trainB l = true
  · refine ev_t h (ev_p (l1In_eq _ _ _) ?_)
    by_cases g : -1000 ≤ t ∧ t ≤ 1000
    · rw [if_pos ⟨h, g⟩, decide_eq_true g]
      have b := tol_bd h g.1 g.2
      have rb := rat_bd h
      refine ev_succ ?_
      simp only [spec_TurnsOfLast.j0, Bool.not_true]
      refine ev_f (by simp) (Ev.bind (geRatio_ev h) (ev_p rfl ?_))
      show Ev (fun n => (spec_l1Abs.f (wrap64 (ratN l * (wrap64 (t * dirL l))))).bind _) _
      have e1 : wrap64 (ratN l * (wrap64 (t * dirL l))) = ratN l * t * dirL l := by
        have e2 : wrap64 (t * dirL l) = t * dirL l := by
          rcases b.1 with d | d <;> rw [d] <;> exact w64 (by omega) (by omega)
        rw [e2, ← Int.mul_assoc, w64 (by omega) (by omega)]
      rw [e1]
      refine ev_p (l1Abs_eq (by omega)) ?_
      have gc := diCommon_ev ((ratN l * t * dirL l).natAbs : Int) (ratD l) (by omega) (by omega)
      rw [gcd_abs] at gc
      have p := gcd_pos (a := ratN l * t * dirL l) (b := ratD l) (by omega)
      have bn := low_bdN (ratN l * t * dirL l) (ratD l)
      have bd := low_bdD (ratN l * t * dirL l) (ratD l)
      refine Ev.bind gc (ev_f (by omega) ?_)
      dsimp only
      show Ev (fun n => some (wrap64 (Int.tdiv (wrap64 (ratN l * (wrap64 (t * dirL l)))) _), _, true)) _
      rw [e1, low_tdiv, low_tdiv', w64 (by omega) (by omega), w64 (by omega) (by omega)]
      exact ev_now _
    · rw [if_neg (fun z => g z.2), decide_eq_false g]
      exact ev_one no
  · rw [if_neg (fun z => h z.1)]
    exact ev_f h (ev_one no)
theorem TurnsOfLast_impl (l : List S41) (t : Int) : Ev (fun k => impl_TurnsOfLast.f k l t) (TurnsOfLastP l t) := by
  have no : ∀ k, impl_TurnsOfLast.j0 (k + 1) l t true = some (0, 0, false) := fun k => by
    simp [impl_TurnsOfLast.j0]
  unfold impl_TurnsOfLast.f TurnsOfLastP
  refine Ev.bind (isTrain_ev l) ?_
  by_cases h : trainB l = true
  · refine ev_t h (ev_p (within_eq _ _ _) ?_)
    by_cases g : -1000 ≤ t ∧ t ≤ 1000
    · rw [if_pos ⟨h, g⟩, decide_eq_true g]
      have b := tol_bd h g.1 g.2
      have rb := rat_bd h
      refine ev_succ ?_
      simp only [impl_TurnsOfLast.j0, Bool.not_true]
      refine ev_f (by simp) (Ev.bind (ratio_ev h) (ev_p rfl ?_))
      show Ev (fun n => (impl_lowest.f n (wrap64 ((wrap64 (ratN l * t)) * dirL l)) (ratD l)).bind _) _
      rw [w64 (x := ratN l * t) (by omega) (by omega), w64 (by omega) (by omega)]
      exact Ev.bind (lowest_ev _ _ (by omega) (by omega) (by omega)) (ev_now _)
    · rw [if_neg (fun z => g z.2), decide_eq_false g]
      exact ev_one no
  · rw [if_neg (fun z => h z.1)]
    exact ev_f h (ev_one no)

/-! the law -/
theorem law_of {R : _} (l0 : List S54) (a1 : Int) (hl : l0.length ≤ 1048576) (hs : Ev (fun k => spec_TurnsOfLast.f k (toP l0) a1) R) (hi : Ev (fun k => impl_TurnsOfLast.f k (toP l0) a1) R) : Ev (fun k => laws_FnExactTurnsOfLast.f k l0 a1) true := by
  have ht := toPairS_ev l0 (by omega)
  have he := eqPairS_ev (toP l0) (by rw [toP_length]; omega)
  unfold laws_FnExactTurnsOfLast.f
  refine ev_p (szPairS_eq l0 1048576 (by unfold maxLen; omega) (by omega) (by omega)) ?_
  rw [if_pos (by omega)]
  refine ev_f (by omega) (Ev.bind ht (Ev.bind hs (Ev.bind ht (Ev.bind hi ?_))))
  refine ev_t rfl (ev_t rfl ( ev_succ ?_))
  simp only [laws_FnExactTurnsOfLast.j0]
  exact ev_f (by simp) (Ev.bind ht (Ev.bind he (ev_t rfl (ev_now true))))
theorem law (l0 : List S54) (a1 : Int) (hn0 : l0.length ≤ maxLen) (hw0 : ∀ x ∈ l0, (Lit.int .i64 x.f0).wf = true ∧ (Lit.int .i64 x.f1).wf = true) (w1 : (Lit.int .i64 a1).wf = true) : ∃ k, laws_FnExactTurnsOfLast.f k l0 a1 = some true := by
  refine Ev.rounds (g := fun k => laws_FnExactTurnsOfLast.f k l0 a1) ?_
  by_cases hl : l0.length ≤ 1048576
  · exact law_of l0 a1 hl (TurnsOfLast_spec _ _) (TurnsOfLast_impl _ _)
  · unfold laws_FnExactTurnsOfLast.f
    refine ev_p (szPairS_eq l0 1048576 hn0 (by omega) (by omega)) ?_
    rw [if_neg (by omega)]
    exact ev_t (by omega) (ev_now true)

end Go.Proofs.Ytcchbhcpmpgccaa.Pure.FnExactTurnsOfLastWay
