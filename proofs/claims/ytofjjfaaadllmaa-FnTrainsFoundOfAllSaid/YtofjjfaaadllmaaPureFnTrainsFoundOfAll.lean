/- FnTrainsFoundOfAll: the law's printed function answers true at every input. -/
import Derived.Test.YtofjjfaaadllmaaGFnTrainsFoundOfAllx9
import Derived.Test.YtofjjfaaadllmaaLib
import Derived.Test.YtofjjfaaadllmaaLibRows
import Derived.Test.YtofjjfaaadllmaaLibGcd
set_option linter.unusedVariables false
set_option linter.unusedSimpArgs false
namespace Go.Proofs.Ytofjjfaaadllmaa.Pure.FnTrainsFoundOfAllWay
open Go.RowKit Go.Proofs.Ytofjjfaaadllmaa.GFnTrainsFoundOfAll Go.Proofs.YtofjjfaaadllmaaW.PrintWords Go.Proofs.YtofjjfaaadllmaaW.PrintLast Go.Proofs.YtofjjfaaadllmaaW.PrintMore Go.Proofs.Ytofjjfaaadllmaa.Lib

/-! trainB -/
def pairC (p : S23) : Bool := decide ((6 ≤ p.f0 ∧ p.f0 ≤ 120) ∧ (6 ≤ p.f1 ∧ p.f1 ≤ 120))
def trainB (l : List S23) : Bool := decide (l.length ≤ 4) && !(l.any fun p => !pairC p)
theorem trainB_of {l : List S23} (h : trainB l = true) : l.length ≤ 4 ∧ ∀ p ∈ l, (6 ≤ p.f0 ∧ p.f0 ≤ 120) ∧ (6 ≤ p.f1 ∧ p.f1 ≤ 120) := by
  unfold trainB at h
  simp only [Bool.and_eq_true, decide_eq_true_eq, Bool.not_eq_true', List.any_eq_false] at h
  refine ⟨h.1, fun p hp => ?_⟩
  have := h.2 p hp
  simp [pairC] at this
  omega
theorem rdP_get (l : List S23) (i : Nat) (h : i < l.length) : rd_T23 l i = l[i] := by
  unfold rd_T23
  rw [List.getD_eq_getElem?_getD, show ((i : Int)).toNat = i by omega, List.getElem?_eq_getElem h]
  rfl
theorem rdP_mem (l : List S23) (i : Int) (h0 : 0 ≤ i) (h : i < l.length) : rd_T23 l i ∈ l := by
  have e : rd_T23 l i = rd_T23 l (i.toNat : Nat) := by rw [show ((i.toNat : Nat) : Int) = i by omega]
  rw [e, rdP_get l i.toNat (by omega)]
  exact List.getElem_mem _

/-! ratioP -/
def prN : List S23 → Int → Int
  | [], a => a
  | p :: l, a => prN l (a * p.f0)
def prD : List S23 → Int → Int
  | [], a => a
  | p :: l, a => prD l (a * p.f1)
def bdP : Nat → Int
  | 0 => 1
  | 1 => 120
  | 2 => 14400
  | 3 => 1728000
  | _ + 4 => 207360000
theorem bdP_step {j : Nat} (h : j < 4) : bdP j * 120 = bdP (j + 1) ∧ 1 ≤ bdP j ∧ bdP (j + 1) ≤ 207360000 := by
  match j, h with
  | 0, _ => decide
  | 1, _ => decide
  | 2, _ => decide
  | 3, _ => decide
theorem bdP_le (j : Nat) : bdP j ≤ 207360000 := by
  match j with
  | 0 => decide
  | 1 => decide
  | 2 => decide
  | 3 => decide
  | j + 4 => exact Int.le_refl _
theorem bd_mul {a p : Int} {j : Nat} (h : j < 4) (a1 : 1 ≤ a) (a2 : a ≤ bdP j) (p1 : 6 ≤ p) (p2 : p ≤ 120) : 1 ≤ a * p ∧ a * p ≤ bdP (j + 1) := by
  have m := mul_bd (a := a) (b := p) (A := bdP j) (B := 120) (by omega) a2 (by omega) p2
  have := mul_pos1 (a := a) (b := p) a1 (by omega)
  have := bdP_step h
  omega
theorem pr_bd {l : List S23} (h : trainB l = true) : ∀ (d j : Nat) (a b : Int), j + d = l.length → 1 ≤ a → a ≤ bdP j → 1 ≤ b → b ≤ bdP j → (1 ≤ prN (l.drop j) a ∧ prN (l.drop j) a ≤ 207360000) ∧ (1 ≤ prD (l.drop j) b ∧ prD (l.drop j) b ≤ 207360000) := by
  have tb := trainB_of h
  intro d
  induction d with
  | zero =>
    intro j a b e a1 a2 b1 b2
    have := bdP_le j
    rw [List.drop_of_length_le (by omega)]
    simp only [prN, prD]
    omega
  | succ d ih =>
    intro j a b e a1 a2 b1 b2
    have m := tb.2 _ (List.getElem_mem (show j < l.length by omega))
    have x := bd_mul (j := j) (by omega) a1 a2 m.1.1 m.1.2
    have y := bd_mul (j := j) (by omega) b1 b2 m.2.1 m.2.2
    rw [List.drop_eq_getElem_cons (show j < l.length by omega)]
    simp only [prN, prD]
    exact ih (j + 1) _ _ (by omega) x.1 x.2 y.1 y.2
theorem pr_bd0 {l : List S23} (h : trainB l = true) : (1 ≤ prN l 1 ∧ prN l 1 ≤ 207360000) ∧ (1 ≤ prD l 1 ∧ prD l 1 ≤ 207360000) := by
  have := pr_bd h l.length 0 1 1 (by omega) (by omega) (by decide) (by omega) (by decide)
  simpa using this

/-! diCommon -/
/-! geRatio -/
def ratN (l : List S23) : Int := lowN (prN l 1) (prD l 1)
def ratD (l : List S23) : Int := lowD (prN l 1) (prD l 1)
theorem rat_bd {l : List S23} (h : trainB l = true) : (1 ≤ ratN l ∧ ratN l ≤ 207360000) ∧ (1 ≤ ratD l ∧ ratD l ≤ 207360000) := by
  have b := pr_bd0 h
  have p1 := low_posN b.1.1 b.2.1
  have p2 := low_posD (a := prN l 1) b.2.1
  have b1 := low_bdN (prN l 1) (prD l 1)
  have b2 := low_bdD (prN l 1) (prD l 1)
  unfold ratN ratD
  omega

/-! IsTrain -/
theorem isTrain_ev (l : List S23) : Ev (fun k => impl_IsTrain.f l) (trainB l) := ev_con rfl

/-! l1In -/
theorem l1In_eq (a b c : Int) : spec_l1In.f a b c = some (decide (b ≤ a ∧ a ≤ c)) := within_gen (fun _ _ _ => rfl) a b c

/-! geWheel -/
theorem geWheel_eq (n : Int) : spec_geWheel.f n = some (decide (6 ≤ n ∧ n ≤ 120)) := by
  unfold spec_geWheel.f
  rw [l1In_eq, Option.bind_some]

/-! gePair -/
/-! geTrain -/
/-! TeethOf -/
def sumP : List S23 → Int
  | [] => 0
  | p :: l => p.f0 + p.f1 + sumP l

theorem teethI_go {l : List S23} (h : trainB l = true) : ∀ (d j : Nat) (s : Int), j + d = l.length → 0 ≤ s → s ≤ 1000 * j → Ev (fun k => impl_teeth.l0 k s l (l.length : Int) j) (s + sumP (l.drop j)) := by
  have tb := trainB_of h
  intro d
  induction d with
  | zero =>
    intro j s a b c
    refine ev_one fun k => ?_
    simp only [impl_teeth.l0]
    rw [if_neg (by omega), List.drop_of_length_le (by omega)]
    simp [sumP]
  | succ d ih =>
    intro j s a b c
    refine ev_succ ?_
    simp only [impl_teeth.l0]
    refine ev_t (by omega) (ev_t (by omega) (ev_t (by omega) ?_))
    have m := tb.2 _ (rdP_mem l j (by omega) (by omega))
    rw [w64 (x := (j : Int) + 1) (by omega) (by omega), w64 (x := (rd_T23 l j).f0 + (rd_T23 l j).f1) (by omega) (by omega), w64 (by omega) (by omega)]
    have := ih (j + 1) (s + ((rd_T23 l j).f0 + (rd_T23 l j).f1)) (by omega) (by omega) (by omega)
    rw [List.drop_eq_getElem_cons (show j < l.length by omega)]
    rw [rdP_get l j (by omega)] at this ⊢
    have e : s + sumP (l[j] :: l.drop (j + 1)) = s + (l[j].f0 + l[j].f1) + sumP (l.drop (j + 1)) := by simp only [sumP]; omega
    rw [e]
    exact this

theorem teeth_ev {l : List S23} (h : trainB l = true) : Ev (fun k => impl_teeth.f k l) (sumP l) := by
  have := teethI_go h l.length 0 0 (by omega) (by omega) (by omega)
  unfold impl_teeth.f
  simpa using this
theorem TeethOf_impl (l : List S23) : Ev (fun k => impl_TeethOf.f k l) (if trainB l = true then (sumP l, true) else (0, false)) := by
  unfold impl_TeethOf.f
  refine Ev.bind (isTrain_ev l) ?_
  by_cases h : trainB l = true
  · rw [if_pos h]
    exact ev_t h (Ev.bind (teeth_ev h) (ev_now _))
  · rw [if_neg h]
    exact ev_f h (ev_now _)

/-! gcd -/
theorem gcd_ev (a b : Int) (ha : a.natAbs ≤ 4611686018427387904) (hb : b.natAbs ≤ 4611686018427387904) : Ev (fun k => impl_gcd.f k a b) (Int.gcd a b : Int) := by
  unfold impl_gcd.f
  exact gcd_gen (l0 := impl_gcd.l0) (fun _ _ _ => by simp only [impl_gcd.l0]) b.natAbs a b ha hb (Nat.le_refl _)

/-! lowest -/
theorem lowest_ev (a b : Int) (ha : a.natAbs ≤ 4611686018427387904) (hb : b.natAbs ≤ 4611686018427387904) (h0 : b ≠ 0) : Ev (fun k => impl_lowest.f k a b) (lowN a b, lowD a b) := by
  unfold impl_lowest.f
  have g := gcd_pos (a := a) h0
  have n := low_bdN a b
  have d := low_bdD a b
  refine Ev.bind (gcd_ev a b ha hb) (ev_f (by omega) ?_)
  rw [low_tdiv, low_tdiv', w64 (by omega) (by omega), w64 (by omega) (by omega)]
  exact ev_now _

/-! firstPair -/
theorem mx_max (a b : Int) : mx a b = max a b := by
  unfold mx
  split <;> omega
theorem firstPair_ev {num den most : Int} (hn : 1 ≤ num) (hn' : num ≤ 10000000) (hd : 1 ≤ den) (hd' : den ≤ 10000000) : Ev (fun k => impl_firstPair.f k num den most) (fpA num den, fpB num den, decide (fpA num den ≤ most ∧ fpB num den ≤ most)) := by
  unfold impl_firstPair.f
  have n1 := low_posN hn hd
  have d1 := low_posD (a := num) hd
  have bn := low_bdN num den
  have bd := low_bdD num den
  refine Ev.bind (lowest_ev num den (by omega) (by omega) (by omega)) (ev_con ?_)
  show (if lowN num den = 0 then none else if lowD num den = 0 then none else _) = _
  rw [if_neg (by omega), if_neg (by omega)]
  have q1 := div_le (a := 6 + lowN num den - 1) (b := lowN num den) (by omega) n1
  have q2 := div_le (a := 6 + lowD num den - 1) (b := lowD num den) (by omega) d1
  have b := fp_bd hn hd
  have b' := fp_ge hn hd
  have f : mx (wrap64 (Int.tdiv (wrap64 (wrap64 (6 + lowN num den) - 1)) (lowN num den))) (wrap64 (Int.tdiv (wrap64 (wrap64 (6 + lowD num den) - 1)) (lowD num den))) = facP num den := by
    rw [w64 (x := 6 + lowN num den) (by omega) (by omega), w64 (x := 6 + lowD num den) (by omega) (by omega), w64 (x := 6 + lowN num den - 1) (by omega) (by omega), w64 (x := 6 + lowD num den - 1) (by omega) (by omega), tdiv_e (by omega), tdiv_e (by omega), w64 (by omega) (by omega), w64 (by omega) (by omega), mx_max]
    rfl
  dsimp only
  rw [f]
  unfold fpA fpB at *
  rw [w64 (x := facP num den * lowN num den) (by omega) (by omega), w64 (x := facP num den * lowD num den) (by omega) (by omega)]
  split
  · rename_i c
    have e : decide (facP num den * lowD num den ≤ most) = decide (facP num den * lowN num den ≤ most ∧ facP num den * lowD num den ≤ most) := decide_eq_decide.2 ⟨fun z => ⟨c, z⟩, fun z => z.2⟩
    rw [e]
  · rename_i c
    have e : false = decide (facP num den * lowN num den ≤ most ∧ facP num den * lowD num den ≤ most) := (decide_eq_false (fun z => c z.1)).symm
    rw [← e]

/-! best -/
def sumT : List S23 → Int
  | [] => 0
  | p :: l => p.f0 + p.f1 + sumT l
def trP (nm dn a b : Int) : List S23 := [⟨a, b⟩, ⟨fpA (nm * b) (dn * a), fpB (nm * b) (dn * a)⟩]
def bstep (few : Bool) (nm dn m a b : Int) (st : List S23) : List S23 :=
  if fpA (nm * b) (dn * a) ≤ m ∧ fpB (nm * b) (dn * a) ≤ m then (if st = [] then trP nm dn a b else if few = true ∧ sumT (trP nm dn a b) < sumT st then trP nm dn a b else st) else st
def rowB (few : Bool) (nm dn m a : Int) : Nat → Int → List S23 → List S23
  | 0, _, st => st
  | n + 1, b, st => rowB few nm dn m a n (b + 1) (bstep few nm dn m a b st)
def allB (few : Bool) (nm dn m : Int) : Nat → Int → List S23 → List S23
  | 0, _, st => st
  | n + 1, a, st => allB few nm dn m n (a + 1) (rowB few nm dn m a (m - 5).toNat 6 st)
def goodS (m : Int) (st : List S23) : Prop := st = [] ∨ ∃ a b c d : Int, st = [⟨a, b⟩, ⟨c, d⟩] ∧ (6 ≤ a ∧ a ≤ m) ∧ (6 ≤ b ∧ b ≤ m) ∧ (6 ≤ c ∧ c ≤ m) ∧ (6 ≤ d ∧ d ≤ m)
def EvB {α : Type} (F : Nat → Nat → Option α) (r : α) : Prop := ∃ K, ∀ k g, K ≤ k → K ≤ g → F k g = some r
theorem EvB.succ {α : Type} {F : Nat → Nat → Option α} {r : α} (h : EvB (fun k g => F k (g + 1)) r) : EvB F r := by
  obtain ⟨K, h⟩ := h
  refine ⟨K + 1, fun k g hk hg => ?_⟩
  obtain ⟨g, rfl⟩ : ∃ g', g = g' + 1 := ⟨g - 1, by omega⟩
  exact h k g (by omega) (by omega)
theorem EvB.bind {α β : Type} {o : Nat → Option α} {F : Nat → Nat → α → Option β} {a : α} {r : β} (h : Ev o a) (e : EvB (fun k g => F k g a) r) : EvB (fun k g => (o k).bind (F k g)) r := by
  obtain ⟨K1, h⟩ := h
  obtain ⟨K2, e⟩ := e
  refine ⟨max K1 K2, fun k g hk hg => ?_⟩
  show (o k).bind (F k g) = some r
  rw [h k (by omega), Option.bind_some]
  exact e k g (by omega) (by omega)
theorem good_step {few : Bool} {nm dn m a b : Int} {st : List S23} (hn : 1 ≤ nm) (hd : 1 ≤ dn) (ha : 6 ≤ a ∧ a ≤ m) (hb : 6 ≤ b ∧ b ≤ m) (h : goodS m st) : goodS m (bstep few nm dn m a b st) := by
  unfold bstep
  have f6 := fp_ge (num := nm * b) (den := dn * a) (mul_pos1 hn (by omega)) (mul_pos1 hd (by omega))
  split
  · rename_i c
    have g : goodS m (trP nm dn a b) := Or.inr ⟨a, b, _, _, rfl, ha, hb, ⟨f6.1, c.1⟩, ⟨f6.2, c.2⟩⟩
    split
    · exact g
    · split
      · exact g
      · exact h
  · exact h
theorem teeth2 {m : Int} {a b c d : Int} (hm : m ≤ 120) (h : (6 ≤ a ∧ a ≤ m) ∧ (6 ≤ b ∧ b ≤ m) ∧ (6 ≤ c ∧ c ≤ m) ∧ (6 ≤ d ∧ d ≤ m)) : Ev (fun k => impl_teeth.f k [⟨a, b⟩, ⟨c, d⟩]) (sumT [⟨a, b⟩, ⟨c, d⟩]) := by
  have e0 : rd_T23 [(⟨a, b⟩ : S23), ⟨c, d⟩] 0 = ⟨a, b⟩ := rfl
  have e1 : rd_T23 [(⟨a, b⟩ : S23), ⟨c, d⟩] 1 = ⟨c, d⟩ := rfl
  unfold impl_teeth.f
  refine ev_succ ?_
  simp only [impl_teeth.l0, e0]
  refine ev_t (by simp) (ev_t (by omega) (ev_t (by simp) (ev_succ ?_)))
  rw [w64 (x := 0 + 1) (by omega) (by omega), w64 (x := a + b) (by omega) (by omega), w64 (x := 0 + (a + b)) (by omega) (by omega)]
  simp only [impl_teeth.l0, Int.zero_add, e1]
  refine ev_t (by simp) (ev_t (by omega) (ev_t (by simp) (ev_succ ?_)))
  rw [w64 (x := 1 + 1) (by omega) (by omega), w64 (x := c + d) (by omega) (by omega), w64 (x := a + b + (c + d)) (by omega) (by omega)]
  simp only [impl_teeth.l0]
  refine ev_f (by simp) (ev_con ?_)
  simp only [sumT]
  congr 1
  omega
theorem bsN_ev {few : Bool} {nm dn m a b : Int} {st : List S23} (hm : m ≤ 120) (hn : 1 ≤ nm) (hd : 1 ≤ dn) (ha : 6 ≤ a ∧ a ≤ m) (hb : 6 ≤ b ∧ b ≤ m) (h : goodS m st) :
    Ev (fun k => bsN k few (trP nm dn a b) (decide (fpA (nm * b) (dn * a) ≤ m ∧ fpB (nm * b) (dn * a) ≤ m)) st) (bstep few nm dn m a b st) := by
  have f6 := fp_ge (num := nm * b) (den := dn * a) (mul_pos1 hn (by omega)) (mul_pos1 hd (by omega))
  unfold bsN bstep
  by_cases c : fpA (nm * b) (dn * a) ≤ m ∧ fpB (nm * b) (dn * a) ≤ m
  · rw [if_pos c]
    refine ev_t (decide_eq_true c) ?_
    rcases h with rfl | ⟨p, q, s, t, rfl, hp, hq, hs, ht⟩
    · rw [if_pos rfl]
      exact ev_t rfl (ev_now _)
    · rw [if_neg (by simp)]
      refine ev_f (by simp) ?_
      cases few with
      | false =>
        rw [if_neg (by simp)]
        exact ev_f (by decide) (ev_now _)
      | true =>
        refine ev_t rfl (Ev.bind (teeth2 hm ⟨ha, hb, ⟨f6.1, c.1⟩, ⟨f6.2, c.2⟩⟩) (Ev.bind (teeth2 hm ⟨hp, hq, hs, ht⟩) ?_))
        by_cases y : sumT (trP nm dn a b) < sumT [(⟨p, q⟩ : S23), ⟨s, t⟩]
        · rw [if_pos (show true = true ∧ sumT (trP nm dn a b) < sumT [(⟨p, q⟩ : S23), ⟨s, t⟩] from ⟨rfl, y⟩)]
          exact ev_t y (ev_now _)
        · rw [if_neg (show ¬ (true = true ∧ sumT (trP nm dn a b) < sumT [(⟨p, q⟩ : S23), ⟨s, t⟩]) from fun z => y z.2)]
          exact ev_f y (ev_now _)
  · rw [if_neg c]
    exact ev_f (by simp only [decide_eq_true_eq]; exact c) (ev_now _)
theorem row_impl {few : Bool} {nm dn m a : Int} {r : List S23} (hm : 6 ≤ m ∧ m ≤ 120) (hn : 1 ≤ nm ∧ nm ≤ 1000) (hd : 1 ≤ dn ∧ dn ≤ 1000) (ha : 6 ≤ a ∧ a ≤ m) : ∀ (n : Nat) (b : Int) (st : List S23), 6 ≤ b → b + n = m + 1 → goodS m st →
    EvB (fun k g => bsF k few nm dn m g (a + 1) 6 (rowB few nm dn m a n b st)) r → EvB (fun k g => bsF k few nm dn m g a b st) r
  | 0, b, st, h6, hb, hs, ev => by
    refine EvB.succ ?_
    obtain ⟨K, ev⟩ := ev
    refine ⟨K, fun k g hk hg => ?_⟩
    show bsF k few nm dn m (g + 1) a b st = some r
    rw [bsF, if_pos ha.2, if_neg (by omega)]
    exact ev k g hk hg
  | n + 1, b, st, h6, hb, hs, ev => by
    have m1 := mul_bd (a := nm) (b := b) (A := 1000) (B := 120) (by omega) (by omega) (by omega) (by omega)
    have m2 := mul_bd (a := dn) (b := a) (A := 1000) (B := 120) (by omega) (by omega) (by omega) (by omega)
    have p1 := mul_pos1 (a := nm) (b := b) (by omega) (by omega)
    have p2 := mul_pos1 (a := dn) (b := a) (by omega) (by omega)
    have ih := row_impl (few := few) hm hn hd ha n (b + 1) (bstep few nm dn m a b st) (by omega) (by omega) (good_step (by omega) (by omega) ha (by omega) hs) ev
    have e1 := firstPair_ev (num := nm * b) (den := dn * a) (most := m) (by omega) (by omega) (by omega) (by omega)
    have e2 := bsN_ev (few := few) (st := st) hm.2 hn.1 hd.1 ha (⟨h6, by omega⟩ : 6 ≤ b ∧ b ≤ m) hs
    have key : EvB (fun k g => (impl_firstPair.f k (nm * b) (dn * a) m).bind fun t => (bsN k few [⟨a, b⟩, ⟨t.1, t.2.1⟩] t.2.2 st).bind fun o => bsF k few nm dn m g a (b + 1) o) r := EvB.bind e1 (EvB.bind e2 ih)
    refine EvB.succ ?_
    obtain ⟨K, key⟩ := key
    refine ⟨K, fun k g hk hg => ?_⟩
    show bsF k few nm dn m (g + 1) a b st = some r
    rw [bsF, if_pos ha.2, if_pos (by omega), w64 (x := nm * b) (by omega) (by omega), w64 (x := dn * a) (by omega) (by omega)]
    exact key k g hk hg
theorem row_good {few : Bool} {nm dn m a : Int} (hn : 1 ≤ nm) (hd : 1 ≤ dn) (ha : 6 ≤ a ∧ a ≤ m) : ∀ (n : Nat) (b : Int) (st : List S23), 6 ≤ b → b + n = m + 1 → goodS m st → goodS m (rowB few nm dn m a n b st)
  | 0, _, _, _, _, h => h
  | n + 1, b, st, h6, hb, h => row_good hn hd ha n (b + 1) _ (by omega) (by omega) (good_step hn hd ha ⟨h6, by omega⟩ h)
theorem all_impl {few : Bool} {nm dn m : Int} (hm : 6 ≤ m ∧ m ≤ 120) (hn : 1 ≤ nm ∧ nm ≤ 1000) (hd : 1 ≤ dn ∧ dn ≤ 1000) : ∀ (n : Nat) (a : Int) (st : List S23), 6 ≤ a → a + n = m + 1 → goodS m st →
    EvB (fun k g => bsF k few nm dn m g a 6 st) (allB few nm dn m n a st)
  | 0, a, st, h6, ha, hs => by
    refine EvB.succ ⟨0, fun k g _ _ => ?_⟩
    show bsF k few nm dn m (g + 1) a 6 st = _
    rw [bsF, if_neg (by omega)]
    rfl
  | n + 1, a, st, h6, ha, hs => by
    refine row_impl hm hn hd ⟨h6, by omega⟩ (m - 5).toNat 6 st (by omega) (by omega) hs ?_
    exact all_impl hm hn hd n (a + 1) _ (by omega) (by omega) (row_good hn.1 hd.1 ⟨h6, by omega⟩ _ _ _ (by omega) (by omega) hs)

/-! geAsked -/
theorem geAsked_eq (a b c : Int) : spec_geAsked.f a b c = some (decide ((1 ≤ a ∧ a ≤ 1000) ∧ (1 ≤ b ∧ b ≤ 1000) ∧ (6 ≤ c ∧ c ≤ 120))) := by
  unfold spec_geAsked.f
  rw [l1In_eq, Option.bind_some]
  by_cases h : 1 ≤ a ∧ a ≤ 1000
  · rw [if_pos (by simpa using h), l1In_eq, Option.bind_some]
    by_cases g : 1 ≤ b ∧ b ≤ 1000
    · rw [if_pos (by simpa using g), geWheel_eq, Option.bind_some]
      congr 1
      rw [Bool.eq_iff_iff, decide_eq_true_iff, decide_eq_true_iff]
      omega
    · rw [if_neg (by simpa using g)]
      congr 1
      symm
      exact decide_eq_false (by omega)
  · rw [if_neg (by simpa using h)]
    congr 1
    symm
    exact decide_eq_false (by omega)

/-! within -/
theorem within_eq (a b c : Int) : impl_within.f a b c = some (decide (b ≤ a ∧ a ≤ c)) := within_gen (fun _ _ _ => rfl) a b c

/-! areTeeth -/
theorem areTeeth_eq (n : Int) : impl_areTeeth.f n = some (decide (6 ≤ n ∧ n ≤ 120)) := by
  unfold impl_areTeeth.f
  rw [within_eq, Option.bind_some]

/-! areRatio -/
theorem areRatio_eq (a b c : Int) : impl_areRatio.f a b c = some (decide ((1 ≤ a ∧ a ≤ 1000) ∧ (1 ≤ b ∧ b ≤ 1000) ∧ (6 ≤ c ∧ c ≤ 120))) := by
  unfold impl_areRatio.f
  rw [within_eq, Option.bind_some]
  by_cases h : 1 ≤ a ∧ a ≤ 1000
  · rw [if_pos (by simpa using h), within_eq, Option.bind_some]
    by_cases g : 1 ≤ b ∧ b ≤ 1000
    · rw [if_pos (by simpa using g), areTeeth_eq, Option.bind_some]
      congr 1
      rw [Bool.eq_iff_iff, decide_eq_true_iff, decide_eq_true_iff]
      omega
    · rw [if_neg (by simpa using g)]
      congr 1
      symm
      exact decide_eq_false (by omega)
  · rw [if_neg (by simpa using h)]
    congr 1
    symm
    exact decide_eq_false (by omega)

/-! bestS -/
def fnd (st : List S23) : Bool := !st.isEmpty
def hitP (nm dn m a b c : Int) : Prop := (c * (dn * a)) % (nm * b) = 0 ∧ 6 ≤ (c * (dn * a)) / (nm * b) ∧ (c * (dn * a)) / (nm * b) ≤ m
def trC (nm dn a b c : Int) : List S23 := [⟨a, b⟩, ⟨c, (c * (dn * a)) / (nm * b)⟩]
section
variable {nm dn m a b c : Int} {st : List S23} {few : Bool}
theorem round_vals (hm : 6 ≤ m ∧ m ≤ 120) (hn : 1 ≤ nm ∧ nm ≤ 1000) (hd : 1 ≤ dn ∧ dn ≤ 1000) (ha : 6 ≤ a ∧ a ≤ m) (hb : 6 ≤ b ∧ b ≤ m) (hc : 6 ≤ c ∧ c ≤ m) :
    wrap64 (b * nm) = nm * b ∧ wrap64 (wrap64 (a * c) * dn) = c * (dn * a) ∧ 1 ≤ nm * b ∧ (0 ≤ c * (dn * a) ∧ c * (dn * a) ≤ 14400000) ∧ 0 ≤ (c * (dn * a)) / (nm * b) ∧ (c * (dn * a)) / (nm * b) ≤ 14400000 := by
  have m1 := mul_bd (a := nm) (b := b) (A := 1000) (B := 120) (by omega) (by omega) (by omega) (by omega)
  have m2 := mul_bd (a := dn) (b := a) (A := 1000) (B := 120) (by omega) (by omega) (by omega) (by omega)
  have m3 := mul_bd (a := c) (b := dn * a) (A := 120) (B := 120000) (by omega) (by omega) (by omega) (by omega)
  have m4 := mul_bd (a := a) (b := c) (A := 120) (B := 120) (by omega) (by omega) (by omega) (by omega)
  have p1 := mul_pos1 (a := nm) (b := b) (by omega) (by omega)
  have e1 : b * nm = nm * b := Int.mul_comm _ _
  have e2 : a * c * dn = c * (dn * a) := by rw [Int.mul_comm a c, Int.mul_assoc, Int.mul_comm a dn]
  have dv := div_le (a := c * (dn * a)) (b := nm * b) m3.1 p1
  refine ⟨by rw [e1, w64 (by omega) (by omega)], ?_, p1, ⟨m3.1, by omega⟩, dv.1, by omega⟩
  rw [w64 (x := a * c) (by omega) (by omega), e2, w64 (by omega) (by omega)]
theorem l2_miss {R : List S23 × Bool} (hm : 6 ≤ m ∧ m ≤ 120) (hn : 1 ≤ nm ∧ nm ≤ 1000) (hd : 1 ≤ dn ∧ dn ≤ 1000) (ha : 6 ≤ a ∧ a ≤ m) (hb : 6 ≤ b ∧ b ≤ m) (hc : 6 ≤ c ∧ c ≤ m) (h : ¬ hitP nm dn m a b c) {fo : Bool} {le : Int}
    (ev : Ev (fun k => spec_geTrains.l2 k nm dn m few st fo le a b (c + 1)) R) : Ev (fun k => spec_geTrains.l2 k nm dn m few st fo le a b c) R := by
  obtain ⟨e1, e2, p1, b1, b2, b3⟩ := round_vals hm hn hd ha hb hc
  refine ev_succ ?_
  simp only [spec_geTrains.l2]
  rw [e1, e2, tmod_e b1.1, tdiv_e b1.1, w64 (x := (c * (dn * a)) / (nm * b)) (by omega) (by omega), w64 (x := c + 1) (by omega) (by omega)]
  refine ev_t hc.2 (ev_f (by omega) ?_)
  by_cases z : (c * (dn * a)) % (nm * b) = 0
  · refine ev_t z (ev_p (l1In_eq _ _ _) (ev_f (by simp only [decide_eq_true_eq]; exact fun y => h ⟨z, y⟩) ?_))
    refine ev_succ ?_
    simp only [spec_geTrains.j3]
    rw [w64 (x := c + 1) (by omega) (by omega)]
    exact ev_t trivial ev
  · exact ev_f z ev
theorem l2_hit {R : List S23 × Bool} (hm : 6 ≤ m ∧ m ≤ 120) (hn : 1 ≤ nm ∧ nm ≤ 1000) (hd : 1 ≤ dn ∧ dn ≤ 1000) (ha : 6 ≤ a ∧ a ≤ m) (hb : 6 ≤ b ∧ b ≤ m) (hc : 6 ≤ c ∧ c ≤ m) (h : hitP nm dn m a b c)
    (skip : st ≠ [] → (few = true → sumT st ≤ sumT (trC nm dn a b c)) → Ev (fun k => spec_geTrains.l2 k nm dn m few st (fnd st) (sumT st) a b (c + 1)) R)
    (take : (st = [] ∨ few = true ∧ sumT (trC nm dn a b c) < sumT st) → if few = true then Ev (fun k => spec_geTrains.l2 k nm dn m few (trC nm dn a b c) true (sumT (trC nm dn a b c)) a b (c + 1)) R else R = (trC nm dn a b c, true)) :
    Ev (fun k => spec_geTrains.l2 k nm dn m few st (fnd st) (sumT st) a b c) R := by
  obtain ⟨e1, e2, p1, b1, b2, b3⟩ := round_vals hm hn hd ha hb hc
  have hs : sumT (trC nm dn a b c) = a + b + c + (c * (dn * a)) / (nm * b) := by
    simp only [trC, sumT]
    omega
  have hq := h.2
  refine ev_succ ?_
  simp only [spec_geTrains.l2]
  rw [e1, e2, tmod_e b1.1, tdiv_e b1.1, w64 (x := (c * (dn * a)) / (nm * b)) (by omega) (by omega), w64 (x := a + b) (by omega) (by omega), w64 (x := a + b + c) (by omega) (by omega), w64 (x := a + b + c + (c * (dn * a)) / (nm * b)) (by omega) (by omega), ← hs]
  have skip' : ∀ t : Bool, t = true → Ev (fun k => spec_geTrains.l2 k nm dn m few st (fnd st) (sumT st) a b (c + 1)) R → Ev (fun k => spec_geTrains.j3 k nm dn m few st (fnd st) (sumT st) a b c ((c * (dn * a)) / (nm * b)) t) R := fun t ht ev => by
    refine ev_succ ?_
    simp only [spec_geTrains.j3]
    rw [w64 (x := c + 1) (by omega) (by omega)]
    exact ev_t ht ev
  have take' : ∀ t : Bool, t = false → (if few = true then Ev (fun k => spec_geTrains.l2 k nm dn m few (trC nm dn a b c) true (sumT (trC nm dn a b c)) a b (c + 1)) R else R = (trC nm dn a b c, true)) → Ev (fun k => spec_geTrains.j3 k nm dn m few st (fnd st) (sumT st) a b c ((c * (dn * a)) / (nm * b)) t) R := fun t ht ev => by
    refine ev_succ ?_
    simp only [spec_geTrains.j3]
    rw [w64 (x := c + 1) (by omega) (by omega), w64 (x := a + b) (by omega) (by omega), w64 (x := a + b + c) (by omega) (by omega), w64 (x := a + b + c + (c * (dn * a)) / (nm * b)) (by omega) (by omega), ← hs]
    refine ev_f (by simp [ht]) (ev_p rfl ?_)
    cases few with
    | true =>
      rw [if_pos rfl] at ev
      exact ev_t rfl ev
    | false =>
      rw [if_neg (by decide)] at ev
      rw [ev]
      exact ev_f (by decide) (ev_now _)
  refine ev_t hc.2 (ev_f (by omega) (ev_t h.1 (ev_p (l1In_eq _ _ _) (ev_t (decide_eq_true h.2) ?_))))
  by_cases z : st = []
  · subst z
    exact ev_f (by decide) (take' _ rfl (take (Or.inl rfl)))
  · have hf : fnd st = true := by
      cases st with
      | nil => exact absurd rfl z
      | cons _ _ => rfl
    refine ev_t hf ?_
    cases few with
    | false => exact ev_f (by decide) (skip' _ rfl (skip z (fun y => absurd y (by decide))))
    | true =>
      refine ev_t rfl ?_
      by_cases y : sumT (trC nm dn a b c) ≥ sumT st
      · exact skip' _ (decide_eq_true y) (skip z (fun _ => y))
      · exact take' _ (decide_eq_false y) (take (Or.inr ⟨rfl, by omega⟩))
end

/-! bestR -/
section
variable {nm dn m a b : Int} {st : List S23} {few : Bool} {R : List S23 × Bool}
theorem fnd_ne {st : List S23} (z : st ≠ []) : fnd st = true := by
  cases st with
  | nil => exact absurd rfl z
  | cons _ _ => rfl
theorem trC_le {c : Int} (hn : 1 ≤ nm * b) (hd : 1 ≤ dn * a) (hc : 6 ≤ c) (h : hitP nm dn m a b c) : fpA (nm * b) (dn * a) ≤ c ∧ fpB (nm * b) (dn * a) ≤ (c * (dn * a)) / (nm * b) ∧ sumT (trP nm dn a b) ≤ sumT (trC nm dn a b c) := by
  have l := hit_least hn hd hc h.1 h.2.1
  refine ⟨l.1, l.2, ?_⟩
  simp only [sumT, trP, trC]
  omega
theorem l2_end (hm : 6 ≤ m ∧ m ≤ 120) (hb : 6 ≤ b ∧ b ≤ m) {fo : Bool} {le : Int} (ev : Ev (fun k => spec_geTrains.l1 k nm dn m few st fo le a (b + 1)) R) : Ev (fun k => spec_geTrains.l2 k nm dn m few st fo le a b (m + 1)) R := by
  refine ev_succ ?_
  simp only [spec_geTrains.l2]
  rw [w64 (x := b + 1) (by omega) (by omega)]
  exact ev_f (by omega) ev
theorem l2_tail (hm : 6 ≤ m ∧ m ≤ 120) (hn : 1 ≤ nm ∧ nm ≤ 1000) (hd : 1 ≤ dn ∧ dn ≤ 1000) (ha : 6 ≤ a ∧ a ≤ m) (hb : 6 ≤ b ∧ b ≤ m) (hne : st ≠ []) (hs : sumT st ≤ sumT (trP nm dn a b))
    (ev : Ev (fun k => spec_geTrains.l1 k nm dn m few st (fnd st) (sumT st) a (b + 1)) R) (c0 : Int) (h6 : 6 ≤ c0) (h7 : c0 ≤ m + 1) : Ev (fun k => spec_geTrains.l2 k nm dn m few st (fnd st) (sumT st) a b c0) R := by
  have p1 := mul_pos1 (a := nm) (b := b) (by omega) (by omega)
  have p2 := mul_pos1 (a := dn) (b := a) (by omega) (by omega)
  refine scan_from (g := fun c k => spec_geTrains.l2 k nm dn m few st (fnd st) (sumT st) a b c) (n := m + 1) (i0 := c0) ?_ (l2_end hm hb ev) h7
  intro c g1 g2 e
  by_cases h : hitP nm dn m a b c
  · have t := trC_le p1 p2 (by omega) h
    refine l2_hit hm hn hd ha hb ⟨by omega, by omega⟩ h (fun _ _ => e) (fun z => ?_)
    rcases z with z | z
    · exact absurd z hne
    · exact absurd z.2 (by omega)
  · exact l2_miss hm hn hd ha hb ⟨by omega, by omega⟩ h e
theorem row1 (hm : 6 ≤ m ∧ m ≤ 120) (hn : 1 ≤ nm ∧ nm ≤ 1000) (hd : 1 ≤ dn ∧ dn ≤ 1000) (ha : 6 ≤ a ∧ a ≤ m) (hb : 6 ≤ b ∧ b ≤ m)
    (ev : (few = true ∨ bstep few nm dn m a b st = st) → Ev (fun k => spec_geTrains.l1 k nm dn m few (bstep few nm dn m a b st) (fnd (bstep few nm dn m a b st)) (sumT (bstep few nm dn m a b st)) a (b + 1)) R)
    (hst : few = true ∨ st = []) (ret : few = false → bstep few nm dn m a b st ≠ [] → R = (bstep few nm dn m a b st, true)) : Ev (fun k => spec_geTrains.l2 k nm dn m few st (fnd st) (sumT st) a b 6) R := by
  have p1 := mul_pos1 (a := nm) (b := b) (by omega) (by omega)
  have p2 := mul_pos1 (a := dn) (b := a) (by omega) (by omega)
  have f6 := fp_ge p1 p2
  by_cases g : fpA (nm * b) (dn * a) ≤ m ∧ fpB (nm * b) (dn * a) ≤ m
  · have hf := hit_fp p1 p2
    have hh : hitP nm dn m a b (fpA (nm * b) (dn * a)) := ⟨hf.1, by rw [hf.2]; exact ⟨f6.2, g.2⟩⟩
    have ht : trC nm dn a b (fpA (nm * b) (dn * a)) = trP nm dn a b := by
      unfold trC trP
      rw [hf.2]
    have hne : trP nm dn a b ≠ [] := by simp [trP]
    refine scan_from (g := fun c k => spec_geTrains.l2 k nm dn m few st (fnd st) (sumT st) a b c) (n := fpA (nm * b) (dn * a)) (i0 := 6) ?_ ?_ f6.1
    · intro c g1 g2 e
      refine l2_miss hm hn hd ha hb ⟨by omega, by omega⟩ (fun h => ?_) e
      have := trC_le p1 p2 g1 h
      omega
    · refine l2_hit hm hn hd ha hb ⟨f6.1, g.1⟩ hh (fun z y => ?_) (fun z => ?_)
      · rw [ht] at y
        have hb1 : few = true := by
          rcases hst with q | q
          · exact q
          · exact absurd q z
        have e : bstep few nm dn m a b st = st := by
          unfold bstep
          rw [if_pos g, if_neg z, if_neg (fun q => by have := y hb1; omega)]
        rw [e] at ev
        exact l2_tail hm hn hd ha hb z (y hb1) (ev (Or.inl hb1)) _ (by omega) (by omega)
      · rw [ht] at z ⊢
        have e : bstep few nm dn m a b st = trP nm dn a b := by
          unfold bstep
          rw [if_pos g]
          by_cases y : st = []
          · rw [if_pos y]
          · rw [if_neg y]
            rcases z with q | q
            · exact absurd q y
            · rw [if_pos q]
        rw [e] at ev ret
        cases few with
        | true =>
          rw [if_pos rfl]
          have ev1 := ev (Or.inl rfl)
          have hfd := fnd_ne hne
          rw [← hfd]
          exact l2_tail hm hn hd ha hb hne (Int.le_refl _) ev1 _ (by omega) (by omega)
        | false =>
          rw [if_neg (by decide)]
          exact ret rfl hne
  · have e : bstep few nm dn m a b st = st := by
      unfold bstep
      rw [if_neg g]
    rw [e] at ev
    refine scan_from (g := fun c k => spec_geTrains.l2 k nm dn m few st (fnd st) (sumT st) a b c) (n := m + 1) (i0 := 6) ?_ (l2_end hm hb (ev (Or.inr rfl))) (by omega)
    intro c g1 g2 e1
    refine l2_miss hm hn hd ha hb ⟨by omega, by omega⟩ (fun h => ?_) e1
    have t := trC_le p1 p2 g1 h
    have := h.2.2
    omega
end

/-! bestA -/
section
variable {nm dn m a : Int} {few : Bool} {R : List S23 × Bool}
theorem step_keep {b : Int} {st : List S23} (h : st ≠ []) : bstep false nm dn m a b st = st := by
  unfold bstep
  by_cases g : fpA (nm * b) (dn * a) ≤ m ∧ fpB (nm * b) (dn * a) ≤ m
  · rw [if_pos g, if_neg h, if_neg (fun z => Bool.false_ne_true z.1)]
  · rw [if_neg g]
theorem row_keep {st : List S23} (h : st ≠ []) : ∀ (n : Nat) (b : Int), rowB false nm dn m a n b st = st
  | 0, _ => rfl
  | n + 1, b => by
    rw [rowB, step_keep h]
    exact row_keep h n (b + 1)
theorem all_keep {st : List S23} (h : st ≠ []) : ∀ (n : Nat) (a : Int), allB false nm dn m n a st = st
  | 0, _ => rfl
  | n + 1, a => by
    rw [allB, row_keep h]
    exact all_keep h n (a + 1)
theorem spec_row (hm : 6 ≤ m ∧ m ≤ 120) (hn : 1 ≤ nm ∧ nm ≤ 1000) (hd : 1 ≤ dn ∧ dn ≤ 1000) (ha : 6 ≤ a ∧ a ≤ m) : ∀ (n : Nat) (b : Int) (st : List S23), 6 ≤ b → b + n = m + 1 → (few = true ∨ st = []) →
    ((few = true ∨ rowB few nm dn m a n b st = []) → Ev (fun k => spec_geTrains.l0 k nm dn m few (rowB few nm dn m a n b st) (fnd (rowB few nm dn m a n b st)) (sumT (rowB few nm dn m a n b st)) (a + 1)) R) →
    (few = false → rowB few nm dn m a n b st ≠ [] → R = (rowB few nm dn m a n b st, true)) → Ev (fun k => spec_geTrains.l1 k nm dn m few st (fnd st) (sumT st) a b) R
  | 0, b, st, h6, hb, hst, ev, ret => by
    refine ev_succ ?_
    simp only [spec_geTrains.l1]
    rw [w64 (x := a + 1) (by omega) (by omega)]
    exact ev_f (by omega) (ev hst)
  | n + 1, b, st, h6, hb, hst, ev, ret => by
    refine ev_succ ?_
    simp only [spec_geTrains.l1]
    refine ev_t (by omega) (row1 hm hn hd ha ⟨h6, by omega⟩ (fun z => ?_) hst (fun hf hne => ?_))
    · refine spec_row hm hn hd ha n (b + 1) _ (by omega) (by omega) ?_ ev ret
      rcases z with z | z
      · exact Or.inl z
      · rcases hst with q | q
        · exact Or.inl q
        · exact Or.inr (z.trans q)
    · subst hf
      have k := row_keep (nm := nm) (dn := dn) (m := m) (a := a) hne n (b + 1)
      have r := ret rfl
      rw [rowB, k] at r
      exact r hne
theorem spec_all (hm : 6 ≤ m ∧ m ≤ 120) (hn : 1 ≤ nm ∧ nm ≤ 1000) (hd : 1 ≤ dn ∧ dn ≤ 1000) : ∀ (n : Nat) (a : Int) (st : List S23), 6 ≤ a → a + n = m + 1 → (few = true ∨ st = []) →
    Ev (fun k => spec_geTrains.l0 k nm dn m few st (fnd st) (sumT st) a) (allB few nm dn m n a st, fnd (allB few nm dn m n a st))
  | 0, a, st, h6, ha, hst => by
    refine ev_succ ?_
    simp only [spec_geTrains.l0]
    exact ev_f (by omega) (ev_now _)
  | n + 1, a, st, h6, ha, hst => by
    refine ev_succ ?_
    simp only [spec_geTrains.l0]
    refine ev_t (by omega) (spec_row hm hn hd ⟨h6, by omega⟩ (m - 5).toNat 6 st (by omega) (by omega) hst (fun z => ?_) (fun hf hne => ?_))
    · exact spec_all hm hn hd n (a + 1) _ (by omega) (by omega) z
    · subst hf
      rw [allB, all_keep hne, fnd_ne hne]
end
def bestP (few : Bool) (num den most : Int) : List S23 × Bool :=
  if (1 ≤ num ∧ num ≤ 1000) ∧ (1 ≤ den ∧ den ≤ 1000) ∧ (6 ≤ most ∧ most ≤ 120) then (allB few num den most (most - 5).toNat 6 [], fnd (allB few num den most (most - 5).toNat 6 [])) else ([], false)
theorem all_good {few : Bool} {nm dn m : Int} (hn : 1 ≤ nm) (hd : 1 ≤ dn) (hm : 6 ≤ m) : ∀ (n : Nat) (a : Int) (st : List S23), 6 ≤ a → a + n = m + 1 → goodS m st → goodS m (allB few nm dn m n a st)
  | 0, _, _, _, _, h => h
  | n + 1, a, st, h6, ha, h => all_good hn hd hm n (a + 1) _ (by omega) (by omega) (row_good hn hd ⟨h6, by omega⟩ _ _ _ (by omega) (by omega) h)
theorem bestP_len (few : Bool) (num den most : Int) : (bestP few num den most).1.length ≤ 2 := by
  unfold bestP
  split
  · rename_i h
    rcases all_good (few := few) (nm := num) (dn := den) (m := most) (by omega) (by omega) (by omega) (most - 5).toNat 6 [] (by omega) (by omega) (Or.inl rfl) with e | ⟨_, _, _, _, e, _⟩
    · simp [e]
    · simp [e]
  · simp
theorem fnd_len (st : List S23) : decide (0 < st.length) = fnd st := by
  cases st <;> rfl
theorem best_ev (few : Bool) (num den most : Int) : Ev (fun k => impl_bestTrain.f k num den most few) (bestP few num den most) := by
  unfold impl_bestTrain.f btF bestP
  refine ev_p (areRatio_eq num den most) ?_
  by_cases h : (1 ≤ num ∧ num ≤ 1000) ∧ (1 ≤ den ∧ den ≤ 1000) ∧ (6 ≤ most ∧ most ≤ 120)
  · rw [if_pos h]
    refine ev_t (decide_eq_true h) ?_
    obtain ⟨K, hK⟩ := all_impl (few := few) (nm := num) (dn := den) (m := most) h.2.2 h.1 h.2.1 (most - 5).toNat 6 [] (by omega) (by omega) (Or.inl rfl)
    refine ⟨K, fun k hk => ?_⟩
    show (bsF k few num den most k 6 6 []).bind _ = _
    have e : bsF k few num den most k 6 6 [] = some (allB few num den most (most - 5).toNat 6 []) := hK k k hk hk
    rw [e, Option.bind_some, fnd_len]
  · rw [if_neg h]
    exact ev_f (by simp only [decide_eq_true_eq]; exact h) (ev_now _)
theorem geTrains_ev {few : Bool} {num den most : Int} (h : (1 ≤ num ∧ num ≤ 1000) ∧ (1 ≤ den ∧ den ≤ 1000) ∧ (6 ≤ most ∧ most ≤ 120)) : Ev (fun k => spec_geTrains.f k num den most few) (allB few num den most (most - 5).toNat 6 [], fnd (allB few num den most (most - 5).toNat 6 [])) :=
  spec_all h.2.2 h.1 h.2.1 (most - 5).toNat 6 [] (by omega) (by omega) (Or.inr rfl)

/-! bestMin -/
def okT (nm dn m a b : Int) : Prop := fpA (nm * b) (dn * a) ≤ m ∧ fpB (nm * b) (dn * a) ≤ m
structure BInv (few : Bool) (nm dn m : Int) (st : List S23) (P : Int → Int → Prop) : Prop where
  no : st = [] → ∀ a b, P a b → ¬ okT nm dn m a b
  is : st ≠ [] → ∃ a b, (6 ≤ a ∧ a ≤ m) ∧ (6 ≤ b ∧ b ≤ m) ∧ okT nm dn m a b ∧ st = trP nm dn a b
  le : few = true → ∀ a b, P a b → okT nm dn m a b → sumT st ≤ sumT (trP nm dn a b)
theorem BInv.weak {few : Bool} {nm dn m : Int} {st : List S23} {P P' : Int → Int → Prop} (h : BInv few nm dn m st P) (hp : ∀ a b, P' a b → P a b) : BInv few nm dn m st P' :=
  ⟨fun e a b q => h.no e a b (hp a b q), h.is, fun f a b q => h.le f a b (hp a b q)⟩
theorem trP_ne (nm dn a b : Int) : trP nm dn a b ≠ [] := by
  unfold trP
  exact List.cons_ne_nil _ _
theorem binv_step {few : Bool} {nm dn m a b : Int} {st : List S23} {P : Int → Int → Prop} (ha : 6 ≤ a ∧ a ≤ m) (hb : 6 ≤ b ∧ b ≤ m) (h : BInv few nm dn m st P) : BInv few nm dn m (bstep few nm dn m a b st) (fun x y => P x y ∨ (x = a ∧ y = b)) := by
  unfold bstep
  by_cases c : fpA (nm * b) (dn * a) ≤ m ∧ fpB (nm * b) (dn * a) ≤ m
  · rw [if_pos c]
    by_cases e : st = []
    · rw [if_pos e]
      refine ⟨fun q => absurd q (trP_ne _ _ _ _), fun _ => ⟨a, b, ha, hb, c, rfl⟩, fun hf x y hp ok => ?_⟩
      rcases hp with hp | ⟨rfl, rfl⟩
      · exact absurd ok (h.no e x y hp)
      · exact Int.le_refl _
    · rw [if_neg e]
      by_cases y : few = true ∧ sumT (trP nm dn a b) < sumT st
      · rw [if_pos y]
        refine ⟨fun q => absurd q (trP_ne _ _ _ _), fun _ => ⟨a, b, ha, hb, c, rfl⟩, fun hf x z hp ok => ?_⟩
        rcases hp with hp | ⟨rfl, rfl⟩
        · have := h.le hf x z hp ok
          omega
        · exact Int.le_refl _
      · rw [if_neg y]
        refine ⟨fun q => absurd q e, h.is, fun hf x z hp ok => ?_⟩
        rcases hp with hp | ⟨rfl, rfl⟩
        · exact h.le hf x z hp ok
        · have : ¬ sumT (trP nm dn x z) < sumT st := fun q => y ⟨hf, q⟩
          omega
  · rw [if_neg c]
    refine ⟨fun q x z hp => ?_, h.is, fun hf x z hp ok => ?_⟩
    · rcases hp with hp | ⟨rfl, rfl⟩
      · exact h.no q x z hp
      · exact c
    · rcases hp with hp | ⟨rfl, rfl⟩
      · exact h.le hf x z hp ok
      · exact absurd ok c
theorem binv_row {few : Bool} {nm dn m a : Int} (ha : 6 ≤ a ∧ a ≤ m) : ∀ (n : Nat) (b : Int) (st : List S23) (P : Int → Int → Prop), 6 ≤ b → b + n = m + 1 → BInv few nm dn m st P →
    BInv few nm dn m (rowB few nm dn m a n b st) (fun x y => P x y ∨ (x = a ∧ b ≤ y ∧ y ≤ m))
  | 0, b, st, P, h6, hb, h => h.weak fun x y q => by
    rcases q with q | q
    · exact q
    · omega
  | n + 1, b, st, P, h6, hb, h => by
    have := binv_row ha n (b + 1) _ _ (by omega) (by omega) (binv_step ha ⟨h6, by omega⟩ h)
    refine BInv.weak this fun x y q => ?_
    rcases q with q | ⟨q1, q2, q3⟩
    · exact Or.inl (Or.inl q)
    · by_cases e : y = b
      · exact Or.inl (Or.inr ⟨q1, e⟩)
      · exact Or.inr ⟨q1, by omega, q3⟩
theorem binv_all {few : Bool} {nm dn m : Int} (hm : 6 ≤ m) : ∀ (n : Nat) (a : Int) (st : List S23) (P : Int → Int → Prop), 6 ≤ a → a + n = m + 1 → BInv few nm dn m st P →
    BInv few nm dn m (allB few nm dn m n a st) (fun x y => P x y ∨ ((a ≤ x ∧ x ≤ m) ∧ (6 ≤ y ∧ y ≤ m)))
  | 0, a, st, P, h6, ha, h => h.weak fun x y q => by
    rcases q with q | q
    · exact q
    · omega
  | n + 1, a, st, P, h6, ha, h => by
    have := binv_all hm n (a + 1) _ _ (by omega) (by omega) (binv_row ⟨h6, by omega⟩ (m - 5).toNat 6 st P (by omega) (by omega) h)
    refine BInv.weak this fun x y q => ?_
    rcases q with q | ⟨q1, q2⟩
    · exact Or.inl (Or.inl q)
    · by_cases e : x = a
      · exact Or.inl (Or.inr ⟨e, q2⟩)
      · exact Or.inr ⟨⟨by omega, q1.2⟩, q2⟩
def solT (nm dn m a b c d : Int) : Prop := (6 ≤ a ∧ a ≤ m) ∧ (6 ≤ b ∧ b ≤ m) ∧ (6 ≤ c ∧ c ≤ m) ∧ (6 ≤ d ∧ d ≤ m) ∧ c * (dn * a) = d * (nm * b)
theorem sol_ok {nm dn m a b c d : Int} (hn : 1 ≤ nm) (hd : 1 ≤ dn) (h : solT nm dn m a b c d) : okT nm dn m a b ∧ sumT (trP nm dn a b) ≤ a + b + c + d := by
  obtain ⟨ha, hb, hc, he, q⟩ := h
  have p1 := mul_pos1 (a := nm) (b := b) hn (by omega)
  have p2 := mul_pos1 (a := dn) (b := a) hd (by omega)
  have e1 : (c * (dn * a)) % (nm * b) = 0 := by rw [q]; exact Int.mul_emod_left _ _
  have e2 : (c * (dn * a)) / (nm * b) = d := by rw [q]; exact Int.mul_ediv_cancel _ (by omega)
  have l := hit_least p1 p2 hc.1 e1 (by rw [e2]; exact he.1)
  rw [e2] at l
  refine ⟨⟨by omega, by omega⟩, ?_⟩
  simp only [trP, sumT]
  omega
theorem ok_sol {nm dn m a b : Int} (hn : 1 ≤ nm) (hd : 1 ≤ dn) (ha : 6 ≤ a ∧ a ≤ m) (hb : 6 ≤ b ∧ b ≤ m) (h : okT nm dn m a b) : solT nm dn m a b (fpA (nm * b) (dn * a)) (fpB (nm * b) (dn * a)) := by
  have p1 := mul_pos1 (a := nm) (b := b) hn (by omega)
  have p2 := mul_pos1 (a := dn) (b := a) hd (by omega)
  have g := fp_ge p1 p2
  have f := hit_fp p1 p2
  refine ⟨ha, hb, ⟨g.1, h.1⟩, ⟨g.2, h.2⟩, ?_⟩
  rw [← f.2]
  exact (Int.ediv_mul_cancel (Int.dvd_of_emod_eq_zero f.1)).symm
theorem best_is (few : Bool) {nm dn m : Int} (hn : 1 ≤ nm) (hd : 1 ≤ dn) (hm : 6 ≤ m) :
    (allB few nm dn m (m - 5).toNat 6 [] = [] ∧ ∀ a b c d, ¬ solT nm dn m a b c d) ∨
    (∃ a b c d, allB few nm dn m (m - 5).toNat 6 [] = [⟨a, b⟩, ⟨c, d⟩] ∧ solT nm dn m a b c d ∧ (few = true → ∀ x y z t, solT nm dn m x y z t → a + b + c + d ≤ x + y + z + t)) := by
  have I : BInv few nm dn m (allB few nm dn m (m - 5).toNat 6 []) (fun x y => False ∨ ((6 ≤ x ∧ x ≤ m) ∧ (6 ≤ y ∧ y ≤ m))) := binv_all hm (m - 5).toNat 6 [] (fun _ _ => False) (by omega) (by omega) ⟨fun _ _ _ q => q.elim, fun q => absurd rfl q, fun _ _ _ q => q.elim⟩
  by_cases e : allB few nm dn m (m - 5).toNat 6 [] = []
  · refine Or.inl ⟨e, fun a b c d q => ?_⟩
    exact I.no e a b (Or.inr ⟨q.1, q.2.1⟩) (sol_ok hn hd q).1
  · obtain ⟨a, b, ha, hb, ok, es⟩ := I.is e
    refine Or.inr ⟨a, b, _, _, es, ok_sol hn hd ha hb ok, fun hf x y z t q => ?_⟩
    have o := sol_ok hn hd q
    have l := I.le hf x y (Or.inr ⟨q.1, q.2.1⟩) o.1
    rw [es] at l
    have e1 : sumT (trP nm dn a b) = a + b + fpA (nm * b) (dn * a) + fpB (nm * b) (dn * a) := by
      simp only [trP, sumT]
      omega
    have := o.2
    omega
theorem sol_swap {nm dn m a b c d : Int} (h : solT nm dn m a b c d) : solT dn nm m b a d c := by
  obtain ⟨ha, hb, hc, hd, q⟩ := h
  exact ⟨hb, ha, hd, hc, q.symm⟩

/-! BackTrain -/
/-! ratio -/
theorem ratio_go {l : List S23} (h : trainB l = true) : ∀ (d j : Nat) (a b : Int), j + d = l.length → 1 ≤ a → a ≤ bdP j → 1 ≤ b → b ≤ bdP j → Ev (fun k => impl_ratio.l0 k (lowN a b) (lowD a b) l (l.length : Int) j) (lowN (prN (l.drop j) a) (prD (l.drop j) b), lowD (prN (l.drop j) a) (prD (l.drop j) b)) := by
  have tb := trainB_of h
  intro d
  induction d with
  | zero =>
    intro j a b e a1 a2 b1 b2
    refine ev_one fun k => ?_
    simp only [impl_ratio.l0]
    rw [if_neg (by omega), List.drop_of_length_le (by omega)]
    rfl
  | succ d ih =>
    intro j a b e a1 a2 b1 b2
    have m := tb.2 _ (List.getElem_mem (show j < l.length by omega))
    have x := bd_mul (j := j) (by omega) a1 a2 m.1.1 m.1.2
    have y := bd_mul (j := j) (by omega) b1 b2 m.2.1 m.2.2
    have bl := bdP_le j
    have n1 := low_bdN a b
    have n2 := low_bdD a b
    have p1 := low_posN a1 b1
    have p2 := low_posD (a := a) b1
    have u := mul_bd (a := lowN a b) (b := l[j].f0) (A := 207360000) (B := 120) (by omega) (by omega) (by omega) (by omega)
    have v := mul_bd (a := lowD a b) (b := l[j].f1) (A := 207360000) (B := 120) (by omega) (by omega) (by omega) (by omega)
    have v1 := mul_pos1 (a := lowD a b) (b := l[j].f1) p2 (by omega)
    have st := low_step (n := a) (d := b) (p := l[j].f0) (q := l[j].f1) b1
    refine ev_succ ?_
    simp only [impl_ratio.l0]
    refine ev_t (by omega) (ev_t (by omega) (ev_t (by omega) ?_))
    rw [rdP_get l j (by omega), w64 (x := (j : Int) + 1) (by omega) (by omega), w64 (x := lowN a b * l[j].f0) (by omega) (by omega), w64 (x := lowD a b * l[j].f1) (by omega) (by omega), List.drop_eq_getElem_cons (show j < l.length by omega)]
    have lo := lowest_ev (lowN a b * l[j].f0) (lowD a b * l[j].f1) (by omega) (by omega) (by omega)
    rw [st.1, st.2] at lo
    refine Ev.bind lo ?_
    simp only [prN, prD]
    exact ih (j + 1) _ _ (by omega) x.1 x.2 y.1 y.2
theorem ratio_ev {l : List S23} (h : trainB l = true) : Ev (fun k => impl_ratio.f k l) (ratN l, ratD l) := by
  have := ratio_go h l.length 0 1 1 (by omega) (by omega) (by decide) (by omega) (by decide)
  have e1 : lowN 1 1 = 1 := by decide
  have e2 : lowD 1 1 = 1 := by decide
  rw [e1, e2, List.drop_zero] at this
  unfold impl_ratio.f
  exact this

/-! takeTrain -/
/-! TurnsUntilSame -/
/-! turnFacts -/
theorem rat_cross (l : List S23) : ratN l * prD l 1 = prN l 1 * ratD l := by
  have e1 := low_num (prN l 1) (prD l 1)
  have e2 := low_den (prN l 1) (prD l 1)
  unfold ratN ratD
  generalize lowN (prN l 1) (prD l 1) = x at *
  generalize lowD (prN l 1) (prD l 1) = y at *
  rw [← e2]
  conv => rhs; rw [← e1]
  generalize (Int.gcd (prN l 1) (prD l 1) : Int) = g
  rw [Int.mul_assoc x g y, Int.mul_comm g y]
/-- What is told of the turns: every wheel's own number of turns goes into it. -/
theorem dvd_of_cop {a b c : Int} (h : a ∣ c * b) (g : Int.gcd a b = 1) : a ∣ c := by
  have h1 := Int.natAbs_dvd_natAbs.2 h
  rw [Int.natAbs_mul] at h1
  exact Int.natAbs_dvd_natAbs.1 (Nat.Coprime.dvd_of_dvd_mul_right (k := a.natAbs) (n := b.natAbs) g h1)
theorem coprime_eq {a b c d : Int} (ha : 1 ≤ a) (hc : 1 ≤ c) (h1 : Int.gcd a b = 1) (h2 : Int.gcd c d = 1) (e : a * d = c * b) : a = c := by
  have x : a ∣ c := dvd_of_cop ⟨d, e.symm⟩ h1
  have y : c ∣ a := dvd_of_cop ⟨b, e⟩ h2
  exact Int.dvd_antisymm (by omega) (by omega) x y
theorem rat_gcd {l : List S23} (h : trainB l = true) : Int.gcd (ratN l) (ratD l) = 1 := by
  have := pr_bd0 h
  exact low_one (by omega)

/-! trainFacts -/
theorem train2 {a b c d : Int} (ha : 6 ≤ a ∧ a ≤ 120) (hb : 6 ≤ b ∧ b ≤ 120) (hc : 6 ≤ c ∧ c ≤ 120) (hd : 6 ≤ d ∧ d ≤ 120) : trainB [(⟨a, b⟩ : S23), ⟨c, d⟩] = true := by
  have e1 : pairC (⟨a, b⟩ : S23) = true := decide_eq_true ⟨ha, hb⟩
  have e2 : pairC (⟨c, d⟩ : S23) = true := decide_eq_true ⟨hc, hd⟩
  unfold trainB
  simp [e1, e2]
theorem sum2 (a b c d : Int) : sumP [(⟨a, b⟩ : S23), ⟨c, d⟩] = a + b + c + d := by
  simp only [sumP]
  omega
theorem pr2 (a b c d : Int) : prN [(⟨a, b⟩ : S23), ⟨c, d⟩] 1 = a * c ∧ prD [(⟨a, b⟩ : S23), ⟨c, d⟩] 1 = b * d := by
  constructor <;> simp [prN, prD]
theorem rat_sol {nm dn a b c d : Int} (hb : 6 ≤ b) (hd : 6 ≤ d) (q : c * (dn * a) = d * (nm * b)) : ratN [(⟨a, b⟩ : S23), ⟨c, d⟩] * dn = nm * ratD [(⟨a, b⟩ : S23), ⟨c, d⟩] := by
  have x := rat_cross [(⟨a, b⟩ : S23), ⟨c, d⟩]
  rw [(pr2 a b c d).1, (pr2 a b c d).2] at x
  generalize ratN [(⟨a, b⟩ : S23), ⟨c, d⟩] = u at *
  generalize ratD [(⟨a, b⟩ : S23), ⟨c, d⟩] = v at *
  have hp : b * d ≠ 0 := by
    have := mul_pos1 (a := b) (b := d) (by omega) (by omega)
    omega
  refine Int.eq_of_mul_eq_mul_right hp ?_
  have e1 : u * dn * (b * d) = (u * (b * d)) * dn := by ac_rfl
  have e2 : a * c * v * dn = (c * (dn * a)) * v := by ac_rfl
  rw [e1, x, e2, q]
  ac_rfl
theorem rat_same {l m : List S23} {nm dn : Int} (hl : trainB l = true) (hm : trainB m = true) (hn : 1 ≤ nm) (hd : 1 ≤ dn) (h1 : ratN l * dn = nm * ratD l) (h2 : ratN m * dn = nm * ratD m) : ratN l = ratN m ∧ ratD l = ratD m := by
  have b1 := rat_bd hl
  have b2 := rat_bd hm
  have g1 := rat_gcd hl
  have g2 := rat_gcd hm
  generalize ratN l = p at *
  generalize ratD l = q at *
  generalize ratN m = r at *
  generalize ratD m = s at *
  have e : p * s = r * q := by
    refine Int.eq_of_mul_eq_mul_right (a := dn) (by omega) ?_
    have e1 : p * s * dn = (p * dn) * s := by ac_rfl
    have e2 : r * q * dn = (r * dn) * q := by ac_rfl
    rw [e1, e2, h1, h2]
    ac_rfl
  refine ⟨coprime_eq (by omega) (by omega) g1 g2 e, coprime_eq (a := q) (b := p) (c := s) (d := r) (by omega) (by omega) (by rw [Int.gcd_comm]; exact g1) (by rw [Int.gcd_comm]; exact g2) ?_⟩
  rw [Int.mul_comm q r, Int.mul_comm s p]
  exact e.symm

/-! RatioOf -/
theorem RatioOf_impl (l : List S23) : Ev (fun k => impl_RatioOf.f k l) (if trainB l = true then (ratN l, ratD l, true) else (0, 0, false)) := by
  unfold impl_RatioOf.f
  refine Ev.bind (isTrain_ev l) ?_
  by_cases h : trainB l = true
  · rw [if_pos h]
    exact ev_t h (Ev.bind (ratio_ev h) (ev_now _))
  · rw [if_neg h]
    exact ev_f h (ev_now _)

/-! l1Most -/
theorem l1Most_eq (a b : Int) : spec_l1Most.f a b = some (max a b) := most_gen (fun _ _ => rfl) a b

/-! l1Abs -/
theorem l1Abs_eq {a : Int} (h : a.natAbs ≤ 4611686018427387904) : spec_l1Abs.f a = some (a.natAbs : Int) := by
  unfold spec_l1Abs.f
  rw [w64 (by omega) (by omega), l1Most_eq, Option.bind_some]
  congr 1
  omega

/-! near -/
def offA (nm dn d f : Int) : Int := ((d * dn - nm * f).natAbs : Int)
theorem offA_bd {nm dn d f : Int} (hn : 1 ≤ nm ∧ nm ≤ 1000) (hd : 1 ≤ dn ∧ dn ≤ 1000) (h1 : 6 ≤ d ∧ d ≤ 120) (h2 : 6 ≤ f ∧ f ≤ 120) : 0 ≤ offA nm dn d f ∧ offA nm dn d f ≤ 120000 ∧ (0 ≤ d * dn ∧ d * dn ≤ 120000) ∧ (0 ≤ nm * f ∧ nm * f ≤ 120000) := by
  have a := mul_bd (a := d) (b := dn) (A := 120) (B := 1000) (by omega) (by omega) (by omega) (by omega)
  have b := mul_bd (a := nm) (b := f) (A := 1000) (B := 120) (by omega) (by omega) (by omega) (by omega)
  unfold offA
  omega
theorem offW_eq {nm dn d f : Int} (hn : 1 ≤ nm ∧ nm ≤ 1000) (hd : 1 ≤ dn ∧ dn ≤ 1000) (h1 : 6 ≤ d ∧ d ≤ 120) (h2 : 6 ≤ f ∧ f ≤ 120) : offW nm dn d f = offA nm dn d f := by
  have ⟨_, _, a, b⟩ := offA_bd hn hd h1 h2
  unfold offW offA mx
  dsimp only
  rw [w64 (x := d * dn) (by omega) (by omega), w64 (x := nm * f) (by omega) (by omega), w64 (x := d * dn - nm * f) (by omega) (by omega), w64 (x := -(d * dn - nm * f)) (by omega) (by omega)]
  split <;> omega
theorem offS_eq {nm dn d f : Int} (hn : 1 ≤ nm ∧ nm ≤ 1000) (hd : 1 ≤ dn ∧ dn ≤ 1000) (h1 : 6 ≤ d ∧ d ≤ 120) (h2 : 6 ≤ f ∧ f ≤ 120) : spec_l1Abs.f (wrap64 (wrap64 (d * dn) - wrap64 (nm * f))) = some (offA nm dn d f) := by
  have ⟨_, _, a, b⟩ := offA_bd hn hd h1 h2
  rw [w64 (x := d * dn) (by omega) (by omega), w64 (x := nm * f) (by omega) (by omega), w64 (x := d * dn - nm * f) (by omega) (by omega), l1Abs_eq (by omega)]
  rfl
/-- One pair is told from the other. -/
def nearer (nm dn b0 b1 d f : Int) : Prop := offA nm dn d f * b1 < offA nm dn b0 b1 * f ∨ offA nm dn d f * b1 = offA nm dn b0 b1 * f ∧ d + f < b0 + b1
instance (nm dn b0 b1 d f : Int) : Decidable (nearer nm dn b0 b1 d f) := by
  unfold nearer
  infer_instance
theorem off_prod {nm dn d f x : Int} (hn : 1 ≤ nm ∧ nm ≤ 1000) (hd : 1 ≤ dn ∧ dn ≤ 1000) (h1 : 6 ≤ d ∧ d ≤ 120) (h2 : 6 ≤ f ∧ f ≤ 120) (h3 : 6 ≤ x ∧ x ≤ 120) : wrap64 (offA nm dn d f * x) = offA nm dn d f * x := by
  have ⟨a, b, _, _⟩ := offA_bd hn hd h1 h2
  have c := mul_bd (a := offA nm dn d f) (b := x) (A := 120000) (B := 120) a b (by omega) (by omega)
  exact w64 (by omega) (by omega)
theorem ord_neg {nm dn b0 b1 d f : Int} (hn : 1 ≤ nm ∧ nm ≤ 1000) (hd : 1 ≤ dn ∧ dn ≤ 1000) (h1 : 6 ≤ d ∧ d ≤ 120) (h2 : 6 ≤ f ∧ f ≤ 120) (h3 : 6 ≤ b0 ∧ b0 ≤ 120) (h4 : 6 ≤ b1 ∧ b1 ≤ 120) : ordN nm dn b0 b1 d f < 0 ↔ nearer nm dn b0 b1 d f := by
  unfold ordN nearer
  rw [offW_eq hn hd h1 h2, offW_eq hn hd h3 h4, off_prod hn hd h1 h2 h4, off_prod hn hd h3 h4 h2, w64 (x := d + f) (by omega) (by omega), w64 (x := b0 + b1) (by omega) (by omega)]
  generalize offA nm dn d f * b1 = x
  generalize offA nm dn b0 b1 * f = y
  unfold orI cmpI
  by_cases a : x < y <;> by_cases b : y < x <;> by_cases c : d + f < b0 + b1 <;> by_cases e : b0 + b1 < d + f <;> simp [a, b, c, e] <;> omega
theorem near_row {nm dn m d : Int} (hn : 1 ≤ nm ∧ nm ≤ 1000) (hd : 1 ≤ dn ∧ dn ≤ 1000) (hm : 6 ≤ m ∧ m ≤ 120) (h1 : 6 ≤ d ∧ d ≤ m)
    (ih : ∀ b0 b1, 6 ≤ b0 ∧ b0 ≤ 120 → 6 ≤ b1 ∧ b1 ≤ 120 → ∃ r : Int × Int, Ev (fun k => nrF nm dn m k (d + 1) 6 b0 b1) r ∧ Ev (fun k => spec_NearestPair.l0 k nm dn m (d + 1) b0 b1) (r.1, r.2, true)) :
    ∀ (e : Nat) (f b0 b1 : Int), 6 ≤ f → f ≤ m + 1 → m + 1 - f = e → 6 ≤ b0 ∧ b0 ≤ 120 → 6 ≤ b1 ∧ b1 ≤ 120 → ∃ r : Int × Int, Ev (fun k => nrF nm dn m k d f b0 b1) r ∧ Ev (fun k => spec_NearestPair.l1 k nm dn m d f b0 b1) (r.1, r.2, true) := by
  intro e
  induction e with
  | zero =>
    intro f b0 b1 f0 f1 he h3 h4
    obtain ⟨r, i1, i2⟩ := ih b0 b1 h3 h4
    refine ⟨r, ev_succ ?_, ev_succ ?_⟩
    · simp only [nrF]
      exact ev_t h1.2 (ev_f (by omega) i1)
    · simp only [spec_NearestPair.l1]
      rw [w64 (x := d + 1) (by omega) (by omega)]
      exact ev_f (by omega) i2
  | succ e ihe =>
    intro f b0 b1 f0 f1 he h3 h4
    have hf : 6 ≤ f ∧ f ≤ 120 := by omega
    have hdd : 6 ≤ d ∧ d ≤ 120 := by omega
    by_cases z : nearer nm dn b0 b1 d f
    · obtain ⟨r, i1, i2⟩ := ihe (f + 1) d f (by omega) (by omega) (by omega) hdd hf
      refine ⟨r, ev_succ ?_, ev_succ ?_⟩
      · simp only [nrF]
        have e0 : nrN nm dn d f b0 b1 = (d, f) := by
          unfold nrN
          rw [if_neg (by omega), if_pos ((ord_neg hn hd hdd hf h3 h4).2 z)]
        rw [e0]
        exact ev_t h1.2 (ev_t (by omega) i1)
      · simp only [spec_NearestPair.l1]
        rw [w64 (x := f + 1) (by omega) (by omega), w64 (x := d + f) (by omega) (by omega), w64 (x := b0 + b1) (by omega) (by omega)]
        refine ev_t (by omega) (ev_p (offS_eq hn hd hdd hf) (ev_p (offS_eq hn hd h3 h4) ?_))
        rw [off_prod hn hd hdd hf h4, off_prod hn hd h3 h4 hf]
        rcases z with z | ⟨z, y⟩
        · exact ev_t z i2
        · exact ev_f (by omega) (ev_t z (ev_t y i2))
    · obtain ⟨r, i1, i2⟩ := ihe (f + 1) b0 b1 (by omega) (by omega) (by omega) h3 h4
      refine ⟨r, ev_succ ?_, ev_succ ?_⟩
      · simp only [nrF]
        have e0 : nrN nm dn d f b0 b1 = (b0, b1) := by
          unfold nrN
          rw [if_neg (by omega), if_neg (fun y => z ((ord_neg hn hd hdd hf h3 h4).1 y))]
        rw [e0]
        exact ev_t h1.2 (ev_t (by omega) i1)
      · simp only [spec_NearestPair.l1]
        rw [w64 (x := f + 1) (by omega) (by omega), w64 (x := d + f) (by omega) (by omega), w64 (x := b0 + b1) (by omega) (by omega)]
        refine ev_t (by omega) (ev_p (offS_eq hn hd hdd hf) (ev_p (offS_eq hn hd h3 h4) ?_))
        rw [off_prod hn hd hdd hf h4, off_prod hn hd h3 h4 hf]
        unfold nearer at z
        refine ev_f (by omega) ?_
        by_cases y : offA nm dn d f * b1 = offA nm dn b0 b1 * f
        · exact ev_t y (ev_f (by omega) i2)
        · exact ev_f y i2
theorem near_all {nm dn m : Int} (hn : 1 ≤ nm ∧ nm ≤ 1000) (hd : 1 ≤ dn ∧ dn ≤ 1000) (hm : 6 ≤ m ∧ m ≤ 120) :
    ∀ (e : Nat) (d b0 b1 : Int), 6 ≤ d → d ≤ m + 1 → m + 1 - d = e → 6 ≤ b0 ∧ b0 ≤ 120 → 6 ≤ b1 ∧ b1 ≤ 120 → ∃ r : Int × Int, Ev (fun k => nrF nm dn m k d 6 b0 b1) r ∧ Ev (fun k => spec_NearestPair.l0 k nm dn m d b0 b1) (r.1, r.2, true) := by
  intro e
  induction e with
  | zero =>
    intro d b0 b1 d0 d1 he h3 h4
    refine ⟨(b0, b1), ev_succ ?_, ev_succ ?_⟩
    · simp only [nrF]
      exact ev_f (by omega) (ev_now _)
    · simp only [spec_NearestPair.l0]
      exact ev_f (by omega) (ev_now _)
  | succ e ihe =>
    intro d b0 b1 d0 d1 he h3 h4
    obtain ⟨r, i1, i2⟩ := near_row hn hd hm ⟨d0, by omega⟩ (fun c0 c1 g3 g4 => ihe (d + 1) c0 c1 (by omega) (by omega) (by omega) g3 g4) (m + 1 - 6).toNat 6 b0 b1 (by omega) (by omega) (by omega) h3 h4
    refine ⟨r, i1, ev_succ ?_⟩
    simp only [spec_NearestPair.l0]
    exact ev_t (by omega) i2
theorem near_start {nm dn m : Int} (hn : 1 ≤ nm ∧ nm ≤ 1000) (hd : 1 ≤ dn ∧ dn ≤ 1000) (hm : 6 ≤ m ∧ m ≤ 120) :
    ∃ r : Int × Int, Ev (fun k => nrF nm dn m k 6 6 0 0) r ∧ Ev (fun k => spec_NearestPair.l0 k nm dn m 6 6 6) (r.1, r.2, true) := by
  obtain ⟨r, i1, i2⟩ := near_row hn hd hm (d := 6) ⟨by omega, hm.1⟩ (fun c0 c1 g3 g4 => near_all hn hd hm (m + 1 - 7).toNat 7 c0 c1 (by omega) (by omega) (by omega) g3 g4) (m + 1 - 7).toNat 7 6 6 (by omega) (by omega) (by omega) (by omega) (by omega)
  refine ⟨r, ev_succ ?_, ev_succ ?_⟩
  · simp only [nrF]
    have e0 : nrN nm dn 6 6 0 0 = (6, 6) := by
      unfold nrN
      rw [if_pos rfl]
    rw [e0]
    exact ev_t hm.1 (ev_t hm.1 i1)
  · simp only [spec_NearestPair.l0]
    refine ev_t hm.1 (ev_succ ?_)
    simp only [spec_NearestPair.l1]
    have hs : 6 ≤ (6 : Int) ∧ (6 : Int) ≤ 120 := by omega
    refine ev_t hm.1 (ev_p (offS_eq hn hd hs hs) (ev_p (offS_eq hn hd hs hs) (ev_f (by omega) (ev_t rfl (ev_f (by omega) ?_)))))
    rw [w64 (x := 6 + 1) (by omega) (by omega)]
    exact i2
theorem near_both (num den most : Int) : ∃ R : Int × Int × Bool, Ev (fun k => spec_NearestPair.f k num den most) R ∧ Ev (fun k => impl_NearestPair.f k num den most) R := by
  unfold spec_NearestPair.f impl_NearestPair.f ntF
  by_cases h : (1 ≤ num ∧ num ≤ 1000) ∧ (1 ≤ den ∧ den ≤ 1000) ∧ (6 ≤ most ∧ most ≤ 120)
  · obtain ⟨r, i1, i2⟩ := near_start h.1 h.2.1 h.2.2
    exact ⟨(r.1, r.2, true), ev_p (geAsked_eq num den most) (ev_t (decide_eq_true h) i2), ev_p (areRatio_eq num den most) (ev_t (decide_eq_true h) (Ev.bind i1 (ev_now _)))⟩
  · exact ⟨(0, 0, false), ev_p (geAsked_eq num den most) (ev_f (by simp only [decide_eq_true_eq]; exact h) (ev_now _)), ev_p (areRatio_eq num den most) (ev_f (by simp only [decide_eq_true_eq]; exact h) (ev_now _))⟩

/-! evU -/
theorem evU {α : Type} {g : Nat → Option α} {r s : α} (h : Ev g r) (h' : Ev g s) : r = s := by
  obtain ⟨k, h⟩ := h
  obtain ⟨j, h'⟩ := h'
  have a := h (max k j) (by omega)
  have b := h' (max k j) (by omega)
  rw [a] at b
  exact Option.some.inj b

/-! nearMin -/
def nle (nm dn a b c d : Int) : Prop := offA nm dn a b * d ≤ offA nm dn c d * b
theorem nle_trans {nm dn a b c d e f : Int} (hb : 1 ≤ b) (hd : 1 ≤ d) (hf : 1 ≤ f) (h : nle nm dn a b c d) (g : nle nm dn c d e f) : nle nm dn a b e f := by
  unfold nle at *
  generalize offA nm dn a b = x at *
  generalize offA nm dn c d = y at *
  generalize offA nm dn e f = z at *
  refine Int.le_of_mul_le_mul_right (a := d) ?_ (by omega)
  have e1 := Int.mul_le_mul_of_nonneg_right h (show (0 : Int) ≤ f by omega)
  have e2 := Int.mul_le_mul_of_nonneg_right g (show (0 : Int) ≤ b by omega)
  have r1 : x * f * d = x * d * f := by ac_rfl
  have r2 : y * b * f = y * f * b := by ac_rfl
  have r3 : z * b * d = z * d * b := by ac_rfl
  rw [r1, r3]
  omega
theorem nle_of {nm dn b0 b1 d f : Int} (h : nearer nm dn b0 b1 d f) : nle nm dn d f b0 b1 := by
  unfold nearer at h
  unfold nle
  rcases h with h | h
  · omega
  · omega
theorem nle_not {nm dn b0 b1 d f : Int} (h : ¬ nearer nm dn b0 b1 d f) : nle nm dn b0 b1 d f := by
  unfold nearer at h
  unfold nle
  generalize offA nm dn d f * b1 = x at *
  generalize offA nm dn b0 b1 * f = y at *
  by_cases e : x < y
  · exact absurd (Or.inl e) h
  · omega
theorem nearM_row {nm dn m d : Int} (hn : 1 ≤ nm ∧ nm ≤ 1000) (hd : 1 ≤ dn ∧ dn ≤ 1000) (hm : 6 ≤ m ∧ m ≤ 120) (h1 : 6 ≤ d ∧ d ≤ m)
    (ih : ∀ b0 b1, 6 ≤ b0 ∧ b0 ≤ m → 6 ≤ b1 ∧ b1 ≤ m → ∃ r : Int × Int, Ev (fun k => spec_NearestPair.l0 k nm dn m (d + 1) b0 b1) (r.1, r.2, true) ∧ ((6 ≤ r.1 ∧ r.1 ≤ m) ∧ (6 ≤ r.2 ∧ r.2 ≤ m)) ∧ nle nm dn r.1 r.2 b0 b1 ∧ ∀ x y, d + 1 ≤ x → x ≤ m → 6 ≤ y → y ≤ m → nle nm dn r.1 r.2 x y) :
    ∀ (e : Nat) (f b0 b1 : Int), 6 ≤ f → f ≤ m + 1 → m + 1 - f = e → 6 ≤ b0 ∧ b0 ≤ m → 6 ≤ b1 ∧ b1 ≤ m → ∃ r : Int × Int, Ev (fun k => spec_NearestPair.l1 k nm dn m d f b0 b1) (r.1, r.2, true) ∧ ((6 ≤ r.1 ∧ r.1 ≤ m) ∧ (6 ≤ r.2 ∧ r.2 ≤ m)) ∧ nle nm dn r.1 r.2 b0 b1 ∧ (∀ x y, d + 1 ≤ x → x ≤ m → 6 ≤ y → y ≤ m → nle nm dn r.1 r.2 x y) ∧ (∀ y, f ≤ y → y ≤ m → nle nm dn r.1 r.2 d y) := by
  intro e
  induction e with
  | zero =>
    intro f b0 b1 f0 f1 he h3 h4
    obtain ⟨r, i2, i3, i4, i5⟩ := ih b0 b1 h3 h4
    refine ⟨r, ev_succ ?_, i3, i4, i5, fun y q1 q2 => by omega⟩
    simp only [spec_NearestPair.l1]
    rw [w64 (x := d + 1) (by omega) (by omega)]
    exact ev_f (by omega) i2
  | succ e ihe =>
    intro f b0 b1 f0 f1 he h3 h4
    have hf : 6 ≤ f ∧ f ≤ 120 := by omega
    have hdd : 6 ≤ d ∧ d ≤ 120 := by omega
    have h3' : 6 ≤ b0 ∧ b0 ≤ 120 := by omega
    have h4' : 6 ≤ b1 ∧ b1 ≤ 120 := by omega
    by_cases z : nearer nm dn b0 b1 d f
    · obtain ⟨r, i2, i3, i4, i5, i6⟩ := ihe (f + 1) d f (by omega) (by omega) (by omega) ⟨h1.1, h1.2⟩ ⟨f0, by omega⟩
      refine ⟨r, ev_succ ?_, i3, nle_trans (by omega) (by omega) (by omega) i4 (nle_of z), i5, fun y q1 q2 => ?_⟩
      · simp only [spec_NearestPair.l1]
        rw [w64 (x := f + 1) (by omega) (by omega), w64 (x := d + f) (by omega) (by omega), w64 (x := b0 + b1) (by omega) (by omega)]
        refine ev_t (by omega) (ev_p (offS_eq hn hd hdd hf) (ev_p (offS_eq hn hd h3' h4') ?_))
        rw [off_prod hn hd hdd hf h4', off_prod hn hd h3' h4' hf]
        rcases z with z | ⟨z, y⟩
        · exact ev_t z i2
        · exact ev_f (by omega) (ev_t z (ev_t y i2))
      · by_cases q : y = f
        · subst q
          exact i4
        · exact i6 y (by omega) q2
    · obtain ⟨r, i2, i3, i4, i5, i6⟩ := ihe (f + 1) b0 b1 (by omega) (by omega) (by omega) h3 h4
      refine ⟨r, ev_succ ?_, i3, i4, i5, fun y q1 q2 => ?_⟩
      · simp only [spec_NearestPair.l1]
        rw [w64 (x := f + 1) (by omega) (by omega), w64 (x := d + f) (by omega) (by omega), w64 (x := b0 + b1) (by omega) (by omega)]
        refine ev_t (by omega) (ev_p (offS_eq hn hd hdd hf) (ev_p (offS_eq hn hd h3' h4') ?_))
        rw [off_prod hn hd hdd hf h4', off_prod hn hd h3' h4' hf]
        have zz := z
        unfold nearer at z
        refine ev_f (by omega) ?_
        by_cases y : offA nm dn d f * b1 = offA nm dn b0 b1 * f
        · exact ev_t y (ev_f (by omega) i2)
        · exact ev_f y i2
      · by_cases q : y = f
        · subst q
          exact nle_trans (by omega) (by omega) (by omega) i4 (nle_not z)
        · exact i6 y (by omega) q2
theorem nearM_all {nm dn m : Int} (hn : 1 ≤ nm ∧ nm ≤ 1000) (hd : 1 ≤ dn ∧ dn ≤ 1000) (hm : 6 ≤ m ∧ m ≤ 120) :
    ∀ (e : Nat) (d b0 b1 : Int), 6 ≤ d → d ≤ m + 1 → m + 1 - d = e → 6 ≤ b0 ∧ b0 ≤ m → 6 ≤ b1 ∧ b1 ≤ m → ∃ r : Int × Int, Ev (fun k => spec_NearestPair.l0 k nm dn m d b0 b1) (r.1, r.2, true) ∧ ((6 ≤ r.1 ∧ r.1 ≤ m) ∧ (6 ≤ r.2 ∧ r.2 ≤ m)) ∧ nle nm dn r.1 r.2 b0 b1 ∧ ∀ x y, d ≤ x → x ≤ m → 6 ≤ y → y ≤ m → nle nm dn r.1 r.2 x y := by
  intro e
  induction e with
  | zero =>
    intro d b0 b1 d0 d1 he h3 h4
    refine ⟨(b0, b1), ev_succ ?_, ⟨h3, h4⟩, Int.le_refl _, fun x y q1 q2 => by omega⟩
    simp only [spec_NearestPair.l0]
    exact ev_f (by omega) (ev_now _)
  | succ e ihe =>
    intro d b0 b1 d0 d1 he h3 h4
    obtain ⟨r, i2, i3, i4, i5, i6⟩ := nearM_row hn hd hm ⟨d0, by omega⟩ (fun c0 c1 g3 g4 => ihe (d + 1) c0 c1 (by omega) (by omega) (by omega) g3 g4) (m + 1 - 6).toNat 6 b0 b1 (by omega) (by omega) (by omega) h3 h4
    refine ⟨r, ev_succ ?_, i3, i4, fun x y q1 q2 q3 q4 => ?_⟩
    · simp only [spec_NearestPair.l0]
      exact ev_t (by omega) i2
    · by_cases q : x = d
      · subst q
        exact i6 y q3 q4
      · exact i5 x y (by omega) q2 q3 q4
theorem near_min (num den most : Int) : ∃ R : Int × Int × Bool, Ev (fun k => spec_NearestPair.f k num den most) R ∧ Ev (fun k => impl_NearestPair.f k num den most) R ∧ (R.2.2 = true → ((1 ≤ num ∧ num ≤ 1000) ∧ (1 ≤ den ∧ den ≤ 1000) ∧ (6 ≤ most ∧ most ≤ 120)) ∧ ((6 ≤ R.1 ∧ R.1 ≤ most) ∧ (6 ≤ R.2.1 ∧ R.2.1 ≤ most)) ∧ ∀ x y, 6 ≤ x → x ≤ most → 6 ≤ y → y ≤ most → nle num den R.1 R.2.1 x y) := by
  obtain ⟨R, a, b⟩ := near_both num den most
  by_cases h : (1 ≤ num ∧ num ≤ 1000) ∧ (1 ≤ den ∧ den ≤ 1000) ∧ (6 ≤ most ∧ most ≤ 120)
  · obtain ⟨r, i1, i2, i3, i4⟩ := nearM_all h.1 h.2.1 h.2.2 (most + 1 - 6).toNat 6 6 6 (by omega) (by omega) (by omega) (by omega) (by omega)
    have e : Ev (fun k => spec_NearestPair.f k num den most) (r.1, r.2, true) := by
      unfold spec_NearestPair.f
      exact ev_p (geAsked_eq num den most) (ev_t (decide_eq_true h) i1)
    obtain rfl := evU a e
    exact ⟨_, a, b, fun _ => ⟨h, i2, i4⟩⟩
  · refine ⟨R, a, b, fun q => ?_⟩
    have e : Ev (fun k => spec_NearestPair.f k num den most) (0, 0, false) := by
      unfold spec_NearestPair.f
      exact ev_p (geAsked_eq num den most) (ev_f (by simp only [decide_eq_true_eq]; exact h) (ev_now _))
    obtain rfl := evU a e
    cases q

/-! isDial -/
theorem isDial_eq (n : Int) : impl_isDial.f n = some (decide (2 ≤ n ∧ n ≤ 24)) := by
  unfold impl_isDial.f
  rw [within_eq, Option.bind_some]

/-! diHours -/
theorem diHours_eq (n : Int) : spec_diHours.f n = some (decide (2 ≤ n ∧ n ≤ 24)) := by
  unfold spec_diHours.f
  rw [l1In_eq, Option.bind_some]

/-! works -/
def wkRow (h : Int) (row : List S23) : Prop := ∃ a b c e : Int, row = [⟨a, b⟩, ⟨c, e⟩] ∧ (6 ≤ a ∧ a ≤ 120) ∧ (6 ≤ b ∧ b ≤ 120) ∧ (6 ≤ c ∧ c ≤ 120) ∧ (6 ≤ e ∧ e ≤ 120) ∧ a + b = c + e ∧ a * c * h = b * e
theorem wk_bd {h d f : Int} (hh : 2 ≤ h ∧ h ≤ 24) (hd : 6 ≤ d ∧ d ≤ 120) (hf : 6 ≤ f ∧ f ≤ 120) : (0 ≤ h * d ∧ h * d ≤ 2880) ∧ (0 ≤ (d + f) * f ∧ (d + f) * f ≤ 28800) ∧ wkS d f = d + f ∧ wkP h d f = h * d + f ∧ 1 ≤ h * d + f := by
  have a := mul_bd (a := h) (b := d) (A := 24) (B := 120) (by omega) (by omega) (by omega) (by omega)
  have b := mul_bd (a := d + f) (b := f) (A := 240) (B := 120) (by omega) (by omega) (by omega) (by omega)
  refine ⟨by omega, by omega, w64 (by omega) (by omega), ?_, by omega⟩
  unfold wkP
  rw [w64 (x := h * d) (by omega) (by omega), w64 (by omega) (by omega)]
theorem wk_quo {h d f : Int} (hh : 2 ≤ h ∧ h ≤ 24) (hd : 6 ≤ d ∧ d ≤ 120) (hf : 6 ≤ f ∧ f ≤ 120) : Int.tmod (wrap64 (wkS d f * f)) (wkP h d f) = ((d + f) * f) % (h * d + f) ∧ wkC h d f = ((d + f) * f) / (h * d + f) ∧ (0 ≤ ((d + f) * f) / (h * d + f) ∧ ((d + f) * f) / (h * d + f) ≤ 28800) := by
  obtain ⟨a, b, c, e, g⟩ := wk_bd hh hd hf
  have q := div_le (a := (d + f) * f) (b := h * d + f) (by omega) (by omega)
  unfold wkC
  rw [c, e, w64 (x := (d + f) * f) (by omega) (by omega), tmod_e (by omega), tdiv_e (by omega), w64 (by omega) (by omega)]
  exact ⟨rfl, rfl, q.1, by omega⟩
theorem wk_iff {h d f c : Int} : d * c * h = f * (d + f - c) ↔ c * (h * d + f) = (d + f) * f := by
  have e1 : d * c * h = c * (h * d) := by rw [Int.mul_comm d c, Int.mul_assoc, Int.mul_comm d h]
  have e2 : f * (d + f - c) = f * (d + f) - f * c := Int.mul_sub _ _ _
  have e3 : c * (h * d + f) = c * (h * d) + c * f := Int.mul_add _ _ _
  have e4 : c * f = f * c := Int.mul_comm _ _
  have e5 : (d + f) * f = f * (d + f) := Int.mul_comm _ _
  rw [e1, e2, e3, e4, e5]
  omega
theorem wk_sol {h d f c : Int} (hp : 1 ≤ h * d + f) (e : c * (h * d + f) = (d + f) * f) : ((d + f) * f) % (h * d + f) = 0 ∧ ((d + f) * f) / (h * d + f) = c := by
  rw [← e]
  exact ⟨Int.mul_emod_left _ _, Int.mul_ediv_cancel _ (by omega)⟩
theorem wk_sol' {h d f : Int} (e : ((d + f) * f) % (h * d + f) = 0) : ((d + f) * f) / (h * d + f) * (h * d + f) = (d + f) * f := Int.ediv_mul_cancel (Int.dvd_of_emod_eq_zero e)
/-- What the pair (d, f) brings. -/
def wkOk (h m d f : Int) : Prop := ((d + f) * f) % (h * d + f) = 0 ∧ (6 ≤ ((d + f) * f) / (h * d + f) ∧ ((d + f) * f) / (h * d + f) ≤ m) ∧ (6 ≤ d + f - ((d + f) * f) / (h * d + f) ∧ d + f - ((d + f) * f) / (h * d + f) ≤ m)
instance (h m d f : Int) : Decidable (wkOk h m d f) := by
  unfold wkOk
  infer_instance
def wkR (h d f : Int) : List S23 := [⟨d, f⟩, ⟨((d + f) * f) / (h * d + f), d + f - ((d + f) * f) / (h * d + f)⟩]
theorem wkN_eq {h m d f : Int} (hh : 2 ≤ h ∧ h ≤ 24) (hd : 6 ≤ d ∧ d ≤ 120) (hf : 6 ≤ f ∧ f ≤ 120) (out : List (List S23)) : wkN h m d f out = if wkOk h m d f then out ++ [wkR h d f] else out := by
  obtain ⟨a, b, c, e, g⟩ := wk_bd hh hd hf
  obtain ⟨q1, q2, q3⟩ := wk_quo hh hd hf
  unfold wkN wkR
  rw [q1, q2, c, w64 (x := d + f - ((d + f) * f) / (h * d + f)) (by omega) (by omega)]
  by_cases z : ((d + f) * f) % (h * d + f) = 0
  · rw [if_pos z]
    by_cases y : (6 ≤ ((d + f) * f) / (h * d + f) ∧ ((d + f) * f) / (h * d + f) ≤ m) ∧ (6 ≤ d + f - ((d + f) * f) / (h * d + f) ∧ d + f - ((d + f) * f) / (h * d + f) ≤ m)
    · rw [if_pos y, if_pos (show wkOk h m d f from ⟨z, y⟩)]
    · rw [if_neg y, if_neg (show ¬ wkOk h m d f from fun x => y x.2)]
  · rw [if_neg z, if_neg (show ¬ wkOk h m d f from fun x => z x.1)]
theorem wk_row {h m d f : Int} (hm : m ≤ 120) (hd : 6 ≤ d ∧ d ≤ 120) (hf : 6 ≤ f ∧ f ≤ 120) (ok : wkOk h m d f) : wkRow h (wkR h d f) := by
  obtain ⟨z, y1, y2⟩ := ok
  refine ⟨d, f, _, _, rfl, hd, hf, by omega, by omega, by omega, ?_⟩
  exact wk_iff.2 (wk_sol' z)
theorem ite_iff {α : Type} {c d : Prop} [Decidable c] [Decidable d] (h : c ↔ d) {x y : α} : (if c then x else y) = if d then x else y := by
  by_cases z : c
  · rw [if_pos z, if_pos (h.1 z)]
  · rw [if_neg z, if_neg (fun q => z (h.2 q))]
theorem works_inner {h m d f : Int} (hh : 2 ≤ h ∧ h ≤ 24) (hm : 6 ≤ m ∧ m ≤ 120) (hd : 6 ≤ d ∧ d ≤ 120) (hf : 6 ≤ f ∧ f ≤ 120) {r : List (List S23)} :
    ∀ (e : Nat) (c : Int) (out : List (List S23)), 6 ≤ c → c ≤ m + 1 → m + 1 - c = e → out.length + e ≤ 100000 → Ev (fun k => spec_geWorks.l1 k h m (if wkOk h m d f ∧ c ≤ ((d + f) * f) / (h * d + f) then out ++ [wkR h d f] else out) d (f + 1)) r → Ev (fun k => spec_geWorks.l2 k h m out d f c) r := by
  obtain ⟨b1, b2, b3, b4, b5⟩ := wk_bd hh hd hf
  intro e
  induction e with
  | zero =>
    intro c out c0 c1 he hl H
    rw [if_neg (fun z => by have := z.1.2.1.2; omega)] at H
    refine ev_succ ?_
    simp only [spec_geWorks.l2]
    rw [w64 (x := f + 1) (by omega) (by omega)]
    exact ev_f (by omega) H
  | succ e ih =>
    intro c out c0 c1 he hl H
    have p1 := mul_bd (a := d) (b := c) (A := 120) (B := 120) (by omega) (by omega) (by omega) (by omega)
    have p2 := mul_bd (a := d * c) (b := h) (A := 14400) (B := 24) (by omega) (by omega) (by omega) (by omega)
    refine ev_succ ?_
    simp only [spec_geWorks.l2]
    rw [w64 (x := d + f) (by omega) (by omega), w64 (x := d + f - c) (by omega) (by omega), w64 (x := d * c) (by omega) (by omega), w64 (x := d * c * h) (by omega) (by omega), w64 (x := c + 1) (by omega) (by omega)]
    refine ev_t (by omega) (ev_p (l1In_eq _ _ _) ?_)
    by_cases z : 6 ≤ d + f - c ∧ d + f - c ≤ m
    · have p3 := mul_bd (a := f) (b := d + f - c) (A := 120) (B := 120) (by omega) (by omega) (by omega) (by omega)
      rw [w64 (x := f * (d + f - c)) (by omega) (by omega)]
      refine ev_t (decide_eq_true z) ?_
      by_cases y : d * c * h = f * (d + f - c)
      · have s := wk_sol b5 (wk_iff.1 y)
        have ok : wkOk h m d f := ⟨s.1, by rw [s.2]; omega, by rw [s.2]; omega⟩
        have cq : c ≤ ((d + f) * f) / (h * d + f) := Int.le_of_eq s.2.symm
        rw [if_pos ⟨ok, cq⟩] at H
        refine ev_t y (ev_t (by omega) (ih (c + 1) _ (by omega) (by omega) (by omega) (by simp; omega) ?_))
        rw [if_neg (fun x => by have := x.2; rw [s.2] at this; omega)]
        have e1 : wkR h d f = [⟨d, f⟩, ⟨c, d + f - c⟩] := by
          unfold wkR
          rw [s.2]
        rw [← e1]
        exact H
      · refine ev_f y (ih (c + 1) _ (by omega) (by omega) (by omega) (by omega) ?_)
        have e1 : (wkOk h m d f ∧ c + 1 ≤ ((d + f) * f) / (h * d + f)) ↔ (wkOk h m d f ∧ c ≤ ((d + f) * f) / (h * d + f)) := by
          refine ⟨fun x => ⟨x.1, by omega⟩, fun x => ⟨x.1, ?_⟩⟩
          have : ((d + f) * f) / (h * d + f) ≠ c := fun q => y (wk_iff.2 (by rw [← q]; exact wk_sol' x.1.1))
          omega
        rw [ite_iff e1]
        exact H
    · refine ev_f (by simp only [decide_eq_true_eq]; exact z) (ih (c + 1) _ (by omega) (by omega) (by omega) (by omega) ?_)
      have e1 : (wkOk h m d f ∧ c + 1 ≤ ((d + f) * f) / (h * d + f)) ↔ (wkOk h m d f ∧ c ≤ ((d + f) * f) / (h * d + f)) := by
        refine ⟨fun x => ⟨x.1, by omega⟩, fun x => ⟨x.1, ?_⟩⟩
        have : ((d + f) * f) / (h * d + f) ≠ c := fun q => z (by have := x.1.2.2; rw [q] at this; exact this)
        omega
      rw [ite_iff e1]
      exact H
theorem works_row {h m d : Int} (hh : 2 ≤ h ∧ h ≤ 24) (hm : 6 ≤ m ∧ m ≤ 120) (hd : 6 ≤ d ∧ d ≤ m)
    (ih : ∀ out : List (List S23), (out.length : Int) ≤ 200 * (d + 1) + 6 → (∀ r ∈ out, wkRow h r) → ∃ r, Ev (fun k => wkF h m k (d + 1) 6 out) r ∧ Ev (fun k => spec_geWorks.l0 k h m out (d + 1)) r ∧ (∀ x ∈ r, wkRow h x) ∧ (r.length : Int) ≤ 200 * (m + 1) + 6) :
    ∀ (e : Nat) (f : Int) (out : List (List S23)), 6 ≤ f → f ≤ m + 1 → m + 1 - f = e → (out.length : Int) ≤ 200 * d + f → (∀ r ∈ out, wkRow h r) → ∃ r, Ev (fun k => wkF h m k d f out) r ∧ Ev (fun k => spec_geWorks.l1 k h m out d f) r ∧ (∀ x ∈ r, wkRow h x) ∧ (r.length : Int) ≤ 200 * (m + 1) + 6 := by
  intro e
  induction e with
  | zero =>
    intro f out f0 f1 he hl hr
    obtain ⟨r, i1, i2, i3⟩ := ih out (by omega) hr
    refine ⟨r, ev_succ ?_, ev_succ ?_, i3⟩
    · simp only [wkF]
      exact ev_t hd.2 (ev_f (by omega) i1)
    · simp only [spec_geWorks.l1]
      rw [w64 (x := d + 1) (by omega) (by omega)]
      exact ev_f (by omega) i2
  | succ e ihe =>
    intro f out f0 f1 he hl hr
    have hf : 6 ≤ f ∧ f ≤ 120 := by omega
    have hdd : 6 ≤ d ∧ d ≤ 120 := by omega
    obtain ⟨b1, b2, b3, b4, b5⟩ := wk_bd hh hdd hf
    have en := wkN_eq (m := m) hh hdd hf out
    have nl : ((wkN h m d f out).length : Int) ≤ 200 * d + (f + 1) := by
      rw [en]
      split
      · simp
        omega
      · omega
    have nr : ∀ r ∈ wkN h m d f out, wkRow h r := by
      rw [en]
      split
      · rename_i ok
        intro r hr'
        rcases List.mem_append.1 hr' with x | x
        · exact hr r x
        · rw [List.mem_singleton.1 x]
          exact wk_row hm.2 hdd hf ok
      · exact hr
    obtain ⟨r, i1, i2, i3⟩ := ihe (f + 1) (wkN h m d f out) (by omega) (by omega) (by omega) nl nr
    refine ⟨r, ev_succ ?_, ev_succ ?_, i3⟩
    · simp only [wkF]
      exact ev_t hd.2 (ev_t (by omega) (ev_f (by rw [b4]; omega) (ev_t (by omega) i1)))
    · simp only [spec_geWorks.l1]
      refine ev_t (by omega) (works_inner hh hm hdd hf (m + 1 - 6).toNat 6 out (by omega) (by omega) (by omega) (by omega) ?_)
      have e1 : (wkOk h m d f ∧ 6 ≤ ((d + f) * f) / (h * d + f)) ↔ wkOk h m d f := ⟨fun x => x.1, fun x => ⟨x, x.2.1.1⟩⟩
      rw [ite_iff e1, ← en]
      exact i2
theorem works_all {h m : Int} (hh : 2 ≤ h ∧ h ≤ 24) (hm : 6 ≤ m ∧ m ≤ 120) :
    ∀ (e : Nat) (d : Int) (out : List (List S23)), 6 ≤ d → d ≤ m + 1 → m + 1 - d = e → (out.length : Int) ≤ 200 * d + 6 → (∀ r ∈ out, wkRow h r) → ∃ r, Ev (fun k => wkF h m k d 6 out) r ∧ Ev (fun k => spec_geWorks.l0 k h m out d) r ∧ (∀ x ∈ r, wkRow h x) ∧ (r.length : Int) ≤ 200 * (m + 1) + 6 := by
  intro e
  induction e with
  | zero =>
    intro d out d0 d1 he hl hr
    refine ⟨out, ev_succ ?_, ev_succ ?_, hr, by omega⟩
    · simp only [wkF]
      exact ev_f (by omega) (ev_now _)
    · simp only [spec_geWorks.l0]
      exact ev_f (by omega) (ev_now _)
  | succ e ihe =>
    intro d out d0 d1 he hl hr
    obtain ⟨r, i1, i2, i3⟩ := works_row hh hm ⟨d0, by omega⟩ (fun o a b => ihe (d + 1) o (by omega) (by omega) (by omega) a b) (m + 1 - 6).toNat 6 out (by omega) (by omega) (by omega) hl hr
    refine ⟨r, i1, ev_succ ?_, i3⟩
    simp only [spec_geWorks.l0]
    exact ev_t (by omega) i2
theorem works_both {h m : Int} (hh : 2 ≤ h ∧ h ≤ 24) (hm : 6 ≤ m ∧ m ≤ 120) : ∃ R : List (List S23), Ev (fun k => spec_geWorks.f k h m) R ∧ Ev (fun k => impl_works.f k h m) R ∧ (∀ x ∈ R, wkRow h x) ∧ R.length ≤ 30000 := by
  obtain ⟨r, i1, i2, i3⟩ := works_all hh hm (m + 1 - 6).toNat 6 [] (by omega) (by omega) (by omega) (by simp) (by simp)
  refine ⟨r, i2, ?_, i3.1, by have := i3.2; omega⟩
  unfold impl_works.f wksF
  exact ev_t hm i1

/-! fmw -/
theorem teeth2f {m : Int} {a b c d : Int} (hm : m ≤ 120) (h : (6 ≤ a ∧ a ≤ m) ∧ (6 ≤ b ∧ b ≤ m) ∧ (6 ≤ c ∧ c ≤ m) ∧ (6 ≤ d ∧ d ≤ m)) : Ev (fun k => impl_teeth.f k [⟨a, b⟩, ⟨c, d⟩]) (a + b + c + d) := by
  have e0 : rd_T23 [(⟨a, b⟩ : S23), ⟨c, d⟩] 0 = ⟨a, b⟩ := rfl
  have e1 : rd_T23 [(⟨a, b⟩ : S23), ⟨c, d⟩] 1 = ⟨c, d⟩ := rfl
  unfold impl_teeth.f
  refine ev_succ ?_
  simp only [impl_teeth.l0, e0]
  refine ev_t (by simp) (ev_t (by omega) (ev_t (by simp) (ev_succ ?_)))
  rw [w64 (x := 0 + 1) (by omega) (by omega), w64 (x := a + b) (by omega) (by omega), w64 (x := 0 + (a + b)) (by omega) (by omega)]
  simp only [impl_teeth.l0, Int.zero_add, e1]
  refine ev_t (by simp) (ev_t (by omega) (ev_t (by simp) (ev_succ ?_)))
  rw [w64 (x := 1 + 1) (by omega) (by omega), w64 (x := c + d) (by omega) (by omega), w64 (x := a + b + (c + d)) (by omega) (by omega)]
  simp only [impl_teeth.l0]
  refine ev_f (by simp) (ev_con ?_)
  congr 1
  omega

def fmRel (h : Int) (out : List S23) (least : Int) : Prop := (out = [] ∧ least = 0) ∨ (∃ a b c e : Int, out = [⟨a, b⟩, ⟨c, e⟩] ∧ (6 ≤ a ∧ a ≤ 120) ∧ (6 ≤ b ∧ b ≤ 120) ∧ (6 ≤ c ∧ c ≤ 120) ∧ (6 ≤ e ∧ e ≤ 120) ∧ a + b = c + e ∧ a * c * h = b * e ∧ least = a + b)
theorem fm_teeth {a b c e : Int} (ha : 6 ≤ a ∧ a ≤ 120) (hb : 6 ≤ b ∧ b ≤ 120) (hc : 6 ≤ c ∧ c ≤ 120) (he : 6 ≤ e ∧ e ≤ 120) : Ev (fun k => impl_teeth.f k [⟨a, b⟩, ⟨c, e⟩]) (a + b + c + e) := by
  have := teeth2f (m := 120) (a := a) (b := b) (c := c) (d := e) (by omega) ⟨ha, hb, hc, he⟩
  have e1 : a + b + (c + e) = a + b + c + e := by omega
  first | exact this | (rw [e1] at this; exact this) | (rw [← e1]; exact this)
theorem smN_eq {a b c e : Int} (ha : 6 ≤ a ∧ a ≤ 120) (hb : 6 ≤ b ∧ b ≤ 120) : smN [⟨a, b⟩, ⟨c, e⟩] = a + b := by
  show wrap64 (a + b) = a + b
  exact w64 (by omega) (by omega)
theorem fm_all {h : Int} {rows : List (List S23)} (hr : ∀ x ∈ rows, wkRow h x) : ∀ (d : Nat) (i : Int) (out : List S23) (least : Int), 0 ≤ i → i + d = rows.length → fmRel h out least →
    ∃ (o : List S23) (l : Int), (∃ K : Nat, ∀ k, K ≤ k → ∀ g, K ≤ g → fmF k rows g i out = some o) ∧ Ev (fun g => smF rows g i out least) (o, l) ∧ fmRel h o l := by
  intro d
  induction d with
  | zero =>
    intro i out least i0 i1 rl
    refine ⟨out, least, ⟨1, fun k _ g hg => ?_⟩, ev_one fun g => ?_, rl⟩
    · obtain ⟨g, rfl⟩ : ∃ n, g = n + 1 := ⟨g - 1, by omega⟩
      simp only [fmF]
      rw [if_neg (by omega)]
    · simp only [smF]
      rw [if_neg (by omega)]
  | succ d ih =>
    intro i out least i0 i1 rl
    have hi : i < (rows.length : Int) := by omega
    have hrow : wkRow h (rd_L2 rows i) := by
      unfold rd_L2
      rw [List.getD_eq_getElem?_getD, List.getElem?_eq_getElem (by omega)]
      exact hr _ (List.getElem_mem _)
    obtain ⟨a, b, c, e, er, ha, hb, hc, he, hs, hq⟩ := hrow
    have n1 := smN_eq (c := c) (e := e) ha hb
    have rn : fmRel h [⟨a, b⟩, ⟨c, e⟩] (a + b) := Or.inr ⟨a, b, c, e, rfl, ha, hb, hc, he, hs, hq, rfl⟩
    have take : (Ev (fun k => fmB k (rd_L2 rows i) out) (rd_L2 rows i) ∧ (least = 0 ∨ smN (rd_L2 rows i) < least)) → ∃ (o : List S23) (l : Int), (∃ K : Nat, ∀ k, K ≤ k → ∀ g, K ≤ g → fmF k rows g i out = some o) ∧ Ev (fun g => smF rows g i out least) (o, l) ∧ fmRel h o l := by
      rintro ⟨⟨K1, h1⟩, z⟩
      obtain ⟨o, l, ⟨K2, h2⟩, i2, i3⟩ := ih (i + 1) (rd_L2 rows i) (smN (rd_L2 rows i)) (by omega) (by omega) (by rw [er, n1]; exact rn)
      refine ⟨o, l, ⟨K1 + K2 + 1, fun k hk g hg => ?_⟩, ev_succ ?_, i3⟩
      · obtain ⟨g, rfl⟩ : ∃ n, g = n + 1 := ⟨g - 1, by omega⟩
        simp only [fmF]
        have q := h1 k (by omega)
        dsimp only at q
        rw [if_pos hi, q, Option.bind_some]
        exact h2 k (by omega) g (by omega)
      · simp only [smF]
        exact ev_t hi (ev_t (by rw [er]; exact Nat.succ_pos 1) (ev_t z i2))
    have keep : (Ev (fun k => fmB k (rd_L2 rows i) out) out ∧ ¬ (least = 0 ∨ smN (rd_L2 rows i) < least)) → ∃ (o : List S23) (l : Int), (∃ K : Nat, ∀ k, K ≤ k → ∀ g, K ≤ g → fmF k rows g i out = some o) ∧ Ev (fun g => smF rows g i out least) (o, l) ∧ fmRel h o l := by
      rintro ⟨⟨K1, h1⟩, z⟩
      obtain ⟨o, l, ⟨K2, h2⟩, i2, i3⟩ := ih (i + 1) out least (by omega) (by omega) rl
      refine ⟨o, l, ⟨K1 + K2 + 1, fun k hk g hg => ?_⟩, ev_succ ?_, i3⟩
      · obtain ⟨g, rfl⟩ : ∃ n, g = n + 1 := ⟨g - 1, by omega⟩
        simp only [fmF]
        have q := h1 k (by omega)
        dsimp only at q
        rw [if_pos hi, q, Option.bind_some]
        exact h2 k (by omega) g (by omega)
      · simp only [smF]
        exact ev_t hi (ev_t (by rw [er]; exact Nat.succ_pos 1) (ev_f z i2))
    rcases rl with ⟨rfl, rfl⟩ | ⟨a', b', c', e', rfl, ha', hb', hc', he', hs', hq', rfl⟩
    · refine take ⟨?_, Or.inl rfl⟩
      unfold fmB
      exact ev_t rfl (ev_now _)
    · have t1 := fm_teeth ha hb hc he
      have t2 := fm_teeth ha' hb' hc' he'
      by_cases z : a + b < a' + b'
      · refine take ⟨?_, Or.inr (by rw [er, n1]; exact z)⟩
        unfold fmB
        rw [er]
        exact ev_f (by simp) (Ev.bind t1 (Ev.bind t2 (ev_t (by omega) (ev_now _))))
      · refine keep ⟨?_, fun q => ?_⟩
        · unfold fmB
          rw [er]
          exact ev_f (by simp) (Ev.bind t1 (Ev.bind t2 (ev_f (by omega) (ev_now _))))
        · rcases q with q | q
          · omega
          · rw [er, n1] at q
            omega
/-! motionWorks -/
theorem wkRow_len {h : Int} {x : List S23} (w : wkRow h x) : x.length ≤ 2 := by
  obtain ⟨a, b, c, e, rfl, _⟩ := w
  exact Nat.le_refl _

/-! fmwMin -/
theorem fm_min {h : Int} {rows : List (List S23)} (hr : ∀ x ∈ rows, wkRow h x) : ∀ (d : Nat) (i : Int) (out : List S23) (least : Int), 0 ≤ i → i + d = rows.length → (least = 0 ∨ 12 ≤ least) →
    ∃ (o : List S23) (l : Int), Ev (fun g => smF rows g i out least) (o, l) ∧ (least ≠ 0 → l ≤ least ∧ l ≠ 0) ∧ (∀ j : Int, i ≤ j → j < rows.length → l ≠ 0 ∧ l ≤ smN (rd_L2 rows j)) ∧ (d = 0 → o = out ∧ l = least) := by
  intro d
  induction d with
  | zero =>
    intro i out least i0 i1 rl
    refine ⟨out, least, ev_one fun g => ?_, fun q => ⟨Int.le_refl _, q⟩, fun j a b => by omega, fun _ => ⟨rfl, rfl⟩⟩
    simp only [smF]
    rw [if_neg (by omega)]
  | succ d ih =>
    intro i out least i0 i1 rl
    have hi : i < (rows.length : Int) := by omega
    have hrow : wkRow h (rd_L2 rows i) := by
      unfold rd_L2
      rw [List.getD_eq_getElem?_getD, List.getElem?_eq_getElem (by omega)]
      exact hr _ (List.getElem_mem _)
    obtain ⟨a, b, c, e, er, ha, hb, hc, he, hs, hq⟩ := hrow
    have n1 : smN (rd_L2 rows i) = a + b := by
      rw [er]
      exact smN_eq ha hb
    have ln : 0 < (rd_L2 rows i).length := by rw [er]; exact Nat.succ_pos 1
    by_cases z : least = 0 ∨ smN (rd_L2 rows i) < least
    · obtain ⟨o, l, j1, j2, j3, _⟩ := ih (i + 1) (rd_L2 rows i) (smN (rd_L2 rows i)) (by omega) (by omega) (by omega)
      have j2 := j2 (by omega)
      refine ⟨o, l, ev_succ ?_, fun q => ⟨by omega, j2.2⟩, fun j x y => ?_, fun q => by omega⟩
      · simp only [smF]
        exact ev_t hi (ev_t ln (ev_t z j1))
      · by_cases w : j = i
        · subst w
          exact ⟨j2.2, j2.1⟩
        · exact j3 j (by omega) y
    · obtain ⟨o, l, j1, j2, j3, _⟩ := ih (i + 1) out least (by omega) (by omega) rl
      have j2 := j2 (by omega)
      refine ⟨o, l, ev_succ ?_, fun q => j2, fun j x y => ?_, fun q => by omega⟩
      · simp only [smF]
        exact ev_t hi (ev_t ln (ev_f z j1))
      · by_cases w : j = i
        · subst w
          exact ⟨j2.2, by omega⟩
        · exact j3 j (by omega) y
theorem mw_spec {h m : Int} (z : (2 ≤ h ∧ h ≤ 24) ∧ (6 ≤ m ∧ m ≤ 120)) {rows : List (List S23)} (e : Ev (fun k => spec_geWorks.f k h m) rows) : Ev (fun k => spec_MotionWorks.f k h m) (if (rows.length : Int) > 200 then ([], false) else (rows, true)) := by
  unfold spec_MotionWorks.f
  refine ev_p (diHours_eq h) (ev_t (decide_eq_true z.1) (ev_p (geWheel_eq m) ?_))
  rw [decide_eq_true z.2]
  refine ev_succ ?_
  simp only [spec_MotionWorks.j0]
  refine ev_f (by decide) (Ev.bind e ?_)
  by_cases q : (rows.length : Int) > 200
  · simp only [if_pos q]
    exact ev_now _
  · simp only [if_neg q]
    exact ev_now _
theorem mw_impl {h m : Int} (z : (2 ≤ h ∧ h ≤ 24) ∧ (6 ≤ m ∧ m ≤ 120)) {rows : List (List S23)} (e : Ev (fun k => impl_works.f k h m) rows) : Ev (fun k => impl_MotionWorks.f k h m) (if (rows.length : Int) > 200 then ([], false) else (rows, true)) := by
  unfold impl_MotionWorks.f
  refine ev_p (isDial_eq h) (ev_t (decide_eq_true z.1) (ev_p (areTeeth_eq m) ?_))
  rw [decide_eq_true z.2]
  refine ev_succ ?_
  simp only [impl_MotionWorks.j0]
  refine ev_f (by decide) (Ev.bind e ?_)
  by_cases q : (rows.length : Int) > 200
  · simp only [if_pos q]
    exact ev_now _
  · simp only [if_neg q]
    exact ev_now _
/-- The works of a dial, and the first one with the fewest teeth. -/
theorem dial_works (h m : Int) : ∃ (W : List (List S23) × Bool) (F : List S23 × Bool), Ev (fun k => spec_MotionWorks.f k h m) W ∧ Ev (fun k => impl_MotionWorks.f k h m) W ∧ Ev (fun k => spec_FirstMotionWork.f k h m) F ∧ Ev (fun k => impl_FirstMotionWork.f k h m) F ∧
    W.1.length ≤ 200 ∧ (∀ x ∈ W.1, wkRow h x) ∧ (F.2 = false → F.1 = [] ∧ W.1 = []) ∧ (F.2 = true → (2 ≤ h ∧ h ≤ 24) ∧ (∃ a b c e : Int, F.1 = [⟨a, b⟩, ⟨c, e⟩] ∧ (6 ≤ a ∧ a ≤ 120) ∧ (6 ≤ b ∧ b ≤ 120) ∧ (6 ≤ c ∧ c ≤ 120) ∧ (6 ≤ e ∧ e ≤ 120) ∧ a + b = c + e ∧ a * c * h = b * e ∧ (∀ x ∈ W.1, a + b ≤ smN x)) ∧ (W.2 = true → 1 ≤ W.1.length)) := by
  by_cases z : (2 ≤ h ∧ h ≤ 24) ∧ (6 ≤ m ∧ m ≤ 120)
  · obtain ⟨rows, i1, i2, i3, i4⟩ := works_both z.1 z.2
    obtain ⟨o, l, ⟨K, hK⟩, f2, f3⟩ := fm_all i3 rows.length 0 [] 0 (Int.le_refl 0) (by omega) (Or.inl ⟨rfl, rfl⟩)
    obtain ⟨o', l', f4, _, f5, f6⟩ := fm_min i3 rows.length 0 [] 0 (Int.le_refl 0) (by omega) (Or.inl rfl)
    have eo := evU f2 f4
    simp only [Prod.mk.injEq] at eo
    obtain ⟨rfl, rfl⟩ := eo
    have g1 : Ev (fun k => if rows.length ≤ 1000000000 then smF rows k 0 [] 0 else none) (o, l) := ev_t (by omega) f2
    have g2 : Ev (fun k => if rows.length ≤ 1000000000 then fmF k rows k 0 [] else none) o := ev_t (by omega) ⟨K, fun k hk => hK k hk k hk⟩
    have zt : decide (2 ≤ h ∧ h ≤ 24) = true ∧ decide (6 ≤ m ∧ m ≤ 120) = true := ⟨decide_eq_true z.1, decide_eq_true z.2⟩
    have hW1 : (if (rows.length : Int) > 200 then (([], false) : List (List S23) × Bool) else (rows, true)).1.length ≤ 200 := by
      split
      · simp
      · show rows.length ≤ 200
        omega
    have hW2 : ∀ x ∈ (if (rows.length : Int) > 200 then (([], false) : List (List S23) × Bool) else (rows, true)).1, x ∈ rows := by
      intro x hx
      split at hx
      · cases hx
      · exact hx
    refine ⟨if (rows.length : Int) > 200 then ([], false) else (rows, true), (o, decide (l ≠ 0)), mw_spec z i1, mw_impl z i2, ?_, ?_, hW1, fun x hx => i3 x (hW2 x hx), ?_, ?_⟩
    · unfold spec_FirstMotionWork.f
      refine ev_p (diHours_eq h) (ev_p (geWheel_eq m) (ev_t zt (Ev.bind i1 (Ev.bind g1 ?_))))
      rcases f3 with ⟨rfl, rfl⟩ | ⟨a, b, c, e, rfl, ha, hb, hc, he, hs, hq, rfl⟩
      · exact ev_t rfl (ev_now _)
      · rw [decide_eq_true (show a + b ≠ 0 by omega)]
        exact ev_f (by show ¬ (a + b = 0); omega) (ev_now _)
    · unfold impl_FirstMotionWork.f
      refine ev_p (isDial_eq h) (ev_p (areTeeth_eq m) (ev_t zt (Ev.bind i2 (Ev.bind g2 ?_))))
      rcases f3 with ⟨rfl, rfl⟩ | ⟨a, b, c, e, rfl, ha, hb, hc, he, hs, hq, rfl⟩
      · exact ev_now _
      · rw [decide_eq_true (show a + b ≠ 0 by omega)]
        exact ev_now _
    · intro q0
      have q : ¬ l ≠ 0 := of_decide_eq_false q0
      clear q0
      have nl : rows.length = 0 := by
        by_cases y : rows.length = 0
        · exact y
        · exact absurd (f5 0 (by omega) (by omega)).1 q
      have er : rows = [] := List.eq_nil_of_length_eq_zero nl
      refine ⟨(f6 nl).1, ?_⟩
      rw [er]
      rfl
    · intro q0
      have q : l ≠ 0 := of_decide_eq_true q0
      clear q0
      rcases f3 with ⟨rfl, rfl⟩ | ⟨a, b, c, e, rfl, ha, hb, hc, he, hs, hq, rfl⟩
      · exact absurd rfl q
      · refine ⟨z.1, ⟨a, b, c, e, rfl, ha, hb, hc, he, hs, hq, fun x hx => ?_⟩, fun y => ?_⟩
        · obtain ⟨j, hj, ej⟩ := List.getElem_of_mem (hW2 x hx)
          have f := (f5 (j : Int) (by omega) (by omega)).2
          have er : rd_L2 rows (j : Int) = x := by
            unfold rd_L2
            rw [List.getD_eq_getElem?_getD, show ((j : Int)).toNat = j by omega, List.getElem?_eq_getElem hj, ej]
            rfl
          rw [er] at f
          exact f
        · by_cases w : (rows.length : Int) > 200
          · rw [if_pos w] at y
            cases y
          · rw [if_neg w]
            show 1 ≤ rows.length
            by_cases v : rows.length = 0
            · have := (f6 v).2
              omega
            · omega
  · have no : Ev (fun k => spec_MotionWorks.f k h m) (([], false) : List (List S23) × Bool) ∧ Ev (fun k => impl_MotionWorks.f k h m) (([], false) : List (List S23) × Bool) := by
      unfold spec_MotionWorks.f impl_MotionWorks.f
      have n1 : Ev (fun k => spec_MotionWorks.j0 k h m true) (([], false) : List (List S23) × Bool) := by
        refine ev_succ ?_
        simp only [spec_MotionWorks.j0]
        exact ev_t (by first | rfl | trivial) (ev_now _)
      have n2 : Ev (fun k => impl_MotionWorks.j0 k h m true) (([], false) : List (List S23) × Bool) := by
        refine ev_succ ?_
        simp only [impl_MotionWorks.j0]
        exact ev_t (by first | rfl | trivial) (ev_now _)
      by_cases hh : 2 ≤ h ∧ h ≤ 24
      · have hm : ¬ (6 ≤ m ∧ m ≤ 120) := fun q => z ⟨hh, q⟩
        refine ⟨ev_p (diHours_eq h) (ev_t (decide_eq_true hh) (ev_p (geWheel_eq m) ?_)), ev_p (isDial_eq h) (ev_t (decide_eq_true hh) (ev_p (areTeeth_eq m) ?_))⟩
        · rw [decide_eq_false hm]
          exact n1
        · rw [decide_eq_false hm]
          exact n2
      · exact ⟨ev_p (diHours_eq h) (ev_f (by simp only [decide_eq_true_eq]; exact hh) n1), ev_p (isDial_eq h) (ev_f (by simp only [decide_eq_true_eq]; exact hh) n2)⟩
    refine ⟨([], false), ([], false), no.1, no.2, ?_, ?_, by simp, by simp, fun _ => ⟨rfl, rfl⟩, fun q => by cases q⟩
    · unfold spec_FirstMotionWork.f
      exact ev_p (diHours_eq h) (ev_p (geWheel_eq m) (ev_f (by simp only [decide_eq_true_eq]; exact z) (ev_now _)))
    · unfold impl_FirstMotionWork.f
      exact ev_p (isDial_eq h) (ev_p (areTeeth_eq m) (ev_f (by simp only [decide_eq_true_eq]; exact z) (ev_now _)))

/-! FirstPair -/
def FirstPairP (num den most : Int) : Int × Int × Bool := if ((1 ≤ num ∧ num ≤ 1000) ∧ (1 ≤ den ∧ den ≤ 1000) ∧ (6 ≤ most ∧ most ≤ 120)) ∧ (fpA num den ≤ most ∧ fpB num den ≤ most) then (fpA num den, fpB num den, true) else (0, 0, false)
theorem FirstPair_impl (num den most : Int) : Ev (fun k => impl_FirstPair.f k num den most) (FirstPairP num den most) := by
  unfold impl_FirstPair.f FirstPairP
  refine ev_p (areRatio_eq num den most) ?_
  by_cases h : (1 ≤ num ∧ num ≤ 1000) ∧ (1 ≤ den ∧ den ≤ 1000) ∧ (6 ≤ most ∧ most ≤ 120)
  · refine ev_t (decide_eq_true h) (Ev.bind (firstPair_ev (by omega) (by omega) (by omega) (by omega)) ?_)
    dsimp only
    by_cases g : fpA num den ≤ most ∧ fpB num den ≤ most
    · refine ev_t (decide_eq_true g) ?_
      rw [if_pos ⟨h, g⟩]
      exact ev_now _
    · refine ev_f (by simp only [decide_eq_true_eq]; exact g) ?_
      rw [if_neg (fun z => g z.2)]
      exact ev_now _
  · rw [if_neg (fun z => h z.1)]
    exact ev_f (by simp only [decide_eq_true_eq]; exact h) (ev_now _)
theorem FirstPair_spec (num den most : Int) : Ev (fun k => spec_FirstPair.f k num den most) (FirstPairP num den most) := by
  unfold spec_FirstPair.f FirstPairP
  refine ev_p (geAsked_eq num den most) ?_
  by_cases h : (1 ≤ num ∧ num ≤ 1000) ∧ (1 ≤ den ∧ den ≤ 1000) ∧ (6 ≤ most ∧ most ≤ 120)
  · refine ev_t (decide_eq_true h) ?_
    have hn : 1 ≤ num := by omega
    have hd : 1 ≤ den := by omega
    -- a round that is no hit goes on
    have miss : ∀ i (R : Int × Int × Bool), 6 ≤ i → i ≤ most → ¬ ((i * den) % num = 0 ∧ 6 ≤ (i * den) / num ∧ (i * den) / num ≤ most) → Ev (fun k => spec_FirstPair.l0 k num den most (i + 1)) R → Ev (fun k => spec_FirstPair.l0 k num den most i) R := by
      intro i R a1 a2 a3 ev
      have m := mul_bd (a := i) (b := den) (A := 120) (B := 1000) (by omega) (by omega) (by omega) (by omega)
      have dv := div_le (a := i * den) (b := num) m.1 hn
      refine ev_succ ?_
      simp only [spec_FirstPair.l0]
      rw [w64 (x := i * den) (by omega) (by omega), tmod_e m.1, tdiv_e m.1, w64 (x := (i * den) / num) (by omega) (by omega), w64 (x := i + 1) (by omega) (by omega)]
      refine ev_t a2 (ev_f (by omega) ?_)
      by_cases c : (i * den) % num = 0
      · exact ev_t c (ev_p (l1In_eq _ _ _) (ev_f (by simp only [decide_eq_true_eq]; exact fun z => a3 ⟨c, z⟩) ev))
      · exact ev_f c ev
    by_cases g : fpA num den ≤ most ∧ fpB num den ≤ most
    · rw [if_pos ⟨h, g⟩]
      have f6 := fp_ge hn hd
      refine scan_from (g := fun i k => spec_FirstPair.l0 k num den most i) (n := fpA num den) (i0 := 6) ?_ ?_ f6.1
      · intro i a1 a2 ev
        refine miss i _ a1 (by omega) ?_ ev
        intro z
        have := hit_least hn hd a1 z.1 z.2.1
        omega
      · have m := mul_bd (a := fpA num den) (b := den) (A := 120) (B := 1000) (by omega) (by omega) (by omega) (by omega)
        have q := hit_fp hn hd
        refine ev_succ ?_
        simp only [spec_FirstPair.l0]
        rw [w64 (x := fpA num den * den) (by omega) (by omega), tmod_e m.1, tdiv_e m.1, q.1, q.2, w64 (x := fpB num den) (by omega) (by omega)]
        exact ev_t g.1 (ev_f (by omega) (ev_t rfl (ev_p (l1In_eq _ _ _) (ev_t (decide_eq_true ⟨f6.2, g.2⟩) (ev_now _)))))
    · rw [if_neg (fun z => g z.2)]
      refine scan_from (g := fun i k => spec_FirstPair.l0 k num den most i) (n := most + 1) (i0 := 6) ?_ ?_ (by omega)
      · intro i a1 a2 ev
        refine miss i _ a1 (by omega) ?_ ev
        intro z
        have := hit_least hn hd a1 z.1 z.2.1
        omega
      · refine ev_one fun k => ?_
        simp only [spec_FirstPair.l0]
        rw [if_neg (by omega)]
  · rw [if_neg (fun z => h z.1)]
    exact ev_f (by simp only [decide_eq_true_eq]; exact h) (ev_now _)

/-! FirstTrainEnds -/
theorem FirstTrain_spec (num den most : Int) : Ev (fun k => spec_FirstTrain.f k num den most) (bestP false num den most) := by
  unfold spec_FirstTrain.f bestP
  refine ev_p (geAsked_eq num den most) ?_
  by_cases h : (1 ≤ num ∧ num ≤ 1000) ∧ (1 ≤ den ∧ den ≤ 1000) ∧ (6 ≤ most ∧ most ≤ 120)
  · rw [if_pos h]
    refine ev_t (decide_eq_true h) (Ev.bind (geTrains_ev h) ?_)
    generalize allB false num den most (most - 5).toNat 6 [] = st
    cases st with
    | nil => exact ev_f (by decide) (ev_now _)
    | cons _ _ => exact ev_t rfl (ev_now _)
  · rw [if_neg h]
    exact ev_f (by simp only [decide_eq_true_eq]; exact h) (ev_now _)
theorem FirstTrain_impl (num den most : Int) : Ev (fun k => impl_FirstTrain.f k num den most) (bestP false num den most) := by
  unfold impl_FirstTrain.f
  exact Ev.bind (best_ev false num den most) (ev_now _)

/-! FewestTeethEnds -/
theorem FewestTeeth_spec (num den most : Int) : Ev (fun k => spec_FewestTeeth.f k num den most) (bestP true num den most) := by
  unfold spec_FewestTeeth.f bestP
  refine ev_p (geAsked_eq num den most) ?_
  by_cases h : (1 ≤ num ∧ num ≤ 1000) ∧ (1 ≤ den ∧ den ≤ 1000) ∧ (6 ≤ most ∧ most ≤ 120)
  · rw [if_pos h]
    refine ev_t (decide_eq_true h) (Ev.bind (geTrains_ev h) ?_)
    generalize allB true num den most (most - 5).toNat 6 [] = st
    cases st with
    | nil => exact ev_f (by decide) (ev_now _)
    | cons _ _ => exact ev_t rfl (ev_now _)
  · rw [if_neg h]
    exact ev_f (by simp only [decide_eq_true_eq]; exact h) (ev_now _)
theorem FewestTeeth_impl (num den most : Int) : Ev (fun k => impl_FewestTeeth.f k num den most) (bestP true num den most) := by
  unfold impl_FewestTeeth.f
  exact Ev.bind (best_ev true num den most) (ev_now _)

/-! kPairs -/
theorem kPairs_ev (l : List S23) (h : l.length ≤ 1000000000) : Ev (fun k => laws_kPairs.f k l l) true := by
  unfold laws_kPairs.f
  refine ev_t rfl ?_
  have go : ∀ (d j : Nat), j + d = l.length → Ev (fun k => laws_kPairs.l0 k l l (l.length : Int) j) true := by
    intro d
    induction d with
    | zero =>
      intro j a
      refine ev_one fun k => ?_
      simp only [laws_kPairs.l0]
      rw [if_neg (by omega)]
    | succ d ih =>
      intro j a
      refine ev_succ ?_
      simp only [laws_kPairs.l0]
      refine ev_t (by omega) (ev_t (by omega) (ev_t (by omega) (ev_t (by omega) (ev_f (by simp) ?_))))
      rw [w64 (by omega) (by omega)]
      exact ih (j + 1) (by omega)
  exact go l.length 0 (by omega)

/-! kTrains -/
theorem kTrains_ev (l : List (List S23)) (h : l.length ≤ 1000000) (hr : ∀ x ∈ l, x.length ≤ 1000000) : Ev (fun k => laws_kTrains.f k l l) true := by
  unfold laws_kTrains.f
  refine ev_t rfl ?_
  have go : ∀ (d j : Nat), j + d = l.length → Ev (fun k => laws_kTrains.l0 k l l (l.length : Int) j) true := by
    intro d
    induction d with
    | zero =>
      intro j a
      refine ev_one fun k => ?_
      simp only [laws_kTrains.l0]
      rw [if_neg (by omega)]
    | succ d ih =>
      intro j a
      have hm : (rd_L2 l (j : Int)).length ≤ 1000000 := by
        unfold rd_L2
        rw [List.getD_eq_getElem?_getD, show ((j : Int)).toNat = j by omega, List.getElem?_eq_getElem (by omega)]
        exact hr _ (List.getElem_mem _)
      refine ev_succ ?_
      simp only [laws_kTrains.l0]
      refine ev_t (by omega) (ev_t (by omega) (ev_t (by omega) (ev_t (by omega) (Ev.bind (kPairs_ev _ (by omega)) (ev_t rfl ?_)))))
      rw [w64 (by omega) (by omega)]
      exact ih (j + 1) (by omega)
  exact go l.length 0 (by omega)

/-! kAbs -/
theorem kAbs_eq {a : Int} (h : a.natAbs ≤ 4611686018427387904) : laws_kAbs.f a = some (a.natAbs : Int) := by
  unfold laws_kAbs.f
  by_cases c : a < 0
  · rw [if_pos c, w64 (by omega) (by omega)]
    congr 1
    omega
  · rw [if_neg c]
    congr 1
    omega

/-! the law -/
theorem wk_rat {h a b c e : Int} (hh : 2 ≤ h ∧ h ≤ 24) (ha : 6 ≤ a ∧ a ≤ 120) (hb : 6 ≤ b ∧ b ≤ 120) (hc : 6 ≤ c ∧ c ≤ 120) (he : 6 ≤ e ∧ e ≤ 120) (hq : a * c * h = b * e) : ratN [(⟨a, b⟩ : S23), ⟨c, e⟩] = 1 ∧ ratD [(⟨a, b⟩ : S23), ⟨c, e⟩] = h := by
  have q : c * (h * a) = e * (1 * b) := by
    have e1 : c * (h * a) = a * c * h := by ac_rfl
    rw [e1, hq, Int.one_mul, Int.mul_comm]
  have x := rat_sol (nm := 1) (dn := h) hb.1 he.1 q
  have t := train2 ha hb hc he
  have g := rat_gcd t
  have bd := rat_bd t
  generalize ratN [(⟨a, b⟩ : S23), ⟨c, e⟩] = u at *
  generalize ratD [(⟨a, b⟩ : S23), ⟨c, e⟩] = v at *
  have u1 : u = 1 := coprime_eq (a := u) (b := v) (c := 1) (d := h) (by omega) (by omega) g (by simp) x
  subst u1
  refine ⟨rfl, ?_⟩
  omega
theorem row_mem {W : List (List S23)} {j : Nat} (h : j < W.length) : rd_L2 W (j : Int) ∈ W := by
  unfold rd_L2
  rw [List.getD_eq_getElem?_getD, show ((j : Int)).toNat = j by omega, List.getElem?_eq_getElem h]
  exact List.getElem_mem _
theorem l3_ev {h : Int} (hh : 2 ≤ h ∧ h ≤ 24) {W : List (List S23)} (hr : ∀ x ∈ W, wkRow h x) (hl : W.length ≤ 200) {t : Int} (ht : ∀ x ∈ W, t ≤ 2 * smN x) : ∀ (d j : Nat), j + d = W.length → Ev (fun k => laws_FnTrainsFoundOfAll.l3 k h t W (W.length : Int) j) true := by
  intro d
  induction d with
  | zero =>
    intro j a
    refine ev_succ ?_
    simp only [laws_FnTrainsFoundOfAll.l3]
    exact ev_f (by omega) (ev_now _)
  | succ d ih =>
    intro j a
    have hm := row_mem (W := W) (j := j) (by omega)
    have tx := ht _ hm
    obtain ⟨p, q, c, e, er, ha, hb, hc, he, hs, hq⟩ := hr _ hm
    have tr := train2 ha hb hc he
    have t1 := TeethOf_impl [(⟨p, q⟩ : S23), ⟨c, e⟩]
    have t2 := RatioOf_impl [(⟨p, q⟩ : S23), ⟨c, e⟩]
    rw [if_pos tr] at t1 t2
    have rt := wk_rat hh ha hb hc he hq
    rw [er, smN_eq ha hb] at tx
    refine ev_succ ?_
    simp only [laws_FnTrainsFoundOfAll.l3]
    rw [er, w64 (x := (j : Int) + 1) (by omega) (by omega)]
    refine ev_t (by omega) (ev_t (by omega) (ev_t (by omega) (Ev.bind t1 (Ev.bind t2 (ev_t (by trivial) (ev_f ?_ (ev_t (by trivial) (ev_t rt.1 (ev_t rt.2 (ev_t (by simp) (ev_t (by simp) (ev_t ?_ (ih (j + 1) (by omega))))))))))))))
    · show ¬ sumP [(⟨p, q⟩ : S23), ⟨c, e⟩] < t
      rw [sum2]
      omega
    · show wrap64 (p + q) = wrap64 (c + e)
      rw [hs]
theorem j10_ev {h : Int} {W : List (List S23) × Bool} {F : List S23 × Bool} (hl : W.1.length ≤ 200) (hr : ∀ x ∈ W.1, wkRow h x) (hf : F.2 = false → F.1 = [] ∧ W.1 = [])
    (ht : F.2 = true → (2 ≤ h ∧ h ≤ 24) ∧ (∃ a b c e : Int, F.1 = [⟨a, b⟩, ⟨c, e⟩] ∧ (6 ≤ a ∧ a ≤ 120) ∧ (6 ≤ b ∧ b ≤ 120) ∧ (6 ≤ c ∧ c ≤ 120) ∧ (6 ≤ e ∧ e ≤ 120) ∧ a + b = c + e ∧ a * c * h = b * e ∧ (∀ x ∈ W.1, a + b ≤ smN x)) ∧ (W.2 = true → 1 ≤ W.1.length)) : Ev (fun k => laws_FnTrainsFoundOfAll.j10 k h W.1 W.2 F.1 F.2) true := by
  obtain ⟨W1, W2⟩ := W
  obtain ⟨F1, F2⟩ := F
  dsimp only at hl hr hf ht ⊢
  refine ev_succ ?_
  simp only [laws_FnTrainsFoundOfAll.j10]
  cases F2 with
  | false =>
    obtain ⟨rfl, rfl⟩ := hf rfl
    refine ev_f (by simp) ?_
    by_cases w : W2 = true
    · exact ev_t w (ev_f (by simp) (ev_now _))
    · exact ev_f w (ev_now _)
  | true =>
    obtain ⟨hh, ⟨p, q, c, e, rfl, ha, hb, hc, he, hs, hq, hm⟩, hw⟩ := ht rfl
    have tr := train2 ha hb hc he
    have t1 := TeethOf_impl [(⟨p, q⟩ : S23), ⟨c, e⟩]
    have t2 := RatioOf_impl [(⟨p, q⟩ : S23), ⟨c, e⟩]
    rw [if_pos tr] at t1 t2
    have rt := wk_rat hh ha hb hc he hq
    have nx : Ev (fun k => laws_FnTrainsFoundOfAll.j11 k h W1 (sumP [(⟨p, q⟩ : S23), ⟨c, e⟩]) false) true := by
      refine ev_succ ?_
      simp only [laws_FnTrainsFoundOfAll.j11]
      refine ev_f (by simp) (l3_ev hh hr hl (fun x hx => ?_) W1.length 0 (by omega))
      have := hm x hx
      rw [sum2]
      omega
    refine ev_t rfl (Ev.bind t2 (Ev.bind t1 (ev_t (by trivial) (ev_t rt.1 (ev_t rt.2 (ev_t (by trivial) (ev_t (by simp) (ev_t (by simp) (ev_t (by simp) (ev_t ?_ ?_))))))))))
    · show wrap64 (p + q) = wrap64 (c + e)
      rw [hs]
    · by_cases w : W2 = true
      · have := hw w
        refine ev_t w ?_
        rw [decide_eq_false (show ¬ (W1.length : Int) < 1 by omega)]
        exact nx
      · exact ev_f w nx
section
variable {n d m h p q : Int} {W1 : List (List S23)} {W2 : Bool} {F1 : List S23} {F2 : Bool}
theorem offK_eq {x y : Int} (hn : 1 ≤ n ∧ n ≤ 1000) (hd : 1 ≤ d ∧ d ≤ 1000) (h1 : 6 ≤ x ∧ x ≤ 120) (h2 : 6 ≤ y ∧ y ≤ 120) : laws_kAbs.f (wrap64 (wrap64 (x * d) - wrap64 (n * y))) = some (offA n d x y) := by
  have ⟨_, _, a, b⟩ := offA_bd hn hd h1 h2
  rw [w64 (x := x * d) (by omega) (by omega), w64 (x := n * y) (by omega) (by omega), w64 (x := x * d - n * y) (by omega) (by omega), kAbs_eq (by omega)]
  rfl
theorem l2_ev (hn : 1 ≤ n ∧ n ≤ 1000) (hd : 1 ≤ d ∧ d ≤ 1000) (hm : 6 ≤ m ∧ m ≤ 120) (hp : 6 ≤ p ∧ p ≤ m) (hq : 6 ≤ q ∧ q ≤ m) (mn : ∀ x y, 6 ≤ x → x ≤ m → 6 ≤ y → y ≤ m → nle n d p q x y) {i : Int} (hi : -1 ≤ i ∧ i ≤ 1)
    (H : Ev (fun k => laws_FnTrainsFoundOfAll.l1 k n d m h W1 W2 F1 F2 (offA n d p q) (i + 1) p q) true) : ∀ (e : Nat) (j : Int), -1 ≤ j → j + e = 2 → Ev (fun k => laws_FnTrainsFoundOfAll.l2 k n d m h W1 W2 F1 F2 (offA n d p q) i j p q) true := by
  intro e
  induction e with
  | zero =>
    intro j j0 j1
    refine ev_succ ?_
    simp only [laws_FnTrainsFoundOfAll.l2]
    rw [w64 (x := i + 1) (by omega) (by omega)]
    exact ev_f (by omega) H
  | succ e ih =>
    intro j j0 j1
    have ih := ih (j + 1) (by omega) (by omega)
    have jT : Ev (fun k => laws_FnTrainsFoundOfAll.j9 k n d m h W1 W2 F1 F2 (offA n d p q) i j (p + i) (q + j) true p q) true := by
      refine ev_succ ?_
      simp only [laws_FnTrainsFoundOfAll.j9]
      rw [w64 (x := j + 1) (by omega) (by omega)]
      exact ev_t (by trivial) ih
    refine ev_succ ?_
    simp only [laws_FnTrainsFoundOfAll.l2]
    rw [w64 (x := p + i) (by omega) (by omega), w64 (x := q + j) (by omega) (by omega)]
    refine ev_t (by omega) ?_
    by_cases c1 : p + i < 6
    · exact ev_t c1 jT
    by_cases c2 : p + i > m
    · exact ev_f c1 (ev_t c2 jT)
    by_cases c3 : q + j < 6
    · exact ev_f c1 (ev_f c2 (ev_t c3 jT))
    refine ev_f c1 (ev_f c2 (ev_f c3 ?_))
    by_cases c4 : q + j > m
    · rw [decide_eq_true c4]
      exact jT
    rw [decide_eq_false c4]
    refine ev_succ ?_
    simp only [laws_FnTrainsFoundOfAll.j9]
    have h1 : 6 ≤ p + i ∧ p + i ≤ 120 := by omega
    have h2 : 6 ≤ q + j ∧ q + j ≤ 120 := by omega
    have hp' : 6 ≤ p ∧ p ≤ 120 := by omega
    have hq' : 6 ≤ q ∧ q ≤ 120 := by omega
    have le := mn (p + i) (q + j) (by omega) (by omega) (by omega) (by omega)
    unfold nle at le
    rw [w64 (x := j + 1) (by omega) (by omega)]
    refine ev_f (by simp) (ev_p (offK_eq hn hd h1 h2) ?_)
    rw [off_prod hn hd h1 h2 hq', off_prod hn hd hp' hq' h2]
    exact ev_f (by omega) ih
theorem l1_ev (hn : 1 ≤ n ∧ n ≤ 1000) (hd : 1 ≤ d ∧ d ≤ 1000) (hm : 6 ≤ m ∧ m ≤ 120) (hp : 6 ≤ p ∧ p ≤ m) (hq : 6 ≤ q ∧ q ≤ m) (mn : ∀ x y, 6 ≤ x → x ≤ m → 6 ≤ y → y ≤ m → nle n d p q x y)
    (H : Ev (fun k => laws_FnTrainsFoundOfAll.j10 k h W1 W2 F1 F2) true) : ∀ (e : Nat) (i : Int), -1 ≤ i → i + e = 2 → Ev (fun k => laws_FnTrainsFoundOfAll.l1 k n d m h W1 W2 F1 F2 (offA n d p q) i p q) true := by
  intro e
  induction e with
  | zero =>
    intro i i0 i1
    refine ev_succ ?_
    simp only [laws_FnTrainsFoundOfAll.l1]
    exact ev_f (by omega) H
  | succ e ih =>
    intro i i0 i1
    refine ev_succ ?_
    simp only [laws_FnTrainsFoundOfAll.l1]
    exact ev_t (by omega) (l2_ev hn hd hm hp hq mn ⟨i0, by omega⟩ (ih (i + 1) (by omega) (by omega)) 3 (-1) (by omega) (by omega))
theorem j6_ev (hn : 1 ≤ n ∧ n ≤ 1000) (hd : 1 ≤ d ∧ d ≤ 1000) (hm : 6 ≤ m ∧ m ≤ 120) (hp : 6 ≤ p ∧ p ≤ m) (hq : 6 ≤ q ∧ q ≤ m) (mn : ∀ x y, 6 ≤ x → x ≤ m → 6 ≤ y → y ≤ m → nle n d p q x y)
    (H : Ev (fun k => laws_FnTrainsFoundOfAll.j10 k h W1 W2 F1 F2) true) : Ev (fun k => laws_FnTrainsFoundOfAll.j6 k n d m h W1 W2 F1 F2 false p q) true := by
  refine ev_succ ?_
  simp only [laws_FnTrainsFoundOfAll.j6]
  exact ev_f (by simp) (ev_p (offK_eq hn hd (by omega) (by omega)) (l1_ev hn hd hm hp hq mn H 3 (-1) (by omega) (by omega)))
theorem near_exact (hn : 1 ≤ n ∧ n ≤ 1000) (hd : 1 ≤ d ∧ d ≤ 1000) (hm : 6 ≤ m ∧ m ≤ 120) (hq : 6 ≤ q ∧ q ≤ m) (mn : ∀ x y, 6 ≤ x → x ≤ m → 6 ≤ y → y ≤ m → nle n d p q x y) (hA : fpA n d ≤ m) (hB : fpB n d ≤ m) : p * fpB n d = fpA n d * q := by
  have f6 := fp_ge hn.1 hd.1
  have hf := hit_fp hn.1 hd.1
  have he : fpA n d * d = fpB n d * n := by
    have := (Int.ediv_mul_cancel (Int.dvd_of_emod_eq_zero hf.1)).symm
    rw [hf.2] at this
    exact this
  have le := mn _ _ f6.1 hA f6.2 hB
  have z : offA n d (fpA n d) (fpB n d) = 0 := by
    unfold offA
    rw [he, Int.mul_comm n]
    simp
  unfold nle at le
  rw [z, Int.zero_mul] at le
  have o : offA n d p q = 0 := by
    have n0 : 0 ≤ offA n d p q := by unfold offA; omega
    by_cases c : offA n d p q = 0
    · exact c
    · have := mul_pos1 (a := offA n d p q) (b := fpB n d) (by omega) (by omega)
      omega
  have e : p * d = n * q := by
    unfold offA at o
    omega
  generalize fpA n d = x at *
  generalize fpB n d = y at *
  refine Int.eq_of_mul_eq_mul_right (a := d) (by omega) ?_
  have e1 : p * y * d = (p * d) * y := by ac_rfl
  have e2 : x * q * d = (x * d) * q := by ac_rfl
  rw [e1, e2, e, he]
  ac_rfl
theorem j5_ev {ok : Bool} (hR : ok = true → ((1 ≤ n ∧ n ≤ 1000) ∧ (1 ≤ d ∧ d ≤ 1000) ∧ (6 ≤ m ∧ m ≤ 120)) ∧ ((6 ≤ p ∧ p ≤ m) ∧ (6 ≤ q ∧ q ≤ m)) ∧ ∀ x y, 6 ≤ x → x ≤ m → 6 ≤ y → y ≤ m → nle n d p q x y)
    (H : Ev (fun k => laws_FnTrainsFoundOfAll.j10 k h W1 W2 F1 F2) true) : Ev (fun k => laws_FnTrainsFoundOfAll.j5 k n d m h ok W1 W2 F1 F2 false p q) true := by
  refine ev_succ ?_
  simp only [laws_FnTrainsFoundOfAll.j5]
  refine ev_f (by simp) ?_
  cases ok with
  | false => exact ev_f (by simp) H
  | true =>
    obtain ⟨⟨hn, hd, hm⟩, ⟨hp, hq⟩, mn⟩ := hR rfl
    have nx := j6_ev (W1 := W1) (W2 := W2) (F1 := F1) (F2 := F2) (h := h) hn hd hm hp hq mn H
    refine ev_t rfl (Ev.bind (FirstPair_impl n d m) ?_)
    by_cases c : ((1 ≤ n ∧ n ≤ 1000) ∧ (1 ≤ d ∧ d ≤ 1000) ∧ (6 ≤ m ∧ m ≤ 120)) ∧ (fpA n d ≤ m ∧ fpB n d ≤ m)
    · rw [show FirstPairP n d m = _ from if_pos c]
      refine ev_t (by trivial) ?_
      dsimp only
      rw [near_exact hn hd hm hq mn c.2.1 c.2.2, bne_self_eq_false]
      exact nx
    · rw [show FirstPairP n d m = _ from if_neg c]
      exact ev_f (by simp) nx
end
theorem j3_ev (a3 a4 a5 a6 a7 a8 a9 a10 : Int) : Ev (fun k => laws_FnTrainsFoundOfAll.j3 k a3 a4 a5 a6 a7 a8 a9 a10) true := by
  obtain ⟨R, n1, n2, nR⟩ := near_min a6 a7 a8
  obtain ⟨W, F, w1, w2, w3, w4, wl, wr, wf, wt⟩ := dial_works a9 a10
  have H := j10_ev wl wr wf wt
  have fl : F.1.length ≤ 2 := by
    cases e : F.2 with
    | false => rw [(wf e).1]; exact Nat.zero_le _
    | true =>
      obtain ⟨_, ⟨_, _, _, _, e1, _⟩, _⟩ := wt e
      rw [e1]
      exact Nat.le_refl _
  obtain ⟨p, q, ok⟩ := R
  dsimp only at nR
  have J5 := j5_ev (ok := ok) nR H
  refine ev_succ ?_
  simp only [laws_FnTrainsFoundOfAll.j3]
  refine Ev.bind (FirstPair_impl a3 a4 a5) (Ev.bind (FirstPair_spec a3 a4 a5) (Ev.bind n2 (Ev.bind n1 (Ev.bind w2 (Ev.bind w1 (Ev.bind w4 (Ev.bind w3 ?_)))))))
  refine ev_f (by simp) (ev_f (by simp) (ev_f (by simp) (ev_f (by simp) (ev_f (by simp) (Ev.bind (kTrains_ev W.1 (by omega) (fun x hx => Nat.le_trans (wkRow_len (wr x hx)) (by decide))) (ev_t rfl (ev_f (by simp) (Ev.bind (kPairs_ev F.1 (by omega)) ?_))))))))
  refine ev_succ ?_
  simp only [laws_FnTrainsFoundOfAll.j4]
  refine ev_f (by simp) ?_
  by_cases c : ((1 ≤ a3 ∧ a3 ≤ 1000) ∧ (1 ≤ a4 ∧ a4 ≤ 1000) ∧ (6 ≤ a5 ∧ a5 ≤ 120)) ∧ (fpA a3 a4 ≤ a5 ∧ fpB a3 a4 ≤ a5)
  · rw [show FirstPairP a3 a4 a5 = _ from if_pos c]
    have hf := hit_fp c.1.1.1 c.1.2.1.1
    have he : fpA a3 a4 * a4 = a3 * fpB a3 a4 := by
      have := (Int.ediv_mul_cancel (Int.dvd_of_emod_eq_zero hf.1)).symm
      rw [hf.2] at this
      rw [this, Int.mul_comm]
    refine ev_t (by trivial) (ev_t (by rw [he]) (ev_f (by omega) ?_))
    rw [decide_eq_false (show ¬ fpB a3 a4 > a5 by omega)]
    exact J5
  · rw [show FirstPairP a3 a4 a5 = _ from if_neg c]
    exact ev_f (by simp) J5
theorem small2 {m : Int} (hm : m ≤ 120) {nm dn a b c d : Int} (h : solT nm dn m a b c d) : (6 ≤ a ∧ a ≤ 120) ∧ (6 ≤ b ∧ b ≤ 120) ∧ (6 ≤ c ∧ c ≤ 120) ∧ (6 ≤ d ∧ d ≤ 120) := by
  obtain ⟨h1, h2, h3, h4, _⟩ := h
  omega
theorem law_ev (a0 a1 a2 a3 a4 a5 a6 a7 a8 a9 a10 : Int) : Ev (fun k => laws_FnTrainsFoundOfAll.f k a0 a1 a2 a3 a4 a5 a6 a7 a8 a9 a10) true := by
  have T3 := j3_ev a3 a4 a5 a6 a7 a8 a9 a10
  have b1 := bestP_len false a0 a1 a2
  have b2 := bestP_len true a0 a1 a2
  unfold laws_FnTrainsFoundOfAll.f
  refine Ev.bind (FirstTrain_impl a0 a1 a2) (Ev.bind (FirstTrain_spec a0 a1 a2) (Ev.bind (FewestTeeth_impl a0 a1 a2) (Ev.bind (FewestTeeth_spec a0 a1 a2) ?_)))
  refine ev_f (by simp) (Ev.bind (kPairs_ev _ (by omega)) (ev_t rfl (ev_f (by simp) (Ev.bind (kPairs_ev _ (by omega)) (ev_t rfl (ev_succ ?_))))))
  simp only [laws_FnTrainsFoundOfAll.j0]
  clear b1 b2
  by_cases h : (1 ≤ a0 ∧ a0 ≤ 1000) ∧ (1 ≤ a1 ∧ a1 ≤ 1000) ∧ (6 ≤ a2 ∧ a2 ≤ 120)
  · have hs : (1 ≤ a1 ∧ a1 ≤ 1000) ∧ (1 ≤ a0 ∧ a0 ≤ 1000) ∧ (6 ≤ a2 ∧ a2 ≤ 120) := ⟨h.2.1, h.1, h.2.2⟩
    have B3 := FewestTeeth_impl a1 a0 a2
    rw [show bestP true a1 a0 a2 = _ from if_pos hs] at B3
    rw [show bestP false a0 a1 a2 = _ from if_pos h, show bestP true a0 a1 a2 = _ from if_pos h]
    rcases best_is false (nm := a0) (dn := a1) (m := a2) h.1.1 h.2.1.1 h.2.2.1 with ⟨e1, no⟩ | ⟨a, b, c, d, e1, s1, _⟩
    · rcases best_is true (nm := a0) (dn := a1) (m := a2) h.1.1 h.2.1.1 h.2.2.1 with ⟨e2, _⟩ | ⟨a, b, c, d, e2, s2, _⟩
      · rw [e1, e2]
        exact ev_f (by decide) (ev_f (by decide) T3)
      · exact absurd s2 (no a b c d)
    · rcases best_is true (nm := a0) (dn := a1) (m := a2) h.1.1 h.2.1.1 h.2.2.1 with ⟨e2, no⟩ | ⟨x, y, z, t, e2, s2, mn⟩
      · exact absurd s1 (no a b c d)
      · rcases best_is true (nm := a1) (dn := a0) (m := a2) h.2.1.1 h.1.1 h.2.2.1 with ⟨e3, no⟩ | ⟨x', y', z', t', e3, s3, mn'⟩
        · exact absurd (sol_swap s1) (no b a d c)
        · rw [e1, e2]
          rw [e3] at B3
          have l1 := small2 h.2.2.2 s1
          have l2 := small2 h.2.2.2 s2
          have l3 := small2 h.2.2.2 s3
          have t1 := train2 l1.1 l1.2.1 l1.2.2.1 l1.2.2.2
          have t2 := train2 l2.1 l2.2.1 l2.2.2.1 l2.2.2.2
          have t3 := train2 l3.1 l3.2.1 l3.2.2.1 l3.2.2.2
          have r1 := RatioOf_impl [(⟨a, b⟩ : S23), ⟨c, d⟩]
          have r2 := RatioOf_impl [(⟨x, y⟩ : S23), ⟨z, t⟩]
          have u1 := TeethOf_impl [(⟨a, b⟩ : S23), ⟨c, d⟩]
          have u2 := TeethOf_impl [(⟨x, y⟩ : S23), ⟨z, t⟩]
          have u3 := TeethOf_impl [(⟨x', y'⟩ : S23), ⟨z', t'⟩]
          rw [if_pos t1] at r1 u1
          rw [if_pos t2] at r2 u2
          rw [if_pos t3] at u3
          rw [sum2] at u1 u2 u3
          have q1 := rat_sol l1.2.1.1 l1.2.2.2.1 s1.2.2.2.2
          have q2 := rat_sol l2.2.1.1 l2.2.2.2.1 s2.2.2.2.2
          have sm := rat_same t1 t2 h.1.1 h.2.1.1 q1 q2
          have m1 := mn rfl a b c d s1
          have m2 := mn rfl y' x' t' z' (sol_swap s3)
          have m3 := mn' rfl y x t z (sol_swap s2)
          have E : x' + y' + z' + t' = x + y + z + t := by omega
          refine ev_f (by simp [fnd]) (ev_t rfl (Ev.bind r1 (Ev.bind r2 (Ev.bind u1 (Ev.bind u2 (ev_t (by trivial) (ev_t (by rw [q1]) (ev_t (by trivial) (ev_t sm.1.symm (ev_t sm.2.symm (ev_t (by trivial) (ev_t (by trivial) (ev_f (by omega) (ev_t (by simp) (ev_succ ?_)))))))))))))))
          simp only [laws_FnTrainsFoundOfAll.j1]
          refine ev_f (by simp) (ev_succ ?_)
          simp only [laws_FnTrainsFoundOfAll.l0]
          obtain ⟨A1, A2, A3, A4, _⟩ := s1
          obtain ⟨B1, B2, B5, B4, _⟩ := s2
          have g0 : rd_T23 [(⟨a, b⟩ : S23), ⟨c, d⟩] 0 = ⟨a, b⟩ := rfl
          have g1 : rd_T23 [(⟨a, b⟩ : S23), ⟨c, d⟩] 1 = ⟨c, d⟩ := rfl
          have k0 : rd_T23 [(⟨x, y⟩ : S23), ⟨z, t⟩] 0 = ⟨x, y⟩ := rfl
          have k1 : rd_T23 [(⟨x, y⟩ : S23), ⟨z, t⟩] 1 = ⟨z, t⟩ := rfl
          rw [g0, k0, w64 (x := 0 + 1) (by omega) (by omega)]
          refine ev_t (by omega) (ev_t (by omega) (ev_t (by simp) (ev_f (by dsimp only; omega) (ev_f (by dsimp only; omega) (ev_t (by simp) (ev_f (by dsimp only; omega) (ev_f (by dsimp only; omega) (ev_succ ?_))))))))
          simp only [laws_FnTrainsFoundOfAll.l0, Int.zero_add]
          rw [g1, k1, w64 (x := 1 + 1) (by omega) (by omega)]
          refine ev_t (by omega) (ev_t (by omega) (ev_t (by simp) (ev_f (by dsimp only; omega) (ev_f (by dsimp only; omega) (ev_t (by simp) (ev_f (by dsimp only; omega) (ev_f (by dsimp only; omega) (ev_succ ?_))))))))
          simp only [laws_FnTrainsFoundOfAll.l0]
          refine ev_f (by omega) (Ev.bind B3 (Ev.bind u3 (ev_t (by trivial) (ev_t (by trivial) (ev_t E T3)))))
  · rw [show bestP false a0 a1 a2 = _ from if_neg h, show bestP true a0 a1 a2 = _ from if_neg h]
    exact ev_f (by decide) (ev_f (by decide) T3)
theorem law (a0 a1 a2 a3 a4 a5 a6 a7 a8 a9 a10 : Int) (w0 : (Lit.int .i64 a0).wf = true) (w1 : (Lit.int .i64 a1).wf = true) (w2 : (Lit.int .i64 a2).wf = true) (w3 : (Lit.int .i64 a3).wf = true) (w4 : (Lit.int .i64 a4).wf = true) (w5 : (Lit.int .i64 a5).wf = true) (w6 : (Lit.int .i64 a6).wf = true) (w7 : (Lit.int .i64 a7).wf = true) (w8 : (Lit.int .i64 a8).wf = true) (w9 : (Lit.int .i64 a9).wf = true) (w10 : (Lit.int .i64 a10).wf = true) : ∃ k, laws_FnTrainsFoundOfAll.f k a0 a1 a2 a3 a4 a5 a6 a7 a8 a9 a10 = some true := Ev.rounds (law_ev a0 a1 a2 a3 a4 a5 a6 a7 a8 a9 a10)

end Go.Proofs.Ytofjjfaaadllmaa.Pure.FnTrainsFoundOfAllWay
