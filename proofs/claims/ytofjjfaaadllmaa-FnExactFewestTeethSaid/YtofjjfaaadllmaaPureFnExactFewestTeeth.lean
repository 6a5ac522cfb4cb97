/- FnExactFewestTeeth: the law's printed function answers true at every input. -/
import Derived.Test.YtofjjfaaadllmaaGFnExactFewestTeethx5
import Derived.Test.YtofjjfaaadllmaaLib
import Derived.Test.YtofjjfaaadllmaaLibRows
import Derived.Test.YtofjjfaaadllmaaLibGcd
set_option linter.unusedVariables false
set_option linter.unusedSimpArgs false
namespace Go.Proofs.Ytofjjfaaadllmaa.Pure.FnExactFewestTeethWay
open Go.RowKit Go.Proofs.Ytofjjfaaadllmaa.GFnExactFewestTeeth Go.Proofs.YtofjjfaaadllmaaW.PrintWords Go.Proofs.YtofjjfaaadllmaaW.PrintLast Go.Proofs.YtofjjfaaadllmaaW.PrintMore Go.Proofs.Ytofjjfaaadllmaa.Lib

/-! gcd -/
theorem gcd_ev (a b : Int) (ha : a.natAbs ≤ 4611686018427387904) (hb : b.natAbs ≤ 4611686018427387904) : Ev (fun k => impl_gcd.f k a b) (Int.gcd a b : Int) := by
  unfold impl_gcd.f
  exact gcd_gen (l0 := impl_gcd.l0) (fun _ _ _ => by simp only [impl_gcd.l0]) b.natAbs a b ha hb (Nat.le_refl _)

/-! lowest -/
theorem lowest_ev (a b : Int) (ha : a.natAbs ≤ 4611686018427387904) (hb : b.natAbs ≤ 4611686018427387904) (h0 : b ≠ 0) : Ev (fun k => impl_lowest.f k a b) (lowN a b, lowD a b) := by
  unfold impl_lowest.f
  have g := gcd_pos (a := a) h0
  have n := low_bdN a b
  have d := low_bdD a b
  refine Ev.bind (gcd_ev a b ha hb) (ev_f (by omega) ?_)
  rw [low_tdiv, low_tdiv', w64 (by omega) (by omega), w64 (by omega) (by omega)]
  exact ev_now _

/-! firstPair -/
theorem mx_max (a b : Int) : mx a b = max a b := by
  unfold mx
  split <;> omega
theorem firstPair_ev {num den most : Int} (hn : 1 ≤ num) (hn' : num ≤ 10000000) (hd : 1 ≤ den) (hd' : den ≤ 10000000) : Ev (fun k => impl_firstPair.f k num den most) (fpA num den, fpB num den, decide (fpA num den ≤ most ∧ fpB num den ≤ most)) := by
  unfold impl_firstPair.f
  have n1 := low_posN hn hd
  have d1 := low_posD (a := num) hd
  have bn := low_bdN num den
  have bd := low_bdD num den
  refine Ev.bind (lowest_ev num den (by omega) (by omega) (by omega)) (ev_con ?_)
  show (if lowN num den = 0 then none else if lowD num den = 0 then none else _) = _
  rw [if_neg (by omega), if_neg (by omega)]
  have q1 := div_le (a := 6 + lowN num den - 1) (b := lowN num den) (by omega) n1
  have q2 := div_le (a := 6 + lowD num den - 1) (b := lowD num den) (by omega) d1
  have b := fp_bd hn hd
  have b' := fp_ge hn hd
  have f : mx (wrap64 (Int.tdiv (wrap64 (wrap64 (6 + lowN num den) - 1)) (lowN num den))) (wrap64 (Int.tdiv (wrap64 (wrap64 (6 + lowD num den) - 1)) (lowD num den))) = facP num den := by
    rw [w64 (x := 6 + lowN num den) (by omega) (by omega), w64 (x := 6 + lowD num den) (by omega) (by omega), w64 (x := 6 + lowN num den - 1) (by omega) (by omega), w64 (x := 6 + lowD num den - 1) (by omega) (by omega), tdiv_e (by omega), tdiv_e (by omega), w64 (by omega) (by omega), w64 (by omega) (by omega), mx_max]
    rfl
  dsimp only
  rw [f]
  unfold fpA fpB at *
  rw [w64 (x := facP num den * lowN num den) (by omega) (by omega), w64 (x := facP num den * lowD num den) (by omega) (by omega)]
  split
  · rename_i c
    have e : decide (facP num den * lowD num den ≤ most) = decide (facP num den * lowN num den ≤ most ∧ facP num den * lowD num den ≤ most) := decide_eq_decide.2 ⟨fun z => ⟨c, z⟩, fun z => z.2⟩
    rw [e]
  · rename_i c
    have e : false = decide (facP num den * lowN num den ≤ most ∧ facP num den * lowD num den ≤ most) := (decide_eq_false (fun z => c z.1)).symm
    rw [← e]

/-! l1In -/
theorem l1In_eq (a b c : Int) : spec_l1In.f a b c = some (decide (b ≤ a ∧ a ≤ c)) := within_gen (fun _ _ _ => rfl) a b c

/-! best -/
def sumT : List S23 → Int
  | [] => 0
  | p :: l => p.f0 + p.f1 + sumT l
def trP (nm dn a b : Int) : List S23 := [⟨a, b⟩, ⟨fpA (nm * b) (dn * a), fpB (nm * b) (dn * a)⟩]
def bstep (few : Bool) (nm dn m a b : Int) (st : List S23) : List S23 :=
  if fpA (nm * b) (dn * a) ≤ m ∧ fpB (nm * b) (dn * a) ≤ m then (if st = [] then trP nm dn a b else if few = true ∧ sumT (trP nm dn a b) < sumT st then trP nm dn a b else st) else st
def rowB (few : Bool) (nm dn m a : Int) : Nat → Int → List S23 → List S23
  | 0, _, st => st
  | n + 1, b, st => rowB few nm dn m a n (b + 1) (bstep few nm dn m a b st)
def allB (few : Bool) (nm dn m : Int) : Nat → Int → List S23 → List S23
  | 0, _, st => st
  | n + 1, a, st => allB few nm dn m n (a + 1) (rowB few nm dn m a (m - 5).toNat 6 st)
def goodS (m : Int) (st : List S23) : Prop := st = [] ∨ ∃ a b c d : Int, st = [⟨a, b⟩, ⟨c, d⟩] ∧ (6 ≤ a ∧ a ≤ m) ∧ (6 ≤ b ∧ b ≤ m) ∧ (6 ≤ c ∧ c ≤ m) ∧ (6 ≤ d ∧ d ≤ m)
def EvB {α : Type} (F : Nat → Nat → Option α) (r : α) : Prop := ∃ K, ∀ k g, K ≤ k → K ≤ g → F k g = some r
theorem EvB.succ {α : Type} {F : Nat → Nat → Option α} {r : α} (h : EvB (fun k g => F k (g + 1)) r) : EvB F r := by
  obtain ⟨K, h⟩ := h
  refine ⟨K + 1, fun k g hk hg => ?_⟩
  obtain ⟨g, rfl⟩ : ∃ g', g = g' + 1 := ⟨g - 1, by omega⟩
  exact h k g (by omega) (by omega)
theorem EvB.bind {α β : Type} {o : Nat → Option α} {F : Nat → Nat → α → Option β} {a : α} {r : β} (h : Ev o a) (e : EvB (fun k g => F k g a) r) : EvB (fun k g => (o k).bind (F k g)) r := by
  obtain ⟨K1, h⟩ := h
  obtain ⟨K2, e⟩ := e
  refine ⟨max K1 K2, fun k g hk hg => ?_⟩
  show (o k).bind (F k g) = some r
  rw [h k (by omega), Option.bind_some]
  exact e k g (by omega) (by omega)
theorem good_step {few : Bool} {nm dn m a b : Int} {st : List S23} (hn : 1 ≤ nm) (hd : 1 ≤ dn) (ha : 6 ≤ a ∧ a ≤ m) (hb : 6 ≤ b ∧ b ≤ m) (h : goodS m st) : goodS m (bstep few nm dn m a b st) := by
  unfold bstep
  have f6 := fp_ge (num := nm * b) (den := dn * a) (mul_pos1 hn (by omega)) (mul_pos1 hd (by omega))
  split
  · rename_i c
    have g : goodS m (trP nm dn a b) := Or.inr ⟨a, b, _, _, rfl, ha, hb, ⟨f6.1, c.1⟩, ⟨f6.2, c.2⟩⟩
    split
    · exact g
    · split
      · exact g
      · exact h
  · exact h
theorem teeth2 {m : Int} {a b c d : Int} (hm : m ≤ 120) (h : (6 ≤ a ∧ a ≤ m) ∧ (6 ≤ b ∧ b ≤ m) ∧ (6 ≤ c ∧ c ≤ m) ∧ (6 ≤ d ∧ d ≤ m)) : Ev (fun k => impl_teeth.f k [⟨a, b⟩, ⟨c, d⟩]) (sumT [⟨a, b⟩, ⟨c, d⟩]) := by
  have e0 : rd_T23 [(⟨a, b⟩ : S23), ⟨c, d⟩] 0 = ⟨a, b⟩ := rfl
  have e1 : rd_T23 [(⟨a, b⟩ : S23), ⟨c, d⟩] 1 = ⟨c, d⟩ := rfl
  unfold impl_teeth.f
  refine ev_succ ?_
  simp only [impl_teeth.l0, e0]
  refine ev_t (by simp) (ev_t (by omega) (ev_t (by simp) (ev_succ ?_)))
  rw [w64 (x := 0 + 1) (by omega) (by omega), w64 (x := a + b) (by omega) (by omega), w64 (x := 0 + (a + b)) (by omega) (by omega)]
  simp only [impl_teeth.l0, Int.zero_add, e1]
  refine ev_t (by simp) (ev_t (by omega) (ev_t (by simp) (ev_succ ?_)))
  rw [w64 (x := 1 + 1) (by omega) (by omega), w64 (x := c + d) (by omega) (by omega), w64 (x := a + b + (c + d)) (by omega) (by omega)]
  simp only [impl_teeth.l0]
  refine ev_f (by simp) (ev_con ?_)
  simp only [sumT]
  congr 1
  omega
theorem bsN_ev {few : Bool} {nm dn m a b : Int} {st : List S23} (hm : m ≤ 120) (hn : 1 ≤ nm) (hd : 1 ≤ dn) (ha : 6 ≤ a ∧ a ≤ m) (hb : 6 ≤ b ∧ b ≤ m) (h : goodS m st) :
    Ev (fun k => bsN k few (trP nm dn a b) (decide (fpA (nm * b) (dn * a) ≤ m ∧ fpB (nm * b) (dn * a) ≤ m)) st) (bstep few nm dn m a b st) := by
  have f6 := fp_ge (num := nm * b) (den := dn * a) (mul_pos1 hn (by omega)) (mul_pos1 hd (by omega))
  unfold bsN bstep
  by_cases c : fpA (nm * b) (dn * a) ≤ m ∧ fpB (nm * b) (dn * a) ≤ m
  · rw [if_pos c]
    refine ev_t (decide_eq_true c) ?_
    rcases h with rfl | ⟨p, q, s, t, rfl, hp, hq, hs, ht⟩
    · rw [if_pos rfl]
      exact ev_t rfl (ev_now _)
    · rw [if_neg (by simp)]
      refine ev_f (by simp) ?_
      cases few with
      | false =>
        rw [if_neg (by simp)]
        exact ev_f (by decide) (ev_now _)
      | true =>
        refine ev_t rfl (Ev.bind (teeth2 hm ⟨ha, hb, ⟨f6.1, c.1⟩, ⟨f6.2, c.2⟩⟩) (Ev.bind (teeth2 hm ⟨hp, hq, hs, ht⟩) ?_))
        by_cases y : sumT (trP nm dn a b) < sumT [(⟨p, q⟩ : S23), ⟨s, t⟩]
        · rw [if_pos (show true = true ∧ sumT (trP nm dn a b) < sumT [(⟨p, q⟩ : S23), ⟨s, t⟩] from ⟨rfl, y⟩)]
          exact ev_t y (ev_now _)
        · rw [if_neg (show ¬ (true = true ∧ sumT (trP nm dn a b) < sumT [(⟨p, q⟩ : S23), ⟨s, t⟩]) from fun z => y z.2)]
          exact ev_f y (ev_now _)
  · rw [if_neg c]
    exact ev_f (by simp only [decide_eq_true_eq]; exact c) (ev_now _)
theorem row_impl {few : Bool} {nm dn m a : Int} {r : List S23} (hm : 6 ≤ m ∧ m ≤ 120) (hn : 1 ≤ nm ∧ nm ≤ 1000) (hd : 1 ≤ dn ∧ dn ≤ 1000) (ha : 6 ≤ a ∧ a ≤ m) : ∀ (n : Nat) (b : Int) (st : List S23), 6 ≤ b → b + n = m + 1 → goodS m st →
    EvB (fun k g => bsF k few nm dn m g (a + 1) 6 (rowB few nm dn m a n b st)) r → EvB (fun k g => bsF k few nm dn m g a b st) r
  | 0, b, st, h6, hb, hs, ev => by
    refine EvB.succ ?_
    obtain ⟨K, ev⟩ := ev
    refine ⟨K, fun k g hk hg => ?_⟩
    show bsF k few nm dn m (g + 1) a b st = some r
    rw [bsF, if_pos ha.2, if_neg (by omega)]
    exact ev k g hk hg
  | n + 1, b, st, h6, hb, hs, ev => by
    have m1 := mul_bd (a := nm) (b := b) (A := 1000) (B := 120) (by omega) (by omega) (by omega) (by omega)
    have m2 := mul_bd (a := dn) (b := a) (A := 1000) (B := 120) (by omega) (by omega) (by omega) (by omega)
    have p1 := mul_pos1 (a := nm) (b := b) (by omega) (by omega)
    have p2 := mul_pos1 (a := dn) (b := a) (by omega) (by omega)
    have ih := row_impl (few := few) hm hn hd ha n (b + 1) (bstep few nm dn m a b st) (by omega) (by omega) (good_step (by omega) (by omega) ha (by omega) hs) ev
    have e1 := firstPair_ev (num := nm * b) (den := dn * a) (most := m) (by omega) (by omega) (by omega) (by omega)
    have e2 := bsN_ev (few := few) (st := st) hm.2 hn.1 hd.1 ha (⟨h6, by omega⟩ : 6 ≤ b ∧ b ≤ m) hs
    have key : EvB (fun k g => (impl_firstPair.f k (nm * b) (dn * a) m).bind fun t => (bsN k few [⟨a, b⟩, ⟨t.1, t.2.1⟩] t.2.2 st).bind fun o => bsF k few nm dn m g a (b + 1) o) r := EvB.bind e1 (EvB.bind e2 ih)
    refine EvB.succ ?_
    obtain ⟨K, key⟩ := key
    refine ⟨K, fun k g hk hg => ?_⟩
    show bsF k few nm dn m (g + 1) a b st = some r
    rw [bsF, if_pos ha.2, if_pos (by omega), w64 (x := nm * b) (by omega) (by omega), w64 (x := dn * a) (by omega) (by omega)]
    exact key k g hk hg
theorem row_good {few : Bool} {nm dn m a : Int} (hn : 1 ≤ nm) (hd : 1 ≤ dn) (ha : 6 ≤ a ∧ a ≤ m) : ∀ (n : Nat) (b : Int) (st : List S23), 6 ≤ b → b + n = m + 1 → goodS m st → goodS m (rowB few nm dn m a n b st)
  | 0, _, _, _, _, h => h
  | n + 1, b, st, h6, hb, h => row_good hn hd ha n (b + 1) _ (by omega) (by omega) (good_step hn hd ha ⟨h6, by omega⟩ h)
theorem all_impl {few : Bool} {nm dn m : Int} (hm : 6 ≤ m ∧ m ≤ 120) (hn : 1 ≤ nm ∧ nm ≤ 1000) (hd : 1 ≤ dn ∧ dn ≤ 1000) : ∀ (n : Nat) (a : Int) (st : List S23), 6 ≤ a → a + n = m + 1 → goodS m st →
    EvB (fun k g => bsF k few nm dn m g a 6 st) (allB few nm dn m n a st)
  | 0, a, st, h6, ha, hs => by
    refine EvB.succ ⟨0, fun k g _ _ => ?_⟩
    show bsF k few nm dn m (g + 1) a 6 st = _
    rw [bsF, if_neg (by omega)]
    rfl
  | n + 1, a, st, h6, ha, hs => by
    refine row_impl hm hn hd ⟨h6, by omega⟩ (m - 5).toNat 6 st (by omega) (by omega) hs ?_
    exact all_impl hm hn hd n (a + 1) _ (by omega) (by omega) (row_good hn.1 hd.1 ⟨h6, by omega⟩ _ _ _ (by omega) (by omega) hs)

/-! geWheel -/
theorem geWheel_eq (n : Int) : spec_geWheel.f n = some (decide (6 ≤ n ∧ n ≤ 120)) := by
  unfold spec_geWheel.f
  rw [l1In_eq, Option.bind_some]

/-! geAsked -/
theorem geAsked_eq (a b c : Int) : spec_geAsked.f a b c = some (decide ((1 ≤ a ∧ a ≤ 1000) ∧ (1 ≤ b ∧ b ≤ 1000) ∧ (6 ≤ c ∧ c ≤ 120))) := by
  unfold spec_geAsked.f
  rw [l1In_eq, Option.bind_some]
  by_cases h : 1 ≤ a ∧ a ≤ 1000
  · rw [if_pos (by simpa using h), l1In_eq, Option.bind_some]
    by_cases g : 1 ≤ b ∧ b ≤ 1000
    · rw [if_pos (by simpa using g), geWheel_eq, Option.bind_some]
      congr 1
      rw [Bool.eq_iff_iff, decide_eq_true_iff, decide_eq_true_iff]
      omega
    · rw [if_neg (by simpa using g)]
      congr 1
      symm
      exact decide_eq_false (by omega)
  · rw [if_neg (by simpa using h)]
    congr 1
    symm
    exact decide_eq_false (by omega)

/-! within -/
theorem within_eq (a b c : Int) : impl_within.f a b c = some (decide (b ≤ a ∧ a ≤ c)) := within_gen (fun _ _ _ => rfl) a b c

/-! areTeeth -/
theorem areTeeth_eq (n : Int) : impl_areTeeth.f n = some (decide (6 ≤ n ∧ n ≤ 120)) := by
  unfold impl_areTeeth.f
  rw [within_eq, Option.bind_some]

/-! areRatio -/
theorem areRatio_eq (a b c : Int) : impl_areRatio.f a b c = some (decide ((1 ≤ a ∧ a ≤ 1000) ∧ (1 ≤ b ∧ b ≤ 1000) ∧ (6 ≤ c ∧ c ≤ 120))) := by
  unfold impl_areRatio.f
  rw [within_eq, Option.bind_some]
  by_cases h : 1 ≤ a ∧ a ≤ 1000
  · rw [if_pos (by simpa using h), within_eq, Option.bind_some]
    by_cases g : 1 ≤ b ∧ b ≤ 1000
    · rw [if_pos (by simpa using g), areTeeth_eq, Option.bind_some]
      congr 1
      rw [Bool.eq_iff_iff, decide_eq_true_iff, decide_eq_true_iff]
      omega
    · rw [if_neg (by simpa using g)]
      congr 1
      symm
      exact decide_eq_false (by omega)
  · rw [if_neg (by simpa using h)]
    congr 1
    symm
    exact decide_eq_false (by omega)

/-! bestS -/
def fnd (st : List S23) : Bool := !st.isEmpty
def hitP (nm dn m a b c : Int) : Prop := (c * (dn * a)) % (nm * b) = 0 ∧ 6 ≤ (c * (dn * a)) / (nm * b) ∧ (c * (dn * a)) / (nm * b) ≤ m
def trC (nm dn a b c : Int) : List S23 := [⟨a, b⟩, ⟨c, (c * (dn * a)) / (nm * b)⟩]
section
variable {nm dn m a b c : Int} {st : List S23} {few : Bool}
theorem round_vals (hm : 6 ≤ m ∧ m ≤ 120) (hn : 1 ≤ nm ∧ nm ≤ 1000) (hd : 1 ≤ dn ∧ dn ≤ 1000) (ha : 6 ≤ a ∧ a ≤ m) (hb : 6 ≤ b ∧ b ≤ m) (hc : 6 ≤ c ∧ c ≤ m) :
    wrap64 (b * nm) = nm * b ∧ wrap64 (wrap64 (a * c) * dn) = c * (dn * a) ∧ 1 ≤ nm * b ∧ (0 ≤ c * (dn * a) ∧ c * (dn * a) ≤ 14400000) ∧ 0 ≤ (c * (dn * a)) / (nm * b) ∧ (c * (dn * a)) / (nm * b) ≤ 14400000 := by
  have m1 := mul_bd (a := nm) (b := b) (A := 1000) (B := 120) (by omega) (by omega) (by omega) (by omega)
  have m2 := mul_bd (a := dn) (b := a) (A := 1000) (B := 120) (by omega) (by omega) (by omega) (by omega)
  have m3 := mul_bd (a := c) (b := dn * a) (A := 120) (B := 120000) (by omega) (by omega) (by omega) (by omega)
  have m4 := mul_bd (a := a) (b := c) (A := 120) (B := 120) (by omega) (by omega) (by omega) (by omega)
  have p1 := mul_pos1 (a := nm) (b := b) (by omega) (by omega)
  have e1 : b * nm = nm * b := Int.mul_comm _ _
  have e2 : a * c * dn = c * (dn * a) := by rw [Int.mul_comm a c, Int.mul_assoc, Int.mul_comm a dn]
  have dv := div_le (a := c * (dn * a)) (b := nm * b) m3.1 p1
  refine ⟨by rw [e1, w64 (by omega) (by omega)], ?_, p1, ⟨m3.1, by omega⟩, dv.1, by omega⟩
  rw [w64 (x := a * c) (by omega) (by omega), e2, w64 (by omega) (by omega)]
theorem l2_miss {R : List S23 × Bool} (hm : 6 ≤ m ∧ m ≤ 120) (hn : 1 ≤ nm ∧ nm ≤ 1000) (hd : 1 ≤ dn ∧ dn ≤ 1000) (ha : 6 ≤ a ∧ a ≤ m) (hb : 6 ≤ b ∧ b ≤ m) (hc : 6 ≤ c ∧ c ≤ m) (h : ¬ hitP nm dn m a b c) {fo : Bool} {le : Int}
    (ev : Ev (fun k => spec_geTrains.l2 k nm dn m few st fo le a b (c + 1)) R) : Ev (fun k => spec_geTrains.l2 k nm dn m few st fo le a b c) R := by
  obtain ⟨e1, e2, p1, b1, b2, b3⟩ := round_vals hm hn hd ha hb hc
  refine ev_succ ?_
  simp only [spec_geTrains.l2]
  rw [e1, e2, tmod_e b1.1, tdiv_e b1.1, w64 (x := (c * (dn * a)) / (nm * b)) (by omega) (by omega), w64 (x := c + 1) (by omega) (by omega)]
  refine ev_t hc.2 (ev_f (by omega) ?_)
  by_cases z : (c * (dn * a)) % (nm * b) = 0
  · refine ev_t z (ev_p (l1In_eq _ _ _) (ev_f (by simp only [decide_eq_true_eq]; exact fun y => h ⟨z, y⟩) ?_))
    refine ev_succ ?_
    simp only [spec_geTrains.j3]
    rw [w64 (x := c + 1) (by omega) (by omega)]
    exact ev_t trivial ev
  · exact ev_f z ev
theorem l2_hit {R : List S23 × Bool} (hm : 6 ≤ m ∧ m ≤ 120) (hn : 1 ≤ nm ∧ nm ≤ 1000) (hd : 1 ≤ dn ∧ dn ≤ 1000) (ha : 6 ≤ a ∧ a ≤ m) (hb : 6 ≤ b ∧ b ≤ m) (hc : 6 ≤ c ∧ c ≤ m) (h : hitP nm dn m a b c)
    (skip : st ≠ [] → (few = true → sumT st ≤ sumT (trC nm dn a b c)) → Ev (fun k => spec_geTrains.l2 k nm dn m few st (fnd st) (sumT st) a b (c + 1)) R)
    (take : (st = [] ∨ few = true ∧ sumT (trC nm dn a b c) < sumT st) → if few = true then Ev (fun k => spec_geTrains.l2 k nm dn m few (trC nm dn a b c) true (sumT (trC nm dn a b c)) a b (c + 1)) R else R = (trC nm dn a b c, true)) :
    Ev (fun k => spec_geTrains.l2 k nm dn m few st (fnd st) (sumT st) a b c) R := by
  obtain ⟨e1, e2, p1, b1, b2, b3⟩ := round_vals hm hn hd ha hb hc
  have hs : sumT (trC nm dn a b c) = a + b + c + (c * (dn * a)) / (nm * b) := by
    simp only [trC, sumT]
    omega
  have hq := h.2
  refine ev_succ ?_
  simp only [spec_geTrains.l2]
  rw [e1, e2, tmod_e b1.1, tdiv_e b1.1, w64 (x := (c * (dn * a)) / (nm * b)) (by omega) (by omega), w64 (x := a + b) (by omega) (by omega), w64 (x := a + b + c) (by omega) (by omega), w64 (x := a + b + c + (c * (dn * a)) / (nm * b)) (by omega) (by omega), ← hs]
  have skip' : ∀ t : Bool, t = true → Ev (fun k => spec_geTrains.l2 k nm dn m few st (fnd st) (sumT st) a b (c + 1)) R → Ev (fun k => spec_geTrains.j3 k nm dn m few st (fnd st) (sumT st) a b c ((c * (dn * a)) / (nm * b)) t) R := fun t ht ev => by
    refine ev_succ ?_
    simp only [spec_geTrains.j3]
    rw [w64 (x := c + 1) (by omega) (by omega)]
    exact ev_t ht ev
  have take' : ∀ t : Bool, t = false → (if few = true then Ev (fun k => spec_geTrains.l2 k nm dn m few (trC nm dn a b c) true (sumT (trC nm dn a b c)) a b (c + 1)) R else R = (trC nm dn a b c, true)) → Ev (fun k => spec_geTrains.j3 k nm dn m few st (fnd st) (sumT st) a b c ((c * (dn * a)) / (nm * b)) t) R := fun t ht ev => by
    refine ev_succ ?_
    simp only [spec_geTrains.j3]
    rw [w64 (x := c + 1) (by omega) (by omega), w64 (x := a + b) (by omega) (by omega), w64 (x := a + b + c) (by omega) (by omega), w64 (x := a + b + c + (c * (dn * a)) / (nm * b)) (by omega) (by omega), ← hs]
    refine ev_f (by simp [ht]) (ev_p rfl ?_)
    cases few with
    | true =>
      rw [if_pos rfl] at ev
      exact ev_t rfl ev
    | false =>
      rw [if_neg (by decide)] at ev
      rw [ev]
      exact ev_f (by decide) (ev_now _)
  refine ev_t hc.2 (ev_f (by omega) (ev_t h.1 (ev_p (l1In_eq _ _ _) (ev_t (decide_eq_true h.2) ?_))))
  by_cases z : st = []
  · subst z
    exact ev_f (by decide) (take' _ rfl (take (Or.inl rfl)))
  · have hf : fnd st = true := by
      cases st with
      | nil => exact absurd rfl z
      | cons _ _ => rfl
    refine ev_t hf ?_
    cases few with
    | false => exact ev_f (by decide) (skip' _ rfl (skip z (fun y => absurd y (by decide))))
    | true =>
      refine ev_t rfl ?_
      by_cases y : sumT (trC nm dn a b c) ≥ sumT st
      · exact skip' _ (decide_eq_true y) (skip z (fun _ => y))
      · exact take' _ (decide_eq_false y) (take (Or.inr ⟨rfl, by omega⟩))
end

/-! bestR -/
section
variable {nm dn m a b : Int} {st : List S23} {few : Bool} {R : List S23 × Bool}
theorem fnd_ne {st : List S23} (z : st ≠ []) : fnd st = true := by
  cases st with
  | nil => exact absurd rfl z
  | cons _ _ => rfl
theorem trC_le {c : Int} (hn : 1 ≤ nm * b) (hd : 1 ≤ dn * a) (hc : 6 ≤ c) (h : hitP nm dn m a b c) : fpA (nm * b) (dn * a) ≤ c ∧ fpB (nm * b) (dn * a) ≤ (c * (dn * a)) / (nm * b) ∧ sumT (trP nm dn a b) ≤ sumT (trC nm dn a b c) := by
  have l := hit_least hn hd hc h.1 h.2.1
  refine ⟨l.1, l.2, ?_⟩
  simp only [sumT, trP, trC]
  omega
theorem l2_end (hm : 6 ≤ m ∧ m ≤ 120) (hb : 6 ≤ b ∧ b ≤ m) {fo : Bool} {le : Int} (ev : Ev (fun k => spec_geTrains.l1 k nm dn m few st fo le a (b + 1)) R) : Ev (fun k => spec_geTrains.l2 k nm dn m few st fo le a b (m + 1)) R := by
  refine ev_succ ?_
  simp only [spec_geTrains.l2]
  rw [w64 (x := b + 1) (by omega) (by omega)]
  exact ev_f (by omega) ev
theorem l2_tail (hm : 6 ≤ m ∧ m ≤ 120) (hn : 1 ≤ nm ∧ nm ≤ 1000) (hd : 1 ≤ dn ∧ dn ≤ 1000) (ha : 6 ≤ a ∧ a ≤ m) (hb : 6 ≤ b ∧ b ≤ m) (hne : st ≠ []) (hs : sumT st ≤ sumT (trP nm dn a b))
    (ev : Ev (fun k => spec_geTrains.l1 k nm dn m few st (fnd st) (sumT st) a (b + 1)) R) (c0 : Int) (h6 : 6 ≤ c0) (h7 : c0 ≤ m + 1) : Ev (fun k => spec_geTrains.l2 k nm dn m few st (fnd st) (sumT st) a b c0) R := by
  have p1 := mul_pos1 (a := nm) (b := b) (by omega) (by omega)
  have p2 := mul_pos1 (a := dn) (b := a) (by omega) (by omega)
  refine scan_from (g := fun c k => spec_geTrains.l2 k nm dn m few st (fnd st) (sumT st) a b c) (n := m + 1) (i0 := c0) ?_ (l2_end hm hb ev) h7
  intro c g1 g2 e
  by_cases h : hitP nm dn m a b c
  · have t := trC_le p1 p2 (by omega) h
    refine l2_hit hm hn hd ha hb ⟨by omega, by omega⟩ h (fun _ _ => e) (fun z => ?_)
    rcases z with z | z
    · exact absurd z hne
    · exact absurd z.2 (by omega)
  · exact l2_miss hm hn hd ha hb ⟨by omega, by omega⟩ h e
theorem row1 (hm : 6 ≤ m ∧ m ≤ 120) (hn : 1 ≤ nm ∧ nm ≤ 1000) (hd : 1 ≤ dn ∧ dn ≤ 1000) (ha : 6 ≤ a ∧ a ≤ m) (hb : 6 ≤ b ∧ b ≤ m)
    (ev : (few = true ∨ bstep few nm dn m a b st = st) → Ev (fun k => spec_geTrains.l1 k nm dn m few (bstep few nm dn m a b st) (fnd (bstep few nm dn m a b st)) (sumT (bstep few nm dn m a b st)) a (b + 1)) R)
    (hst : few = true ∨ st = []) (ret : few = false → bstep few nm dn m a b st ≠ [] → R = (bstep few nm dn m a b st, true)) : Ev (fun k => spec_geTrains.l2 k nm dn m few st (fnd st) (sumT st) a b 6) R := by
  have p1 := mul_pos1 (a := nm) (b := b) (by omega) (by omega)
  have p2 := mul_pos1 (a := dn) (b := a) (by omega) (by omega)
  have f6 := fp_ge p1 p2
  by_cases g : fpA (nm * b) (dn * a) ≤ m ∧ fpB (nm * b) (dn * a) ≤ m
  · have hf := hit_fp p1 p2
    have hh : hitP nm dn m a b (fpA (nm * b) (dn * a)) := ⟨hf.1, by rw [hf.2]; exact ⟨f6.2, g.2⟩⟩
    have ht : trC nm dn a b (fpA (nm * b) (dn * a)) = trP nm dn a b := by
      unfold trC trP
      rw [hf.2]
    have hne : trP nm dn a b ≠ [] := by simp [trP]
    refine scan_from (g := fun c k => spec_geTrains.l2 k nm dn m few st (fnd st) (sumT st) a b c) (n := fpA (nm * b) (dn * a)) (i0 := 6) ?_ ?_ f6.1
    · intro c g1 g2 e
      refine l2_miss hm hn hd ha hb ⟨by omega, by omega⟩ (fun h => ?_) e
      have := trC_le p1 p2 g1 h
      omega
    · refine l2_hit hm hn hd ha hb ⟨f6.1, g.1⟩ hh (fun z y => ?_) (fun z => ?_)
      · rw [ht] at y
        have hb1 : few = true := by
          rcases hst with q | q
          · exact q
          · exact absurd q z
        have e : bstep few nm dn m a b st = st := by
          unfold bstep
          rw [if_pos g, if_neg z, if_neg (fun q => by have := y hb1; omega)]
        rw [e] at ev
        exact l2_tail hm hn hd ha hb z (y hb1) (ev (Or.inl hb1)) _ (by omega) (by omega)
      · rw [ht] at z ⊢
        have e : bstep few nm dn m a b st = trP nm dn a b := by
          unfold bstep
          rw [if_pos g]
          by_cases y : st = []
          · rw [if_pos y]
          · rw [if_neg y]
            rcases z with q | q
            · exact absurd q y
            · rw [if_pos q]
        rw [e] at ev ret
        cases few with
        | true =>
          rw [if_pos rfl]
          have ev1 := ev (Or.inl rfl)
          have hfd := fnd_ne hne
          rw [← hfd]
          exact l2_tail hm hn hd ha hb hne (Int.le_refl _) ev1 _ (by omega) (by omega)
        | false =>
          rw [if_neg (by decide)]
          exact ret rfl hne
  · have e : bstep few nm dn m a b st = st := by
      unfold bstep
      rw [if_neg g]
    rw [e] at ev
    refine scan_from (g := fun c k => spec_geTrains.l2 k nm dn m few st (fnd st) (sumT st) a b c) (n := m + 1) (i0 := 6) ?_ (l2_end hm hb (ev (Or.inr rfl))) (by omega)
    intro c g1 g2 e1
    refine l2_miss hm hn hd ha hb ⟨by omega, by omega⟩ (fun h => ?_) e1
    have t := trC_le p1 p2 g1 h
    have := h.2.2
    omega
end

/-! bestA -/
section
variable {nm dn m a : Int} {few : Bool} {R : List S23 × Bool}
theorem tr_ne {b : Int} : trP nm dn a b ≠ [] := by simp [trP]
theorem step_keep {b : Int} {st : List S23} (h : st ≠ []) : bstep false nm dn m a b st = st := by
  unfold bstep
  by_cases g : fpA (nm * b) (dn * a) ≤ m ∧ fpB (nm * b) (dn * a) ≤ m
  · rw [if_pos g, if_neg h, if_neg (fun z => Bool.false_ne_true z.1)]
  · rw [if_neg g]
theorem row_keep {st : List S23} (h : st ≠ []) : ∀ (n : Nat) (b : Int), rowB false nm dn m a n b st = st
  | 0, _ => rfl
  | n + 1, b => by
    rw [rowB, step_keep h]
    exact row_keep h n (b + 1)
theorem all_keep {st : List S23} (h : st ≠ []) : ∀ (n : Nat) (a : Int), allB false nm dn m n a st = st
  | 0, _ => rfl
  | n + 1, a => by
    rw [allB, row_keep h]
    exact all_keep h n (a + 1)
theorem spec_row (hm : 6 ≤ m ∧ m ≤ 120) (hn : 1 ≤ nm ∧ nm ≤ 1000) (hd : 1 ≤ dn ∧ dn ≤ 1000) (ha : 6 ≤ a ∧ a ≤ m) : ∀ (n : Nat) (b : Int) (st : List S23), 6 ≤ b → b + n = m + 1 → (few = true ∨ st = []) →
    ((few = true ∨ rowB few nm dn m a n b st = []) → Ev (fun k => spec_geTrains.l0 k nm dn m few (rowB few nm dn m a n b st) (fnd (rowB few nm dn m a n b st)) (sumT (rowB few nm dn m a n b st)) (a + 1)) R) →
    (few = false → rowB few nm dn m a n b st ≠ [] → R = (rowB few nm dn m a n b st, true)) → Ev (fun k => spec_geTrains.l1 k nm dn m few st (fnd st) (sumT st) a b) R
  | 0, b, st, h6, hb, hst, ev, ret => by
    refine ev_succ ?_
    simp only [spec_geTrains.l1]
    rw [w64 (x := a + 1) (by omega) (by omega)]
    exact ev_f (by omega) (ev hst)
  | n + 1, b, st, h6, hb, hst, ev, ret => by
    refine ev_succ ?_
    simp only [spec_geTrains.l1]
    refine ev_t (by omega) (row1 hm hn hd ha ⟨h6, by omega⟩ (fun z => ?_) hst (fun hf hne => ?_))
    · refine spec_row hm hn hd ha n (b + 1) _ (by omega) (by omega) ?_ ev ret
      rcases z with z | z
      · exact Or.inl z
      · rcases hst with q | q
        · exact Or.inl q
        · exact Or.inr (z.trans q)
    · subst hf
      have k := row_keep (nm := nm) (dn := dn) (m := m) (a := a) hne n (b + 1)
      have r := ret rfl
      rw [rowB, k] at r
      exact r hne
theorem spec_all (hm : 6 ≤ m ∧ m ≤ 120) (hn : 1 ≤ nm ∧ nm ≤ 1000) (hd : 1 ≤ dn ∧ dn ≤ 1000) : ∀ (n : Nat) (a : Int) (st : List S23), 6 ≤ a → a + n = m + 1 → (few = true ∨ st = []) →
    Ev (fun k => spec_geTrains.l0 k nm dn m few st (fnd st) (sumT st) a) (allB few nm dn m n a st, fnd (allB few nm dn m n a st))
  | 0, a, st, h6, ha, hst => by
    refine ev_succ ?_
    simp only [spec_geTrains.l0]
    exact ev_f (by omega) (ev_now _)
  | n + 1, a, st, h6, ha, hst => by
    refine ev_succ ?_
    simp only [spec_geTrains.l0]
    refine ev_t (by omega) (spec_row hm hn hd ⟨h6, by omega⟩ (m - 5).toNat 6 st (by omega) (by omega) hst (fun z => ?_) (fun hf hne => ?_))
    · exact spec_all hm hn hd n (a + 1) _ (by omega) (by omega) z
    · subst hf
      rw [allB, all_keep hne, fnd_ne hne]
end
def bestP (few : Bool) (num den most : Int) : List S23 × Bool :=
  if (1 ≤ num ∧ num ≤ 1000) ∧ (1 ≤ den ∧ den ≤ 1000) ∧ (6 ≤ most ∧ most ≤ 120) then (allB few num den most (most - 5).toNat 6 [], fnd (allB few num den most (most - 5).toNat 6 [])) else ([], false)
theorem all_good {few : Bool} {nm dn m : Int} (hn : 1 ≤ nm) (hd : 1 ≤ dn) (hm : 6 ≤ m) : ∀ (n : Nat) (a : Int) (st : List S23), 6 ≤ a → a + n = m + 1 → goodS m st → goodS m (allB few nm dn m n a st)
  | 0, _, _, _, _, h => h
  | n + 1, a, st, h6, ha, h => all_good hn hd hm n (a + 1) _ (by omega) (by omega) (row_good hn hd ⟨h6, by omega⟩ _ _ _ (by omega) (by omega) h)
theorem bestP_len (few : Bool) (num den most : Int) : (bestP few num den most).1.length ≤ 2 := by
  unfold bestP
  split
  · rename_i h
    rcases all_good (few := few) (nm := num) (dn := den) (m := most) (by omega) (by omega) (by omega) (most - 5).toNat 6 [] (by omega) (by omega) (Or.inl rfl) with e | ⟨_, _, _, _, e, _⟩
    · simp [e]
    · simp [e]
  · simp
theorem fnd_len (st : List S23) : decide (0 < st.length) = fnd st := by
  cases st <;> rfl
theorem best_ev (few : Bool) (num den most : Int) : Ev (fun k => impl_bestTrain.f k num den most few) (bestP few num den most) := by
  unfold impl_bestTrain.f btF bestP
  refine ev_p (areRatio_eq num den most) ?_
  by_cases h : (1 ≤ num ∧ num ≤ 1000) ∧ (1 ≤ den ∧ den ≤ 1000) ∧ (6 ≤ most ∧ most ≤ 120)
  · rw [if_pos h]
    refine ev_t (decide_eq_true h) ?_
    obtain ⟨K, hK⟩ := all_impl (few := few) (nm := num) (dn := den) (m := most) h.2.2 h.1 h.2.1 (most - 5).toNat 6 [] (by omega) (by omega) (Or.inl rfl)
    refine ⟨K, fun k hk => ?_⟩
    show (bsF k few num den most k 6 6 []).bind _ = _
    have e : bsF k few num den most k 6 6 [] = some (allB few num den most (most - 5).toNat 6 []) := hK k k hk hk
    rw [e, Option.bind_some, fnd_len]
  · rw [if_neg h]
    exact ev_f (by simp only [decide_eq_true_eq]; exact h) (ev_now _)
theorem geTrains_ev {few : Bool} {num den most : Int} (h : (1 ≤ num ∧ num ≤ 1000) ∧ (1 ≤ den ∧ den ≤ 1000) ∧ (6 ≤ most ∧ most ≤ 120)) : Ev (fun k => spec_geTrains.f k num den most few) (allB few num den most (most - 5).toNat 6 [], fnd (allB few num den most (most - 5).toNat 6 [])) :=
  spec_all h.2.2 h.1 h.2.1 (most - 5).toNat 6 [] (by omega) (by omega) (Or.inr rfl)

/-! eqPairS -/
theorem eqPairS_ev (l : List S23) (h : l.length ≤ 1000000000) : Ev (fun k => laws_eqPairS.f k l l) true := by
  unfold laws_eqPairS.f
  refine ev_t rfl ?_
  exact scan_gen (g := fun i k => laws_eqPairS.l0 k l l i) (n := l.length) (fun i a b ih => by
    refine ev_succ ?_
    simp only [laws_eqPairS.l0]
    refine ev_t b (ev_t a (ev_t b (ev_p (a := true) (by simp [laws_eqPair.f]) (ev_t rfl ?_))))
    rw [w64 (by omega) (by omega)]
    exact ih) (by
    refine ev_one fun k => ?_
    simp only [laws_eqPairS.l0]
    rw [if_neg (by omega)]) 0 (by omega) (by omega)

/-! markPairS -/
theorem markPairS_ev (l : List S23) (h : l.length ≤ 1000000) (m0 : Int) (hm : 0 ≤ m0) (hm' : m0 ≤ 1000000000) : ∃ m' l', Ev (fun k => laws_markPairS.f k l m0) (m', l') ∧ Ev (fun k => laws_heldPairS.f k l' m0) m' ∧ m' = m0 + 2 * l.length := by
  refine ⟨_, _, mark_gen (mk := fun m => (⟨m, m + 1⟩ : S23)) (s := 2) (l0 := laws_markPairS.l0) (by omega) (by omega) ?_ ?_ l m0 (by omega) hm (by omega), held_gen (mk := fun m => (⟨m, m + 1⟩ : S23)) (s := 2) (l0 := laws_heldPairS.l0) (by omega) (by omega) z23 ?_ ?_ l.length m0 (by omega) hm (by omega), by omega⟩
  · intro k xs m i a b c d e
    simp only [laws_markPairS.l0]
    rw [if_pos b, if_pos a]
    simp only [Option.bind_some]
    rw [w64 (x := m + 1) (by omega) (by omega), w64 (x := m + 1 + 1) (by omega) (by omega), w64 (x := i + 1) (by omega) (by omega)]
    have e1 : rd_T23 (xs.set i.toNat ⟨m, (rd_T23 xs i).f1⟩) i = ⟨m, (rd_T23 xs i).f1⟩ := by
      unfold rd_T23
      rw [List.getD_eq_getElem?_getD, List.getElem?_set_self (by omega)]
      rfl
    rw [e1, List.set_set, show m + 1 + 1 = m + 2 by omega]
  · intro k xs m i a
    simp only [laws_markPairS.l0]
    rw [if_neg a]
  · intro k xs m i a b c d e g
    have g' : rd_T23 xs i = ⟨m, m + 1⟩ := g
    simp only [laws_heldPairS.l0]
    rw [if_pos b, if_pos a, g', if_pos rfl, w64 (x := m + 1) (by omega) (by omega), if_pos rfl, w64 (x := m + 1 + 1) (by omega) (by omega), w64 (x := i + 1) (by omega) (by omega), show m + 1 + 1 = m + 2 by omega]
  · intro k xs m i a
    simp only [laws_heldPairS.l0]
    rw [if_neg a]

/-! the law -/
theorem FewestTeeth_spec (num den most : Int) : Ev (fun k => spec_FewestTeeth.f k num den most) (bestP true num den most) := by
  unfold spec_FewestTeeth.f bestP
  refine ev_p (geAsked_eq num den most) ?_
  by_cases h : (1 ≤ num ∧ num ≤ 1000) ∧ (1 ≤ den ∧ den ≤ 1000) ∧ (6 ≤ most ∧ most ≤ 120)
  · rw [if_pos h]
    refine ev_t (decide_eq_true h) (Ev.bind (geTrains_ev h) ?_)
    generalize allB true num den most (most - 5).toNat 6 [] = st
    cases st with
    | nil => exact ev_f (by decide) (ev_now _)
    | cons _ _ => exact ev_t rfl (ev_now _)
  · rw [if_neg h]
    exact ev_f (by simp only [decide_eq_true_eq]; exact h) (ev_now _)
theorem FewestTeeth_impl (num den most : Int) : Ev (fun k => impl_FewestTeeth.f k num den most) (bestP true num den most) := by
  unfold impl_FewestTeeth.f
  exact Ev.bind (best_ev true num den most) (ev_now _)
theorem law_of {R : List S23 × Bool} {a b c : Int} (hl : R.1.length ≤ 24) (hs : Ev (fun k => spec_FewestTeeth.f k a b c) R) (hi : Ev (fun k => impl_FewestTeeth.f k a b c) R) : Ev (fun k => laws_FnExactFewestTeeth.f k a b c) true := by
  obtain ⟨m', l', e1, e2, e3⟩ := markPairS_ev R.1 (by omega) 1 (by omega) (by omega)
  have e0 := eqPairS_ev R.1 (by omega)
  unfold laws_FnExactFewestTeeth.f
  refine Ev.bind hs (Ev.bind hi (Ev.bind e0 (ev_t rfl (ev_succ ?_))))
  simp only [laws_FnExactFewestTeeth.j0]
  refine ev_f (by simp) (Ev.bind e1 (Ev.bind e2 (ev_f (by omega) (ev_t rfl (Ev.bind hi (Ev.bind e0 (ev_t rfl (ev_succ ?_))))))))
  simp only [laws_FnExactFewestTeeth.j1]
  exact ev_f (by simp) (Ev.bind e2 (ev_f (by omega) (ev_t rfl (ev_now true))))
theorem law (a0 a1 a2 : Int) (w0 : (Lit.int .i64 a0).wf = true) (w1 : (Lit.int .i64 a1).wf = true) (w2 : (Lit.int .i64 a2).wf = true) : ∃ k, laws_FnExactFewestTeeth.f k a0 a1 a2 = some true :=
  Ev.rounds (law_of (Nat.le_trans (bestP_len true a0 a1 a2) (by decide)) (FewestTeeth_spec a0 a1 a2) (FewestTeeth_impl a0 a1 a2))

end Go.Proofs.Ytofjjfaaadllmaa.Pure.FnExactFewestTeethWay
