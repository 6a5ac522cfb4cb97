/- FnExactNearestPair: the law's printed function answers true at every input. -/
import Derived.Test.YtofjjfaaadllmaaGFnExactNearestPairx2
import Derived.Test.YtofjjfaaadllmaaLib
import Derived.Test.YtofjjfaaadllmaaLibRows
import Derived.Test.YtofjjfaaadllmaaLibGcd
set_option linter.unusedVariables false
set_option linter.unusedSimpArgs false
namespace Go.Proofs.Ytofjjfaaadllmaa.Pure.FnExactNearestPairWay
open Go.RowKit Go.Proofs.Ytofjjfaaadllmaa.GFnExactNearestPair Go.Proofs.YtofjjfaaadllmaaW.PrintWords Go.Proofs.YtofjjfaaadllmaaW.PrintLast Go.Proofs.YtofjjfaaadllmaaW.PrintMore Go.Proofs.Ytofjjfaaadllmaa.Lib

/-! within -/
theorem within_eq (a b c : Int) : impl_within.f a b c = some (decide (b ≤ a ∧ a ≤ c)) := within_gen (fun _ _ _ => rfl) a b c

/-! areTeeth -/
theorem areTeeth_eq (n : Int) : impl_areTeeth.f n = some (decide (6 ≤ n ∧ n ≤ 120)) := by
  unfold impl_areTeeth.f
  rw [within_eq, Option.bind_some]

/-! areRatio -/
theorem areRatio_eq (a b c : Int) : impl_areRatio.f a b c = some (decide ((1 ≤ a ∧ a ≤ 1000) ∧ (1 ≤ b ∧ b ≤ 1000) ∧ (6 ≤ c ∧ c ≤ 120))) := by
  unfold impl_areRatio.f
  rw [within_eq, Option.bind_some]
  by_cases h : 1 ≤ a ∧ a ≤ 1000
  · rw [if_pos (by simpa using h), within_eq, Option.bind_some]
    by_cases g : 1 ≤ b ∧ b ≤ 1000
    · rw [if_pos (by simpa using g), areTeeth_eq, Option.bind_some]
      congr 1
      rw [Bool.eq_iff_iff, decide_eq_true_iff, decide_eq_true_iff]
      omega
    · rw [if_neg (by simpa using g)]
      congr 1
      symm
      exact decide_eq_false (by omega)
  · rw [if_neg (by simpa using h)]
    congr 1
    symm
    exact decide_eq_false (by omega)

/-! l1In -/
theorem l1In_eq (a b c : Int) : spec_l1In.f a b c = some (decide (b ≤ a ∧ a ≤ c)) := within_gen (fun _ _ _ => rfl) a b c

/-! geWheel -/
theorem geWheel_eq (n : Int) : spec_geWheel.f n = some (decide (6 ≤ n ∧ n ≤ 120)) := by
  unfold spec_geWheel.f
  rw [l1In_eq, Option.bind_some]

/-! geAsked -/
theorem geAsked_eq (a b c : Int) : spec_geAsked.f a b c = some (decide ((1 ≤ a ∧ a ≤ 1000) ∧ (1 ≤ b ∧ b ≤ 1000) ∧ (6 ≤ c ∧ c ≤ 120))) := by
  unfold spec_geAsked.f
  rw [l1In_eq, Option.bind_some]
  by_cases h : 1 ≤ a ∧ a ≤ 1000
  · rw [if_pos (by simpa using h), l1In_eq, Option.bind_some]
    by_cases g : 1 ≤ b ∧ b ≤ 1000
    · rw [if_pos (by simpa using g), geWheel_eq, Option.bind_some]
      congr 1
      rw [Bool.eq_iff_iff, decide_eq_true_iff, decide_eq_true_iff]
      omega
    · rw [if_neg (by simpa using g)]
      congr 1
      symm
      exact decide_eq_false (by omega)
  · rw [if_neg (by simpa using h)]
    congr 1
    symm
    exact decide_eq_false (by omega)

/-! l1Most -/
theorem l1Most_eq (a b : Int) : spec_l1Most.f a b = some (max a b) := most_gen (fun _ _ => rfl) a b

/-! l1Abs -/
theorem l1Abs_eq {a : Int} (h : a.natAbs ≤ 4611686018427387904) : spec_l1Abs.f a = some (a.natAbs : Int) := by
  unfold spec_l1Abs.f
  rw [w64 (by omega) (by omega), l1Most_eq, Option.bind_some]
  congr 1
  omega

/-! near -/
def offA (nm dn d f : Int) : Int := ((d * dn - nm * f).natAbs : Int)
theorem offA_bd {nm dn d f : Int} (hn : 1 ≤ nm ∧ nm ≤ 1000) (hd : 1 ≤ dn ∧ dn ≤ 1000) (h1 : 6 ≤ d ∧ d ≤ 120) (h2 : 6 ≤ f ∧ f ≤ 120) : 0 ≤ offA nm dn d f ∧ offA nm dn d f ≤ 120000 ∧ (0 ≤ d * dn ∧ d * dn ≤ 120000) ∧ (0 ≤ nm * f ∧ nm * f ≤ 120000) := by
  have a := mul_bd (a := d) (b := dn) (A := 120) (B := 1000) (by omega) (by omega) (by omega) (by omega)
  have b := mul_bd (a := nm) (b := f) (A := 1000) (B := 120) (by omega) (by omega) (by omega) (by omega)
  unfold offA
  omega
theorem offW_eq {nm dn d f : Int} (hn : 1 ≤ nm ∧ nm ≤ 1000) (hd : 1 ≤ dn ∧ dn ≤ 1000) (h1 : 6 ≤ d ∧ d ≤ 120) (h2 : 6 ≤ f ∧ f ≤ 120) : offW nm dn d f = offA nm dn d f := by
  have ⟨_, _, a, b⟩ := offA_bd hn hd h1 h2
  unfold offW offA mx
  dsimp only
  rw [w64 (x := d * dn) (by omega) (by omega), w64 (x := nm * f) (by omega) (by omega), w64 (x := d * dn - nm * f) (by omega) (by omega), w64 (x := -(d * dn - nm * f)) (by omega) (by omega)]
  split <;> omega
theorem offS_eq {nm dn d f : Int} (hn : 1 ≤ nm ∧ nm ≤ 1000) (hd : 1 ≤ dn ∧ dn ≤ 1000) (h1 : 6 ≤ d ∧ d ≤ 120) (h2 : 6 ≤ f ∧ f ≤ 120) : spec_l1Abs.f (wrap64 (wrap64 (d * dn) - wrap64 (nm * f))) = some (offA nm dn d f) := by
  have ⟨_, _, a, b⟩ := offA_bd hn hd h1 h2
  rw [w64 (x := d * dn) (by omega) (by omega), w64 (x := nm * f) (by omega) (by omega), w64 (x := d * dn - nm * f) (by omega) (by omega), l1Abs_eq (by omega)]
  rfl
/-- One pair is told from the other. -/
def nearer (nm dn b0 b1 d f : Int) : Prop := offA nm dn d f * b1 < offA nm dn b0 b1 * f ∨ offA nm dn d f * b1 = offA nm dn b0 b1 * f ∧ d + f < b0 + b1
instance (nm dn b0 b1 d f : Int) : Decidable (nearer nm dn b0 b1 d f) := by
  unfold nearer
  infer_instance
theorem off_prod {nm dn d f x : Int} (hn : 1 ≤ nm ∧ nm ≤ 1000) (hd : 1 ≤ dn ∧ dn ≤ 1000) (h1 : 6 ≤ d ∧ d ≤ 120) (h2 : 6 ≤ f ∧ f ≤ 120) (h3 : 6 ≤ x ∧ x ≤ 120) : wrap64 (offA nm dn d f * x) = offA nm dn d f * x := by
  have ⟨a, b, _, _⟩ := offA_bd hn hd h1 h2
  have c := mul_bd (a := offA nm dn d f) (b := x) (A := 120000) (B := 120) a b (by omega) (by omega)
  exact w64 (by omega) (by omega)
theorem ord_neg {nm dn b0 b1 d f : Int} (hn : 1 ≤ nm ∧ nm ≤ 1000) (hd : 1 ≤ dn ∧ dn ≤ 1000) (h1 : 6 ≤ d ∧ d ≤ 120) (h2 : 6 ≤ f ∧ f ≤ 120) (h3 : 6 ≤ b0 ∧ b0 ≤ 120) (h4 : 6 ≤ b1 ∧ b1 ≤ 120) : ordN nm dn b0 b1 d f < 0 ↔ nearer nm dn b0 b1 d f := by
  unfold ordN nearer
  rw [offW_eq hn hd h1 h2, offW_eq hn hd h3 h4, off_prod hn hd h1 h2 h4, off_prod hn hd h3 h4 h2, w64 (x := d + f) (by omega) (by omega), w64 (x := b0 + b1) (by omega) (by omega)]
  generalize offA nm dn d f * b1 = x
  generalize offA nm dn b0 b1 * f = y
  unfold orI cmpI
  by_cases a : x < y <;> by_cases b : y < x <;> by_cases c : d + f < b0 + b1 <;> by_cases e : b0 + b1 < d + f <;> simp [a, b, c, e] <;> omega
theorem near_row {nm dn m d : Int} (hn : 1 ≤ nm ∧ nm ≤ 1000) (hd : 1 ≤ dn ∧ dn ≤ 1000) (hm : 6 ≤ m ∧ m ≤ 120) (h1 : 6 ≤ d ∧ d ≤ m)
    (ih : ∀ b0 b1, 6 ≤ b0 ∧ b0 ≤ 120 → 6 ≤ b1 ∧ b1 ≤ 120 → ∃ r : Int × Int, Ev (fun k => nrF nm dn m k (d + 1) 6 b0 b1) r ∧ Ev (fun k => spec_NearestPair.l0 k nm dn m (d + 1) b0 b1) (r.1, r.2, true)) :
    ∀ (e : Nat) (f b0 b1 : Int), 6 ≤ f → f ≤ m + 1 → m + 1 - f = e → 6 ≤ b0 ∧ b0 ≤ 120 → 6 ≤ b1 ∧ b1 ≤ 120 → ∃ r : Int × Int, Ev (fun k => nrF nm dn m k d f b0 b1) r ∧ Ev (fun k => spec_NearestPair.l1 k nm dn m d f b0 b1) (r.1, r.2, true) := by
  intro e
  induction e with
  | zero =>
    intro f b0 b1 f0 f1 he h3 h4
    obtain ⟨r, i1, i2⟩ := ih b0 b1 h3 h4
    refine ⟨r, ev_succ ?_, ev_succ ?_⟩
    · simp only [nrF]
      exact ev_t h1.2 (ev_f (by omega) i1)
    · simp only [spec_NearestPair.l1]
      rw [w64 (x := d + 1) (by omega) (by omega)]
      exact ev_f (by omega) i2
  | succ e ihe =>
    intro f b0 b1 f0 f1 he h3 h4
    have hf : 6 ≤ f ∧ f ≤ 120 := by omega
    have hdd : 6 ≤ d ∧ d ≤ 120 := by omega
    by_cases z : nearer nm dn b0 b1 d f
    · obtain ⟨r, i1, i2⟩ := ihe (f + 1) d f (by omega) (by omega) (by omega) hdd hf
      refine ⟨r, ev_succ ?_, ev_succ ?_⟩
      · simp only [nrF]
        have e0 : nrN nm dn d f b0 b1 = (d, f) := by
          unfold nrN
          rw [if_neg (by omega), if_pos ((ord_neg hn hd hdd hf h3 h4).2 z)]
        rw [e0]
        exact ev_t h1.2 (ev_t (by omega) i1)
      · simp only [spec_NearestPair.l1]
        rw [w64 (x := f + 1) (by omega) (by omega), w64 (x := d + f) (by omega) (by omega), w64 (x := b0 + b1) (by omega) (by omega)]
        refine ev_t (by omega) (ev_p (offS_eq hn hd hdd hf) (ev_p (offS_eq hn hd h3 h4) ?_))
        rw [off_prod hn hd hdd hf h4, off_prod hn hd h3 h4 hf]
        rcases z with z | ⟨z, y⟩
        · exact ev_t z i2
        · exact ev_f (by omega) (ev_t z (ev_t y i2))
    · obtain ⟨r, i1, i2⟩ := ihe (f + 1) b0 b1 (by omega) (by omega) (by omega) h3 h4
      refine ⟨r, ev_succ ?_, ev_succ ?_⟩
      · simp only [nrF]
        have e0 : nrN nm dn d f b0 b1 = (b0, b1) := by
          unfold nrN
          rw [if_neg (by omega), if_neg (fun y => z ((ord_neg hn hd hdd hf h3 h4).1 y))]
        rw [e0]
        exact ev_t h1.2 (ev_t (by omega) i1)
      · simp only [spec_NearestPair.l1]
        rw [w64 (x := f + 1) (by omega) (by omega), w64 (x := d + f) (by omega) (by omega), w64 (x := b0 + b1) (by omega) (by omega)]
        refine ev_t (by omega) (ev_p (offS_eq hn hd hdd hf) (ev_p (offS_eq hn hd h3 h4) ?_))
        rw [off_prod hn hd hdd hf h4, off_prod hn hd h3 h4 hf]
        unfold nearer at z
        refine ev_f (by omega) ?_
        by_cases y : offA nm dn d f * b1 = offA nm dn b0 b1 * f
        · exact ev_t y (ev_f (by omega) i2)
        · exact ev_f y i2
theorem near_all {nm dn m : Int} (hn : 1 ≤ nm ∧ nm ≤ 1000) (hd : 1 ≤ dn ∧ dn ≤ 1000) (hm : 6 ≤ m ∧ m ≤ 120) :
    ∀ (e : Nat) (d b0 b1 : Int), 6 ≤ d → d ≤ m + 1 → m + 1 - d = e → 6 ≤ b0 ∧ b0 ≤ 120 → 6 ≤ b1 ∧ b1 ≤ 120 → ∃ r : Int × Int, Ev (fun k => nrF nm dn m k d 6 b0 b1) r ∧ Ev (fun k => spec_NearestPair.l0 k nm dn m d b0 b1) (r.1, r.2, true) := by
  intro e
  induction e with
  | zero =>
    intro d b0 b1 d0 d1 he h3 h4
    refine ⟨(b0, b1), ev_succ ?_, ev_succ ?_⟩
    · simp only [nrF]
      exact ev_f (by omega) (ev_now _)
    · simp only [spec_NearestPair.l0]
      exact ev_f (by omega) (ev_now _)
  | succ e ihe =>
    intro d b0 b1 d0 d1 he h3 h4
    obtain ⟨r, i1, i2⟩ := near_row hn hd hm ⟨d0, by omega⟩ (fun c0 c1 g3 g4 => ihe (d + 1) c0 c1 (by omega) (by omega) (by omega) g3 g4) (m + 1 - 6).toNat 6 b0 b1 (by omega) (by omega) (by omega) h3 h4
    refine ⟨r, i1, ev_succ ?_⟩
    simp only [spec_NearestPair.l0]
    exact ev_t (by omega) i2
theorem near_start {nm dn m : Int} (hn : 1 ≤ nm ∧ nm ≤ 1000) (hd : 1 ≤ dn ∧ dn ≤ 1000) (hm : 6 ≤ m ∧ m ≤ 120) :
    ∃ r : Int × Int, Ev (fun k => nrF nm dn m k 6 6 0 0) r ∧ Ev (fun k => spec_NearestPair.l0 k nm dn m 6 6 6) (r.1, r.2, true) := by
  obtain ⟨r, i1, i2⟩ := near_row hn hd hm (d := 6) ⟨by omega, hm.1⟩ (fun c0 c1 g3 g4 => near_all hn hd hm (m + 1 - 7).toNat 7 c0 c1 (by omega) (by omega) (by omega) g3 g4) (m + 1 - 7).toNat 7 6 6 (by omega) (by omega) (by omega) (by omega) (by omega)
  refine ⟨r, ev_succ ?_, ev_succ ?_⟩
  · simp only [nrF]
    have e0 : nrN nm dn 6 6 0 0 = (6, 6) := by
      unfold nrN
      rw [if_pos rfl]
    rw [e0]
    exact ev_t hm.1 (ev_t hm.1 i1)
  · simp only [spec_NearestPair.l0]
    refine ev_t hm.1 (ev_succ ?_)
    simp only [spec_NearestPair.l1]
    have hs : 6 ≤ (6 : Int) ∧ (6 : Int) ≤ 120 := by omega
    refine ev_t hm.1 (ev_p (offS_eq hn hd hs hs) (ev_p (offS_eq hn hd hs hs) (ev_f (by omega) (ev_t rfl (ev_f (by omega) ?_)))))
    rw [w64 (x := 6 + 1) (by omega) (by omega)]
    exact i2
def nearP (num den most : Int) : Prop := (1 ≤ num ∧ num ≤ 1000) ∧ (1 ≤ den ∧ den ≤ 1000) ∧ (6 ≤ most ∧ most ≤ 120)
theorem near_both (num den most : Int) : ∃ R : Int × Int × Bool, Ev (fun k => spec_NearestPair.f k num den most) R ∧ Ev (fun k => impl_NearestPair.f k num den most) R := by
  unfold spec_NearestPair.f impl_NearestPair.f ntF
  by_cases h : (1 ≤ num ∧ num ≤ 1000) ∧ (1 ≤ den ∧ den ≤ 1000) ∧ (6 ≤ most ∧ most ≤ 120)
  · obtain ⟨r, i1, i2⟩ := near_start h.1 h.2.1 h.2.2
    exact ⟨(r.1, r.2, true), ev_p (geAsked_eq num den most) (ev_t (decide_eq_true h) i2), ev_p (areRatio_eq num den most) (ev_t (decide_eq_true h) (Ev.bind i1 (ev_now _)))⟩
  · exact ⟨(0, 0, false), ev_p (geAsked_eq num den most) (ev_f (by simp only [decide_eq_true_eq]; exact h) (ev_now _)), ev_p (areRatio_eq num den most) (ev_f (by simp only [decide_eq_true_eq]; exact h) (ev_now _))⟩

/-! the law -/
theorem law (a0 a1 a2 : Int) (w0 : (Lit.int .i64 a0).wf = true) (w1 : (Lit.int .i64 a1).wf = true) (w2 : (Lit.int .i64 a2).wf = true) : ∃ k, laws_FnExactNearestPair.f k a0 a1 a2 = some true := by
  obtain ⟨⟨p, q, ok⟩, hs, hi⟩ := near_both a0 a1 a2
  refine Ev.rounds (g := fun k => laws_FnExactNearestPair.f k a0 a1 a2) ?_
  simp only [laws_FnExactNearestPair.f]
  refine Ev.bind hs (Ev.bind hi (ev_p (a := true) ?_ (ev_t rfl (ev_f (by simp) (ev_now true)))))
  unfold laws_eqPair.f
  rw [if_pos rfl, if_pos rfl]

end Go.Proofs.Ytofjjfaaadllmaa.Pure.FnExactNearestPairWay
