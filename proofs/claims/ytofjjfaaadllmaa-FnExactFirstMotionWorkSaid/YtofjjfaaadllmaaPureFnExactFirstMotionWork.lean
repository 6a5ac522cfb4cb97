/- FnExactFirstMotionWork: the law's printed function answers true at every input. -/
import Derived.Test.YtofjjfaaadllmaaGFnExactFirstMotionWorkx3
import Derived.Test.YtofjjfaaadllmaaLib
import Derived.Test.YtofjjfaaadllmaaLibRows
import Derived.Test.YtofjjfaaadllmaaLibGcd
set_option linter.unusedVariables false
set_option linter.unusedSimpArgs false
namespace Go.Proofs.Ytofjjfaaadllmaa.Pure.FnExactFirstMotionWorkWay
open Go.RowKit Go.Proofs.Ytofjjfaaadllmaa.GFnExactFirstMotionWork Go.Proofs.YtofjjfaaadllmaaW.PrintWords Go.Proofs.YtofjjfaaadllmaaW.PrintLast Go.Proofs.YtofjjfaaadllmaaW.PrintMore Go.Proofs.Ytofjjfaaadllmaa.Lib

/-! within -/
theorem within_eq (a b c : Int) : impl_within.f a b c = some (decide (b ≤ a ∧ a ≤ c)) := within_gen (fun _ _ _ => rfl) a b c

/-! l1In -/
theorem l1In_eq (a b c : Int) : spec_l1In.f a b c = some (decide (b ≤ a ∧ a ≤ c)) := within_gen (fun _ _ _ => rfl) a b c

/-! isDial -/
theorem isDial_eq (n : Int) : impl_isDial.f n = some (decide (2 ≤ n ∧ n ≤ 24)) := by
  unfold impl_isDial.f
  rw [within_eq, Option.bind_some]

/-! diHours -/
theorem diHours_eq (n : Int) : spec_diHours.f n = some (decide (2 ≤ n ∧ n ≤ 24)) := by
  unfold spec_diHours.f
  rw [l1In_eq, Option.bind_some]

/-! areTeeth -/
theorem areTeeth_eq (n : Int) : impl_areTeeth.f n = some (decide (6 ≤ n ∧ n ≤ 120)) := by
  unfold impl_areTeeth.f
  rw [within_eq, Option.bind_some]

/-! geWheel -/
theorem geWheel_eq (n : Int) : spec_geWheel.f n = some (decide (6 ≤ n ∧ n ≤ 120)) := by
  unfold spec_geWheel.f
  rw [l1In_eq, Option.bind_some]

/-! works -/
def wkRow (h : Int) (row : List S23) : Prop := ∃ a b c e : Int, row = [⟨a, b⟩, ⟨c, e⟩] ∧ (6 ≤ a ∧ a ≤ 120) ∧ (6 ≤ b ∧ b ≤ 120) ∧ (6 ≤ c ∧ c ≤ 120) ∧ (6 ≤ e ∧ e ≤ 120) ∧ a + b = c + e ∧ a * c * h = b * e
theorem wk_bd {h d f : Int} (hh : 2 ≤ h ∧ h ≤ 24) (hd : 6 ≤ d ∧ d ≤ 120) (hf : 6 ≤ f ∧ f ≤ 120) : (0 ≤ h * d ∧ h * d ≤ 2880) ∧ (0 ≤ (d + f) * f ∧ (d + f) * f ≤ 28800) ∧ wkS d f = d + f ∧ wkP h d f = h * d + f ∧ 1 ≤ h * d + f := by
  have a := mul_bd (a := h) (b := d) (A := 24) (B := 120) (by omega) (by omega) (by omega) (by omega)
  have b := mul_bd (a := d + f) (b := f) (A := 240) (B := 120) (by omega) (by omega) (by omega) (by omega)
  refine ⟨by omega, by omega, w64 (by omega) (by omega), ?_, by omega⟩
  unfold wkP
  rw [w64 (x := h * d) (by omega) (by omega), w64 (by omega) (by omega)]
theorem wk_quo {h d f : Int} (hh : 2 ≤ h ∧ h ≤ 24) (hd : 6 ≤ d ∧ d ≤ 120) (hf : 6 ≤ f ∧ f ≤ 120) : Int.tmod (wrap64 (wkS d f * f)) (wkP h d f) = ((d + f) * f) % (h * d + f) ∧ wkC h d f = ((d + f) * f) / (h * d + f) ∧ (0 ≤ ((d + f) * f) / (h * d + f) ∧ ((d + f) * f) / (h * d + f) ≤ 28800) := by
  obtain ⟨a, b, c, e, g⟩ := wk_bd hh hd hf
  have q := div_le (a := (d + f) * f) (b := h * d + f) (by omega) (by omega)
  unfold wkC
  rw [c, e, w64 (x := (d + f) * f) (by omega) (by omega), tmod_e (by omega), tdiv_e (by omega), w64 (by omega) (by omega)]
  exact ⟨rfl, rfl, q.1, by omega⟩
theorem wk_iff {h d f c : Int} : d * c * h = f * (d + f - c) ↔ c * (h * d + f) = (d + f) * f := by
  have e1 : d * c * h = c * (h * d) := by rw [Int.mul_comm d c, Int.mul_assoc, Int.mul_comm d h]
  have e2 : f * (d + f - c) = f * (d + f) - f * c := Int.mul_sub _ _ _
  have e3 : c * (h * d + f) = c * (h * d) + c * f := Int.mul_add _ _ _
  have e4 : c * f = f * c := Int.mul_comm _ _
  have e5 : (d + f) * f = f * (d + f) := Int.mul_comm _ _
  rw [e1, e2, e3, e4, e5]
  omega
theorem wk_sol {h d f c : Int} (hp : 1 ≤ h * d + f) (e : c * (h * d + f) = (d + f) * f) : ((d + f) * f) % (h * d + f) = 0 ∧ ((d + f) * f) / (h * d + f) = c := by
  rw [← e]
  exact ⟨Int.mul_emod_left _ _, Int.mul_ediv_cancel _ (by omega)⟩
theorem wk_sol' {h d f : Int} (e : ((d + f) * f) % (h * d + f) = 0) : ((d + f) * f) / (h * d + f) * (h * d + f) = (d + f) * f := Int.ediv_mul_cancel (Int.dvd_of_emod_eq_zero e)
/-- What the pair (d, f) brings. -/
def wkOk (h m d f : Int) : Prop := ((d + f) * f) % (h * d + f) = 0 ∧ (6 ≤ ((d + f) * f) / (h * d + f) ∧ ((d + f) * f) / (h * d + f) ≤ m) ∧ (6 ≤ d + f - ((d + f) * f) / (h * d + f) ∧ d + f - ((d + f) * f) / (h * d + f) ≤ m)
instance (h m d f : Int) : Decidable (wkOk h m d f) := by
  unfold wkOk
  infer_instance
def wkR (h d f : Int) : List S23 := [⟨d, f⟩, ⟨((d + f) * f) / (h * d + f), d + f - ((d + f) * f) / (h * d + f)⟩]
theorem wkN_eq {h m d f : Int} (hh : 2 ≤ h ∧ h ≤ 24) (hd : 6 ≤ d ∧ d ≤ 120) (hf : 6 ≤ f ∧ f ≤ 120) (out : List (List S23)) : wkN h m d f out = if wkOk h m d f then out ++ [wkR h d f] else out := by
  obtain ⟨a, b, c, e, g⟩ := wk_bd hh hd hf
  obtain ⟨q1, q2, q3⟩ := wk_quo hh hd hf
  unfold wkN wkR
  rw [q1, q2, c, w64 (x := d + f - ((d + f) * f) / (h * d + f)) (by omega) (by omega)]
  by_cases z : ((d + f) * f) % (h * d + f) = 0
  · rw [if_pos z]
    by_cases y : (6 ≤ ((d + f) * f) / (h * d + f) ∧ ((d + f) * f) / (h * d + f) ≤ m) ∧ (6 ≤ d + f - ((d + f) * f) / (h * d + f) ∧ d + f - ((d + f) * f) / (h * d + f) ≤ m)
    · rw [if_pos y, if_pos (show wkOk h m d f from ⟨z, y⟩)]
    · rw [if_neg y, if_neg (show ¬ wkOk h m d f from fun x => y x.2)]
  · rw [if_neg z, if_neg (show ¬ wkOk h m d f from fun x => z x.1)]
theorem wk_row {h m d f : Int} (hm : m ≤ 120) (hd : 6 ≤ d ∧ d ≤ 120) (hf : 6 ≤ f ∧ f ≤ 120) (ok : wkOk h m d f) : wkRow h (wkR h d f) := by
  obtain ⟨z, y1, y2⟩ := ok
  refine ⟨d, f, _, _, rfl, hd, hf, by omega, by omega, by omega, ?_⟩
  exact wk_iff.2 (wk_sol' z)
theorem ite_iff {α : Type} {c d : Prop} [Decidable c] [Decidable d] (h : c ↔ d) {x y : α} : (if c then x else y) = if d then x else y := by
  by_cases z : c
  · rw [if_pos z, if_pos (h.1 z)]
  · rw [if_neg z, if_neg (fun q => z (h.2 q))]
theorem works_inner {h m d f : Int} (hh : 2 ≤ h ∧ h ≤ 24) (hm : 6 ≤ m ∧ m ≤ 120) (hd : 6 ≤ d ∧ d ≤ 120) (hf : 6 ≤ f ∧ f ≤ 120) {r : List (List S23)} :
    ∀ (e : Nat) (c : Int) (out : List (List S23)), 6 ≤ c → c ≤ m + 1 → m + 1 - c = e → out.length + e ≤ 100000 → Ev (fun k => spec_geWorks.l1 k h m (if wkOk h m d f ∧ c ≤ ((d + f) * f) / (h * d + f) then out ++ [wkR h d f] else out) d (f + 1)) r → Ev (fun k => spec_geWorks.l2 k h m out d f c) r := by
  obtain ⟨b1, b2, b3, b4, b5⟩ := wk_bd hh hd hf
  intro e
  induction e with
  | zero =>
    intro c out c0 c1 he hl H
    rw [if_neg (fun z => by have := z.1.2.1.2; omega)] at H
    refine ev_succ ?_
    simp only [spec_geWorks.l2]
    rw [w64 (x := f + 1) (by omega) (by omega)]
    exact ev_f (by omega) H
  | succ e ih =>
    intro c out c0 c1 he hl H
    have p1 := mul_bd (a := d) (b := c) (A := 120) (B := 120) (by omega) (by omega) (by omega) (by omega)
    have p2 := mul_bd (a := d * c) (b := h) (A := 14400) (B := 24) (by omega) (by omega) (by omega) (by omega)
    refine ev_succ ?_
    simp only [spec_geWorks.l2]
    rw [w64 (x := d + f) (by omega) (by omega), w64 (x := d + f - c) (by omega) (by omega), w64 (x := d * c) (by omega) (by omega), w64 (x := d * c * h) (by omega) (by omega), w64 (x := c + 1) (by omega) (by omega)]
    refine ev_t (by omega) (ev_p (l1In_eq _ _ _) ?_)
    by_cases z : 6 ≤ d + f - c ∧ d + f - c ≤ m
    · have p3 := mul_bd (a := f) (b := d + f - c) (A := 120) (B := 120) (by omega) (by omega) (by omega) (by omega)
      rw [w64 (x := f * (d + f - c)) (by omega) (by omega)]
      refine ev_t (decide_eq_true z) ?_
      by_cases y : d * c * h = f * (d + f - c)
      · have s := wk_sol b5 (wk_iff.1 y)
        have ok : wkOk h m d f := ⟨s.1, by rw [s.2]; omega, by rw [s.2]; omega⟩
        have cq : c ≤ ((d + f) * f) / (h * d + f) := Int.le_of_eq s.2.symm
        rw [if_pos ⟨ok, cq⟩] at H
        refine ev_t y (ev_t (by omega) (ih (c + 1) _ (by omega) (by omega) (by omega) (by simp; omega) ?_))
        rw [if_neg (fun x => by have := x.2; rw [s.2] at this; omega)]
        have e1 : wkR h d f = [⟨d, f⟩, ⟨c, d + f - c⟩] := by
          unfold wkR
          rw [s.2]
        rw [← e1]
        exact H
      · refine ev_f y (ih (c + 1) _ (by omega) (by omega) (by omega) (by omega) ?_)
        have e1 : (wkOk h m d f ∧ c + 1 ≤ ((d + f) * f) / (h * d + f)) ↔ (wkOk h m d f ∧ c ≤ ((d + f) * f) / (h * d + f)) := by
          refine ⟨fun x => ⟨x.1, by omega⟩, fun x => ⟨x.1, ?_⟩⟩
          have : ((d + f) * f) / (h * d + f) ≠ c := fun q => y (wk_iff.2 (by rw [← q]; exact wk_sol' x.1.1))
          omega
        rw [ite_iff e1]
        exact H
    · refine ev_f (by simp only [decide_eq_true_eq]; exact z) (ih (c + 1) _ (by omega) (by omega) (by omega) (by omega) ?_)
      have e1 : (wkOk h m d f ∧ c + 1 ≤ ((d + f) * f) / (h * d + f)) ↔ (wkOk h m d f ∧ c ≤ ((d + f) * f) / (h * d + f)) := by
        refine ⟨fun x => ⟨x.1, by omega⟩, fun x => ⟨x.1, ?_⟩⟩
        have : ((d + f) * f) / (h * d + f) ≠ c := fun q => z (by have := x.1.2.2; rw [q] at this; exact this)
        omega
      rw [ite_iff e1]
      exact H
theorem works_row {h m d : Int} (hh : 2 ≤ h ∧ h ≤ 24) (hm : 6 ≤ m ∧ m ≤ 120) (hd : 6 ≤ d ∧ d ≤ m)
    (ih : ∀ out : List (List S23), (out.length : Int) ≤ 200 * (d + 1) + 6 → (∀ r ∈ out, wkRow h r) → ∃ r, Ev (fun k => wkF h m k (d + 1) 6 out) r ∧ Ev (fun k => spec_geWorks.l0 k h m out (d + 1)) r ∧ (∀ x ∈ r, wkRow h x) ∧ (r.length : Int) ≤ 200 * (m + 1) + 6) :
    ∀ (e : Nat) (f : Int) (out : List (List S23)), 6 ≤ f → f ≤ m + 1 → m + 1 - f = e → (out.length : Int) ≤ 200 * d + f → (∀ r ∈ out, wkRow h r) → ∃ r, Ev (fun k => wkF h m k d f out) r ∧ Ev (fun k => spec_geWorks.l1 k h m out d f) r ∧ (∀ x ∈ r, wkRow h x) ∧ (r.length : Int) ≤ 200 * (m + 1) + 6 := by
  intro e
  induction e with
  | zero =>
    intro f out f0 f1 he hl hr
    obtain ⟨r, i1, i2, i3⟩ := ih out (by omega) hr
    refine ⟨r, ev_succ ?_, ev_succ ?_, i3⟩
    · simp only [wkF]
      exact ev_t hd.2 (ev_f (by omega) i1)
    · simp only [spec_geWorks.l1]
      rw [w64 (x := d + 1) (by omega) (by omega)]
      exact ev_f (by omega) i2
  | succ e ihe =>
    intro f out f0 f1 he hl hr
    have hf : 6 ≤ f ∧ f ≤ 120 := by omega
    have hdd : 6 ≤ d ∧ d ≤ 120 := by omega
    obtain ⟨b1, b2, b3, b4, b5⟩ := wk_bd hh hdd hf
    have en := wkN_eq (m := m) hh hdd hf out
    have nl : ((wkN h m d f out).length : Int) ≤ 200 * d + (f + 1) := by
      rw [en]
      split
      · simp
        omega
      · omega
    have nr : ∀ r ∈ wkN h m d f out, wkRow h r := by
      rw [en]
      split
      · rename_i ok
        intro r hr'
        rcases List.mem_append.1 hr' with x | x
        · exact hr r x
        · rw [List.mem_singleton.1 x]
          exact wk_row hm.2 hdd hf ok
      · exact hr
    obtain ⟨r, i1, i2, i3⟩ := ihe (f + 1) (wkN h m d f out) (by omega) (by omega) (by omega) nl nr
    refine ⟨r, ev_succ ?_, ev_succ ?_, i3⟩
    · simp only [wkF]
      exact ev_t hd.2 (ev_t (by omega) (ev_f (by rw [b4]; omega) (ev_t (by omega) i1)))
    · simp only [spec_geWorks.l1]
      refine ev_t (by omega) (works_inner hh hm hdd hf (m + 1 - 6).toNat 6 out (by omega) (by omega) (by omega) (by omega) ?_)
      have e1 : (wkOk h m d f ∧ 6 ≤ ((d + f) * f) / (h * d + f)) ↔ wkOk h m d f := ⟨fun x => x.1, fun x => ⟨x, x.2.1.1⟩⟩
      rw [ite_iff e1, ← en]
      exact i2
theorem works_all {h m : Int} (hh : 2 ≤ h ∧ h ≤ 24) (hm : 6 ≤ m ∧ m ≤ 120) :
    ∀ (e : Nat) (d : Int) (out : List (List S23)), 6 ≤ d → d ≤ m + 1 → m + 1 - d = e → (out.length : Int) ≤ 200 * d + 6 → (∀ r ∈ out, wkRow h r) → ∃ r, Ev (fun k => wkF h m k d 6 out) r ∧ Ev (fun k => spec_geWorks.l0 k h m out d) r ∧ (∀ x ∈ r, wkRow h x) ∧ (r.length : Int) ≤ 200 * (m + 1) + 6 := by
  intro e
  induction e with
  | zero =>
    intro d out d0 d1 he hl hr
    refine ⟨out, ev_succ ?_, ev_succ ?_, hr, by omega⟩
    · simp only [wkF]
      exact ev_f (by omega) (ev_now _)
    · simp only [spec_geWorks.l0]
      exact ev_f (by omega) (ev_now _)
  | succ e ihe =>
    intro d out d0 d1 he hl hr
    obtain ⟨r, i1, i2, i3⟩ := works_row hh hm ⟨d0, by omega⟩ (fun o a b => ihe (d + 1) o (by omega) (by omega) (by omega) a b) (m + 1 - 6).toNat 6 out (by omega) (by omega) (by omega) hl hr
    refine ⟨r, i1, ev_succ ?_, i3⟩
    simp only [spec_geWorks.l0]
    exact ev_t (by omega) i2
theorem works_both {h m : Int} (hh : 2 ≤ h ∧ h ≤ 24) (hm : 6 ≤ m ∧ m ≤ 120) : ∃ R : List (List S23), Ev (fun k => spec_geWorks.f k h m) R ∧ Ev (fun k => impl_works.f k h m) R ∧ (∀ x ∈ R, wkRow h x) ∧ R.length ≤ 30000 := by
  obtain ⟨r, i1, i2, i3⟩ := works_all hh hm (m + 1 - 6).toNat 6 [] (by omega) (by omega) (by omega) (by simp) (by simp)
  refine ⟨r, i2, ?_, i3.1, by have := i3.2; omega⟩
  unfold impl_works.f wksF
  exact ev_t hm i1

/-! fmw -/
theorem teeth2 {m : Int} {a b c d : Int} (hm : m ≤ 120) (h : (6 ≤ a ∧ a ≤ m) ∧ (6 ≤ b ∧ b ≤ m) ∧ (6 ≤ c ∧ c ≤ m) ∧ (6 ≤ d ∧ d ≤ m)) : Ev (fun k => impl_teeth.f k [⟨a, b⟩, ⟨c, d⟩]) (a + b + c + d) := by
  have e0 : rd_T23 [(⟨a, b⟩ : S23), ⟨c, d⟩] 0 = ⟨a, b⟩ := rfl
  have e1 : rd_T23 [(⟨a, b⟩ : S23), ⟨c, d⟩] 1 = ⟨c, d⟩ := rfl
  unfold impl_teeth.f
  refine ev_succ ?_
  simp only [impl_teeth.l0, e0]
  refine ev_t (by simp) (ev_t (by omega) (ev_t (by simp) (ev_succ ?_)))
  rw [w64 (x := 0 + 1) (by omega) (by omega), w64 (x := a + b) (by omega) (by omega), w64 (x := 0 + (a + b)) (by omega) (by omega)]
  simp only [impl_teeth.l0, Int.zero_add, e1]
  refine ev_t (by simp) (ev_t (by omega) (ev_t (by simp) (ev_succ ?_)))
  rw [w64 (x := 1 + 1) (by omega) (by omega), w64 (x := c + d) (by omega) (by omega), w64 (x := a + b + (c + d)) (by omega) (by omega)]
  simp only [impl_teeth.l0]
  refine ev_f (by simp) (ev_con ?_)
  congr 1
  omega

def fmRel (h : Int) (out : List S23) (least : Int) : Prop := (out = [] ∧ least = 0) ∨ (∃ a b c e : Int, out = [⟨a, b⟩, ⟨c, e⟩] ∧ (6 ≤ a ∧ a ≤ 120) ∧ (6 ≤ b ∧ b ≤ 120) ∧ (6 ≤ c ∧ c ≤ 120) ∧ (6 ≤ e ∧ e ≤ 120) ∧ a + b = c + e ∧ a * c * h = b * e ∧ least = a + b)
theorem fm_teeth {a b c e : Int} (ha : 6 ≤ a ∧ a ≤ 120) (hb : 6 ≤ b ∧ b ≤ 120) (hc : 6 ≤ c ∧ c ≤ 120) (he : 6 ≤ e ∧ e ≤ 120) : Ev (fun k => impl_teeth.f k [⟨a, b⟩, ⟨c, e⟩]) (a + b + c + e) := by
  have := teeth2 (m := 120) (a := a) (b := b) (c := c) (d := e) (by omega) ⟨ha, hb, hc, he⟩
  have e1 : a + b + (c + e) = a + b + c + e := by omega
  first | exact this | (rw [e1] at this; exact this) | (rw [← e1]; exact this)
theorem smN_eq {a b c e : Int} (ha : 6 ≤ a ∧ a ≤ 120) (hb : 6 ≤ b ∧ b ≤ 120) : smN [⟨a, b⟩, ⟨c, e⟩] = a + b := by
  show wrap64 (a + b) = a + b
  exact w64 (by omega) (by omega)
theorem fm_all {h : Int} {rows : List (List S23)} (hr : ∀ x ∈ rows, wkRow h x) : ∀ (d : Nat) (i : Int) (out : List S23) (least : Int), 0 ≤ i → i + d = rows.length → fmRel h out least →
    ∃ (o : List S23) (l : Int), (∃ K : Nat, ∀ k, K ≤ k → ∀ g, K ≤ g → fmF k rows g i out = some o) ∧ Ev (fun g => smF rows g i out least) (o, l) ∧ fmRel h o l := by
  intro d
  induction d with
  | zero =>
    intro i out least i0 i1 rl
    refine ⟨out, least, ⟨1, fun k _ g hg => ?_⟩, ev_one fun g => ?_, rl⟩
    · obtain ⟨g, rfl⟩ : ∃ n, g = n + 1 := ⟨g - 1, by omega⟩
      simp only [fmF]
      rw [if_neg (by omega)]
    · simp only [smF]
      rw [if_neg (by omega)]
  | succ d ih =>
    intro i out least i0 i1 rl
    have hi : i < (rows.length : Int) := by omega
    have hrow : wkRow h (rd_L2 rows i) := by
      unfold rd_L2
      rw [List.getD_eq_getElem?_getD, List.getElem?_eq_getElem (by omega)]
      exact hr _ (List.getElem_mem _)
    obtain ⟨a, b, c, e, er, ha, hb, hc, he, hs, hq⟩ := hrow
    have n1 := smN_eq (c := c) (e := e) ha hb
    have rn : fmRel h [⟨a, b⟩, ⟨c, e⟩] (a + b) := Or.inr ⟨a, b, c, e, rfl, ha, hb, hc, he, hs, hq, rfl⟩
    have take : (Ev (fun k => fmB k (rd_L2 rows i) out) (rd_L2 rows i) ∧ (least = 0 ∨ smN (rd_L2 rows i) < least)) → ∃ (o : List S23) (l : Int), (∃ K : Nat, ∀ k, K ≤ k → ∀ g, K ≤ g → fmF k rows g i out = some o) ∧ Ev (fun g => smF rows g i out least) (o, l) ∧ fmRel h o l := by
      rintro ⟨⟨K1, h1⟩, z⟩
      obtain ⟨o, l, ⟨K2, h2⟩, i2, i3⟩ := ih (i + 1) (rd_L2 rows i) (smN (rd_L2 rows i)) (by omega) (by omega) (by rw [er, n1]; exact rn)
      refine ⟨o, l, ⟨K1 + K2 + 1, fun k hk g hg => ?_⟩, ev_succ ?_, i3⟩
      · obtain ⟨g, rfl⟩ : ∃ n, g = n + 1 := ⟨g - 1, by omega⟩
        simp only [fmF]
        have q := h1 k (by omega)
        dsimp only at q
        rw [if_pos hi, q, Option.bind_some]
        exact h2 k (by omega) g (by omega)
      · simp only [smF]
        exact ev_t hi (ev_t (by rw [er]; exact Nat.succ_pos 1) (ev_t z i2))
    have keep : (Ev (fun k => fmB k (rd_L2 rows i) out) out ∧ ¬ (least = 0 ∨ smN (rd_L2 rows i) < least)) → ∃ (o : List S23) (l : Int), (∃ K : Nat, ∀ k, K ≤ k → ∀ g, K ≤ g → fmF k rows g i out = some o) ∧ Ev (fun g => smF rows g i out least) (o, l) ∧ fmRel h o l := by
      rintro ⟨⟨K1, h1⟩, z⟩
      obtain ⟨o, l, ⟨K2, h2⟩, i2, i3⟩ := ih (i + 1) out least (by omega) (by omega) rl
      refine ⟨o, l, ⟨K1 + K2 + 1, fun k hk g hg => ?_⟩, ev_succ ?_, i3⟩
      · obtain ⟨g, rfl⟩ : ∃ n, g = n + 1 := ⟨g - 1, by omega⟩
        simp only [fmF]
        have q := h1 k (by omega)
        dsimp only at q
        rw [if_pos hi, q, Option.bind_some]
        exact h2 k (by omega) g (by omega)
      · simp only [smF]
        exact ev_t hi (ev_t (by rw [er]; exact Nat.succ_pos 1) (ev_f z i2))
    rcases rl with ⟨rfl, rfl⟩ | ⟨a', b', c', e', rfl, ha', hb', hc', he', hs', hq', rfl⟩
    · refine take ⟨?_, Or.inl rfl⟩
      unfold fmB
      exact ev_t rfl (ev_now _)
    · have t1 := fm_teeth ha hb hc he
      have t2 := fm_teeth ha' hb' hc' he'
      by_cases z : a + b < a' + b'
      · refine take ⟨?_, Or.inr (by rw [er, n1]; exact z)⟩
        unfold fmB
        rw [er]
        exact ev_f (by simp) (Ev.bind t1 (Ev.bind t2 (ev_t (by omega) (ev_now _))))
      · refine keep ⟨?_, fun q => ?_⟩
        · unfold fmB
          rw [er]
          exact ev_f (by simp) (Ev.bind t1 (Ev.bind t2 (ev_f (by omega) (ev_now _))))
        · rcases q with q | q
          · omega
          · rw [er, n1] at q
            omega
theorem fmw_both (h m : Int) : ∃ R : List S23 × Bool, Ev (fun k => spec_FirstMotionWork.f k h m) R ∧ Ev (fun k => impl_FirstMotionWork.f k h m) R ∧ R.1.length ≤ 2 ∧ (R.2 = true → wkRow h R.1) ∧ (R.2 = false → R.1 = []) := by
  unfold spec_FirstMotionWork.f impl_FirstMotionWork.f
  by_cases z : (2 ≤ h ∧ h ≤ 24) ∧ (6 ≤ m ∧ m ≤ 120)
  · obtain ⟨rows, i1, i2, i3, i4⟩ := works_both z.1 z.2
    obtain ⟨o, l, ⟨K, hK⟩, f2, f3⟩ := fm_all i3 rows.length 0 [] 0 (Int.le_refl 0) (by omega) (Or.inl ⟨rfl, rfl⟩)
    have g1 : Ev (fun k => if rows.length ≤ 1000000000 then smF rows k 0 [] 0 else none) (o, l) := ev_t (by omega) f2
    have g2 : Ev (fun k => if rows.length ≤ 1000000000 then fmF k rows k 0 [] else none) o := ev_t (by omega) ⟨K, fun k hk => hK k hk k hk⟩
    have zt : decide (2 ≤ h ∧ h ≤ 24) = true ∧ decide (6 ≤ m ∧ m ≤ 120) = true := ⟨decide_eq_true z.1, decide_eq_true z.2⟩
    rcases f3 with ⟨rfl, rfl⟩ | ⟨a, b, c, e, rfl, ha, hb, hc, he, hs, hq, rfl⟩
    · exact ⟨([], false), ev_p (diHours_eq h) (ev_p (geWheel_eq m) (ev_t zt (Ev.bind i1 (Ev.bind g1 (ev_t rfl (ev_now _)))))), ev_p (isDial_eq h) (ev_p (areTeeth_eq m) (ev_t zt (Ev.bind i2 (Ev.bind g2 (ev_now _))))), by simp, by simp, by simp⟩
    · exact ⟨([⟨a, b⟩, ⟨c, e⟩], true), ev_p (diHours_eq h) (ev_p (geWheel_eq m) (ev_t zt (Ev.bind i1 (Ev.bind g1 (ev_f (by show ¬ (a + b = 0); omega) (ev_now _)))))), ev_p (isDial_eq h) (ev_p (areTeeth_eq m) (ev_t zt (Ev.bind i2 (Ev.bind g2 (ev_now _))))), by simp, fun _ => ⟨a, b, c, e, rfl, ha, hb, hc, he, hs, hq⟩, by simp⟩
  · refine ⟨([], false), ev_p (diHours_eq h) (ev_p (geWheel_eq m) (ev_f (by simp only [decide_eq_true_eq]; exact z) (ev_now _))), ev_p (isDial_eq h) (ev_p (areTeeth_eq m) (ev_f (by simp only [decide_eq_true_eq]; exact z) (ev_now _))), by simp, by simp, by simp⟩

/-! eqPairS -/
theorem eqPairS_ev (l : List S23) (h : l.length ≤ 1000000000) : Ev (fun k => laws_eqPairS.f k l l) true := by
  unfold laws_eqPairS.f
  refine ev_t rfl ?_
  exact scan_gen (g := fun i k => laws_eqPairS.l0 k l l i) (n := l.length) (fun i a b ih => by
    refine ev_succ ?_
    simp only [laws_eqPairS.l0]
    refine ev_t b (ev_t a (ev_t b (ev_p (a := true) (by simp [laws_eqPair.f]) (ev_t rfl ?_))))
    rw [w64 (by omega) (by omega)]
    exact ih) (by
    refine ev_one fun k => ?_
    simp only [laws_eqPairS.l0]
    rw [if_neg (by omega)]) 0 (by omega) (by omega)

/-! markPairS -/
theorem markPairS_ev (l : List S23) (h : l.length ≤ 1000000) (m0 : Int) (hm : 0 ≤ m0) (hm' : m0 ≤ 1000000000) : ∃ m' l', Ev (fun k => laws_markPairS.f k l m0) (m', l') ∧ Ev (fun k => laws_heldPairS.f k l' m0) m' ∧ m' = m0 + 2 * l.length := by
  refine ⟨_, _, mark_gen (mk := fun m => (⟨m, m + 1⟩ : S23)) (s := 2) (l0 := laws_markPairS.l0) (by omega) (by omega) ?_ ?_ l m0 (by omega) hm (by omega), held_gen (mk := fun m => (⟨m, m + 1⟩ : S23)) (s := 2) (l0 := laws_heldPairS.l0) (by omega) (by omega) z23 ?_ ?_ l.length m0 (by omega) hm (by omega), by omega⟩
  · intro k xs m i a b c d e
    simp only [laws_markPairS.l0]
    rw [if_pos b, if_pos a]
    simp only [Option.bind_some]
    rw [w64 (x := m + 1) (by omega) (by omega), w64 (x := m + 1 + 1) (by omega) (by omega), w64 (x := i + 1) (by omega) (by omega)]
    have e1 : rd_T23 (xs.set i.toNat ⟨m, (rd_T23 xs i).f1⟩) i = ⟨m, (rd_T23 xs i).f1⟩ := by
      unfold rd_T23
      rw [List.getD_eq_getElem?_getD, List.getElem?_set_self (by omega)]
      rfl
    rw [e1, List.set_set, show m + 1 + 1 = m + 2 by omega]
  · intro k xs m i a
    simp only [laws_markPairS.l0]
    rw [if_neg a]
  · intro k xs m i a b c d e g
    have g' : rd_T23 xs i = ⟨m, m + 1⟩ := g
    simp only [laws_heldPairS.l0]
    rw [if_pos b, if_pos a, g', if_pos rfl, w64 (x := m + 1) (by omega) (by omega), if_pos rfl, w64 (x := m + 1 + 1) (by omega) (by omega), w64 (x := i + 1) (by omega) (by omega), show m + 1 + 1 = m + 2 by omega]
  · intro k xs m i a
    simp only [laws_heldPairS.l0]
    rw [if_neg a]

/-! the law -/
theorem law (a0 a1 : Int) (w0 : (Lit.int .i64 a0).wf = true) (w1 : (Lit.int .i64 a1).wf = true) : ∃ k, laws_FnExactFirstMotionWork.f k a0 a1 = some true := by
  obtain ⟨R, hs, hi, hl, _, _⟩ := fmw_both a0 a1
  obtain ⟨m', l', e1, e2, e3⟩ := markPairS_ev R.1 (by omega) 1 (by omega) (by omega)
  refine Ev.rounds (g := fun k => laws_FnExactFirstMotionWork.f k a0 a1) ?_
  simp only [laws_FnExactFirstMotionWork.f]
  exact Ev.bind hs (Ev.bind hi (Ev.bind (eqPairS_ev R.1 (by omega)) (Ev.bind e1 (Ev.bind e2 (ev_t ⟨rfl, rfl, rfl, by omega⟩ (ev_now true))))))

end Go.Proofs.Ytofjjfaaadllmaa.Pure.FnExactFirstMotionWorkWay
