-- Written by a program of this session (a copy of the kit's print program that takes contracts of one's own); Lean checks it.
import Derived.Test.YtofjjfaaadllmaaGFnExactFirstMotionWorkx0
namespace Go.Proofs.Ytofjjfaaadllmaa.GFnExactFirstMotionWork
open Go.RowKit Go.Proofs.YtofjjfaaadllmaaW.PrintWords Go.Proofs.YtofjjfaaadllmaaW.PrintLast Go.Proofs.YtofjjfaaadllmaaW.PrintMore
attribute [local go_sem] max2_int min2_int max_two min_two max_three min_three max_four min_four IntWalk.i64_left   -- for this text's walks alone
set_option linter.unusedVariables false
set_option linter.unusedSimpArgs false

/-! ### spec_l1In: function 53 -/
def spec_l1In.f (a0 : Int) (a1 : Int) (a2 : Int) : Option (Bool) := if a0 ≥ a1 then (some (decide (a0 ≤ a2))) else (some false)
set_option maxHeartbeats 8000000 in
set_option maxRecDepth 100000 in
theorem spec_l1In.calls (a0 : Int) (a1 : Int) (a2 : Int) (r : Bool) (w : World) (h : spec_l1In.f a0 a1 a2 = some r) :
    Calls Try.prog 53 #[.int .i64 a0, .int .i64 a1, .int .i64 a2] w fun e w' => e = .returned (.bool r) ∧ Drawn0 w w' := by
  have H : (if a0 ≥ a1 then (some (decide (a0 ≤ a2))) else (some false)) = some r := h
  clear h
  by_cases c4 : a0 ≥ a1
  · rw [if_pos c4] at H
    have c4b0 : decide (a1 ≤ a0) = true := decide_eq_true c4
    clear c4
    obtain rfl := Option.some.inj H
    go_enter Try.func53, Try.ntmps53
    go_wp2
    go_ret
    exact ⟨by first | rfl | (simp; done) | (simp [*]; done), by repeat (first | exact Drawn0.refl _ | apply Drawn0.step)⟩
  · rw [if_neg c4] at H
    have c4b0 : decide (a1 ≤ a0) = false := decide_eq_false c4
    clear c4
    obtain rfl := Option.some.inj H
    go_enter Try.func53, Try.ntmps53
    go_wp2
    go_ret
    exact ⟨by first | rfl | (simp; done) | (simp [*]; done), by repeat (first | exact Drawn0.refl _ | apply Drawn0.step)⟩

/-! ### spec_diHours: function 41 -/
def spec_diHours.f (a0 : Int) : Option (Bool) := (spec_l1In.f a0 2 24).bind fun t101 => (some t101)
set_option maxHeartbeats 8000000 in
set_option maxRecDepth 100000 in
theorem spec_diHours.calls (a0 : Int) (r : Bool) (w : World) (h : spec_diHours.f a0 = some r) :
    Calls Try.prog 41 #[.int .i64 a0] w fun e w' => e = .returned (.bool r) ∧ Drawn0 w w' := by
  have H : ((spec_l1In.f a0 2 24).bind fun t101 => (some t101)) = some r := h
  clear h
  replace H := Option.bind_eq_some_iff.mp H
  obtain ⟨t101, A20, H⟩ := H
  replace H : (some t101) = some r := H
  have A2 := Aside0.mk A20
  clear A20
  obtain rfl := Option.some.inj H
  go_enter Try.func41, Try.ntmps41
  go_wp2_with (first | ((with_reducible refine gate_callee (f := 53) rfl ?_); refine goesL_ (some 4) rfl rfl Try.func53 (by kernel_rfl) rfl #[.int .i64 a0, .int .i64 2, .int .i64 24] rfl (by (try simp only [List.map_toArray, List.map_cons, List.map_nil]); first | done | rfl | (simp only [List.length_drop, List.length_take]; rfl)) ?_; (with_reducible refine (spec_l1In.calls a0 2 24 t101 _ A2.out).mono ?_); rintro e w' ⟨rfl, ⟨nd, rfl⟩⟩; refine ⟨_, rfl, ?_⟩))
  go_ret
  exact ⟨by first | rfl | (simp; done) | (simp [*]; done), by repeat (first | exact Drawn0.refl _ | apply Drawn0.step)⟩

/-! ### spec_geWheel: function 42 -/
def spec_geWheel.f (a0 : Int) : Option (Bool) := (spec_l1In.f a0 6 120).bind fun t102 => (some t102)
set_option maxHeartbeats 8000000 in
set_option maxRecDepth 100000 in
theorem spec_geWheel.calls (a0 : Int) (r : Bool) (w : World) (h : spec_geWheel.f a0 = some r) :
    Calls Try.prog 42 #[.int .i64 a0] w fun e w' => e = .returned (.bool r) ∧ Drawn0 w w' := by
  have H : ((spec_l1In.f a0 6 120).bind fun t102 => (some t102)) = some r := h
  clear h
  replace H := Option.bind_eq_some_iff.mp H
  obtain ⟨t102, A20, H⟩ := H
  replace H : (some t102) = some r := H
  have A2 := Aside0.mk A20
  clear A20
  obtain rfl := Option.some.inj H
  go_enter Try.func42, Try.ntmps42
  go_wp2_with (first | ((with_reducible refine gate_callee (f := 53) rfl ?_); refine goesL_ (some 4) rfl rfl Try.func53 (by kernel_rfl) rfl #[.int .i64 a0, .int .i64 6, .int .i64 120] rfl (by (try simp only [List.map_toArray, List.map_cons, List.map_nil]); first | done | rfl | (simp only [List.length_drop, List.length_take]; rfl)) ?_; (with_reducible refine (spec_l1In.calls a0 6 120 t102 _ A2.out).mono ?_); rintro e w' ⟨rfl, ⟨nd, rfl⟩⟩; refine ⟨_, rfl, ?_⟩))
  go_ret
  exact ⟨by first | rfl | (simp; done) | (simp [*]; done), by repeat (first | exact Drawn0.refl _ | apply Drawn0.step)⟩

/-! ### spec_geWorks: function 43 -/
mutual
def spec_geWorks.l0 : Nat → Int → Int → List (List (S23)) → Int → Option ((List (List (S23))))
  | 0, _, _, _, _ => none
  | k + 1, x0, x1, x5, x6 => if x6 ≤ x1 then (spec_geWorks.l1 k x0 x1 x5 x6 6) else (some x5)
def spec_geWorks.l1 : Nat → Int → Int → List (List (S23)) → Int → Int → Option ((List (List (S23))))
  | 0, _, _, _, _, _ => none
  | k + 1, x0, x1, x5, x6, x7 => if x7 ≤ x1 then (spec_geWorks.l2 k x0 x1 x5 x6 x7 6) else (spec_geWorks.l0 k x0 x1 x5 (wrap64 (x6 + 1)))
def spec_geWorks.l2 : Nat → Int → Int → List (List (S23)) → Int → Int → Int → Option ((List (List (S23))))
  | 0, _, _, _, _, _, _ => none
  | k + 1, x0, x1, x5, x6, x7, x8 => if x8 ≤ x1 then ((spec_l1In.f (wrap64 ((wrap64 (x6 + x7)) - x8)) 6 x1).bind fun t103 => (if t103 = true then (if (wrap64 ((wrap64 (x6 * x8)) * x0)) = (wrap64 (x7 * (wrap64 ((wrap64 (x6 + x7)) - x8)))) then (if x5.length < 5864062014805 then (spec_geWorks.l2 k x0 x1 (x5 ++ [(([(⟨x6, x7⟩ : S23), (⟨x8, wrap64 ((wrap64 (x6 + x7)) - x8)⟩ : S23)] : List (S23)))]) x6 x7 (wrap64 (x8 + 1))) else (none)) else (spec_geWorks.l2 k x0 x1 x5 x6 x7 (wrap64 (x8 + 1)))) else (spec_geWorks.l2 k x0 x1 x5 x6 x7 (wrap64 (x8 + 1))))) else (spec_geWorks.l1 k x0 x1 x5 x6 (wrap64 (x7 + 1)))
end
def spec_geWorks.f (k : Nat) (a0 : Int) (a1 : Int) : Option ((List (List (S23)))) := spec_geWorks.l0 k a0 a1 ([] : List (List (S23))) 6
theorem spec_geWorks.mono_l : ∀ k, (∀ y0 y1 y2 y3, LeO (spec_geWorks.l0 k y0 y1 y2 y3) (spec_geWorks.l0 (k + 1) y0 y1 y2 y3)) ∧ (∀ y0 y1 y2 y3 y4, LeO (spec_geWorks.l1 k y0 y1 y2 y3 y4) (spec_geWorks.l1 (k + 1) y0 y1 y2 y3 y4)) ∧ (∀ y0 y1 y2 y3 y4 y5, LeO (spec_geWorks.l2 k y0 y1 y2 y3 y4 y5) (spec_geWorks.l2 (k + 1) y0 y1 y2 y3 y4 y5))
  | 0 => ⟨fun _ _ _ _ r h => by simp [spec_geWorks.l0] at h, fun _ _ _ _ _ r h => by simp [spec_geWorks.l1] at h, fun _ _ _ _ _ _ r h => by simp [spec_geWorks.l2] at h⟩
  | k + 1 => by
    obtain ⟨ih0, ih1, ih2⟩ := spec_geWorks.mono_l k
    refine ⟨?_, ?_, ?_⟩
    · intro y0 y1 y2 y3
      unfold spec_geWorks.l0
      repeat' first
      | (with_reducible exact ih0 _ _ _ _)
      | (with_reducible exact ih1 _ _ _ _ _)
      | (with_reducible exact ih2 _ _ _ _ _ _)
      | (with_reducible exact LeO.refl _)
      | (with_reducible exact LeO.none _)
      | (with_reducible refine LeO.ite ?_ ?_)
      | (with_reducible refine LeO.bind ?_ (fun _ => ?_))
      | exact ih0 _ _ _ _
      | exact ih1 _ _ _ _ _
      | exact ih2 _ _ _ _ _ _
      | exact LeO.none _
      | refine LeO.ite ?_ ?_
      | refine LeO.bind ?_ (fun _ => ?_)
    · intro y0 y1 y2 y3 y4
      unfold spec_geWorks.l1
      repeat' first
      | (with_reducible exact ih0 _ _ _ _)
      | (with_reducible exact ih1 _ _ _ _ _)
      | (with_reducible exact ih2 _ _ _ _ _ _)
      | (with_reducible exact LeO.refl _)
      | (with_reducible exact LeO.none _)
      | (with_reducible refine LeO.ite ?_ ?_)
      | (with_reducible refine LeO.bind ?_ (fun _ => ?_))
      | exact ih0 _ _ _ _
      | exact ih1 _ _ _ _ _
      | exact ih2 _ _ _ _ _ _
      | exact LeO.none _
      | refine LeO.ite ?_ ?_
      | refine LeO.bind ?_ (fun _ => ?_)
    · intro y0 y1 y2 y3 y4 y5
      unfold spec_geWorks.l2
      repeat' first
      | (with_reducible exact ih0 _ _ _ _)
      | (with_reducible exact ih1 _ _ _ _ _)
      | (with_reducible exact ih2 _ _ _ _ _ _)
      | (with_reducible exact LeO.refl _)
      | (with_reducible exact LeO.none _)
      | (with_reducible refine LeO.ite ?_ ?_)
      | (with_reducible refine LeO.bind ?_ (fun _ => ?_))
      | exact ih0 _ _ _ _
      | exact ih1 _ _ _ _ _
      | exact ih2 _ _ _ _ _ _
      | exact LeO.none _
      | refine LeO.ite ?_ ?_
      | refine LeO.bind ?_ (fun _ => ?_)
theorem spec_geWorks.mono : ∀ a0 a1 k, LeO (spec_geWorks.f k a0 a1) (spec_geWorks.f (k + 1) a0 a1) := by
  intro a0 a1 k
  obtain ⟨ih0, ih1, ih2⟩ := spec_geWorks.mono_l k
  unfold spec_geWorks.f
  repeat' first
      | (with_reducible exact ih0 _ _ _ _)
      | (with_reducible exact ih1 _ _ _ _ _)
      | (with_reducible exact ih2 _ _ _ _ _ _)
      | (with_reducible exact LeO.refl _)
      | (with_reducible exact LeO.none _)
      | (with_reducible refine LeO.ite ?_ ?_)
      | (with_reducible refine LeO.bind ?_ (fun _ => ?_))
      | exact ih0 _ _ _ _
      | exact ih1 _ _ _ _ _
      | exact ih2 _ _ _ _ _ _
      | exact LeO.none _
      | refine LeO.ite ?_ ?_
      | refine LeO.bind ?_ (fun _ => ?_)
set_option maxHeartbeats 8000000 in
set_option maxRecDepth 100000 in
theorem spec_geWorks.calls (k : Nat) (a0 : Int) (a1 : Int) (r : List (List (S23))) (w : World) (h : spec_geWorks.f k a0 a1 = some r) :
    Calls Try.prog 43 #[.int .i64 a0, .int .i64 a1] w fun e w' => ∃ v0_ : Value, e = .returned (v0_) ∧ Kd.S (Kd.slice 23 k23) 28 w' w.heap.size (fun _ => True) v0_ r ∧ Below w.heap.size w w' := by
  have hu23 := Try.underlying23
  have HB := Aside0.mk (Below.refl w.heap.size w)
  have H : (spec_geWorks.l0 k a0 a1 ([] : List (List (S23))) 6) = some r := h
  clear h
  have H' := Aside0.mk H
  clear H
  go_enter Try.func43, Try.ntmps43
  go_wp2
  go_loopg [5, 6] k (fun kq v5 v6 w' => ∃ (x5_1 : List (List (S23))) (x6_1 : Int), v6 = .int .i64 x6_1 ∧ Aside0 (spec_geWorks.l0 kq a0 a1 x5_1 x6_1 = some r) ∧ Aside0 (kq ≤ k) ∧ Aside0 (Kd.S (Kd.slice 23 k23) 28 w' w.heap.size (fun _ => True) v5 x5_1) ∧ Aside0 (Below w.heap.size w w'))
  case atStart => exact ⟨(([] : List (List (S23)))), (6), (by first | rfl | (simp; done) | (simp [*]; done)), H', ⟨Nat.le_refl _⟩, ⟨by first | exact Kd.S_nil _ _ _ _ _ | exact Kd.N_nil _ _ _ _ _ | exact Kd.V_nil _ _ _ _ _ | exact Kd.Q_nil _ _ _ _ _ | exact Kd.R_nil _ _ _ _ _⟩, ⟨by repeat (first | (with_reducible first | exact HB.out | apply below_alloc | apply pw_below_drewN | apply below_drew1) | exact HB.out)⟩⟩
  case round =>
    clear H'
    try clear p2
    obtain ⟨x5_1, x6_1, rfl, HA, HK1, HO_5, HB⟩ := hrel
    cases gk with
    | zero => exact absurd HA.out (by simp [spec_geWorks.l0])
    | succ k1 =>
      have H := HA.out
      clear HA
      simp only [spec_geWorks.l0] at H
      by_cases c3 : x6_1 ≤ a1
      · rw [if_pos c3] at H
        have c3b0 : decide (x6_1 ≤ a1) = true := decide_eq_true c3
        clear c3
        have H' := Aside0.mk H
        clear H
        go_wp2
        go_loopg [5, 7] k1 (fun kq v5 v7 w' => ∃ (x5_2 : List (List (S23))) (x7_2 : Int), v7 = .int .i64 x7_2 ∧ Aside0 (spec_geWorks.l1 kq a0 a1 x5_2 x6_1 x7_2 = some r) ∧ Aside0 (kq ≤ k1) ∧ Aside0 (Kd.S (Kd.slice 23 k23) 28 w' w.heap.size (fun _ => True) v5 x5_2) ∧ Aside0 (Below w.heap.size w w'))
        case atStart => exact ⟨(x5_1), (6), (by first | rfl | (simp; done) | (simp [*]; done)), H', ⟨Nat.le_refl _⟩, ⟨by (with_reducible repeat (first | apply Kd.S_alloc | apply Kd.S_drewN | apply Kd.S_drew)); exact HO_5.out⟩, ⟨by repeat (first | (with_reducible first | exact HB.out | apply below_alloc | apply pw_below_drewN | apply below_drew1) | exact HB.out)⟩⟩
        case round =>
          clear H'
          try clear p2
          try clear c3
          try clear c3b0
          try clear p2
          obtain ⟨x5_2, x7_2, rfl, HA, HK2, HO_5, HB⟩ := hrel
          cases gk with
          | zero => exact absurd HA.out (by simp [spec_geWorks.l1])
          | succ k2 =>
            have H := HA.out
            clear HA
            simp only [spec_geWorks.l1] at H
            by_cases c4 : x7_2 ≤ a1
            · rw [if_pos c4] at H
              have c4b0 : decide (x7_2 ≤ a1) = true := decide_eq_true c4
              clear c4
              have H' := Aside0.mk H
              clear H
              go_wp2
              go_loopg [5, 8] k2 (fun kq v5 v8 w' => ∃ (x5_3 : List (List (S23))) (x8_3 : Int), v8 = .int .i64 x8_3 ∧ Aside0 (spec_geWorks.l2 kq a0 a1 x5_3 x6_1 x7_2 x8_3 = some r) ∧ Aside0 (kq ≤ k2) ∧ Aside0 (Kd.S (Kd.slice 23 k23) 28 w' w.heap.size (fun _ => True) v5 x5_3) ∧ Aside0 (Below w.heap.size w w'))
              case atStart => exact ⟨(x5_2), (6), (by first | rfl | (simp; done) | (simp [*]; done)), H', ⟨Nat.le_refl _⟩, ⟨by (with_reducible repeat (first | apply Kd.S_alloc | apply Kd.S_drewN | apply Kd.S_drew)); exact HO_5.out⟩, ⟨by repeat (first | (with_reducible first | exact HB.out | apply below_alloc | apply pw_below_drewN | apply below_drew1) | exact HB.out)⟩⟩
              case round =>
                clear H'
                try clear p2
                try clear c3
                try clear c3b0
                try clear c4
                try clear c4b0
                try clear p2
                obtain ⟨x5_3, x8_3, rfl, HA, HK3, HO_5, HB⟩ := hrel
                cases gk with
                | zero => exact absurd HA.out (by simp [spec_geWorks.l2])
                | succ k3 =>
                  have H := HA.out
                  clear HA
                  simp only [spec_geWorks.l2] at H
                  by_cases c5 : x8_3 ≤ a1
                  · rw [if_pos c5] at H
                    have c5b0 : decide (x8_3 ≤ a1) = true := decide_eq_true c5
                    clear c5
                    replace H := Option.bind_eq_some_iff.mp H
                    obtain ⟨t103, A60, H⟩ := H
                    replace H : (if t103 = true then (if (wrap64 ((wrap64 (x6_1 * x8_3)) * a0)) = (wrap64 (x7_2 * (wrap64 ((wrap64 (x6_1 + x7_2)) - x8_3)))) then (if x5_3.length < 5864062014805 then (spec_geWorks.l2 k3 a0 a1 (x5_3 ++ [(([(⟨x6_1, x7_2⟩ : S23), (⟨x8_3, wrap64 ((wrap64 (x6_1 + x7_2)) - x8_3)⟩ : S23)] : List (S23)))]) x6_1 x7_2 (wrap64 (x8_3 + 1))) else (none)) else (spec_geWorks.l2 k3 a0 a1 x5_3 x6_1 x7_2 (wrap64 (x8_3 + 1)))) else (spec_geWorks.l2 k3 a0 a1 x5_3 x6_1 x7_2 (wrap64 (x8_3 + 1)))) = some r := H
                    have A6 := Aside0.mk A60
                    clear A60
                    by_cases c7 : t103 = true
                    · subst c7
                      have H1 : (if (wrap64 ((wrap64 (x6_1 * x8_3)) * a0)) = (wrap64 (x7_2 * (wrap64 ((wrap64 (x6_1 + x7_2)) - x8_3)))) then (if x5_3.length < 5864062014805 then (spec_geWorks.l2 k3 a0 a1 (x5_3 ++ [(([(⟨x6_1, x7_2⟩ : S23), (⟨x8_3, wrap64 ((wrap64 (x6_1 + x7_2)) - x8_3)⟩ : S23)] : List (S23)))]) x6_1 x7_2 (wrap64 (x8_3 + 1))) else (none)) else (spec_geWorks.l2 k3 a0 a1 x5_3 x6_1 x7_2 (wrap64 (x8_3 + 1)))) = some r := by rw [if_pos rfl] at H; exact H
                      clear H
                      have H := H1
                      clear H1
                      by_cases c8 : (wrap64 ((wrap64 (x6_1 * x8_3)) * a0)) = (wrap64 (x7_2 * (wrap64 ((wrap64 (x6_1 + x7_2)) - x8_3))))
                      · rw [if_pos c8] at H
                        have c8b0 : ((wrap64 ((wrap64 (x6_1 * x8_3)) * a0)) == (wrap64 (x7_2 * (wrap64 ((wrap64 (x6_1 + x7_2)) - x8_3))))) = true := beq_iff_eq.mpr c8
                        have c8b1 : ((wrap64 ((wrap64 (x6_1 * x8_3)) * a0)) != (wrap64 (x7_2 * (wrap64 ((wrap64 (x6_1 + x7_2)) - x8_3))))) = false := bne_eq_false_iff_eq.mpr c8
                        clear c8
                        obtain ⟨y104, hy104⟩ : ∃ y_ : List (S23), y_ = (([(⟨x6_1, x7_2⟩ : S23), (⟨x8_3, wrap64 ((wrap64 (x6_1 + x7_2)) - x8_3)⟩ : S23)] : List (S23))) := ⟨_, rfl⟩
                        replace H : (if x5_3.length < 5864062014805 then (spec_geWorks.l2 k3 a0 a1 (x5_3 ++ [y104]) x6_1 x7_2 (wrap64 (x8_3 + 1))) else (none)) = some r := by first | (rw [hy104]; with_reducible exact H) | (have H2_ := (Option.bind_some _ _).symm.trans H; rw [hy104]; with_reducible exact H2_) | (have H2_ := (Option.bind_some _ _).symm.trans H; with_reducible exact H2_) | with_reducible exact H | (rw [hy104]; exact H) | exact H
                        have Ny104 := Aside0.mk hy104
                        clear hy104
                        by_cases c9 : x5_3.length < 5864062014805
                        · rw [if_pos c9] at H
                          have LMc9 := Aside0.mk c9
                          clear c9
                          obtain ⟨y107, hy107⟩ : ∃ y_ : List (List (S23)), y_ = (x5_3 ++ [y104]) := ⟨_, rfl⟩
                          replace H : (spec_geWorks.l2 k3 a0 a1 y107 x6_1 x7_2 (wrap64 (x8_3 + 1))) = some r := by first | (rw [hy107]; with_reducible exact H) | (have H2_ := (Option.bind_some _ _).symm.trans H; rw [hy107]; with_reducible exact H2_) | (have H2_ := (Option.bind_some _ _).symm.trans H; with_reducible exact H2_) | with_reducible exact H | (rw [hy107]; exact H) | exact H
                          have Ny107 := Aside0.mk hy107
                          clear hy107
                          have H' := Aside0.mk H
                          clear H
                          go_wp2_with (first | ((with_reducible refine gate_callee (f := 53) rfl ?_); refine goesL_ (some 32) rfl rfl Try.func53 (by kernel_rfl) rfl #[.int .i64 (wrap64 ((wrap64 (x6_1 + x7_2)) - x8_3)), .int .i64 6, .int .i64 a1] rfl (by (try simp only [List.map_toArray, List.map_cons, List.map_nil]); first | done | rfl | (simp only [List.length_drop, List.length_take]; rfl)) ?_; (with_reducible refine (spec_l1In.calls (wrap64 ((wrap64 (x6_1 + x7_2)) - x8_3)) 6 a1 true _ A6.out).mono ?_); rintro e w' ⟨rfl, ⟨nd, rfl⟩⟩; refine ⟨_, rfl, ?_⟩) | ((with_reducible refine gate_dst (N := 51) rfl ?_); refine Kd.R_lit k23 _ 23 ?hg (N := 51) ?hd (xs := ([(⟨x6_1, x7_2⟩ : S23), (⟨x8_3, wrap64 ((wrap64 (x6_1 + x7_2)) - x8_3)⟩ : S23)] : List (S23))) (inner := [.int .i64 x6_1, .int .i64 x7_2, .int .i64 x8_3, .int .i64 (wrap64 ((wrap64 (x6_1 + x7_2)) - x8_3))]) (ok := fun _ => True) (okp := fun _ => True) ?hr ?hp (fun _ hk => hk) trivial (Below.refl _ _) (Nat.le_refl _) (by simp) ?_; (case hd => rfl); (case hg => rfl); (case hr => first | (go_simp; done) | (go_simp; rfl)); (case hp => exact (Reps.c2 (show Kd.M k23 _ _ _ (⟨x6_1, x7_2⟩ : S23) [.int .i64 x6_1, .int .i64 x7_2] from (k23_mkM _ _ _ (⟨x6_1, x7_2⟩ : S23) )) (Reps.c2 (show Kd.M k23 _ _ _ (⟨x8_3, wrap64 ((wrap64 (x6_1 + x7_2)) - x8_3)⟩ : S23) [.int .i64 x8_3, .int .i64 (wrap64 ((wrap64 (x6_1 + x7_2)) - x8_3))] from (k23_mkM _ _ _ (⟨x8_3, wrap64 ((wrap64 (x6_1 + x7_2)) - x8_3)⟩ : S23) )) (Reps.none _ _)))); intro v105 w10 ho11 hb hg_ hnew_; clear hg_ hnew_; (first | rw [← Ny104.out] at ho11 | (simp only [Int.reduceToNat] at ho11; rw [← Ny104.out] at ho11)); have n0_ := Aside0.mk (Kd.S_elder' (by (with_reducible repeat (first | apply Kd.S_alloc | apply Kd.S_drewN | apply Kd.S_drew)); exact HO_5.out) (Kd.R_base ho11) hb); have n1_ := Aside0.mk (Kd.R_lower ho11 (below_size (by repeat (first | (with_reducible first | exact HB.out | apply below_alloc | apply pw_below_drewN | apply below_drew1) | exact HB.out)))); have n2_ := Aside0.mk (below_step (by repeat (first | (with_reducible first | exact HB.out | apply below_alloc | apply pw_below_drewN | apply below_drew1) | exact HB.out)) hb); clear HO_5; clear HB; have HO_5 := n0_; have HO106 := n1_; have HB := n2_; clear n0_ n1_ n2_; clear hb ho11; obtain ⟨Ao13, co13, eo13⟩ := Kd.R_slice HO106.out; subst eo13) | ((with_reducible refine gate_builtin (b := .append) (xs := #[.tmp 44, .tmp 52]) rfl ?_); at_builtin; refine Kd.S_append (Kd.slice 23 k23) (w0 := w) w.heap.size rfl (.tmp 44) (.tmp 52) 34 28 (.slice none 0 0) 24 rfl Try.underlying34 info28 rfl (by decide) (by omega) u5 x5_3 y104 [.slice Ao13 y104.length co13] (fun _ => True) (fun k_ => some k_ = (.slice Ao13 y104.length co13 : Value).ownBlock) rfl rfl ?aP (fun k_ hk_ => ((Kd.R_mono (ok' := fun k_ => ((fun _ => True)) k_ ∧ some k_ ≠ (u5 : Value).ownBlock) (Kd.R_apart' (HO106.out) (Kd.S_typed HO_5.out) (by decide)) (fun k_ hk => ⟨trivial, hk.2⟩))).1 k_ hk_.symm) ?aF ?aO ?aB ?aS ?aL ?_; (case aP => exact Kd.M_row (Kd.R_mono (Kd.R_tight rfl (Kd.R_mono (ok' := fun k_ => ((fun _ => True)) k_ ∧ some k_ ≠ (u5 : Value).ownBlock) (Kd.R_apart' (HO106.out) (Kd.S_typed HO_5.out) (by decide)) (fun k_ hk => ⟨trivial, hk.2⟩))) (fun _ h_ => h_))); (case aB => exact (by repeat (first | (with_reducible first | exact HB.out | apply below_alloc | apply pw_below_drewN | apply below_drew1) | exact HB.out))); (case aF => exact (fun _ _ => trivial)); (case aO => exact (by (with_reducible repeat (first | apply Kd.S_alloc | apply Kd.S_drewN | apply Kd.S_drew)); exact Kd.S_mono HO_5.out (fun k_ hk => ⟨trivial, fun e_ => hk.2 e_⟩))); (case aS => exact (below_size (by repeat (first | (with_reducible first | exact HB.out | apply below_alloc | apply pw_below_drewN | apply below_drew1) | exact HB.out)))); (case aL => have := LMc9.out; omega); intro v108 w12 ho hb hg hat; rw [← Ny107.out] at ho; have n0_ := Aside0.mk (hb); have n1_ := Aside0.mk (ho); clear HB; clear HO_5; clear HO106; have HB := n0_; have HO109 := n1_; clear n0_ n1_; clear ho hb hg hat))
                          go_roundg k3
                          case measure => have := HK1.out; have := HK2.out; have := HK3.out; omega
                          case rel => exact ⟨(y107), (wrap64 (x8_3 + 1)), (by first | rfl | (simp; done) | (simp [*]; done)), H', ⟨by have := HK1.out; have := HK2.out; have := HK3.out; omega⟩, ⟨by (with_reducible repeat (first | apply Kd.S_alloc | apply Kd.S_drewN | apply Kd.S_drew)); exact HO109.out⟩, ⟨by repeat (first | (with_reducible first | exact HB.out | apply below_alloc | apply pw_below_drewN | apply below_drew1) | exact HB.out)⟩⟩
                        · rw [if_neg c9] at H
                          exact absurd H (by simp)
                      · rw [if_neg c8] at H
                        have c8b0 : ((wrap64 ((wrap64 (x6_1 * x8_3)) * a0)) == (wrap64 (x7_2 * (wrap64 ((wrap64 (x6_1 + x7_2)) - x8_3))))) = false := beq_eq_false_iff_ne.mpr c8
                        have c8b1 : ((wrap64 ((wrap64 (x6_1 * x8_3)) * a0)) != (wrap64 (x7_2 * (wrap64 ((wrap64 (x6_1 + x7_2)) - x8_3))))) = true := bne_iff_ne.mpr c8
                        have H' := Aside0.mk H
                        clear H
                        go_wp2_with (first | ((with_reducible refine gate_callee (f := 53) rfl ?_); refine goesL_ (some 32) rfl rfl Try.func53 (by kernel_rfl) rfl #[.int .i64 (wrap64 ((wrap64 (x6_1 + x7_2)) - x8_3)), .int .i64 6, .int .i64 a1] rfl (by (try simp only [List.map_toArray, List.map_cons, List.map_nil]); first | done | rfl | (simp only [List.length_drop, List.length_take]; rfl)) ?_; (with_reducible refine (spec_l1In.calls (wrap64 ((wrap64 (x6_1 + x7_2)) - x8_3)) 6 a1 true _ A6.out).mono ?_); rintro e w' ⟨rfl, ⟨nd, rfl⟩⟩; refine ⟨_, rfl, ?_⟩))
                        go_roundg k3
                        case measure => have := HK1.out; have := HK2.out; have := HK3.out; omega
                        case rel => exact ⟨(x5_3), (wrap64 (x8_3 + 1)), (by first | rfl | (simp; done) | (simp [*]; done)), H', ⟨by have := HK1.out; have := HK2.out; have := HK3.out; omega⟩, ⟨by (with_reducible repeat (first | apply Kd.S_alloc | apply Kd.S_drewN | apply Kd.S_drew)); exact HO_5.out⟩, ⟨by repeat (first | (with_reducible first | exact HB.out | apply below_alloc | apply pw_below_drewN | apply below_drew1) | exact HB.out)⟩⟩
                    · replace c7 := Bool.eq_false_iff.mpr c7
                      subst c7
                      have H1 : (spec_geWorks.l2 k3 a0 a1 x5_3 x6_1 x7_2 (wrap64 (x8_3 + 1))) = some r := by rw [if_neg (show ¬ (false = true) by decide)] at H; exact H
                      clear H
                      have H := H1
                      clear H1
                      have H' := Aside0.mk H
                      clear H
                      go_wp2_with (first | ((with_reducible refine gate_callee (f := 53) rfl ?_); refine goesL_ (some 32) rfl rfl Try.func53 (by kernel_rfl) rfl #[.int .i64 (wrap64 ((wrap64 (x6_1 + x7_2)) - x8_3)), .int .i64 6, .int .i64 a1] rfl (by (try simp only [List.map_toArray, List.map_cons, List.map_nil]); first | done | rfl | (simp only [List.length_drop, List.length_take]; rfl)) ?_; (with_reducible refine (spec_l1In.calls (wrap64 ((wrap64 (x6_1 + x7_2)) - x8_3)) 6 a1 false _ A6.out).mono ?_); rintro e w' ⟨rfl, ⟨nd, rfl⟩⟩; refine ⟨_, rfl, ?_⟩))
                      go_roundg k3
                      case measure => have := HK1.out; have := HK2.out; have := HK3.out; omega
                      case rel => exact ⟨(x5_3), (wrap64 (x8_3 + 1)), (by first | rfl | (simp; done) | (simp [*]; done)), H', ⟨by have := HK1.out; have := HK2.out; have := HK3.out; omega⟩, ⟨by (with_reducible repeat (first | apply Kd.S_alloc | apply Kd.S_drewN | apply Kd.S_drew)); exact HO_5.out⟩, ⟨by repeat (first | (with_reducible first | exact HB.out | apply below_alloc | apply pw_below_drewN | apply below_drew1) | exact HB.out)⟩⟩
                  · rw [if_neg c5] at H
                    have c5b0 : decide (x8_3 ≤ a1) = false := decide_eq_false c5
                    clear c5
                    have H' := Aside0.mk H
                    clear H
                    go_wp2
                    go_roundg k3
                    case measure => have := HK1.out; have := HK2.out; have := HK3.out; omega
                    case rel => exact ⟨(x5_3), (wrap64 (x7_2 + 1)), (by first | rfl | (simp; done) | (simp [*]; done)), H', ⟨by have := HK1.out; have := HK2.out; have := HK3.out; omega⟩, ⟨by (with_reducible repeat (first | apply Kd.S_alloc | apply Kd.S_drewN | apply Kd.S_drew)); exact HO_5.out⟩, ⟨by repeat (first | (with_reducible first | exact HB.out | apply below_alloc | apply pw_below_drewN | apply below_drew1) | exact HB.out)⟩⟩
            · rw [if_neg c4] at H
              have c4b0 : decide (x7_2 ≤ a1) = false := decide_eq_false c4
              clear c4
              have H' := Aside0.mk H
              clear H
              go_wp2
              go_roundg k2
              case measure => have := HK1.out; have := HK2.out; omega
              case rel => exact ⟨(x5_2), (wrap64 (x6_1 + 1)), (by first | rfl | (simp; done) | (simp [*]; done)), H', ⟨by have := HK1.out; have := HK2.out; omega⟩, ⟨by (with_reducible repeat (first | apply Kd.S_alloc | apply Kd.S_drewN | apply Kd.S_drew)); exact HO_5.out⟩, ⟨by repeat (first | (with_reducible first | exact HB.out | apply below_alloc | apply pw_below_drewN | apply below_drew1) | exact HB.out)⟩⟩
      · rw [if_neg c3] at H
        have c3b0 : decide (x6_1 ≤ a1) = false := decide_eq_false c3
        clear c3
        obtain rfl := Option.some.inj H
        go_wp2
        go_ret
        exact ⟨_, by first | rfl | (simp [errW_none, errW_some] <;> rfl) | (simp [*, errW_none, errW_some] <;> rfl), by (with_reducible repeat (first | apply Kd.S_alloc | apply Kd.S_drewN | apply Kd.S_drew)); exact HO_5.out, by repeat (first | (with_reducible first | exact HB.out | apply below_alloc | apply pw_below_drewN | apply below_drew1) | exact HB.out)⟩

-- NOT PRINTED: function 12 (spec_FirstMotionWork)

/-! ### impl_within: function 55 -/
def impl_within.f (a0 : Int) (a1 : Int) (a2 : Int) : Option (Bool) := if a0 ≥ a1 then (some (decide (a0 ≤ a2))) else (some false)
set_option maxHeartbeats 8000000 in
set_option maxRecDepth 100000 in
theorem impl_within.calls (a0 : Int) (a1 : Int) (a2 : Int) (r : Bool) (w : World) (h : impl_within.f a0 a1 a2 = some r) :
    Calls Try.prog 55 #[.int .i64 a0, .int .i64 a1, .int .i64 a2] w fun e w' => e = .returned (.bool r) ∧ Drawn0 w w' := by
  have H : (if a0 ≥ a1 then (some (decide (a0 ≤ a2))) else (some false)) = some r := h
  clear h
  by_cases c4 : a0 ≥ a1
  · rw [if_pos c4] at H
    have c4b0 : decide (a1 ≤ a0) = true := decide_eq_true c4
    clear c4
    obtain rfl := Option.some.inj H
    go_enter Try.func55, Try.ntmps55
    go_wp2
    go_ret
    exact ⟨by first | rfl | (simp; done) | (simp [*]; done), by repeat (first | exact Drawn0.refl _ | apply Drawn0.step)⟩
  · rw [if_neg c4] at H
    have c4b0 : decide (a1 ≤ a0) = false := decide_eq_false c4
    clear c4
    obtain rfl := Option.some.inj H
    go_enter Try.func55, Try.ntmps55
    go_wp2
    go_ret
    exact ⟨by first | rfl | (simp; done) | (simp [*]; done), by repeat (first | exact Drawn0.refl _ | apply Drawn0.step)⟩

/-! ### impl_isDial: function 44 -/
def impl_isDial.f (a0 : Int) : Option (Bool) := (impl_within.f a0 2 24).bind fun t121 => (some t121)
set_option maxHeartbeats 8000000 in
set_option maxRecDepth 100000 in
theorem impl_isDial.calls (a0 : Int) (r : Bool) (w : World) (h : impl_isDial.f a0 = some r) :
    Calls Try.prog 44 #[.int .i64 a0] w fun e w' => e = .returned (.bool r) ∧ Drawn0 w w' := by
  have H : ((impl_within.f a0 2 24).bind fun t121 => (some t121)) = some r := h
  clear h
  replace H := Option.bind_eq_some_iff.mp H
  obtain ⟨t121, A20, H⟩ := H
  replace H : (some t121) = some r := H
  have A2 := Aside0.mk A20
  clear A20
  obtain rfl := Option.some.inj H
  go_enter Try.func44, Try.ntmps44
  go_wp2_with (first | ((with_reducible refine gate_callee (f := 55) rfl ?_); refine goesL_ (some 4) rfl rfl Try.func55 (by kernel_rfl) rfl #[.int .i64 a0, .int .i64 2, .int .i64 24] rfl (by (try simp only [List.map_toArray, List.map_cons, List.map_nil]); first | done | rfl | (simp only [List.length_drop, List.length_take]; rfl)) ?_; (with_reducible refine (impl_within.calls a0 2 24 t121 _ A2.out).mono ?_); rintro e w' ⟨rfl, ⟨nd, rfl⟩⟩; refine ⟨_, rfl, ?_⟩))
  go_ret
  exact ⟨by first | rfl | (simp; done) | (simp [*]; done), by repeat (first | exact Drawn0.refl _ | apply Drawn0.step)⟩

/-! ### impl_areTeeth: function 45 -/
def impl_areTeeth.f (a0 : Int) : Option (Bool) := (impl_within.f a0 6 120).bind fun t122 => (some t122)
set_option maxHeartbeats 8000000 in
set_option maxRecDepth 100000 in
theorem impl_areTeeth.calls (a0 : Int) (r : Bool) (w : World) (h : impl_areTeeth.f a0 = some r) :
    Calls Try.prog 45 #[.int .i64 a0] w fun e w' => e = .returned (.bool r) ∧ Drawn0 w w' := by
  have H : ((impl_within.f a0 6 120).bind fun t122 => (some t122)) = some r := h
  clear h
  replace H := Option.bind_eq_some_iff.mp H
  obtain ⟨t122, A20, H⟩ := H
  replace H : (some t122) = some r := H
  have A2 := Aside0.mk A20
  clear A20
  obtain rfl := Option.some.inj H
  go_enter Try.func45, Try.ntmps45
  go_wp2_with (first | ((with_reducible refine gate_callee (f := 55) rfl ?_); refine goesL_ (some 4) rfl rfl Try.func55 (by kernel_rfl) rfl #[.int .i64 a0, .int .i64 6, .int .i64 120] rfl (by (try simp only [List.map_toArray, List.map_cons, List.map_nil]); first | done | rfl | (simp only [List.length_drop, List.length_take]; rfl)) ?_; (with_reducible refine (impl_within.calls a0 6 120 t122 _ A2.out).mono ?_); rintro e w' ⟨rfl, ⟨nd, rfl⟩⟩; refine ⟨_, rfl, ?_⟩))
  go_ret
  exact ⟨by first | rfl | (simp; done) | (simp [*]; done), by repeat (first | exact Drawn0.refl _ | apply Drawn0.step)⟩

/-! ### impl_works: function 46 -/
def wkS (d f : Int) : Int := wrap64 (d + f)
def wkP (h d f : Int) : Int := wrap64 (wrap64 (h * d) + f)
def wkC (h d f : Int) : Int := wrap64 (Int.tdiv (wrap64 (wkS d f * f)) (wkP h d f))
def wkN (h m d f : Int) (out : List (List S23)) : List (List S23) :=
  if Int.tmod (wrap64 (wkS d f * f)) (wkP h d f) = 0 then (if (6 ≤ wkC h d f ∧ wkC h d f ≤ m) ∧ (6 ≤ wrap64 (wkS d f - wkC h d f) ∧ wrap64 (wkS d f - wkC h d f) ≤ m) then out ++ [[⟨d, f⟩, ⟨wkC h d f, wrap64 (wkS d f - wkC h d f)⟩]] else out) else out
structure WkI (W0 : World) (bh bm bo : Nat) (h m : Int) (out : List (List S23)) (w : World) : Prop where
  hh : w.heap[bh]? = some (.cells #[.int .i64 h] 3 (0, 0))
  hm : w.heap[bm]? = some (.cells #[.int .i64 m] 3 (0, 0))
  ho : ∃ v, w.heap[bo]? = some (.cells #[v] 34 (0, 0)) ∧ Kd.S (Kd.slice 23 k23) 28 w W0.heap.size (fun _ => True) v out
  ge : W0.heap.size ≤ bo
  hB : Below W0.heap.size W0 w
theorem within_w (a b c : Int) : impl_within.f a b c = some (decide (b ≤ a ∧ a ≤ c)) := by
  unfold impl_within.f
  by_cases g : a ≥ b
  · rw [if_pos g]
    congr 1
    exact decide_eq_decide.2 ⟨fun x => ⟨g, x⟩, fun x => x.2⟩
  · rw [if_neg g]
    congr 1
    exact (decide_eq_false (fun x => g x.1)).symm

structure WkJ (W0 : World) (bh bm bo q : Nat) (h m : Int) (v : Value) (out : List (List S23)) (w : World) : Prop where
  hh : w.heap[bh]? = some (.cells #[.int .i64 h] 3 (0, 0))
  hm : w.heap[bm]? = some (.cells #[.int .i64 m] 3 (0, 0))
  ho : w.heap[bo]? = some (.cells #[v] 34 (0, 0))
  hS : Kd.S (Kd.slice 23 k23) 28 w W0.heap.size (fun k => True ∧ k ≠ q) v out
  ge : W0.heap.size ≤ bo
  geq : W0.heap.size ≤ q
  hB : Below W0.heap.size W0 w
  nh : bh ≠ q
  nm : bm ≠ q
  no : bo ≠ q
section
variable {W0 : World} {bh bm bo q : Nat} {h m : Int} {v : Value} {out : List (List S23)} {w : World}
theorem WkJ.put (j : WkJ W0 bh bm bo q h m v out w) (i : Nat) (x : Value) : WkJ W0 bh bm bo q h m v out (w.setCell ⟨q, i, none⟩ x) :=
  ⟨blk_far j.hh j.nh x, blk_far j.hm j.nm x, blk_far j.ho j.no x, Kd.S_far (p := ⟨q, i, none⟩) j.hS (fun k hk => hk.2) x, j.ge, j.geq, below_set j.hB j.geq, j.nh, j.nm, j.no⟩
theorem WkJ.drewN (j : WkJ W0 bh bm bo q h m v out w) (n : Nat) : WkJ W0 bh bm bo q h m v out (w.drewN n) :=
  ⟨j.hh, j.hm, j.ho, Kd.S_drewN j.hS n, j.ge, j.geq, pw_below_drewN j.hB n, j.nh, j.nm, j.no⟩
structure WkL (W0 : World) (bh bm bo : Nat) (h m : Int) (v : Value) (out : List (List S23)) (u : Value) (ys : List S23) (w : World) : Prop where
  hh : w.heap[bh]? = some (.cells #[.int .i64 h] 3 (0, 0))
  hm : w.heap[bm]? = some (.cells #[.int .i64 m] 3 (0, 0))
  ho : w.heap[bo]? = some (.cells #[v] 34 (0, 0))
  hS : Kd.S (Kd.slice 23 k23) 28 w W0.heap.size (fun k => True ∧ some k ≠ u.ownBlock) v out
  hR : Kd.R k23 23 w W0.heap.size (fun _ => True) u ys
  ge : W0.heap.size ≤ bo
  hB : Below W0.heap.size W0 w
theorem WkJ.lit (j : WkJ W0 bh bm bo q h m v out w) {w8 : World} {u : Value} {ys : List S23} (hb : Below w.heap.size w w8) (ho : Kd.R k23 23 w8 w.heap.size (fun _ => True) u ys) : WkL W0 bh bm bo h m v out u ys w8 :=
  ⟨blk_below j.hh hb, blk_below j.hm hb, blk_below j.ho hb, Kd.S_mono (Kd.S_elder' j.hS (Kd.R_base ho) hb) (fun _ hk => ⟨trivial, hk.2⟩), Kd.R_lower ho (below_size j.hB), j.ge, below_step j.hB hb⟩
theorem WkL.apart {u : Value} {ys : List S23} (l : WkL W0 bh bm bo h m v out u ys w) : ∀ k, some k = u.ownBlock → True ∧ some k ≠ v.ownBlock :=
  fun k hk => ⟨trivial, ((Kd.R_apart' l.hR (Kd.S_typed l.hS) (by decide)).1 k hk.symm).2⟩
theorem WkL.grown {u : Value} {ys : List S23} (l : WkL W0 bh bm bo h m v out u ys w) {w1 : World} (hg : w.grownBy w1 v.ownBlock) {g t : Nat} {cs : Array Value} (hb : w.heap[g]? = some (.cells cs t (0, 0))) (ht : 28 ≠ t) : w1.heap[g]? = some (.cells cs t (0, 0)) :=
  (hg.block g (blk_lt hb) (Kd.S_ne l.hS hb ht)).trans hb
theorem WkL.done {u v1 : Value} {ys : List S23} {out1 : List (List S23)} (l : WkL W0 bh bm bo h m v out u ys w) {w1 : World} (hg : w.grownBy w1 v.ownBlock) (hs : Kd.S (Kd.slice 23 k23) 28 w1 W0.heap.size (fun _ => True) v1 out1) (hb : Below W0.heap.size W0 w1) : WkI W0 bh bm bo h m out1 (w1.setCell ⟨bo, 0, none⟩ v1) :=
  have o := l.grown hg l.ho (by decide)
  have nh := blk_ne l.hh l.ho (by decide)
  have nm := blk_ne l.hm l.ho (by decide)
  ⟨blk_far (l.grown hg l.hh (by decide)) nh _, blk_far (l.grown hg l.hm (by decide)) nm _, ⟨v1, blk_put o 0 _ rfl, Kd.S_set hs o (by decide) 0 _⟩, l.ge, below_set hb l.ge⟩
theorem WkJ.toI (j : WkJ W0 bh bm bo q h m v out w) : WkI W0 bh bm bo h m out w := ⟨j.hh, j.hm, ⟨v, j.ho, Kd.S_mono j.hS (fun _ _ => trivial)⟩, j.ge, j.hB⟩
end

set_option maxHeartbeats 8000000 in
set_option maxRecDepth 100000 in
theorem works_rem (W0 : World) (d f h m : Int) (bh bm bo : Nat) (out : List (List S23)) (w : World) (hI : WkI W0 bh bm bo h m out w) (hp : ¬ wkP h d f = 0) (ht : ¬ Int.tmod (wrap64 (wkS d f * f)) (wkP h d f) = 0) :
    Calls Try.prog 57 #[.agg #[.int .i64 d, .int .i64 f], .pointer (some ⟨bh, 0, none⟩), .pointer (some ⟨bm, 0, none⟩), .pointer (some ⟨bo, 0, none⟩)] w fun e w' => e = .returned (.tuple #[]) ∧ WkI W0 bh bm bo h m out w' := by
  have hu23 := Try.underlying23
  obtain ⟨hh, hm, ⟨v, ho, hS⟩, hge, hB⟩ := hI
  obtain ⟨A, c, rfl, hc, hC⟩ := Kd.S_reads hS
  have Nh := Aside0.mk (blk_ne ho hh (by decide))
  have Nm := Aside0.mk (blk_ne ho hm (by decide))
  have HB := Aside0.mk hB
  have GE := Aside0.mk hge
  have BKh := Aside0.mk hh
  have BKm := Aside0.mk hm
  have BKo := Aside0.mk ho
  have HO := Aside0.mk hS
  have p0 : (wrap64 (wrap64 (h * d) + f) == 0) = false := beq_eq_false_iff_ne.2 hp
  have p1 : ¬ wrap64 (wrap64 (h * d) + f) = 0 := hp
  clear hh hm ho hS hge hB hC hc hp
  have t0 : (Int.tmod (wrap64 (wrap64 (d + f) * f)) (wrap64 (wrap64 (h * d) + f)) != 0) = true := bne_iff_ne.2 ht
  clear ht
  go_enter Try.func57, Try.ntmps57
  go_wp2_with (first | ((with_reducible refine gate_dst (N := 4) rfl ?_); (refine box_event ?hg (N := 4) ?hd (cs := #[.int .i64 d, .int .i64 f]) (t := 23) ?hr ?_; (case hd => rfl); (case hg => rfl); (case hr => first | (go_simp; done) | (go_simp; rfl)); intro g hg w1 hbox hb; have BKg := Aside0.mk hbox; have n0_ := Aside0.mk (below_step (by repeat (first | (with_reducible first | exact HB.out | apply below_alloc | apply pw_below_drewN | apply below_drew1) | exact HB.out)) hb); have n1_ := Aside0.mk (blk_below (by (with_reducible repeat (first | refine blk_drewN ?_ _ | refine blk_drew ?_ | refine blk_alloc ?_ _)); exact BKh.out) hb); have n2_ := Aside0.mk (blk_below (by (with_reducible repeat (first | refine blk_drewN ?_ _ | refine blk_drew ?_ | refine blk_alloc ?_ _)); exact BKm.out) hb); have n3_ := Aside0.mk (blk_below (by (with_reducible repeat (first | refine blk_drewN ?_ _ | refine blk_drew ?_ | refine blk_alloc ?_ _)); exact BKo.out) hb); have n4_ := Aside0.mk (Kd.S_below (by (with_reducible repeat (first | apply Kd.S_alloc | apply Kd.S_drewN | apply Kd.S_drew)); exact HO.out) hb); clear HB BKh BKm BKo HO; have HB := n0_; have BKh := n1_; have BKm := n2_; have BKo := n3_; have HO := n4_; clear n0_ n1_ n2_ n3_ n4_; clear hb hbox hg; have haBKh0 : w1.cell? ⟨bh, 0, none⟩ = some (.int .i64 h) := (blk_cell BKh.out 0).trans rfl; have haBKm0 : w1.cell? ⟨bm, 0, none⟩ = some (.int .i64 m) := (blk_cell BKm.out 0).trans rfl; have haBKo0 : w1.cell? ⟨bo, 0, none⟩ = some (.slice A out.length c) := (blk_cell BKo.out 0).trans rfl; have hfaBKo0 := blk_frozen BKo.out 0; have haBKg0 : w1.cell? ⟨g, 0, none⟩ = some (.int .i64 d) := (blk_cell BKg.out 0).trans rfl; have haBKg1 : w1.cell? ⟨g, 1, none⟩ = some (.int .i64 f) := (blk_cell BKg.out 1).trans rfl)))
  refine bodyPost_ret (results_none rfl _ _ _) rfl ⟨rfl, ⟨(by (with_reducible repeat (first | refine blk_drewN ?_ _ | refine blk_drew ?_ | refine blk_alloc ?_ _)); exact BKh.out), (by (with_reducible repeat (first | refine blk_drewN ?_ _ | refine blk_drew ?_ | refine blk_alloc ?_ _)); exact BKm.out), ⟨_, (by (with_reducible repeat (first | refine blk_drewN ?_ _ | refine blk_drew ?_ | refine blk_alloc ?_ _)); exact BKo.out), (by (with_reducible repeat (first | apply Kd.S_alloc | apply Kd.S_drewN | apply Kd.S_drew)); exact HO.out)⟩, GE.out, (by repeat (first | (with_reducible first | exact HB.out | apply below_alloc | apply pw_below_drewN | apply below_drew1) | exact HB.out))⟩⟩

set_option maxHeartbeats 8000000 in
set_option maxRecDepth 100000 in
theorem works_one (W0 : World) (d f h m : Int) (bh bm bo : Nat) (out : List (List S23)) (w : World) (hI : WkI W0 bh bm bo h m out w) (hp : ¬ wkP h d f = 0) (ht : Int.tmod (wrap64 (wkS d f * f)) (wkP h d f) = 0) (h1 : ¬ (6 ≤ wkC h d f ∧ wkC h d f ≤ m)) :
    Calls Try.prog 57 #[.agg #[.int .i64 d, .int .i64 f], .pointer (some ⟨bh, 0, none⟩), .pointer (some ⟨bm, 0, none⟩), .pointer (some ⟨bo, 0, none⟩)] w fun e w' => e = .returned (.tuple #[]) ∧ WkI W0 bh bm bo h m out w' := by
  have hu23 := Try.underlying23
  obtain ⟨hh, hm, ⟨v, ho, hS⟩, hge, hB⟩ := hI
  obtain ⟨A, c, rfl, hc, hC⟩ := Kd.S_reads hS
  have Nh := Aside0.mk (blk_ne ho hh (by decide))
  have Nm := Aside0.mk (blk_ne ho hm (by decide))
  have HB := Aside0.mk hB
  have GE := Aside0.mk hge
  have BKh := Aside0.mk hh
  have BKm := Aside0.mk hm
  have BKo := Aside0.mk ho
  have HO := Aside0.mk hS
  have p0 : (wrap64 (wrap64 (h * d) + f) == 0) = false := beq_eq_false_iff_ne.2 hp
  have p1 : ¬ wrap64 (wrap64 (h * d) + f) = 0 := hp
  clear hh hm ho hS hge hB hC hc hp
  have t0 : (Int.tmod (wrap64 (wrap64 (d + f) * f)) (wrap64 (wrap64 (h * d) + f)) != 0) = false := by
    have : Int.tmod (wrap64 (wrap64 (d + f) * f)) (wrap64 (wrap64 (h * d) + f)) = 0 := ht
    rw [this]
    rfl
  clear ht
  have d1 : decide (6 ≤ wrap64 (Int.tdiv (wrap64 (wrap64 (d + f) * f)) (wrap64 (wrap64 (h * d) + f))) ∧ wrap64 (Int.tdiv (wrap64 (wrap64 (d + f) * f)) (wrap64 (wrap64 (h * d) + f))) ≤ m) = false := decide_eq_false h1
  clear h1
  go_enter Try.func57, Try.ntmps57
  go_upto_region 6 with (first | ((with_reducible refine gate_dst (N := 4) rfl ?_); (refine box_event ?hg (N := 4) ?hd (cs := #[.int .i64 d, .int .i64 f]) (t := 23) ?hr ?_; (case hd => rfl); (case hg => rfl); (case hr => first | (go_simp; done) | (go_simp; rfl)); intro g hg w1 hbox hb; have BKg := Aside0.mk hbox; have n0_ := Aside0.mk (below_step (by repeat (first | (with_reducible first | exact HB.out | apply below_alloc | apply pw_below_drewN | apply below_drew1) | exact HB.out)) hb); have n1_ := Aside0.mk (blk_below (by (with_reducible repeat (first | refine blk_drewN ?_ _ | refine blk_drew ?_ | refine blk_alloc ?_ _)); exact BKh.out) hb); have n2_ := Aside0.mk (blk_below (by (with_reducible repeat (first | refine blk_drewN ?_ _ | refine blk_drew ?_ | refine blk_alloc ?_ _)); exact BKm.out) hb); have n3_ := Aside0.mk (blk_below (by (with_reducible repeat (first | refine blk_drewN ?_ _ | refine blk_drew ?_ | refine blk_alloc ?_ _)); exact BKo.out) hb); have n4_ := Aside0.mk (Kd.S_below (by (with_reducible repeat (first | apply Kd.S_alloc | apply Kd.S_drewN | apply Kd.S_drew)); exact HO.out) hb); clear HB BKh BKm BKo HO; have HB := n0_; have BKh := n1_; have BKm := n2_; have BKo := n3_; have HO := n4_; clear n0_ n1_ n2_ n3_ n4_; clear hb hbox hg; have haBKh0 : w1.cell? ⟨bh, 0, none⟩ = some (.int .i64 h) := (blk_cell BKh.out 0).trans rfl; have haBKm0 : w1.cell? ⟨bm, 0, none⟩ = some (.int .i64 m) := (blk_cell BKm.out 0).trans rfl; have haBKo0 : w1.cell? ⟨bo, 0, none⟩ = some (.slice A out.length c) := (blk_cell BKo.out 0).trans rfl; have hfaBKo0 := blk_frozen BKo.out 0; have haBKg0 : w1.cell? ⟨g, 0, none⟩ = some (.int .i64 d) := (blk_cell BKg.out 0).trans rfl; have haBKg1 : w1.cell? ⟨g, 1, none⟩ = some (.int .i64 f) := (blk_cell BKg.out 1).trans rfl)) | ((with_reducible refine gate_dst (N := 7) rfl ?_); (refine box_event ?hg (N := 7) ?hd (cs := #[.int .i64 0, .int .i64 0]) (t := 23) ?hr ?_; (case hd => rfl); (case hg => rfl); (case hr => first | (go_simp; done) | (go_simp; rfl)); intro q hg w2 hbox hb; have BKq := Aside0.mk hbox; have n0_ := Aside0.mk (below_step (by repeat (first | (with_reducible first | exact HB.out | apply below_alloc | apply pw_below_drewN | apply below_drew1) | exact HB.out)) hb); have n1_ := Aside0.mk (blk_below (by (with_reducible repeat (first | refine blk_drewN ?_ _ | refine blk_drew ?_ | refine blk_alloc ?_ _)); exact BKh.out) hb); have n2_ := Aside0.mk (blk_below (by (with_reducible repeat (first | refine blk_drewN ?_ _ | refine blk_drew ?_ | refine blk_alloc ?_ _)); exact BKm.out) hb); have n3_ := Aside0.mk (blk_below (by (with_reducible repeat (first | refine blk_drewN ?_ _ | refine blk_drew ?_ | refine blk_alloc ?_ _)); exact BKo.out) hb); have n4_ := Aside0.mk (blk_below (by (with_reducible repeat (first | refine blk_drewN ?_ _ | refine blk_drew ?_ | refine blk_alloc ?_ _)); exact BKg.out) hb); have n5_ := Aside0.mk (Kd.S_below (Kd.S_elderB (by (with_reducible repeat (first | apply Kd.S_alloc | apply Kd.S_drewN | apply Kd.S_drew)); exact HO.out) q (Nat.le_of_eq hg.symm)) hb); have GEq := Aside0.mk (by rw [hg]; exact (below_size (by repeat (first | (with_reducible first | exact HB.out | apply below_alloc | apply pw_below_drewN | apply below_drew1) | exact HB.out))) : W0.heap.size ≤ q); have NBKhq := Aside0.mk ((by rw [hg]; exact Nat.ne_of_lt (blk_lt (by (with_reducible repeat (first | refine blk_drewN ?_ _ | refine blk_drew ?_ | refine blk_alloc ?_ _)); exact BKh.out))) : bh ≠ q); have NBKmq := Aside0.mk ((by rw [hg]; exact Nat.ne_of_lt (blk_lt (by (with_reducible repeat (first | refine blk_drewN ?_ _ | refine blk_drew ?_ | refine blk_alloc ?_ _)); exact BKm.out))) : bm ≠ q); have NBKoq := Aside0.mk ((by rw [hg]; exact Nat.ne_of_lt (blk_lt (by (with_reducible repeat (first | refine blk_drewN ?_ _ | refine blk_drew ?_ | refine blk_alloc ?_ _)); exact BKo.out))) : bo ≠ q); have NBKgq := Aside0.mk ((by rw [hg]; exact Nat.ne_of_lt (blk_lt (by (with_reducible repeat (first | refine blk_drewN ?_ _ | refine blk_drew ?_ | refine blk_alloc ?_ _)); exact BKg.out))) : g ≠ q); clear HB BKh BKm BKo BKg HO; have HB := n0_; have BKh := n1_; have BKm := n2_; have BKo := n3_; have BKg := n4_; have HO := n5_; clear n0_ n1_ n2_ n3_ n4_ n5_; clear hb hbox hg; have hbBKh0 : w2.cell? ⟨bh, 0, none⟩ = some (.int .i64 h) := (blk_cell BKh.out 0).trans rfl; have hbBKm0 : w2.cell? ⟨bm, 0, none⟩ = some (.int .i64 m) := (blk_cell BKm.out 0).trans rfl; have hbBKo0 : w2.cell? ⟨bo, 0, none⟩ = some (.slice A out.length c) := (blk_cell BKo.out 0).trans rfl; have hfbBKo0 := blk_frozen BKo.out 0; have hbBKg0 : w2.cell? ⟨g, 0, none⟩ = some (.int .i64 d) := (blk_cell BKg.out 0).trans rfl; have hbBKg1 : w2.cell? ⟨g, 1, none⟩ = some (.int .i64 f) := (blk_cell BKg.out 1).trans rfl; have hbBKq0 : w2.cell? ⟨q, 0, none⟩ = some (.int .i64 0) := (blk_cell BKq.out 0).trans rfl; have hfbBKq0 := blk_frozen BKq.out 0; have hbBKq1 : w2.cell? ⟨q, 1, none⟩ = some (.int .i64 0) := (blk_cell BKq.out 1).trans rfl; have hfbBKq1 := blk_frozen BKq.out 1; have hnq1 := NBKgq.out; have hnq2 := NBKgq.out.symm; have hnq3 := NBKmq.out; have hnq4 := NBKmq.out.symm; have hnq5 := NBKoq.out; have hnq6 := NBKoq.out.symm)))
  have J := Aside0.mk (show WkJ W0 bh bm bo q h m (.slice A out.length c) out (((w2.setCell ⟨q, 0, none⟩ (.int .i64 (wrap64 (Int.tdiv (wrap64 (wrap64 (d + f) * f)) (wrap64 (wrap64 (h * d) + f)))))).setCell ⟨q, 1, none⟩ (.int .i64 0)).setCell ⟨q, 1, none⟩ (.int .i64 (wrap64 (wrap64 (d + f) - wrap64 (Int.tdiv (wrap64 (wrap64 (d + f) * f)) (wrap64 (wrap64 (h * d) + f))))))) by (with_reducible repeat (first | apply WkJ.drewN | apply WkJ.put)); exact ⟨BKh.out, BKm.out, BKo.out, HO.out, GE.out, GEq.out, HB.out, NBKhq.out, NBKmq.out, NBKoq.out⟩)
  have GG : Aside0 ((((w2.setCell ⟨q, 0, none⟩ (.int .i64 (wrap64 (Int.tdiv (wrap64 (wrap64 (d + f) * f)) (wrap64 (wrap64 (h * d) + f)))))).setCell ⟨q, 1, none⟩ (.int .i64 0)).setCell ⟨q, 1, none⟩ (.int .i64 (wrap64 (wrap64 (d + f) - wrap64 (Int.tdiv (wrap64 (wrap64 (d + f) * f)) (wrap64 (wrap64 (h * d) + f))))))).heap[g]? = some (.cells #[.int .i64 d, .int .i64 f] 23 (0, 0))) := ⟨blk_far (blk_far (blk_far BKg.out NBKgq.out _) NBKgq.out _) NBKgq.out _⟩
  have hz1 : (((w2.setCell ⟨q, 0, none⟩ (.int .i64 (wrap64 (Int.tdiv (wrap64 (wrap64 (d + f) * f)) (wrap64 (wrap64 (h * d) + f)))))).setCell ⟨q, 1, none⟩ (.int .i64 0)).setCell ⟨q, 1, none⟩ (.int .i64 (wrap64 (wrap64 (d + f) - wrap64 (Int.tdiv (wrap64 (wrap64 (d + f) * f)) (wrap64 (wrap64 (h * d) + f))))))).cell? ⟨q, 1, none⟩ = some (.int .i64 (wrap64 (wrap64 (d + f) - wrap64 (Int.tdiv (wrap64 (wrap64 (d + f) * f)) (wrap64 (wrap64 (h * d) + f)))))) := (blk_cell (cs := #[.int .i64 (wrap64 (Int.tdiv (wrap64 (wrap64 (d + f) * f)) (wrap64 (wrap64 (h * d) + f)))), .int .i64 (wrap64 (wrap64 (d + f) - wrap64 (Int.tdiv (wrap64 (wrap64 (d + f) * f)) (wrap64 (wrap64 (h * d) + f)))))]) (t := 23) (by refine blk_put (cs := #[.int .i64 (wrap64 (Int.tdiv (wrap64 (wrap64 (d + f) * f)) (wrap64 (wrap64 (h * d) + f)))), .int .i64 0]) ?_ 1 _ rfl; refine blk_put (cs := #[.int .i64 (wrap64 (Int.tdiv (wrap64 (wrap64 (d + f) * f)) (wrap64 (wrap64 (h * d) + f)))), .int .i64 0]) ?_ 1 _ rfl; refine blk_put (cs := #[.int .i64 0, .int .i64 0]) ?_ 0 _ rfl; exact BKq.out) 1).trans rfl
  have hz0 : (((w2.setCell ⟨q, 0, none⟩ (.int .i64 (wrap64 (Int.tdiv (wrap64 (wrap64 (d + f) * f)) (wrap64 (wrap64 (h * d) + f)))))).setCell ⟨q, 1, none⟩ (.int .i64 0)).setCell ⟨q, 1, none⟩ (.int .i64 (wrap64 (wrap64 (d + f) - wrap64 (Int.tdiv (wrap64 (wrap64 (d + f) * f)) (wrap64 (wrap64 (h * d) + f))))))).cell? ⟨q, 0, none⟩ = some (.int .i64 (wrap64 (Int.tdiv (wrap64 (wrap64 (d + f) * f)) (wrap64 (wrap64 (h * d) + f))))) := (blk_cell (cs := #[.int .i64 (wrap64 (Int.tdiv (wrap64 (wrap64 (d + f) * f)) (wrap64 (wrap64 (h * d) + f)))), .int .i64 (wrap64 (wrap64 (d + f) - wrap64 (Int.tdiv (wrap64 (wrap64 (d + f) * f)) (wrap64 (wrap64 (h * d) + f)))))]) (t := 23) (by refine blk_put (cs := #[.int .i64 (wrap64 (Int.tdiv (wrap64 (wrap64 (d + f) * f)) (wrap64 (wrap64 (h * d) + f)))), .int .i64 0]) ?_ 1 _ rfl; refine blk_put (cs := #[.int .i64 (wrap64 (Int.tdiv (wrap64 (wrap64 (d + f) * f)) (wrap64 (wrap64 (h * d) + f)))), .int .i64 0]) ?_ 1 _ rfl; refine blk_put (cs := #[.int .i64 0, .int .i64 0]) ?_ 0 _ rfl; exact BKq.out) 0).trans rfl
  generalize (((w2.setCell ⟨q, 0, none⟩ (.int .i64 (wrap64 (Int.tdiv (wrap64 (wrap64 (d + f) * f)) (wrap64 (wrap64 (h * d) + f)))))).setCell ⟨q, 1, none⟩ (.int .i64 0)).setCell ⟨q, 1, none⟩ (.int .i64 (wrap64 (wrap64 (d + f) - wrap64 (Int.tdiv (wrap64 (wrap64 (d + f) * f)) (wrap64 (wrap64 (h * d) + f))))))) = w3 at J GG hz0 hz1 ⊢
  have hg0 : w3.cell? ⟨g, 0, none⟩ = some (.int .i64 d) := (blk_cell GG.out 0).trans rfl
  have hg1 : w3.cell? ⟨g, 1, none⟩ = some (.int .i64 f) := (blk_cell GG.out 1).trans rfl
  have hm0 : w3.cell? ⟨bm, 0, none⟩ = some (.int .i64 m) := (blk_cell J.out.hm 0).trans rfl
  have ho0 : w3.cell? ⟨bo, 0, none⟩ = some (.slice A out.length c) := (blk_cell J.out.ho 0).trans rfl
  have fo0 := blk_frozen J.out.ho 0
  clear BKh BKm BKo BKg BKq HB HO p0 p1
  go_wp2_with (first | (go_at_call 55; ((with_reducible refine (impl_within.calls _ _ _ _ _ (within_w _ _ _)).mono ?_); rintro e w' ⟨rfl, ⟨nd, rfl⟩⟩)))
  go_end0
  exact ⟨rfl, WkJ.toI (q := q) (v := .slice A out.length c) (by (with_reducible repeat (first | apply WkJ.drewN)); exact J.out)⟩

set_option maxHeartbeats 8000000 in
set_option maxRecDepth 100000 in
theorem works_two (W0 : World) (d f h m : Int) (bh bm bo : Nat) (out : List (List S23)) (w : World) (hI : WkI W0 bh bm bo h m out w) (hp : ¬ wkP h d f = 0) (ht : Int.tmod (wrap64 (wkS d f * f)) (wkP h d f) = 0) (h1 : 6 ≤ wkC h d f ∧ wkC h d f ≤ m) (h2 : ¬ (6 ≤ wrap64 (wkS d f - wkC h d f) ∧ wrap64 (wkS d f - wkC h d f) ≤ m)) :
    Calls Try.prog 57 #[.agg #[.int .i64 d, .int .i64 f], .pointer (some ⟨bh, 0, none⟩), .pointer (some ⟨bm, 0, none⟩), .pointer (some ⟨bo, 0, none⟩)] w fun e w' => e = .returned (.tuple #[]) ∧ WkI W0 bh bm bo h m out w' := by
  have hu23 := Try.underlying23
  obtain ⟨hh, hm, ⟨v, ho, hS⟩, hge, hB⟩ := hI
  obtain ⟨A, c, rfl, hc, hC⟩ := Kd.S_reads hS
  have Nh := Aside0.mk (blk_ne ho hh (by decide))
  have Nm := Aside0.mk (blk_ne ho hm (by decide))
  have HB := Aside0.mk hB
  have GE := Aside0.mk hge
  have BKh := Aside0.mk hh
  have BKm := Aside0.mk hm
  have BKo := Aside0.mk ho
  have HO := Aside0.mk hS
  have p0 : (wrap64 (wrap64 (h * d) + f) == 0) = false := beq_eq_false_iff_ne.2 hp
  have p1 : ¬ wrap64 (wrap64 (h * d) + f) = 0 := hp
  clear hh hm ho hS hge hB hC hc hp
  have t0 : (Int.tmod (wrap64 (wrap64 (d + f) * f)) (wrap64 (wrap64 (h * d) + f)) != 0) = false := by
    have : Int.tmod (wrap64 (wrap64 (d + f) * f)) (wrap64 (wrap64 (h * d) + f)) = 0 := ht
    rw [this]
    rfl
  clear ht
  have d1 : decide (6 ≤ wrap64 (Int.tdiv (wrap64 (wrap64 (d + f) * f)) (wrap64 (wrap64 (h * d) + f))) ∧ wrap64 (Int.tdiv (wrap64 (wrap64 (d + f) * f)) (wrap64 (wrap64 (h * d) + f))) ≤ m) = true := decide_eq_true h1
  have d2 : decide (6 ≤ wrap64 (wrap64 (d + f) - wrap64 (Int.tdiv (wrap64 (wrap64 (d + f) * f)) (wrap64 (wrap64 (h * d) + f)))) ∧ wrap64 (wrap64 (d + f) - wrap64 (Int.tdiv (wrap64 (wrap64 (d + f) * f)) (wrap64 (wrap64 (h * d) + f)))) ≤ m) = false := decide_eq_false h2
  clear h1 h2
  go_enter Try.func57, Try.ntmps57
  go_upto_region 6 with (first | ((with_reducible refine gate_dst (N := 4) rfl ?_); (refine box_event ?hg (N := 4) ?hd (cs := #[.int .i64 d, .int .i64 f]) (t := 23) ?hr ?_; (case hd => rfl); (case hg => rfl); (case hr => first | (go_simp; done) | (go_simp; rfl)); intro g hg w1 hbox hb; have BKg := Aside0.mk hbox; have n0_ := Aside0.mk (below_step (by repeat (first | (with_reducible first | exact HB.out | apply below_alloc | apply pw_below_drewN | apply below_drew1) | exact HB.out)) hb); have n1_ := Aside0.mk (blk_below (by (with_reducible repeat (first | refine blk_drewN ?_ _ | refine blk_drew ?_ | refine blk_alloc ?_ _)); exact BKh.out) hb); have n2_ := Aside0.mk (blk_below (by (with_reducible repeat (first | refine blk_drewN ?_ _ | refine blk_drew ?_ | refine blk_alloc ?_ _)); exact BKm.out) hb); have n3_ := Aside0.mk (blk_below (by (with_reducible repeat (first | refine blk_drewN ?_ _ | refine blk_drew ?_ | refine blk_alloc ?_ _)); exact BKo.out) hb); have n4_ := Aside0.mk (Kd.S_below (by (with_reducible repeat (first | apply Kd.S_alloc | apply Kd.S_drewN | apply Kd.S_drew)); exact HO.out) hb); clear HB BKh BKm BKo HO; have HB := n0_; have BKh := n1_; have BKm := n2_; have BKo := n3_; have HO := n4_; clear n0_ n1_ n2_ n3_ n4_; clear hb hbox hg; have haBKh0 : w1.cell? ⟨bh, 0, none⟩ = some (.int .i64 h) := (blk_cell BKh.out 0).trans rfl; have haBKm0 : w1.cell? ⟨bm, 0, none⟩ = some (.int .i64 m) := (blk_cell BKm.out 0).trans rfl; have haBKo0 : w1.cell? ⟨bo, 0, none⟩ = some (.slice A out.length c) := (blk_cell BKo.out 0).trans rfl; have hfaBKo0 := blk_frozen BKo.out 0; have haBKg0 : w1.cell? ⟨g, 0, none⟩ = some (.int .i64 d) := (blk_cell BKg.out 0).trans rfl; have haBKg1 : w1.cell? ⟨g, 1, none⟩ = some (.int .i64 f) := (blk_cell BKg.out 1).trans rfl)) | ((with_reducible refine gate_dst (N := 7) rfl ?_); (refine box_event ?hg (N := 7) ?hd (cs := #[.int .i64 0, .int .i64 0]) (t := 23) ?hr ?_; (case hd => rfl); (case hg => rfl); (case hr => first | (go_simp; done) | (go_simp; rfl)); intro q hg w2 hbox hb; have BKq := Aside0.mk hbox; have n0_ := Aside0.mk (below_step (by repeat (first | (with_reducible first | exact HB.out | apply below_alloc | apply pw_below_drewN | apply below_drew1) | exact HB.out)) hb); have n1_ := Aside0.mk (blk_below (by (with_reducible repeat (first | refine blk_drewN ?_ _ | refine blk_drew ?_ | refine blk_alloc ?_ _)); exact BKh.out) hb); have n2_ := Aside0.mk (blk_below (by (with_reducible repeat (first | refine blk_drewN ?_ _ | refine blk_drew ?_ | refine blk_alloc ?_ _)); exact BKm.out) hb); have n3_ := Aside0.mk (blk_below (by (with_reducible repeat (first | refine blk_drewN ?_ _ | refine blk_drew ?_ | refine blk_alloc ?_ _)); exact BKo.out) hb); have n4_ := Aside0.mk (blk_below (by (with_reducible repeat (first | refine blk_drewN ?_ _ | refine blk_drew ?_ | refine blk_alloc ?_ _)); exact BKg.out) hb); have n5_ := Aside0.mk (Kd.S_below (Kd.S_elderB (by (with_reducible repeat (first | apply Kd.S_alloc | apply Kd.S_drewN | apply Kd.S_drew)); exact HO.out) q (Nat.le_of_eq hg.symm)) hb); have GEq := Aside0.mk (by rw [hg]; exact (below_size (by repeat (first | (with_reducible first | exact HB.out | apply below_alloc | apply pw_below_drewN | apply below_drew1) | exact HB.out))) : W0.heap.size ≤ q); have NBKhq := Aside0.mk ((by rw [hg]; exact Nat.ne_of_lt (blk_lt (by (with_reducible repeat (first | refine blk_drewN ?_ _ | refine blk_drew ?_ | refine blk_alloc ?_ _)); exact BKh.out))) : bh ≠ q); have NBKmq := Aside0.mk ((by rw [hg]; exact Nat.ne_of_lt (blk_lt (by (with_reducible repeat (first | refine blk_drewN ?_ _ | refine blk_drew ?_ | refine blk_alloc ?_ _)); exact BKm.out))) : bm ≠ q); have NBKoq := Aside0.mk ((by rw [hg]; exact Nat.ne_of_lt (blk_lt (by (with_reducible repeat (first | refine blk_drewN ?_ _ | refine blk_drew ?_ | refine blk_alloc ?_ _)); exact BKo.out))) : bo ≠ q); have NBKgq := Aside0.mk ((by rw [hg]; exact Nat.ne_of_lt (blk_lt (by (with_reducible repeat (first | refine blk_drewN ?_ _ | refine blk_drew ?_ | refine blk_alloc ?_ _)); exact BKg.out))) : g ≠ q); clear HB BKh BKm BKo BKg HO; have HB := n0_; have BKh := n1_; have BKm := n2_; have BKo := n3_; have BKg := n4_; have HO := n5_; clear n0_ n1_ n2_ n3_ n4_ n5_; clear hb hbox hg; have hbBKh0 : w2.cell? ⟨bh, 0, none⟩ = some (.int .i64 h) := (blk_cell BKh.out 0).trans rfl; have hbBKm0 : w2.cell? ⟨bm, 0, none⟩ = some (.int .i64 m) := (blk_cell BKm.out 0).trans rfl; have hbBKo0 : w2.cell? ⟨bo, 0, none⟩ = some (.slice A out.length c) := (blk_cell BKo.out 0).trans rfl; have hfbBKo0 := blk_frozen BKo.out 0; have hbBKg0 : w2.cell? ⟨g, 0, none⟩ = some (.int .i64 d) := (blk_cell BKg.out 0).trans rfl; have hbBKg1 : w2.cell? ⟨g, 1, none⟩ = some (.int .i64 f) := (blk_cell BKg.out 1).trans rfl; have hbBKq0 : w2.cell? ⟨q, 0, none⟩ = some (.int .i64 0) := (blk_cell BKq.out 0).trans rfl; have hfbBKq0 := blk_frozen BKq.out 0; have hbBKq1 : w2.cell? ⟨q, 1, none⟩ = some (.int .i64 0) := (blk_cell BKq.out 1).trans rfl; have hfbBKq1 := blk_frozen BKq.out 1; have hnq1 := NBKgq.out; have hnq2 := NBKgq.out.symm; have hnq3 := NBKmq.out; have hnq4 := NBKmq.out.symm; have hnq5 := NBKoq.out; have hnq6 := NBKoq.out.symm)))
  have J := Aside0.mk (show WkJ W0 bh bm bo q h m (.slice A out.length c) out (((w2.setCell ⟨q, 0, none⟩ (.int .i64 (wrap64 (Int.tdiv (wrap64 (wrap64 (d + f) * f)) (wrap64 (wrap64 (h * d) + f)))))).setCell ⟨q, 1, none⟩ (.int .i64 0)).setCell ⟨q, 1, none⟩ (.int .i64 (wrap64 (wrap64 (d + f) - wrap64 (Int.tdiv (wrap64 (wrap64 (d + f) * f)) (wrap64 (wrap64 (h * d) + f))))))) by (with_reducible repeat (first | apply WkJ.drewN | apply WkJ.put)); exact ⟨BKh.out, BKm.out, BKo.out, HO.out, GE.out, GEq.out, HB.out, NBKhq.out, NBKmq.out, NBKoq.out⟩)
  have GG : Aside0 ((((w2.setCell ⟨q, 0, none⟩ (.int .i64 (wrap64 (Int.tdiv (wrap64 (wrap64 (d + f) * f)) (wrap64 (wrap64 (h * d) + f)))))).setCell ⟨q, 1, none⟩ (.int .i64 0)).setCell ⟨q, 1, none⟩ (.int .i64 (wrap64 (wrap64 (d + f) - wrap64 (Int.tdiv (wrap64 (wrap64 (d + f) * f)) (wrap64 (wrap64 (h * d) + f))))))).heap[g]? = some (.cells #[.int .i64 d, .int .i64 f] 23 (0, 0))) := ⟨blk_far (blk_far (blk_far BKg.out NBKgq.out _) NBKgq.out _) NBKgq.out _⟩
  have hz1 : (((w2.setCell ⟨q, 0, none⟩ (.int .i64 (wrap64 (Int.tdiv (wrap64 (wrap64 (d + f) * f)) (wrap64 (wrap64 (h * d) + f)))))).setCell ⟨q, 1, none⟩ (.int .i64 0)).setCell ⟨q, 1, none⟩ (.int .i64 (wrap64 (wrap64 (d + f) - wrap64 (Int.tdiv (wrap64 (wrap64 (d + f) * f)) (wrap64 (wrap64 (h * d) + f))))))).cell? ⟨q, 1, none⟩ = some (.int .i64 (wrap64 (wrap64 (d + f) - wrap64 (Int.tdiv (wrap64 (wrap64 (d + f) * f)) (wrap64 (wrap64 (h * d) + f)))))) := (blk_cell (cs := #[.int .i64 (wrap64 (Int.tdiv (wrap64 (wrap64 (d + f) * f)) (wrap64 (wrap64 (h * d) + f)))), .int .i64 (wrap64 (wrap64 (d + f) - wrap64 (Int.tdiv (wrap64 (wrap64 (d + f) * f)) (wrap64 (wrap64 (h * d) + f)))))]) (t := 23) (by refine blk_put (cs := #[.int .i64 (wrap64 (Int.tdiv (wrap64 (wrap64 (d + f) * f)) (wrap64 (wrap64 (h * d) + f)))), .int .i64 0]) ?_ 1 _ rfl; refine blk_put (cs := #[.int .i64 (wrap64 (Int.tdiv (wrap64 (wrap64 (d + f) * f)) (wrap64 (wrap64 (h * d) + f)))), .int .i64 0]) ?_ 1 _ rfl; refine blk_put (cs := #[.int .i64 0, .int .i64 0]) ?_ 0 _ rfl; exact BKq.out) 1).trans rfl
  have hz0 : (((w2.setCell ⟨q, 0, none⟩ (.int .i64 (wrap64 (Int.tdiv (wrap64 (wrap64 (d + f) * f)) (wrap64 (wrap64 (h * d) + f)))))).setCell ⟨q, 1, none⟩ (.int .i64 0)).setCell ⟨q, 1, none⟩ (.int .i64 (wrap64 (wrap64 (d + f) - wrap64 (Int.tdiv (wrap64 (wrap64 (d + f) * f)) (wrap64 (wrap64 (h * d) + f))))))).cell? ⟨q, 0, none⟩ = some (.int .i64 (wrap64 (Int.tdiv (wrap64 (wrap64 (d + f) * f)) (wrap64 (wrap64 (h * d) + f))))) := (blk_cell (cs := #[.int .i64 (wrap64 (Int.tdiv (wrap64 (wrap64 (d + f) * f)) (wrap64 (wrap64 (h * d) + f)))), .int .i64 (wrap64 (wrap64 (d + f) - wrap64 (Int.tdiv (wrap64 (wrap64 (d + f) * f)) (wrap64 (wrap64 (h * d) + f)))))]) (t := 23) (by refine blk_put (cs := #[.int .i64 (wrap64 (Int.tdiv (wrap64 (wrap64 (d + f) * f)) (wrap64 (wrap64 (h * d) + f)))), .int .i64 0]) ?_ 1 _ rfl; refine blk_put (cs := #[.int .i64 (wrap64 (Int.tdiv (wrap64 (wrap64 (d + f) * f)) (wrap64 (wrap64 (h * d) + f)))), .int .i64 0]) ?_ 1 _ rfl; refine blk_put (cs := #[.int .i64 0, .int .i64 0]) ?_ 0 _ rfl; exact BKq.out) 0).trans rfl
  generalize (((w2.setCell ⟨q, 0, none⟩ (.int .i64 (wrap64 (Int.tdiv (wrap64 (wrap64 (d + f) * f)) (wrap64 (wrap64 (h * d) + f)))))).setCell ⟨q, 1, none⟩ (.int .i64 0)).setCell ⟨q, 1, none⟩ (.int .i64 (wrap64 (wrap64 (d + f) - wrap64 (Int.tdiv (wrap64 (wrap64 (d + f) * f)) (wrap64 (wrap64 (h * d) + f))))))) = w3 at J GG hz0 hz1 ⊢
  have hg0 : w3.cell? ⟨g, 0, none⟩ = some (.int .i64 d) := (blk_cell GG.out 0).trans rfl
  have hg1 : w3.cell? ⟨g, 1, none⟩ = some (.int .i64 f) := (blk_cell GG.out 1).trans rfl
  have hm0 : w3.cell? ⟨bm, 0, none⟩ = some (.int .i64 m) := (blk_cell J.out.hm 0).trans rfl
  have ho0 : w3.cell? ⟨bo, 0, none⟩ = some (.slice A out.length c) := (blk_cell J.out.ho 0).trans rfl
  have fo0 := blk_frozen J.out.ho 0
  clear BKh BKm BKo BKg BKq HB HO p0 p1
  go_wp2_with (first | (go_at_call 55; ((with_reducible refine (impl_within.calls _ _ _ _ _ (within_w _ _ _)).mono ?_); rintro e w' ⟨rfl, ⟨nd, rfl⟩⟩)))
  go_end0
  exact ⟨rfl, WkJ.toI (q := q) (v := .slice A out.length c) (by (with_reducible repeat (first | apply WkJ.drewN)); exact J.out)⟩

set_option maxHeartbeats 8000000 in
set_option maxRecDepth 100000 in
theorem works_put (W0 : World) (d f h m : Int) (bh bm bo : Nat) (out : List (List S23)) (w : World) (hI : WkI W0 bh bm bo h m out w) (hp : ¬ wkP h d f = 0) (ht : Int.tmod (wrap64 (wkS d f * f)) (wkP h d f) = 0) (h1 : 6 ≤ wkC h d f ∧ wkC h d f ≤ m) (h2 : 6 ≤ wrap64 (wkS d f - wkC h d f) ∧ wrap64 (wkS d f - wkC h d f) ≤ m) (hl : out.length < 5864062014805) :
    Calls Try.prog 57 #[.agg #[.int .i64 d, .int .i64 f], .pointer (some ⟨bh, 0, none⟩), .pointer (some ⟨bm, 0, none⟩), .pointer (some ⟨bo, 0, none⟩)] w fun e w' => e = .returned (.tuple #[]) ∧ WkI W0 bh bm bo h m (out ++ [[⟨d, f⟩, ⟨wkC h d f, wrap64 (wkS d f - wkC h d f)⟩]]) w' := by
  have hu23 := Try.underlying23
  obtain ⟨hh, hm, ⟨v, ho, hS⟩, hge, hB⟩ := hI
  obtain ⟨A, c, rfl, hc, hC⟩ := Kd.S_reads hS
  have Nh := Aside0.mk (blk_ne ho hh (by decide))
  have Nm := Aside0.mk (blk_ne ho hm (by decide))
  have HB := Aside0.mk hB
  have GE := Aside0.mk hge
  have BKh := Aside0.mk hh
  have BKm := Aside0.mk hm
  have BKo := Aside0.mk ho
  have HO := Aside0.mk hS
  have p0 : (wrap64 (wrap64 (h * d) + f) == 0) = false := beq_eq_false_iff_ne.2 hp
  have p1 : ¬ wrap64 (wrap64 (h * d) + f) = 0 := hp
  clear hh hm ho hS hge hB hC hc hp
  have t0 : (Int.tmod (wrap64 (wrap64 (d + f) * f)) (wrap64 (wrap64 (h * d) + f)) != 0) = false := by
    have : Int.tmod (wrap64 (wrap64 (d + f) * f)) (wrap64 (wrap64 (h * d) + f)) = 0 := ht
    rw [this]
    rfl
  clear ht
  have d1 : decide (6 ≤ wrap64 (Int.tdiv (wrap64 (wrap64 (d + f) * f)) (wrap64 (wrap64 (h * d) + f))) ∧ wrap64 (Int.tdiv (wrap64 (wrap64 (d + f) * f)) (wrap64 (wrap64 (h * d) + f))) ≤ m) = true := decide_eq_true h1
  have d2 : decide (6 ≤ wrap64 (wrap64 (d + f) - wrap64 (Int.tdiv (wrap64 (wrap64 (d + f) * f)) (wrap64 (wrap64 (h * d) + f)))) ∧ wrap64 (wrap64 (d + f) - wrap64 (Int.tdiv (wrap64 (wrap64 (d + f) * f)) (wrap64 (wrap64 (h * d) + f)))) ≤ m) = true := decide_eq_true h2
  have HL := Aside0.mk hl
  clear h1 h2 hl
  go_enter Try.func57, Try.ntmps57
  go_upto_region 6 with (first | ((with_reducible refine gate_dst (N := 4) rfl ?_); (refine box_event ?hg (N := 4) ?hd (cs := #[.int .i64 d, .int .i64 f]) (t := 23) ?hr ?_; (case hd => rfl); (case hg => rfl); (case hr => first | (go_simp; done) | (go_simp; rfl)); intro g hg w1 hbox hb; have BKg := Aside0.mk hbox; have n0_ := Aside0.mk (below_step (by repeat (first | (with_reducible first | exact HB.out | apply below_alloc | apply pw_below_drewN | apply below_drew1) | exact HB.out)) hb); have n1_ := Aside0.mk (blk_below (by (with_reducible repeat (first | refine blk_drewN ?_ _ | refine blk_drew ?_ | refine blk_alloc ?_ _)); exact BKh.out) hb); have n2_ := Aside0.mk (blk_below (by (with_reducible repeat (first | refine blk_drewN ?_ _ | refine blk_drew ?_ | refine blk_alloc ?_ _)); exact BKm.out) hb); have n3_ := Aside0.mk (blk_below (by (with_reducible repeat (first | refine blk_drewN ?_ _ | refine blk_drew ?_ | refine blk_alloc ?_ _)); exact BKo.out) hb); have n4_ := Aside0.mk (Kd.S_below (by (with_reducible repeat (first | apply Kd.S_alloc | apply Kd.S_drewN | apply Kd.S_drew)); exact HO.out) hb); clear HB BKh BKm BKo HO; have HB := n0_; have BKh := n1_; have BKm := n2_; have BKo := n3_; have HO := n4_; clear n0_ n1_ n2_ n3_ n4_; clear hb hbox hg; have haBKh0 : w1.cell? ⟨bh, 0, none⟩ = some (.int .i64 h) := (blk_cell BKh.out 0).trans rfl; have haBKm0 : w1.cell? ⟨bm, 0, none⟩ = some (.int .i64 m) := (blk_cell BKm.out 0).trans rfl; have haBKo0 : w1.cell? ⟨bo, 0, none⟩ = some (.slice A out.length c) := (blk_cell BKo.out 0).trans rfl; have hfaBKo0 := blk_frozen BKo.out 0; have haBKg0 : w1.cell? ⟨g, 0, none⟩ = some (.int .i64 d) := (blk_cell BKg.out 0).trans rfl; have haBKg1 : w1.cell? ⟨g, 1, none⟩ = some (.int .i64 f) := (blk_cell BKg.out 1).trans rfl)) | ((with_reducible refine gate_dst (N := 7) rfl ?_); (refine box_event ?hg (N := 7) ?hd (cs := #[.int .i64 0, .int .i64 0]) (t := 23) ?hr ?_; (case hd => rfl); (case hg => rfl); (case hr => first | (go_simp; done) | (go_simp; rfl)); intro q hg w2 hbox hb; have BKq := Aside0.mk hbox; have n0_ := Aside0.mk (below_step (by repeat (first | (with_reducible first | exact HB.out | apply below_alloc | apply pw_below_drewN | apply below_drew1) | exact HB.out)) hb); have n1_ := Aside0.mk (blk_below (by (with_reducible repeat (first | refine blk_drewN ?_ _ | refine blk_drew ?_ | refine blk_alloc ?_ _)); exact BKh.out) hb); have n2_ := Aside0.mk (blk_below (by (with_reducible repeat (first | refine blk_drewN ?_ _ | refine blk_drew ?_ | refine blk_alloc ?_ _)); exact BKm.out) hb); have n3_ := Aside0.mk (blk_below (by (with_reducible repeat (first | refine blk_drewN ?_ _ | refine blk_drew ?_ | refine blk_alloc ?_ _)); exact BKo.out) hb); have n4_ := Aside0.mk (blk_below (by (with_reducible repeat (first | refine blk_drewN ?_ _ | refine blk_drew ?_ | refine blk_alloc ?_ _)); exact BKg.out) hb); have n5_ := Aside0.mk (Kd.S_below (Kd.S_elderB (by (with_reducible repeat (first | apply Kd.S_alloc | apply Kd.S_drewN | apply Kd.S_drew)); exact HO.out) q (Nat.le_of_eq hg.symm)) hb); have GEq := Aside0.mk (by rw [hg]; exact (below_size (by repeat (first | (with_reducible first | exact HB.out | apply below_alloc | apply pw_below_drewN | apply below_drew1) | exact HB.out))) : W0.heap.size ≤ q); have NBKhq := Aside0.mk ((by rw [hg]; exact Nat.ne_of_lt (blk_lt (by (with_reducible repeat (first | refine blk_drewN ?_ _ | refine blk_drew ?_ | refine blk_alloc ?_ _)); exact BKh.out))) : bh ≠ q); have NBKmq := Aside0.mk ((by rw [hg]; exact Nat.ne_of_lt (blk_lt (by (with_reducible repeat (first | refine blk_drewN ?_ _ | refine blk_drew ?_ | refine blk_alloc ?_ _)); exact BKm.out))) : bm ≠ q); have NBKoq := Aside0.mk ((by rw [hg]; exact Nat.ne_of_lt (blk_lt (by (with_reducible repeat (first | refine blk_drewN ?_ _ | refine blk_drew ?_ | refine blk_alloc ?_ _)); exact BKo.out))) : bo ≠ q); have NBKgq := Aside0.mk ((by rw [hg]; exact Nat.ne_of_lt (blk_lt (by (with_reducible repeat (first | refine blk_drewN ?_ _ | refine blk_drew ?_ | refine blk_alloc ?_ _)); exact BKg.out))) : g ≠ q); clear HB BKh BKm BKo BKg HO; have HB := n0_; have BKh := n1_; have BKm := n2_; have BKo := n3_; have BKg := n4_; have HO := n5_; clear n0_ n1_ n2_ n3_ n4_ n5_; clear hb hbox hg; have hbBKh0 : w2.cell? ⟨bh, 0, none⟩ = some (.int .i64 h) := (blk_cell BKh.out 0).trans rfl; have hbBKm0 : w2.cell? ⟨bm, 0, none⟩ = some (.int .i64 m) := (blk_cell BKm.out 0).trans rfl; have hbBKo0 : w2.cell? ⟨bo, 0, none⟩ = some (.slice A out.length c) := (blk_cell BKo.out 0).trans rfl; have hfbBKo0 := blk_frozen BKo.out 0; have hbBKg0 : w2.cell? ⟨g, 0, none⟩ = some (.int .i64 d) := (blk_cell BKg.out 0).trans rfl; have hbBKg1 : w2.cell? ⟨g, 1, none⟩ = some (.int .i64 f) := (blk_cell BKg.out 1).trans rfl; have hbBKq0 : w2.cell? ⟨q, 0, none⟩ = some (.int .i64 0) := (blk_cell BKq.out 0).trans rfl; have hfbBKq0 := blk_frozen BKq.out 0; have hbBKq1 : w2.cell? ⟨q, 1, none⟩ = some (.int .i64 0) := (blk_cell BKq.out 1).trans rfl; have hfbBKq1 := blk_frozen BKq.out 1; have hnq1 := NBKgq.out; have hnq2 := NBKgq.out.symm; have hnq3 := NBKmq.out; have hnq4 := NBKmq.out.symm; have hnq5 := NBKoq.out; have hnq6 := NBKoq.out.symm)))
  have J := Aside0.mk (show WkJ W0 bh bm bo q h m (.slice A out.length c) out (((w2.setCell ⟨q, 0, none⟩ (.int .i64 (wrap64 (Int.tdiv (wrap64 (wrap64 (d + f) * f)) (wrap64 (wrap64 (h * d) + f)))))).setCell ⟨q, 1, none⟩ (.int .i64 0)).setCell ⟨q, 1, none⟩ (.int .i64 (wrap64 (wrap64 (d + f) - wrap64 (Int.tdiv (wrap64 (wrap64 (d + f) * f)) (wrap64 (wrap64 (h * d) + f))))))) by (with_reducible repeat (first | apply WkJ.drewN | apply WkJ.put)); exact ⟨BKh.out, BKm.out, BKo.out, HO.out, GE.out, GEq.out, HB.out, NBKhq.out, NBKmq.out, NBKoq.out⟩)
  have GG : Aside0 ((((w2.setCell ⟨q, 0, none⟩ (.int .i64 (wrap64 (Int.tdiv (wrap64 (wrap64 (d + f) * f)) (wrap64 (wrap64 (h * d) + f)))))).setCell ⟨q, 1, none⟩ (.int .i64 0)).setCell ⟨q, 1, none⟩ (.int .i64 (wrap64 (wrap64 (d + f) - wrap64 (Int.tdiv (wrap64 (wrap64 (d + f) * f)) (wrap64 (wrap64 (h * d) + f))))))).heap[g]? = some (.cells #[.int .i64 d, .int .i64 f] 23 (0, 0))) := ⟨blk_far (blk_far (blk_far BKg.out NBKgq.out _) NBKgq.out _) NBKgq.out _⟩
  have hz1 : (((w2.setCell ⟨q, 0, none⟩ (.int .i64 (wrap64 (Int.tdiv (wrap64 (wrap64 (d + f) * f)) (wrap64 (wrap64 (h * d) + f)))))).setCell ⟨q, 1, none⟩ (.int .i64 0)).setCell ⟨q, 1, none⟩ (.int .i64 (wrap64 (wrap64 (d + f) - wrap64 (Int.tdiv (wrap64 (wrap64 (d + f) * f)) (wrap64 (wrap64 (h * d) + f))))))).cell? ⟨q, 1, none⟩ = some (.int .i64 (wrap64 (wrap64 (d + f) - wrap64 (Int.tdiv (wrap64 (wrap64 (d + f) * f)) (wrap64 (wrap64 (h * d) + f)))))) := (blk_cell (cs := #[.int .i64 (wrap64 (Int.tdiv (wrap64 (wrap64 (d + f) * f)) (wrap64 (wrap64 (h * d) + f)))), .int .i64 (wrap64 (wrap64 (d + f) - wrap64 (Int.tdiv (wrap64 (wrap64 (d + f) * f)) (wrap64 (wrap64 (h * d) + f)))))]) (t := 23) (by refine blk_put (cs := #[.int .i64 (wrap64 (Int.tdiv (wrap64 (wrap64 (d + f) * f)) (wrap64 (wrap64 (h * d) + f)))), .int .i64 0]) ?_ 1 _ rfl; refine blk_put (cs := #[.int .i64 (wrap64 (Int.tdiv (wrap64 (wrap64 (d + f) * f)) (wrap64 (wrap64 (h * d) + f)))), .int .i64 0]) ?_ 1 _ rfl; refine blk_put (cs := #[.int .i64 0, .int .i64 0]) ?_ 0 _ rfl; exact BKq.out) 1).trans rfl
  have hz0 : (((w2.setCell ⟨q, 0, none⟩ (.int .i64 (wrap64 (Int.tdiv (wrap64 (wrap64 (d + f) * f)) (wrap64 (wrap64 (h * d) + f)))))).setCell ⟨q, 1, none⟩ (.int .i64 0)).setCell ⟨q, 1, none⟩ (.int .i64 (wrap64 (wrap64 (d + f) - wrap64 (Int.tdiv (wrap64 (wrap64 (d + f) * f)) (wrap64 (wrap64 (h * d) + f))))))).cell? ⟨q, 0, none⟩ = some (.int .i64 (wrap64 (Int.tdiv (wrap64 (wrap64 (d + f) * f)) (wrap64 (wrap64 (h * d) + f))))) := (blk_cell (cs := #[.int .i64 (wrap64 (Int.tdiv (wrap64 (wrap64 (d + f) * f)) (wrap64 (wrap64 (h * d) + f)))), .int .i64 (wrap64 (wrap64 (d + f) - wrap64 (Int.tdiv (wrap64 (wrap64 (d + f) * f)) (wrap64 (wrap64 (h * d) + f)))))]) (t := 23) (by refine blk_put (cs := #[.int .i64 (wrap64 (Int.tdiv (wrap64 (wrap64 (d + f) * f)) (wrap64 (wrap64 (h * d) + f)))), .int .i64 0]) ?_ 1 _ rfl; refine blk_put (cs := #[.int .i64 (wrap64 (Int.tdiv (wrap64 (wrap64 (d + f) * f)) (wrap64 (wrap64 (h * d) + f)))), .int .i64 0]) ?_ 1 _ rfl; refine blk_put (cs := #[.int .i64 0, .int .i64 0]) ?_ 0 _ rfl; exact BKq.out) 0).trans rfl
  generalize (((w2.setCell ⟨q, 0, none⟩ (.int .i64 (wrap64 (Int.tdiv (wrap64 (wrap64 (d + f) * f)) (wrap64 (wrap64 (h * d) + f)))))).setCell ⟨q, 1, none⟩ (.int .i64 0)).setCell ⟨q, 1, none⟩ (.int .i64 (wrap64 (wrap64 (d + f) - wrap64 (Int.tdiv (wrap64 (wrap64 (d + f) * f)) (wrap64 (wrap64 (h * d) + f))))))) = w3 at J GG hz0 hz1 ⊢
  have hg0 : w3.cell? ⟨g, 0, none⟩ = some (.int .i64 d) := (blk_cell GG.out 0).trans rfl
  have hg1 : w3.cell? ⟨g, 1, none⟩ = some (.int .i64 f) := (blk_cell GG.out 1).trans rfl
  have hm0 : w3.cell? ⟨bm, 0, none⟩ = some (.int .i64 m) := (blk_cell J.out.hm 0).trans rfl
  have ho0 : w3.cell? ⟨bo, 0, none⟩ = some (.slice A out.length c) := (blk_cell J.out.ho 0).trans rfl
  have fo0 := blk_frozen J.out.ho 0
  clear BKh BKm BKo BKg BKq HB HO p0 p1
  go_wp2_with (first | (go_at_call 55; ((with_reducible refine (impl_within.calls _ _ _ _ _ (within_w _ _ _)).mono ?_); rintro e w' ⟨rfl, ⟨nd, rfl⟩⟩)) | ((with_reducible refine gate_dst (N := 52) rfl ?_); (refine Kd.R_lit k23 _ 23 ?hg (N := 52) ?hd (xs := ([(⟨d, f⟩ : S23), ⟨wrap64 (Int.tdiv (wrap64 (wrap64 (d + f) * f)) (wrap64 (wrap64 (h * d) + f))), wrap64 (wrap64 (d + f) - wrap64 (Int.tdiv (wrap64 (wrap64 (d + f) * f)) (wrap64 (wrap64 (h * d) + f))))⟩] : List S23)) (inner := [.int .i64 d, .int .i64 f, .int .i64 (wrap64 (Int.tdiv (wrap64 (wrap64 (d + f) * f)) (wrap64 (wrap64 (h * d) + f)))), .int .i64 (wrap64 (wrap64 (d + f) - wrap64 (Int.tdiv (wrap64 (wrap64 (d + f) * f)) (wrap64 (wrap64 (h * d) + f)))))]) (ok := fun _ => True) (okp := fun _ => True) ?hr ?hp (fun _ hk => hk) trivial (Below.refl _ _) (Nat.le_refl _) (by simp) ?_; (case hd => rfl); (case hg => rfl); (case hr => first | (go_simp; done) | (go_simp; rfl)); (case hp => exact (Reps.c2 (show Kd.M k23 _ _ _ (⟨d, f⟩ : S23) [.int .i64 d, .int .i64 f] from (k23_mkM _ _ _ (⟨d, f⟩ : S23))) (Reps.c2 (show Kd.M k23 _ _ _ (⟨wrap64 (Int.tdiv (wrap64 (wrap64 (d + f) * f)) (wrap64 (wrap64 (h * d) + f))), wrap64 (wrap64 (d + f) - wrap64 (Int.tdiv (wrap64 (wrap64 (d + f) * f)) (wrap64 (wrap64 (h * d) + f))))⟩ : S23) [.int .i64 (wrap64 (Int.tdiv (wrap64 (wrap64 (d + f) * f)) (wrap64 (wrap64 (h * d) + f)))), .int .i64 (wrap64 (wrap64 (d + f) - wrap64 (Int.tdiv (wrap64 (wrap64 (d + f) * f)) (wrap64 (wrap64 (h * d) + f)))))] from (k23_mkM _ _ _ (⟨wrap64 (Int.tdiv (wrap64 (wrap64 (d + f) * f)) (wrap64 (wrap64 (h * d) + f))), wrap64 (wrap64 (d + f) - wrap64 (Int.tdiv (wrap64 (wrap64 (d + f) * f)) (wrap64 (wrap64 (h * d) + f))))⟩ : S23))) (Reps.none _ _)))); intro v8 w8 ho11 hb hg_ hnew_; clear hg_ hnew_; obtain ⟨A8, c8, rfl, hc8, hC8⟩ := Kd.R_reads ho11; have L := Aside0.mk (WkJ.lit (by (with_reducible repeat (first | apply WkJ.drewN)); exact J.out) hb ho11); have LM := Aside0.mk (below_size L.out.hB); clear hc8 hC8 hb ho11)) | ((with_reducible refine gate_builtin (b := .append) (xs := #[.tmp 49, .tmp 53]) rfl ?_); at_builtin; (refine Kd.S_append (Kd.slice 23 k23) (w0 := W0) W0.heap.size rfl (.tmp 49) (.tmp 53) 34 28 (.slice none 0 0) 24 rfl Try.underlying34 info28 rfl (by decide) (by omega) (.slice A out.length c) out [⟨d, f⟩, ⟨wrap64 (Int.tdiv (wrap64 (wrap64 (d + f) * f)) (wrap64 (wrap64 (h * d) + f))), wrap64 (wrap64 (d + f) - wrap64 (Int.tdiv (wrap64 (wrap64 (d + f) * f)) (wrap64 (wrap64 (h * d) + f))))⟩] [.slice A8 2 c8] (fun _ => True) (fun k_ => some k_ = (.slice A8 2 c8 : Value).ownBlock) rfl rfl ?aP L.out.apart ?aF ?aO ?aB ?aS ?aL ?_; (case aP => exact Kd.M_row (Kd.R_tight rfl L.out.hR)); (case aB => exact L.out.hB); (case aF => exact (fun _ _ => trivial)); (case aO => exact Kd.S_mono L.out.hS (fun k_ hk => ⟨trivial, fun e_ => hk.2 e_⟩)); (case aS => exact LM.out); (case aL => have := HL.out; omega); intro v12 w12 ho12 hb12 hg12 hat12; clear hat12; have GR := Aside0.mk hg12; have HS12 := Aside0.mk ho12; have HB12 := Aside0.mk hb12; clear ho12 hb12 hg12; have O12 := Aside0.mk (L.out.grown GR.out L.out.ho (by decide)); have co0 : w12.cell? ⟨bo, 0, none⟩ = some (.slice A out.length c) := (blk_cell O12.out 0).trans rfl; have fo12 := blk_frozen O12.out 0; obtain ⟨A12, n12, c12, e12⟩ : ∃ A n c, v12 = .slice A n c := (by obtain ⟨A, c, e⟩ := Kd.S_slice HS12.out; exact ⟨A, _, c, e⟩); subst e12)))
  go_end0
  exact ⟨rfl, WkL.done L.out GR.out HS12.out HB12.out⟩

theorem works_visit (W0 : World) (d f h m : Int) (bh bm bo : Nat) (out : List (List S23)) (w : World) (hI : WkI W0 bh bm bo h m out w) (hp : ¬ wkP h d f = 0) (hl : out.length < 5864062014805) :
    Calls Try.prog 57 #[.agg #[.int .i64 d, .int .i64 f], .pointer (some ⟨bh, 0, none⟩), .pointer (some ⟨bm, 0, none⟩), .pointer (some ⟨bo, 0, none⟩)] w fun e w' => e = .returned (.tuple #[]) ∧ WkI W0 bh bm bo h m (wkN h m d f out) w' := by
  unfold wkN
  by_cases ht : Int.tmod (wrap64 (wkS d f * f)) (wkP h d f) = 0
  · rw [if_pos ht]
    by_cases h1 : 6 ≤ wkC h d f ∧ wkC h d f ≤ m
    · by_cases h2 : 6 ≤ wrap64 (wkS d f - wkC h d f) ∧ wrap64 (wkS d f - wkC h d f) ≤ m
      · rw [if_pos ⟨h1, h2⟩]
        exact works_put W0 d f h m bh bm bo out w hI hp ht h1 h2 hl
      · rw [if_neg (fun z => h2 z.2)]
        exact works_two W0 d f h m bh bm bo out w hI hp ht h1 h2
    · rw [if_neg (fun z => h1 z.1)]
      exact works_one W0 d f h m bh bm bo out w hI hp ht h1
  · rw [if_neg ht]
    exact works_rem W0 d f h m bh bm bo out w hI hp ht
def wkF (h m : Int) : Nat → Int → Int → List (List S23) → Option (List (List S23))
  | 0, _, _, _ => none
  | g + 1, d, f, out => if d ≤ m then (if f ≤ m then (if wkP h d f = 0 then none else if out.length < 5864062014805 then wkF h m g d (f + 1) (wkN h m d f out) else none) else wkF h m g (d + 1) 6 out) else some out
theorem wkF_mono (h m : Int) : ∀ g d f out, LeO (wkF h m g d f out) (wkF h m (g + 1) d f out)
  | 0, _, _, _ => fun r h => by simp [wkF] at h
  | g + 1, d, f, out => by
    rw [wkF, wkF]
    exact LeO.ite (LeO.ite (LeO.ite (LeO.refl _) (LeO.ite (wkF_mono h m g _ _ _) (LeO.refl _))) (wkF_mono h m g _ _ _)) (LeO.refl _)
def wksF (k : Nat) (a0 a1 : Int) : Option (List (List S23)) := if 6 ≤ a1 ∧ a1 ≤ 120 then wkF a0 a1 k 6 6 [] else none
set_option maxHeartbeats 8000000 in
set_option maxRecDepth 100000 in
theorem each_works (q0 q1 q2 : Option Addr) (m : Int) (hm : 5 ≤ m) (hm' : m ≤ 1000) (I : Int → Int → World → Prop)
    (hstep : ∀ d f w, 6 ≤ d → d ≤ m → 6 ≤ f → f ≤ m → I d f w → Calls Try.prog 57 #[.agg #[.int .i64 d, .int .i64 f], .pointer q0, .pointer q1, .pointer q2] w fun e w' => e = .returned (.tuple #[]) ∧ I d (f + 1) w')
    (hnext : ∀ d w, I d (m + 1) w → I (d + 1) 6 w) (w : World) (h0 : I 6 6 w) :
    Calls Try.prog 37 #[.int .i64 m, .func (.func 57) #[] #[.pointer q0, .pointer q1, .pointer q2]] w fun e w' => e = .returned (.tuple #[]) ∧ I (m + 1) 6 w' := by
  have HM := Aside0.mk (And.intro hm hm')
  clear hm hm'
  have HS := Aside0.mk hstep
  have HN := Aside0.mk hnext
  have H0 := Aside0.mk h0
  clear hstep hnext h0
  go_enter Try.func37, Try.ntmps37
  go_wp2
  go_loopg [4] m.toNat (fun gk v4 w' => ∃ (d : Int), v4 = .int .i64 d ∧ Aside0 (6 ≤ d ∧ d ≤ m + 1 ∧ d + gk = m + 6) ∧ Aside0 (I d 6 w'))
  case atStart => exact ⟨6, rfl, ⟨by have := HM.out; omega⟩, H0⟩
  case round =>
    obtain ⟨d, rfl, HD, HI⟩ := hrel
    by_cases hlt : d ≤ m
    · obtain ⟨k1, rfl⟩ : ∃ k1, gk = k1 + 1 := ⟨gk - 1, by have := HD.out; omega⟩
      have c1 : decide (d ≤ m) = true := decide_eq_true hlt
      have HL := Aside0.mk hlt
      clear hlt
      go_wp2
      go_loopg [5] m.toNat (fun gk v5 w' => ∃ (f : Int), v5 = .int .i64 f ∧ Aside0 (6 ≤ f ∧ f ≤ m + 1 ∧ f + gk = m + 6) ∧ Aside0 (I d f w'))
      case atStart => exact ⟨6, rfl, ⟨by have := HM.out; have := HL.out; have := HD.out; omega⟩, HI⟩
      case round =>
        try clear c1
        obtain ⟨f, rfl, HF, HI⟩ := hrel
        by_cases hlf : f ≤ m
        · obtain ⟨k2, rfl⟩ : ∃ k2, gk = k2 + 1 := ⟨gk - 1, by have := HF.out; omega⟩
          have c2 : decide (f ≤ m) = true := decide_eq_true hlf
          have HLF := Aside0.mk hlf
          clear hlf
          go_wp2_with (first | (go_at_call 57; (refine (HS.out d f _ ?ha ?hb ?hc ?hd HI.out).mono ?_); (case ha => have := HD.out; omega); (case hb => exact HL.out); (case hc => have := HF.out; omega); (case hd => exact HLF.out); rintro e w1 ⟨rfl, hi⟩; have HI1 := Aside0.mk hi; clear hi))
          go_roundg k2
          case measure => omega
          case rel =>
            refine ⟨f + 1, ?_, ⟨by have := HF.out; have := HLF.out; omega⟩, HI1⟩
            have := HF.out
            have := HLF.out
            have := HM.out
            rw [IntWalk.wrap64_in (f + 1) ⟨by omega, by omega⟩]
        · have c2 : decide (f ≤ m) = false := decide_eq_false hlf
          have HLF := Aside0.mk hlf
          clear hlf
          go_wp2
          go_roundg k1
          case measure => omega
          case rel =>
            refine ⟨d + 1, ?_, ⟨by have := HD.out; have := HL.out; have := HM.out; omega⟩, ⟨HN.out d _ ?_⟩⟩
            · have := HD.out
              have := HL.out
              have := HM.out
              rw [IntWalk.wrap64_in (d + 1) ⟨by omega, by omega⟩]
            · have e : f = m + 1 := by
                have := HF.out
                have := HLF.out
                omega
              rw [← e]
              exact HI.out
    · have c1 : decide (d ≤ m) = false := decide_eq_false hlt
      have HL := Aside0.mk hlt
      clear hlt
      go_wp2
      go_end0
      refine ⟨rfl, ?_⟩
      have e : d = m + 1 := by
        have := HD.out
        have := HL.out
        omega
      rw [← e]
      exact HI.out

theorem works_each (k : Nat) (W0 : World) (h m : Int) (bh bm bo : Nat) (r : List (List S23)) (hm : 5 ≤ m) (hm' : m ≤ 1000) (w : World) (hI : WkI W0 bh bm bo h m [] w) (hr : wkF h m k 6 6 [] = some r) :
    Calls Try.prog 37 #[.int .i64 m, .func (.func 57) #[] #[.pointer (some ⟨bh, 0, none⟩), .pointer (some ⟨bm, 0, none⟩), .pointer (some ⟨bo, 0, none⟩)]] w fun e w' => e = .returned (.tuple #[]) ∧ WkI W0 bh bm bo h m r w' := by
  refine (each_works _ _ _ m hm hm' (fun d f w => ∃ g out, wkF h m g d f out = some r ∧ WkI W0 bh bm bo h m out w) ?_ ?_ w ⟨k, [], hr, hI⟩).mono ?_
  · rintro d f w h1 h2 h3 h4 ⟨g, out, hg, hI⟩
    cases g with
    | zero => simp [wkF] at hg
    | succ g =>
      simp only [wkF, if_pos h2, if_pos h4] at hg
      split at hg
      · cases hg
      · rename_i hp
        split at hg
        · rename_i hl
          exact (works_visit W0 d f h m bh bm bo out w hI hp hl).mono fun e w' ⟨he, hi⟩ => ⟨he, g, _, hg, hi⟩
        · cases hg
  · rintro d w ⟨g, out, hg, hI⟩
    cases g with
    | zero => simp [wkF] at hg
    | succ g =>
      simp only [wkF] at hg
      by_cases h2 : d ≤ m
      · rw [if_pos h2, if_neg (by omega)] at hg
        exact ⟨g, out, hg, hI⟩
      · rw [if_neg h2] at hg
        refine ⟨g + 1, out, ?_, hI⟩
        simp only [wkF]
        rw [if_neg (by omega)]
        exact hg
  · rintro e w' ⟨he, g, out, hg, hI⟩
    cases g with
    | zero => simp [wkF] at hg
    | succ g =>
      simp only [wkF] at hg
      rw [if_neg (by omega)] at hg
      obtain rfl := Option.some.inj hg
      exact ⟨he, hI⟩
set_option maxHeartbeats 8000000 in
set_option maxRecDepth 100000 in
theorem works_walk (k : Nat) (a0 : Int) (a1 : Int) (r : List (List S23)) (w : World) (h : wksF k a0 a1 = some r) :
    Calls Try.prog 46 #[.int .i64 a0, .int .i64 a1] w fun e w' => ∃ v0_ : Value, e = .returned (v0_) ∧ Kd.S (Kd.slice 23 k23) 28 w' w.heap.size (fun _ => True) v0_ r ∧ Below w.heap.size w w' := by
  have hu23 := Try.underlying23
  have hmf : ∀ (fn : Fn) (first cap : Array Value) (w : World), (Instr.makeFunc fn first cap).run Try.prog w = .ok (.func fn first cap) w := fun _ _ _ _ => rfl
  have HB := Aside0.mk (Below.refl w.heap.size w)
  unfold wksF at h
  by_cases hg : 6 ≤ a1 ∧ a1 ≤ 120
  · rw [if_pos hg] at h
    have HR := Aside0.mk h
    have HG := Aside0.mk hg
    clear h hg
    go_enter Try.func46, Try.ntmps46
    go_wp2_with (first | ((with_reducible refine gate_dst (N := 2) rfl ?_); (refine box_event ?hg (N := 2) ?hd (cs := #[.int .i64 a0]) (t := 3) ?hr ?_; (case hd => rfl); (case hg => rfl); (case hr => first | (go_simp; done) | (go_simp; rfl)); intro bh hg w1 hbox hb; have BKbh := Aside0.mk hbox; have n0_ := Aside0.mk (below_step (by repeat (first | (with_reducible first | exact HB.out | apply below_alloc | apply pw_below_drewN | apply below_drew1) | exact HB.out)) hb); clear HB ; have HB := n0_; clear n0_; clear hb hbox hg; )) | ((with_reducible refine gate_dst (N := 3) rfl ?_); (refine box_event ?hg (N := 3) ?hd (cs := #[.int .i64 a1]) (t := 3) ?hr ?_; (case hd => rfl); (case hg => rfl); (case hr => first | (go_simp; done) | (go_simp; rfl)); intro bm hg w2 hbox hb; have BKbm := Aside0.mk hbox; have n0_ := Aside0.mk (below_step (by repeat (first | (with_reducible first | exact HB.out | apply below_alloc | apply pw_below_drewN | apply below_drew1) | exact HB.out)) hb); have n1_ := Aside0.mk (blk_below (by (with_reducible repeat (first | refine blk_drewN ?_ _ | refine blk_drew ?_ | refine blk_alloc ?_ _)); exact BKbh.out) hb); clear HB BKbh; have HB := n0_; have BKbh := n1_; clear n0_ n1_; clear hb hbox hg; have hbBKbh0 : w2.cell? ⟨bh, 0, none⟩ = some (.int .i64 a0) := (blk_cell BKbh.out 0).trans rfl; have hbBKbm0 : w2.cell? ⟨bm, 0, none⟩ = some (.int .i64 a1) := (blk_cell BKbm.out 0).trans rfl)) | ((with_reducible refine gate_dst (N := 6) rfl ?_); (refine Kd.R_lit (Kd.tag (fun _ => 0) (Kd.slice 23 k23)) _ 28 ?hg (N := 6) ?hd (xs := ([] : List (List S23 × Nat))) (inner := []) (ok := fun _ => True) (okp := fun _ => True) ?hr ?hp (fun _ hk => hk) trivial (Below.refl _ _) (Nat.le_refl _) (by simp) ?_; (case hd => rfl); (case hg => rfl); (case hr => first | (go_simp; done) | (go_simp; rfl)); (case hp => exact (Reps.none _ _)); intro v8 w8 ho hb hg_ hnew_; clear hg_ hnew_; obtain ⟨A8, c8, rfl, hc8, hC8⟩ := Kd.R_reads ho; clear hc8 hC8; have HO := Aside0.mk (Kd.S_lower (show Kd.S (Kd.slice 23 k23) 28 w8 _ (fun _ => True) (.slice A8 0 c8) [] from ⟨fun _ => 0, ho⟩) (below_size (by repeat (first | (with_reducible first | exact HB.out | apply below_alloc | apply pw_below_drewN | apply below_drew1) | exact HB.out)))); have n0_ := Aside0.mk (below_step (by repeat (first | (with_reducible first | exact HB.out | apply below_alloc | apply pw_below_drewN | apply below_drew1) | exact HB.out)) hb); have n1_ := Aside0.mk (blk_below (by (with_reducible repeat (first | refine blk_drewN ?_ _ | refine blk_drew ?_ | refine blk_alloc ?_ _)); exact BKbh.out) hb); have n2_ := Aside0.mk (blk_below (by (with_reducible repeat (first | refine blk_drewN ?_ _ | refine blk_drew ?_ | refine blk_alloc ?_ _)); exact BKbm.out) hb); clear HB BKbh BKbm; have HB := n0_; have BKbh := n1_; have BKbm := n2_; clear n0_ n1_ n2_; clear hb ho; have hfBKbh0 : w8.cell? ⟨bh, 0, none⟩ = some (.int .i64 a0) := (blk_cell BKbh.out 0).trans rfl; have hfBKbm0 : w8.cell? ⟨bm, 0, none⟩ = some (.int .i64 a1) := (blk_cell BKbm.out 0).trans rfl)) | ((with_reducible refine gate_dst (N := 5) rfl ?_); (refine box_event ?hg (N := 5) ?hd (cs := #[.slice none 0 0]) (t := 34) ?hr ?_; (case hd => rfl); (case hg => rfl); (case hr => first | (go_simp; done) | (go_simp; rfl)); intro bo hg w9 hbox hb; have BKbo := Aside0.mk hbox; have n0_ := Aside0.mk (below_step (by repeat (first | (with_reducible first | exact HB.out | apply below_alloc | apply pw_below_drewN | apply below_drew1) | exact HB.out)) hb); have n1_ := Aside0.mk (blk_below (by (with_reducible repeat (first | refine blk_drewN ?_ _ | refine blk_drew ?_ | refine blk_alloc ?_ _)); exact BKbh.out) hb); have n2_ := Aside0.mk (blk_below (by (with_reducible repeat (first | refine blk_drewN ?_ _ | refine blk_drew ?_ | refine blk_alloc ?_ _)); exact BKbm.out) hb); have n3_ := Aside0.mk (Kd.S_below (by (with_reducible repeat (first | apply Kd.S_alloc | apply Kd.S_drewN | apply Kd.S_drew)); exact HO.out) hb); have GE := Aside0.mk (by rw [hg]; exact (below_size (by repeat (first | (with_reducible first | exact HB.out | apply below_alloc | apply pw_below_drewN | apply below_drew1) | exact HB.out))) : w.heap.size ≤ bo); clear HB BKbh BKbm HO; have HB := n0_; have BKbh := n1_; have BKbm := n2_; have HO := n3_; clear n0_ n1_ n2_ n3_; clear hb hbox hg; have hgBKbh0 : w9.cell? ⟨bh, 0, none⟩ = some (.int .i64 a0) := (blk_cell BKbh.out 0).trans rfl; have hgBKbm0 : w9.cell? ⟨bm, 0, none⟩ = some (.int .i64 a1) := (blk_cell BKbm.out 0).trans rfl; have hgBKbo0 : w9.cell? ⟨bo, 0, none⟩ = some (.slice none 0 0) := (blk_cell BKbo.out 0).trans rfl; have hfgBKbo0 := blk_frozen BKbo.out 0; have hnm1 := blk_ne BKbm.out BKbo.out (by decide); have hnm2 := hnm1.symm)) | (go_at_call 37; ((refine (works_each k w a0 a1 bh bm bo r (by have := HG.out; omega) (by have := HG.out; omega) _ ⟨blk_far (by (with_reducible repeat (first | refine blk_drewN ?_ _ | refine blk_drew ?_ | refine blk_alloc ?_ _)); exact BKbh.out) (blk_ne (by (with_reducible repeat (first | refine blk_drewN ?_ _ | refine blk_drew ?_ | refine blk_alloc ?_ _)); exact BKbh.out) (by (with_reducible repeat (first | refine blk_drewN ?_ _ | refine blk_drew ?_ | refine blk_alloc ?_ _)); exact BKbo.out) (by decide)) _, blk_far (by (with_reducible repeat (first | refine blk_drewN ?_ _ | refine blk_drew ?_ | refine blk_alloc ?_ _)); exact BKbm.out) (blk_ne (by (with_reducible repeat (first | refine blk_drewN ?_ _ | refine blk_drew ?_ | refine blk_alloc ?_ _)); exact BKbm.out) (by (with_reducible repeat (first | refine blk_drewN ?_ _ | refine blk_drew ?_ | refine blk_alloc ?_ _)); exact BKbo.out) (by decide)) _, ⟨_, blk_put (by (with_reducible repeat (first | refine blk_drewN ?_ _ | refine blk_drew ?_ | refine blk_alloc ?_ _)); exact BKbo.out) 0 _ rfl, Kd.S_set (by (with_reducible repeat (first | apply Kd.S_alloc | apply Kd.S_drewN | apply Kd.S_drew)); exact HO.out) (by (with_reducible repeat (first | refine blk_drewN ?_ _ | refine blk_drew ?_ | refine blk_alloc ?_ _)); exact BKbo.out) (by decide) 0 _⟩, GE.out, below_set (by repeat (first | (with_reducible first | exact HB.out | apply below_alloc | apply pw_below_drewN | apply below_drew1) | exact HB.out)) GE.out⟩ HR.out).mono ?_); rintro e w10 ⟨rfl, hI⟩; obtain ⟨h1, h2, ⟨v, ho, hS⟩, hge, hB⟩ := hI; obtain ⟨A, c, rfl, hc, hC⟩ := Kd.S_reads hS; clear h1 h2 hge hc hC; have hco : w10.cell? ⟨bo, 0, none⟩ = some (.slice A r.length c) := (blk_cell ho 0).trans rfl; have HRR := Aside0.mk hS; have HBB := Aside0.mk hB; clear ho hS hB)))
    go_ret
    exact ⟨_, rfl, (by (with_reducible repeat (first | apply Kd.S_alloc | apply Kd.S_drewN | apply Kd.S_drew)); exact HRR.out), (by repeat (first | (with_reducible first | exact HBB.out | apply below_alloc | apply pw_below_drewN | apply below_drew1) | exact HBB.out))⟩
  · rw [if_neg hg] at h
    cases h

def impl_works.f (k : Nat) (a0 : Int) (a1 : Int) : Option (List (List S23)) := wksF k a0 a1
theorem impl_works.mono : ∀ a0 a1 k, LeO (impl_works.f k a0 a1) (impl_works.f (k + 1) a0 a1) := fun a0 a1 k => by
  unfold impl_works.f wksF
  exact LeO.ite (wkF_mono a0 a1 k 6 6 []) (LeO.refl _)
theorem impl_works.calls (k : Nat) (a0 : Int) (a1 : Int) (r : List (List (S23))) (w : World) (h : impl_works.f k a0 a1 = some r) :
    Calls Try.prog 46 #[.int .i64 a0, .int .i64 a1] w fun e w' => ∃ v0_ : Value, e = .returned (v0_) ∧ Kd.S (Kd.slice 23 k23) 28 w' w.heap.size (fun _ => True) v0_ r ∧ Below w.heap.size w w' := works_walk k a0 a1 r w h

/-! ### impl_teeth: function 47 -/
def impl_teeth.l0 : Nat → Int → List (S23) → Int → Int → Option (Int)
  | 0, _, _, _, _ => none
  | k + 1, x3, x6, x7, x8 => if x8 < x7 then (if 0 ≤ x8 then (if x8 < (x6.length : Int) then (impl_teeth.l0 k (wrap64 (x3 + (wrap64 (((rd_T23 x6 x8).f0) + ((rd_T23 x6 x8).f1))))) x6 x7 (wrap64 (x8 + 1))) else (none)) else (none)) else (some x3)
def impl_teeth.f (k : Nat) (l0 : List (S23)) : Option (Int) := impl_teeth.l0 k 0 l0 (l0.length : Int) 0
theorem impl_teeth.mono_l : ∀ k, (∀ y0 y1 y2 y3, LeO (impl_teeth.l0 k y0 y1 y2 y3) (impl_teeth.l0 (k + 1) y0 y1 y2 y3))
  | 0 => fun _ _ _ _ r h => by simp [impl_teeth.l0] at h
  | k + 1 => by
    have ih0 := impl_teeth.mono_l k
    · intro y0 y1 y2 y3
      unfold impl_teeth.l0
      repeat' first
      | (with_reducible exact ih0 _ _ _ _)
      | (with_reducible exact LeO.refl _)
      | (with_reducible exact LeO.none _)
      | (with_reducible refine LeO.ite ?_ ?_)
      | (with_reducible refine LeO.bind ?_ (fun _ => ?_))
      | exact ih0 _ _ _ _
      | exact LeO.none _
      | refine LeO.ite ?_ ?_
      | refine LeO.bind ?_ (fun _ => ?_)
theorem impl_teeth.mono : ∀ a0 k, LeO (impl_teeth.f k a0) (impl_teeth.f (k + 1) a0) := by
  intro a0 k
  have ih0 := impl_teeth.mono_l k
  unfold impl_teeth.f
  repeat' first
      | (with_reducible exact ih0 _ _ _ _)
      | (with_reducible exact LeO.refl _)
      | (with_reducible exact LeO.none _)
      | (with_reducible refine LeO.ite ?_ ?_)
      | (with_reducible refine LeO.bind ?_ (fun _ => ?_))
      | exact ih0 _ _ _ _
      | exact LeO.none _
      | refine LeO.ite ?_ ?_
      | refine LeO.bind ?_ (fun _ => ?_)
set_option maxHeartbeats 8000000 in
set_option maxRecDepth 100000 in
theorem impl_teeth.calls (k : Nat) (A0 : Option Addr) (c0 : Nat) (l0 : List (S23)) (r : Int) (w : World) (hr0 : Kd.C k23 w A0 l0.length l0) (hc0 : l0.length ≤ c0) (h : impl_teeth.f k l0 = some r) :
    Calls Try.prog 47 #[.slice A0 l0.length c0] w fun e w' => e = .returned (.int .i64 r) ∧ Below w.heap.size w w' := by
  have hu23 := Try.underlying23
  have HR0 := Aside0.mk hr0
  have HC0 := Aside0.mk hc0
  clear hr0 hc0
  have HB := Aside0.mk (Below.refl w.heap.size w)
  have H : (impl_teeth.l0 k 0 l0 (l0.length : Int) 0) = some r := h
  clear h
  have H' := Aside0.mk H
  clear H
  go_enter Try.func47, Try.ntmps47
  go_wp2
  go_loopg [3, 8] k (fun kq v3 v8 w' => ∃ (x3_1 : Int) (x8_1 : Int), v3 = .int .i64 x3_1 ∧ v8 = .int .i64 x8_1 ∧ Aside0 (impl_teeth.l0 kq x3_1 l0 (l0.length : Int) x8_1 = some r) ∧ Aside0 (kq ≤ k) ∧ Aside0 (Below w.heap.size w w'))
  case atStart => exact ⟨(0), (0), (by first | rfl | (simp; done) | (simp [*]; done)), (by first | rfl | (simp; done) | (simp [*]; done)), H', ⟨Nat.le_refl _⟩, ⟨by repeat (first | (with_reducible first | exact HB.out | apply below_alloc | apply pw_below_drewN | apply below_drew1) | exact HB.out)⟩⟩
  case round =>
    clear H'
    obtain ⟨x3_1, x8_1, rfl, rfl, HA, HK1, HB⟩ := hrel
    cases gk with
    | zero => exact absurd HA.out (by simp [impl_teeth.l0])
    | succ k1 =>
      have H := HA.out
      clear HA
      simp only [impl_teeth.l0] at H
      by_cases c2 : x8_1 < (l0.length : Int)
      · rw [if_pos c2] at H
        have c2b0 : decide (x8_1 < (l0.length : Int)) = true := decide_eq_true c2
        clear c2
        by_cases c3 : 0 ≤ x8_1
        · rw [if_pos c3] at H
          have c3b0 : decide (0 ≤ x8_1) = true := decide_eq_true c3
          clear c3
          by_cases c4 : x8_1 < (l0.length : Int)
          · rw [if_pos c4] at H
            have c4b0 : decide (x8_1 < (l0.length : Int)) = true := decide_eq_true c4
            clear c4
            have H' := Aside0.mk H
            clear H
            have p130 : 0 ≤ (x8_1 : Int) := of_decide_eq_true (by first | (with_reducible assumption) | assumption)
            have q130 : x8_1 < (l0.length : Int) := of_decide_eq_true (by first | (with_reducible assumption) | assumption)
            obtain ⟨ad130, e130, hx130_0, hx130_1⟩ := at_T23 HR0.out x8_1 p130 q130
            cases e130
            replace hx130_0 := (HB.out.cell (World.block_lt_of_cell? w _ hx130_0)).trans hx130_0
            replace hx130_1 := (HB.out.cell (World.block_lt_of_cell? w _ hx130_1)).trans hx130_1
            replace p130 := eq_true p130
            replace q130 := eq_true q130
            go_wp2_with (first | ((with_reducible refine gate_dst (N := 5) rfl ?_); refine box_event ?hg (N := 5) ?hd (cs := #[.int .i64 0, .int .i64 0]) (t := 23) ?hr ?_; (case hd => rfl); (case hg => rfl); (case hr => first | (go_simp; done) | (go_simp; rfl)); intro gb131 hg w5 hbox hb; have n0_ := Aside0.mk (below_step (by repeat (first | (with_reducible first | exact HB.out | apply below_alloc | apply pw_below_drewN | apply below_drew1) | exact HB.out)) hb); have n1_ := Aside0.mk (hbox); have n2_ := Aside0.mk ((by rw [hg]; exact (below_size (by repeat (first | (with_reducible first | exact HB.out | apply below_alloc | apply pw_below_drewN | apply below_drew1) | exact HB.out))) : w.heap.size ≤ gb131)); have n3_ := Aside0.mk ((by rw [hg]; exact (below_size (by repeat (first | (with_reducible first | exact HB.out | apply below_alloc | apply pw_below_drewN | apply below_drew1) | exact HB.out))) : w.heap.size ≤ gb131)); clear HB; have HB := n0_; have BK131 := n1_; have GW131 := n2_; have GE131 := n3_; clear n0_ n1_ n2_ n3_; clear hb hbox hg; have hcz6_0 : w5.cell? ⟨gb131, 0, none⟩ = some (.int .i64 0) := (blk_cell BK131.out 0).trans rfl; have hcz6_1 : w5.cell? ⟨gb131, 1, none⟩ = some (.int .i64 0) := (blk_cell BK131.out 1).trans rfl; have hfz6_0 := blk_frozen BK131.out 0; have hfz6_1 := blk_frozen BK131.out 1))
            go_roundg k1
            case measure => have := HK1.out; omega
            case rel => exact ⟨(wrap64 (x3_1 + (wrap64 (((rd_T23 l0 x8_1).f0) + ((rd_T23 l0 x8_1).f1))))), (wrap64 (x8_1 + 1)), (by first | rfl | (simp; done) | (simp [*]; done)), (by first | rfl | (simp; done) | (simp [*]; done)), H', ⟨by have := HK1.out; omega⟩, ⟨by repeat (first | (with_reducible first | exact HB.out | apply below_alloc | apply pw_below_drewN | apply below_drew1 | refine below_set ?_ GE131.out) | exact HB.out)⟩⟩
          · rw [if_neg c4] at H
            exact absurd H (by simp)
        · rw [if_neg c3] at H
          exact absurd H (by simp)
      · rw [if_neg c2] at H
        have c2b0 : decide (x8_1 < (l0.length : Int)) = false := decide_eq_false c2
        clear c2
        obtain rfl := Option.some.inj H
        go_wp2
        go_ret
        exact ⟨by first | rfl | (simp [errW_none, errW_some] <;> rfl) | (simp [*, errW_none, errW_some] <;> rfl), by repeat (first | (with_reducible first | exact HB.out | apply below_alloc | apply pw_below_drewN | apply below_drew1) | exact HB.out)⟩

-- NOT PRINTED: function 13 (impl_FirstMotionWork)

/-! ### laws_eqPair: function 11 -/
def laws_eqPair.f (a0_0 : Int) (a0_1 : Int) (a1_0 : Int) (a1_1 : Int) : Option (Bool) := if a0_0 = a1_0 then (if a0_1 = a1_1 then (some true) else (some false)) else (some false)
set_option maxHeartbeats 8000000 in
set_option maxRecDepth 100000 in
theorem laws_eqPair.calls (a0_0 : Int) (a0_1 : Int) (a1_0 : Int) (a1_1 : Int) (r : Bool) (w : World) (h : laws_eqPair.f a0_0 a0_1 a1_0 a1_1 = some r) :
    Calls Try.prog 11 #[.agg #[.int .i64 a0_0, .int .i64 a0_1], .agg #[.int .i64 a1_0, .int .i64 a1_1]] w fun e w' => e = .returned (.bool r) ∧ Below w.heap.size w w' := by
  have hu23 := Try.underlying23
  have HB := Aside0.mk (Below.refl w.heap.size w)
  have H : (if a0_0 = a1_0 then (if a0_1 = a1_1 then (some true) else (some false)) else (some false)) = some r := h
  clear h
  by_cases c3 : a0_0 = a1_0
  · rw [if_pos c3] at H
    have c3b0 : (a0_0 == a1_0) = true := beq_iff_eq.mpr c3
    have c3b1 : (a0_0 != a1_0) = false := bne_eq_false_iff_eq.mpr c3
    clear c3
    by_cases c4 : a0_1 = a1_1
    · rw [if_pos c4] at H
      have c4b0 : (a0_1 == a1_1) = true := beq_iff_eq.mpr c4
      have c4b1 : (a0_1 != a1_1) = false := bne_eq_false_iff_eq.mpr c4
      clear c4
      obtain rfl := Option.some.inj H
      go_enter Try.func11, Try.ntmps11
      go_wp2_with (first | ((with_reducible refine gate_dst (N := 2) rfl ?_); refine box_event ?hg (N := 2) ?hd (cs := #[.int .i64 a0_0, .int .i64 a0_1]) (t := 23) ?hr ?_; (case hd => rfl); (case hg => rfl); (case hr => first | (go_simp; done) | (go_simp; rfl)); intro gb143 hg w5 hbox hb; have n0_ := Aside0.mk (below_step (by repeat (first | (with_reducible first | exact HB.out | apply below_alloc | apply pw_below_drewN | apply below_drew1) | exact HB.out)) hb); have n1_ := Aside0.mk (hbox); have n2_ := Aside0.mk ((by rw [hg]; exact (below_size (by repeat (first | (with_reducible first | exact HB.out | apply below_alloc | apply pw_below_drewN | apply below_drew1) | exact HB.out))) : w.heap.size ≤ gb143)); have n3_ := Aside0.mk ((by rw [hg]; exact (below_size (by repeat (first | (with_reducible first | exact HB.out | apply below_alloc | apply pw_below_drewN | apply below_drew1) | exact HB.out))) : w.heap.size ≤ gb143)); clear HB; have HB := n0_; have BK143 := n1_; have GW143 := n2_; have GE143 := n3_; clear n0_ n1_ n2_ n3_; clear hb hbox hg) | ((with_reducible refine gate_dst (N := 3) rfl ?_); refine box_event ?hg (N := 3) ?hd (cs := #[.int .i64 a1_0, .int .i64 a1_1]) (t := 23) ?hr ?_; (case hd => rfl); (case hg => rfl); (case hr => first | (go_simp; done) | (go_simp; rfl)); intro gb144 hg w6 hbox hb; have n0_ := Aside0.mk (blk_below (g := gb143) (o := .cells #[.int .i64 a0_0, .int .i64 a0_1] 23 (0, 0)) (by (with_reducible repeat (first | refine blk_drewN ?_ _ | refine blk_drew ?_ | refine blk_alloc ?_ _)); exact BK143.out) hb); have n1_ := Aside0.mk (below_step (by repeat (first | (with_reducible first | exact HB.out | apply below_alloc | apply pw_below_drewN | apply below_drew1 | refine below_set ?_ GE143.out) | exact HB.out)) hb); have n2_ := Aside0.mk (hbox); have n3_ := Aside0.mk ((by rw [hg]; exact (below_size (by repeat (first | (with_reducible first | exact HB.out | apply below_alloc | apply pw_below_drewN | apply below_drew1 | refine below_set ?_ GE143.out) | exact HB.out))) : w.heap.size ≤ gb144)); have n4_ := Aside0.mk ((by rw [hg]; exact (below_size (by repeat (first | (with_reducible first | exact HB.out | apply below_alloc | apply pw_below_drewN | apply below_drew1 | refine below_set ?_ GE143.out) | exact HB.out))) : w.heap.size ≤ gb144)); have n5_ := Aside0.mk ((by rw [hg]; exact Nat.ne_of_lt (blk_lt (g := gb143) (o := .cells #[.int .i64 a0_0, .int .i64 a0_1] 23 (0, 0)) (by (with_reducible repeat (first | refine blk_drewN ?_ _ | refine blk_drew ?_ | refine blk_alloc ?_ _)); exact BK143.out)) : gb143 ≠ gb144)); have n6_ := Aside0.mk ((by rw [hg]; exact Nat.ne_of_gt (blk_lt (g := gb143) (o := .cells #[.int .i64 a0_0, .int .i64 a0_1] 23 (0, 0)) (by (with_reducible repeat (first | refine blk_drewN ?_ _ | refine blk_drew ?_ | refine blk_alloc ?_ _)); exact BK143.out)) : gb144 ≠ gb143)); clear BK143; clear HB; have BK143 := n0_; have HB := n1_; have BK144 := n2_; have GW144 := n3_; have GE144 := n4_; have NB143_144 := n5_; have NB144_143 := n6_; clear n0_ n1_ n2_ n3_ n4_ n5_ n6_; clear hb hbox hg; have hnb7 := NB143_144.out; have hnc7 := NB144_143.out; have hcz8_0 : w6.cell? ⟨gb143, 0, none⟩ = some (.int .i64 a0_0) := (blk_cell BK143.out 0).trans rfl; have hcz8_1 : w6.cell? ⟨gb143, 1, none⟩ = some (.int .i64 a0_1) := (blk_cell BK143.out 1).trans rfl; have hfz8_0 := blk_frozen BK143.out 0; have hfz8_1 := blk_frozen BK143.out 1; have hcz9_0 : w6.cell? ⟨gb144, 0, none⟩ = some (.int .i64 a1_0) := (blk_cell BK144.out 0).trans rfl; have hcz9_1 : w6.cell? ⟨gb144, 1, none⟩ = some (.int .i64 a1_1) := (blk_cell BK144.out 1).trans rfl; have hfz9_0 := blk_frozen BK144.out 0; have hfz9_1 := blk_frozen BK144.out 1))
      go_ret
      exact ⟨by first | rfl | (simp [errW_none, errW_some] <;> rfl) | (simp [*, errW_none, errW_some] <;> rfl), by repeat (first | (with_reducible first | exact HB.out | apply below_alloc | apply pw_below_drewN | apply below_drew1 | refine below_set ?_ GE143.out | refine below_set ?_ GE144.out) | exact HB.out)⟩
    · rw [if_neg c4] at H
      have c4b0 : (a0_1 == a1_1) = false := beq_eq_false_iff_ne.mpr c4
      have c4b1 : (a0_1 != a1_1) = true := bne_iff_ne.mpr c4
      obtain rfl := Option.some.inj H
      go_enter Try.func11, Try.ntmps11
      go_wp2_with (first | ((with_reducible refine gate_dst (N := 2) rfl ?_); refine box_event ?hg (N := 2) ?hd (cs := #[.int .i64 a0_0, .int .i64 a0_1]) (t := 23) ?hr ?_; (case hd => rfl); (case hg => rfl); (case hr => first | (go_simp; done) | (go_simp; rfl)); intro gb143 hg w10 hbox hb; have n0_ := Aside0.mk (below_step (by repeat (first | (with_reducible first | exact HB.out | apply below_alloc | apply pw_below_drewN | apply below_drew1) | exact HB.out)) hb); have n1_ := Aside0.mk (hbox); have n2_ := Aside0.mk ((by rw [hg]; exact (below_size (by repeat (first | (with_reducible first | exact HB.out | apply below_alloc | apply pw_below_drewN | apply below_drew1) | exact HB.out))) : w.heap.size ≤ gb143)); have n3_ := Aside0.mk ((by rw [hg]; exact (below_size (by repeat (first | (with_reducible first | exact HB.out | apply below_alloc | apply pw_below_drewN | apply below_drew1) | exact HB.out))) : w.heap.size ≤ gb143)); clear HB; have HB := n0_; have BK143 := n1_; have GW143 := n2_; have GE143 := n3_; clear n0_ n1_ n2_ n3_; clear hb hbox hg) | ((with_reducible refine gate_dst (N := 3) rfl ?_); refine box_event ?hg (N := 3) ?hd (cs := #[.int .i64 a1_0, .int .i64 a1_1]) (t := 23) ?hr ?_; (case hd => rfl); (case hg => rfl); (case hr => first | (go_simp; done) | (go_simp; rfl)); intro gb144 hg w11 hbox hb; have n0_ := Aside0.mk (blk_below (g := gb143) (o := .cells #[.int .i64 a0_0, .int .i64 a0_1] 23 (0, 0)) (by (with_reducible repeat (first | refine blk_drewN ?_ _ | refine blk_drew ?_ | refine blk_alloc ?_ _)); exact BK143.out) hb); have n1_ := Aside0.mk (below_step (by repeat (first | (with_reducible first | exact HB.out | apply below_alloc | apply pw_below_drewN | apply below_drew1 | refine below_set ?_ GE143.out) | exact HB.out)) hb); have n2_ := Aside0.mk (hbox); have n3_ := Aside0.mk ((by rw [hg]; exact (below_size (by repeat (first | (with_reducible first | exact HB.out | apply below_alloc | apply pw_below_drewN | apply below_drew1 | refine below_set ?_ GE143.out) | exact HB.out))) : w.heap.size ≤ gb144)); have n4_ := Aside0.mk ((by rw [hg]; exact (below_size (by repeat (first | (with_reducible first | exact HB.out | apply below_alloc | apply pw_below_drewN | apply below_drew1 | refine below_set ?_ GE143.out) | exact HB.out))) : w.heap.size ≤ gb144)); have n5_ := Aside0.mk ((by rw [hg]; exact Nat.ne_of_lt (blk_lt (g := gb143) (o := .cells #[.int .i64 a0_0, .int .i64 a0_1] 23 (0, 0)) (by (with_reducible repeat (first | refine blk_drewN ?_ _ | refine blk_drew ?_ | refine blk_alloc ?_ _)); exact BK143.out)) : gb143 ≠ gb144)); have n6_ := Aside0.mk ((by rw [hg]; exact Nat.ne_of_gt (blk_lt (g := gb143) (o := .cells #[.int .i64 a0_0, .int .i64 a0_1] 23 (0, 0)) (by (with_reducible repeat (first | refine blk_drewN ?_ _ | refine blk_drew ?_ | refine blk_alloc ?_ _)); exact BK143.out)) : gb144 ≠ gb143)); clear BK143; clear HB; have BK143 := n0_; have HB := n1_; have BK144 := n2_; have GW144 := n3_; have GE144 := n4_; have NB143_144 := n5_; have NB144_143 := n6_; clear n0_ n1_ n2_ n3_ n4_ n5_ n6_; clear hb hbox hg; have hnb12 := NB143_144.out; have hnc12 := NB144_143.out; have hcz13_0 : w11.cell? ⟨gb143, 0, none⟩ = some (.int .i64 a0_0) := (blk_cell BK143.out 0).trans rfl; have hcz13_1 : w11.cell? ⟨gb143, 1, none⟩ = some (.int .i64 a0_1) := (blk_cell BK143.out 1).trans rfl; have hfz13_0 := blk_frozen BK143.out 0; have hfz13_1 := blk_frozen BK143.out 1; have hcz14_0 : w11.cell? ⟨gb144, 0, none⟩ = some (.int .i64 a1_0) := (blk_cell BK144.out 0).trans rfl; have hcz14_1 : w11.cell? ⟨gb144, 1, none⟩ = some (.int .i64 a1_1) := (blk_cell BK144.out 1).trans rfl; have hfz14_0 := blk_frozen BK144.out 0; have hfz14_1 := blk_frozen BK144.out 1))
      go_ret
      exact ⟨by first | rfl | (simp [errW_none, errW_some] <;> rfl) | (simp [*, errW_none, errW_some] <;> rfl), by repeat (first | (with_reducible first | exact HB.out | apply below_alloc | apply pw_below_drewN | apply below_drew1 | refine below_set ?_ GE143.out | refine below_set ?_ GE144.out) | exact HB.out)⟩
  · rw [if_neg c3] at H
    have c3b0 : (a0_0 == a1_0) = false := beq_eq_false_iff_ne.mpr c3
    have c3b1 : (a0_0 != a1_0) = true := bne_iff_ne.mpr c3
    obtain rfl := Option.some.inj H
    go_enter Try.func11, Try.ntmps11
    go_wp2_with (first | ((with_reducible refine gate_dst (N := 2) rfl ?_); refine box_event ?hg (N := 2) ?hd (cs := #[.int .i64 a0_0, .int .i64 a0_1]) (t := 23) ?hr ?_; (case hd => rfl); (case hg => rfl); (case hr => first | (go_simp; done) | (go_simp; rfl)); intro gb143 hg w15 hbox hb; have n0_ := Aside0.mk (below_step (by repeat (first | (with_reducible first | exact HB.out | apply below_alloc | apply pw_below_drewN | apply below_drew1) | exact HB.out)) hb); have n1_ := Aside0.mk (hbox); have n2_ := Aside0.mk ((by rw [hg]; exact (below_size (by repeat (first | (with_reducible first | exact HB.out | apply below_alloc | apply pw_below_drewN | apply below_drew1) | exact HB.out))) : w.heap.size ≤ gb143)); have n3_ := Aside0.mk ((by rw [hg]; exact (below_size (by repeat (first | (with_reducible first | exact HB.out | apply below_alloc | apply pw_below_drewN | apply below_drew1) | exact HB.out))) : w.heap.size ≤ gb143)); clear HB; have HB := n0_; have BK143 := n1_; have GW143 := n2_; have GE143 := n3_; clear n0_ n1_ n2_ n3_; clear hb hbox hg) | ((with_reducible refine gate_dst (N := 3) rfl ?_); refine box_event ?hg (N := 3) ?hd (cs := #[.int .i64 a1_0, .int .i64 a1_1]) (t := 23) ?hr ?_; (case hd => rfl); (case hg => rfl); (case hr => first | (go_simp; done) | (go_simp; rfl)); intro gb144 hg w16 hbox hb; have n0_ := Aside0.mk (blk_below (g := gb143) (o := .cells #[.int .i64 a0_0, .int .i64 a0_1] 23 (0, 0)) (by (with_reducible repeat (first | refine blk_drewN ?_ _ | refine blk_drew ?_ | refine blk_alloc ?_ _)); exact BK143.out) hb); have n1_ := Aside0.mk (below_step (by repeat (first | (with_reducible first | exact HB.out | apply below_alloc | apply pw_below_drewN | apply below_drew1 | refine below_set ?_ GE143.out) | exact HB.out)) hb); have n2_ := Aside0.mk (hbox); have n3_ := Aside0.mk ((by rw [hg]; exact (below_size (by repeat (first | (with_reducible first | exact HB.out | apply below_alloc | apply pw_below_drewN | apply below_drew1 | refine below_set ?_ GE143.out) | exact HB.out))) : w.heap.size ≤ gb144)); have n4_ := Aside0.mk ((by rw [hg]; exact (below_size (by repeat (first | (with_reducible first | exact HB.out | apply below_alloc | apply pw_below_drewN | apply below_drew1 | refine below_set ?_ GE143.out) | exact HB.out))) : w.heap.size ≤ gb144)); have n5_ := Aside0.mk ((by rw [hg]; exact Nat.ne_of_lt (blk_lt (g := gb143) (o := .cells #[.int .i64 a0_0, .int .i64 a0_1] 23 (0, 0)) (by (with_reducible repeat (first | refine blk_drewN ?_ _ | refine blk_drew ?_ | refine blk_alloc ?_ _)); exact BK143.out)) : gb143 ≠ gb144)); have n6_ := Aside0.mk ((by rw [hg]; exact Nat.ne_of_gt (blk_lt (g := gb143) (o := .cells #[.int .i64 a0_0, .int .i64 a0_1] 23 (0, 0)) (by (with_reducible repeat (first | refine blk_drewN ?_ _ | refine blk_drew ?_ | refine blk_alloc ?_ _)); exact BK143.out)) : gb144 ≠ gb143)); clear BK143; clear HB; have BK143 := n0_; have HB := n1_; have BK144 := n2_; have GW144 := n3_; have GE144 := n4_; have NB143_144 := n5_; have NB144_143 := n6_; clear n0_ n1_ n2_ n3_ n4_ n5_ n6_; clear hb hbox hg; have hnb17 := NB143_144.out; have hnc17 := NB144_143.out; have hcz18_0 : w16.cell? ⟨gb143, 0, none⟩ = some (.int .i64 a0_0) := (blk_cell BK143.out 0).trans rfl; have hcz18_1 : w16.cell? ⟨gb143, 1, none⟩ = some (.int .i64 a0_1) := (blk_cell BK143.out 1).trans rfl; have hfz18_0 := blk_frozen BK143.out 0; have hfz18_1 := blk_frozen BK143.out 1; have hcz19_0 : w16.cell? ⟨gb144, 0, none⟩ = some (.int .i64 a1_0) := (blk_cell BK144.out 0).trans rfl; have hcz19_1 : w16.cell? ⟨gb144, 1, none⟩ = some (.int .i64 a1_1) := (blk_cell BK144.out 1).trans rfl; have hfz19_0 := blk_frozen BK144.out 0; have hfz19_1 := blk_frozen BK144.out 1))
    go_ret
    exact ⟨by first | rfl | (simp [errW_none, errW_some] <;> rfl) | (simp [*, errW_none, errW_some] <;> rfl), by repeat (first | (with_reducible first | exact HB.out | apply below_alloc | apply pw_below_drewN | apply below_drew1 | refine below_set ?_ GE143.out | refine below_set ?_ GE144.out) | exact HB.out)⟩

end Go.Proofs.Ytofjjfaaadllmaa.GFnExactFirstMotionWork
