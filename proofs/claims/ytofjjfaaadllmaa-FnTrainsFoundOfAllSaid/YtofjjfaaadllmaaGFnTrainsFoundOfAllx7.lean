-- Written by a program of this session (a copy of the kit's print program that takes contracts of one's own); Lean checks it.
import Derived.Test.YtofjjfaaadllmaaGFnTrainsFoundOfAllx0
import Derived.Test.YtofjjfaaadllmaaGFnTrainsFoundOfAllx1
import Derived.Test.YtofjjfaaadllmaaGFnTrainsFoundOfAllx2
import Derived.Test.YtofjjfaaadllmaaGFnTrainsFoundOfAllx5
namespace Go.Proofs.Ytofjjfaaadllmaa.GFnTrainsFoundOfAll
open Go.RowKit Go.Proofs.YtofjjfaaadllmaaW.PrintWords Go.Proofs.YtofjjfaaadllmaaW.PrintLast Go.Proofs.YtofjjfaaadllmaaW.PrintMore
attribute [local go_sem] max2_int min2_int max_two min_two max_three min_three max_four min_four IntWalk.i64_left   -- for this text's walks alone
set_option linter.unusedVariables false
set_option linter.unusedSimpArgs false

attribute [local go_sem high] eqA23
/-! ### spec_geTrains: function 48 -/
mutual
def spec_geTrains.l0 : Nat → Int → Int → Int → Bool → List (S23) → Bool → Int → Int → Option ((List (S23)) × Bool)
 | 0, _, _, _, _, _, _, _, _ => none
 | k + 1, x0, x1, x2, x3, x10, x11, x12, x13 => if x13 ≤ x2 then (spec_geTrains.l1 k x0 x1 x2 x3 x10 x11 x12 x13 6) else (some (x10, x11))
def spec_geTrains.l1 : Nat → Int → Int → Int → Bool → List (S23) → Bool → Int → Int → Int → Option ((List (S23)) × Bool)
 | 0, _, _, _, _, _, _, _, _, _ => none
 | k + 1, x0, x1, x2, x3, x10, x11, x12, x13, x14 => if x14 ≤ x2 then (spec_geTrains.l2 k x0 x1 x2 x3 x10 x11 x12 x13 x14 6) else (spec_geTrains.l0 k x0 x1 x2 x3 x10 x11 x12 (wrap64 (x13 + 1)))
def spec_geTrains.l2 : Nat → Int → Int → Int → Bool → List (S23) → Bool → Int → Int → Int → Int → Option ((List (S23)) × Bool)
 | 0, _, _, _, _, _, _, _, _, _, _ => none
 | k + 1, x0, x1, x2, x3, x10, x11, x12, x13, x14, x15 => if x15 ≤ x2 then (if (wrap64 (x14 * x0)) = 0 then (none) else (if (Int.tmod (wrap64 ((wrap64 (x13 * x15)) * x1)) (wrap64 (x14 * x0))) = 0 then ((spec_l1In.f (wrap64 (Int.tdiv (wrap64 ((wrap64 (x13 * x15)) * x1)) (wrap64 (x14 * x0)))) 6 x2).bind fun t174 => (if t174 = true then (if x11 = true then (if x3 = true then (spec_geTrains.j3 k x0 x1 x2 x3 x10 x11 x12 x13 x14 x15 (wrap64 (Int.tdiv (wrap64 ((wrap64 (x13 * x15)) * x1)) (wrap64 (x14 * x0)))) (decide ((wrap64 ((wrap64 ((wrap64 (x13 + x14)) + x15)) + (wrap64 (Int.tdiv (wrap64 ((wrap64 (x13 * x15)) * x1)) (wrap64 (x14 * x0)))))) ≥ x12))) else (spec_geTrains.j3 k x0 x1 x2 x3 x10 x11 x12 x13 x14 x15 (wrap64 (Int.tdiv (wrap64 ((wrap64 (x13 * x15)) * x1)) (wrap64 (x14 * x0)))) true)) else (spec_geTrains.j3 k x0 x1 x2 x3 x10 x11 x12 x13 x14 x15 (wrap64 (Int.tdiv (wrap64 ((wrap64 (x13 * x15)) * x1)) (wrap64 (x14 * x0)))) false)) else (spec_geTrains.j3 k x0 x1 x2 x3 x10 x11 x12 x13 x14 x15 (wrap64 (Int.tdiv (wrap64 ((wrap64 (x13 * x15)) * x1)) (wrap64 (x14 * x0)))) true))) else (spec_geTrains.l2 k x0 x1 x2 x3 x10 x11 x12 x13 x14 (wrap64 (x15 + 1))))) else (spec_geTrains.l1 k x0 x1 x2 x3 x10 x11 x12 x13 (wrap64 (x14 + 1)))
def spec_geTrains.j3 : Nat → Int → Int → Int → Bool → List (S23) → Bool → Int → Int → Int → Int → Int → Bool → Option ((List (S23)) × Bool)
 | 0, _, _, _, _, _, _, _, _, _, _, _, _ => none
 | k + 1, x0, x1, x2, x3, x10, x11, x12, x13, x14, x15, x16, x73 => if x73 = true then (spec_geTrains.l2 k x0 x1 x2 x3 x10 x11 x12 x13 x14 (wrap64 (x15 + 1))) else ((some (([(⟨x13, x14⟩ : S23), (⟨x15, x16⟩ : S23)] : List (S23)) : List (S23))).bind fun y175 => (if x3 = true then (spec_geTrains.l2 k x0 x1 x2 x3 y175 true (wrap64 ((wrap64 ((wrap64 (x13 + x14)) + x15)) + x16)) x13 x14 (wrap64 (x15 + 1))) else (some (y175, true))))
end
def spec_geTrains.f (k : Nat) (a0 : Int) (a1 : Int) (a2 : Int) (a3 : Bool) : Option ((List (S23)) × Bool) := spec_geTrains.l0 k a0 a1 a2 a3 (([] : List (S23))) false 0 6
set_option maxHeartbeats 8000000 in
set_option maxRecDepth 100000 in
theorem spec_geTrains.calls (k : Nat) (a0 : Int) (a1 : Int) (a2 : Int) (a3 : Bool) (r1 : List (S23)) (r2 : Bool) (w : World) (h : spec_geTrains.f k a0 a1 a2 a3 = some (r1, r2)) :
  Calls Try.prog 48 #[.int .i64 a0, .int .i64 a1, .int .i64 a2, .bool a3] w fun e w' => ∃ v0_ : Value, e = .returned (.tuple #[v0_, .bool r2]) ∧ Kd.R k23 23 w' w.heap.size (fun _ => True) v0_ r1 ∧ Below w.heap.size w w' := by
 have hu23 := Try.underlying23
 have HB := Aside0.mk (Below.refl w.heap.size w)
 have H : (spec_geTrains.l0 k a0 a1 a2 a3 (([] : List (S23))) false 0 6) = some (r1, r2) := h
 clear h
 obtain ⟨y171, hy171⟩ : ∃ y_ : List (S23), y_ = (([] : List (S23))) := ⟨_, rfl⟩
 replace H : (spec_geTrains.l0 k a0 a1 a2 a3 y171 false 0 6) = some (r1, r2) := by first | (rw [hy171]; with_reducible exact H) | (have H2_ := (Option.bind_some _ _).symm.trans H; rw [hy171]; with_reducible exact H2_) | (have H2_ := (Option.bind_some _ _).symm.trans H; with_reducible exact H2_) | with_reducible exact H | (rw [hy171]; exact H) | exact H
 have Ny171 := Aside0.mk hy171
 clear hy171
 have H' := Aside0.mk H
 clear H
 go_enter Try.func48, Try.ntmps48
 go_wp2_with (first | ((with_reducible refine gate_dst (N := 17) rfl ?_); refine Kd.R_lit k23 _ 23 ?hg (N := 17) ?hd (xs := ([] : List (S23))) (inner := []) (ok := fun _ => True) (okp := fun _ => True) ?hr ?hp (fun _ hk => hk) trivial (Below.refl _ _) (Nat.le_refl _) (by simp) ?_; (case hd => rfl); (case hg => rfl); (case hr => first | (go_simp; done) | (go_simp; rfl)); (case hp => exact (Reps.none _ _)); intro v172 w5 ho6 hb hg_ hnew_; clear hg_ hnew_; (first | rw [← Ny171.out] at ho6 | (simp only [Int.reduceToNat] at ho6; rw [← Ny171.out] at ho6)); have n0_ := Aside0.mk (Kd.R_lower ho6 (below_size (by repeat (first | (with_reducible first | exact HB.out | apply below_alloc | apply pw_below_drewN | apply below_drew1) | exact HB.out)))); have n1_ := Aside0.mk (below_step (by repeat (first | (with_reducible first | exact HB.out | apply below_alloc | apply pw_below_drewN | apply below_drew1) | exact HB.out)) hb); clear HB; have HO173 := n0_; have HB := n1_; clear n0_ n1_; clear hb ho6))
 go_loopg [10, 11, 12, 13] k (fun kq v10 v11 v12 v13 w' => ∃ (x10_1 : List (S23)) (x11_1 : Bool) (x12_1 : Int) (x13_1 : Int), v11 = .bool x11_1 ∧ v12 = .int .i64 x12_1 ∧ v13 = .int .i64 x13_1 ∧ Aside0 (spec_geTrains.l0 kq a0 a1 a2 a3 x10_1 x11_1 x12_1 x13_1 = some (r1, r2)) ∧ Aside0 (kq ≤ k) ∧ Aside0 (Kd.R k23 23 w' w.heap.size (fun _ => True) v10 x10_1) ∧ Aside0 (Below w.heap.size w w'))
 case atStart => exact ⟨(y171), (false), (0), (6), (by first | rfl | (simp; done) | (simp [*]; done)), (by first | rfl | (simp; done) | (simp [*]; done)), (by first | rfl | (simp; done) | (simp [*]; done)), H', ⟨Nat.le_refl _⟩, ⟨by (with_reducible repeat (first | apply Kd.R_alloc | apply Kd.R_drewN | apply Kd.R_drew)); exact HO173.out⟩, ⟨by repeat (first | (with_reducible first | exact HB.out | apply below_alloc | apply pw_below_drewN | apply below_drew1) | exact HB.out)⟩⟩
 case round =>
  clear H'
  obtain ⟨x10_1, x11_1, x12_1, x13_1, rfl, rfl, rfl, HA, HK1, HO_10, HB⟩ := hrel
  cases gk with
  | zero => exact absurd HA.out (by simp [spec_geTrains.l0])
  | succ k1 =>
   have H := HA.out
   clear HA
   simp only [spec_geTrains.l0] at H
   by_cases c7 : x13_1 ≤ a2
   ·
    rw [if_pos c7] at H
    have c7b0 : decide (x13_1 ≤ a2) = true := decide_eq_true c7
    clear c7
    have H' := Aside0.mk H
    clear H
    go_wp2
    go_loopg [10, 11, 12, 14] k1 (fun kq v10 v11 v12 v14 w' => ∃ (x10_2 : List (S23)) (x11_2 : Bool) (x12_2 : Int) (x14_2 : Int), v11 = .bool x11_2 ∧ v12 = .int .i64 x12_2 ∧ v14 = .int .i64 x14_2 ∧ Aside0 (spec_geTrains.l1 kq a0 a1 a2 a3 x10_2 x11_2 x12_2 x13_1 x14_2 = some (r1, r2)) ∧ Aside0 (kq ≤ k1) ∧ Aside0 (Kd.R k23 23 w' w.heap.size (fun _ => True) v10 x10_2) ∧ Aside0 (Below w.heap.size w w'))
    case atStart => exact ⟨(x10_1), (x11_1), (x12_1), (6), (by first | rfl | (simp; done) | (simp [*]; done)), (by first | rfl | (simp; done) | (simp [*]; done)), (by first | rfl | (simp; done) | (simp [*]; done)), H', ⟨Nat.le_refl _⟩, ⟨by (with_reducible repeat (first | apply Kd.R_alloc | apply Kd.R_drewN | apply Kd.R_drew)); exact HO_10.out⟩, ⟨by repeat (first | (with_reducible first | exact HB.out | apply below_alloc | apply pw_below_drewN | apply below_drew1) | exact HB.out)⟩⟩
    case round =>
     clear H'
     try clear c7
     try clear c7b0
     obtain ⟨x10_2, x11_2, x12_2, x14_2, rfl, rfl, rfl, HA, HK2, HO_10, HB⟩ := hrel
     cases gk with
     | zero => exact absurd HA.out (by simp [spec_geTrains.l1])
     | succ k2 =>
      have H := HA.out
      clear HA
      simp only [spec_geTrains.l1] at H
      by_cases c8 : x14_2 ≤ a2
      ·
       rw [if_pos c8] at H
       have c8b0 : decide (x14_2 ≤ a2) = true := decide_eq_true c8
       clear c8
       have H' := Aside0.mk H
       clear H
       go_wp2
       go_loopg [10, 11, 12, 15] k2 (fun kq v10 v11 v12 v15 w' => ∃ (x10_3 : List (S23)) (x11_3 : Bool) (x12_3 : Int) (x15_3 : Int), v11 = .bool x11_3 ∧ v12 = .int .i64 x12_3 ∧ v15 = .int .i64 x15_3 ∧ Aside0 (spec_geTrains.l2 kq a0 a1 a2 a3 x10_3 x11_3 x12_3 x13_1 x14_2 x15_3 = some (r1, r2)) ∧ Aside0 (kq ≤ k2) ∧ Aside0 (Kd.R k23 23 w' w.heap.size (fun _ => True) v10 x10_3) ∧ Aside0 (Below w.heap.size w w'))
       case atStart => exact ⟨(x10_2), (x11_2), (x12_2), (6), (by first | rfl | (simp; done) | (simp [*]; done)), (by first | rfl | (simp; done) | (simp [*]; done)), (by first | rfl | (simp; done) | (simp [*]; done)), H', ⟨Nat.le_refl _⟩, ⟨by (with_reducible repeat (first | apply Kd.R_alloc | apply Kd.R_drewN | apply Kd.R_drew)); exact HO_10.out⟩, ⟨by repeat (first | (with_reducible first | exact HB.out | apply below_alloc | apply pw_below_drewN | apply below_drew1) | exact HB.out)⟩⟩
       case round =>
        clear H'
        try clear c7
        try clear c7b0
        try clear c8
        try clear c8b0
        obtain ⟨x10_3, x11_3, x12_3, x15_3, rfl, rfl, rfl, HA, HK3, HO_10, HB⟩ := hrel
        cases gk with
        | zero => exact absurd HA.out (by simp [spec_geTrains.l2])
        | succ k3 =>
         have H := HA.out
         clear HA
         simp only [spec_geTrains.l2] at H
         by_cases c9 : x15_3 ≤ a2
         ·
          rw [if_pos c9] at H
          have c9b0 : decide (x15_3 ≤ a2) = true := decide_eq_true c9
          clear c9
          by_cases c10 : (wrap64 (x14_2 * a0)) = 0
          ·
           rw [if_pos c10] at H
           exact absurd H (by simp)
          ·
           rw [if_neg c10] at H
           have c10b0 : ((wrap64 (x14_2 * a0)) == 0) = false := beq_eq_false_iff_ne.mpr c10
           have c10b1 : ((wrap64 (x14_2 * a0)) != 0) = true := bne_iff_ne.mpr c10
           by_cases c11 : (Int.tmod (wrap64 ((wrap64 (x13_1 * x15_3)) * a1)) (wrap64 (x14_2 * a0))) = 0
           ·
            rw [if_pos c11] at H
            have c11b0 : ((Int.tmod (wrap64 ((wrap64 (x13_1 * x15_3)) * a1)) (wrap64 (x14_2 * a0))) == 0) = true := beq_iff_eq.mpr c11
            have c11b1 : ((Int.tmod (wrap64 ((wrap64 (x13_1 * x15_3)) * a1)) (wrap64 (x14_2 * a0))) != 0) = false := bne_eq_false_iff_eq.mpr c11
            clear c11
            have HC12 := Aside0.mk H
            clear H
            go_upto_region 14 with (fail)
            go_cut [73] (fun v73 wc => ∃ (kq : Nat) (x73_11 : Bool), v73 = .bool x73_11 ∧ Aside0 (spec_geTrains.j3 kq a0 a1 a2 a3 x10_3 x11_3 x12_3 x13_1 x14_2 x15_3 (wrap64 (Int.tdiv (wrap64 ((wrap64 (x13_1 * x15_3)) * a1)) (wrap64 (x14_2 * a0)))) x73_11 = some (r1, r2)) ∧ Aside0 (kq ≤ k3) ∧ Aside0 (Kd.R k23 23 wc w.heap.size (fun _ => True) u10 x10_3) ∧ Aside0 (Below w.heap.size w wc))
            case first =>
             have H := HC12.out
             clear HC12
             replace H := Option.bind_eq_some_iff.mp H
             obtain ⟨t174, A130, H⟩ := H
             replace H : (if t174 = true then (if x11_3 = true then (if a3 = true then (spec_geTrains.j3 k3 a0 a1 a2 a3 x10_3 x11_3 x12_3 x13_1 x14_2 x15_3 (wrap64 (Int.tdiv (wrap64 ((wrap64 (x13_1 * x15_3)) * a1)) (wrap64 (x14_2 * a0)))) (decide ((wrap64 ((wrap64 ((wrap64 (x13_1 + x14_2)) + x15_3)) + (wrap64 (Int.tdiv (wrap64 ((wrap64 (x13_1 * x15_3)) * a1)) (wrap64 (x14_2 * a0)))))) ≥ x12_3))) else (spec_geTrains.j3 k3 a0 a1 a2 a3 x10_3 x11_3 x12_3 x13_1 x14_2 x15_3 (wrap64 (Int.tdiv (wrap64 ((wrap64 (x13_1 * x15_3)) * a1)) (wrap64 (x14_2 * a0)))) true)) else (spec_geTrains.j3 k3 a0 a1 a2 a3 x10_3 x11_3 x12_3 x13_1 x14_2 x15_3 (wrap64 (Int.tdiv (wrap64 ((wrap64 (x13_1 * x15_3)) * a1)) (wrap64 (x14_2 * a0)))) false)) else (spec_geTrains.j3 k3 a0 a1 a2 a3 x10_3 x11_3 x12_3 x13_1 x14_2 x15_3 (wrap64 (Int.tdiv (wrap64 ((wrap64 (x13_1 * x15_3)) * a1)) (wrap64 (x14_2 * a0)))) true)) = some (r1, r2) := H
             have A13 := Aside0.mk A130
             clear A130
             by_cases c14 : t174 = true
             ·
              subst c14
              have H1 : (if x11_3 = true then (if a3 = true then (spec_geTrains.j3 k3 a0 a1 a2 a3 x10_3 x11_3 x12_3 x13_1 x14_2 x15_3 (wrap64 (Int.tdiv (wrap64 ((wrap64 (x13_1 * x15_3)) * a1)) (wrap64 (x14_2 * a0)))) (decide ((wrap64 ((wrap64 ((wrap64 (x13_1 + x14_2)) + x15_3)) + (wrap64 (Int.tdiv (wrap64 ((wrap64 (x13_1 * x15_3)) * a1)) (wrap64 (x14_2 * a0)))))) ≥ x12_3))) else (spec_geTrains.j3 k3 a0 a1 a2 a3 x10_3 x11_3 x12_3 x13_1 x14_2 x15_3 (wrap64 (Int.tdiv (wrap64 ((wrap64 (x13_1 * x15_3)) * a1)) (wrap64 (x14_2 * a0)))) true)) else (spec_geTrains.j3 k3 a0 a1 a2 a3 x10_3 x11_3 x12_3 x13_1 x14_2 x15_3 (wrap64 (Int.tdiv (wrap64 ((wrap64 (x13_1 * x15_3)) * a1)) (wrap64 (x14_2 * a0)))) false)) = some (r1, r2) := by rw [if_pos rfl] at H; exact H
              clear H
              have H := H1
              clear H1
              by_cases c15 : x11_3 = true
              ·
               subst c15
               have H1 : (if a3 = true then (spec_geTrains.j3 k3 a0 a1 a2 a3 x10_3 true x12_3 x13_1 x14_2 x15_3 (wrap64 (Int.tdiv (wrap64 ((wrap64 (x13_1 * x15_3)) * a1)) (wrap64 (x14_2 * a0)))) (decide ((wrap64 ((wrap64 ((wrap64 (x13_1 + x14_2)) + x15_3)) + (wrap64 (Int.tdiv (wrap64 ((wrap64 (x13_1 * x15_3)) * a1)) (wrap64 (x14_2 * a0)))))) ≥ x12_3))) else (spec_geTrains.j3 k3 a0 a1 a2 a3 x10_3 true x12_3 x13_1 x14_2 x15_3 (wrap64 (Int.tdiv (wrap64 ((wrap64 (x13_1 * x15_3)) * a1)) (wrap64 (x14_2 * a0)))) true)) = some (r1, r2) := by rw [if_pos rfl] at H; exact H
               clear H
               have H := H1
               clear H1
               by_cases c16 : a3 = true
               ·
                subst c16
                have H1 : (spec_geTrains.j3 k3 a0 a1 a2 true x10_3 true x12_3 x13_1 x14_2 x15_3 (wrap64 (Int.tdiv (wrap64 ((wrap64 (x13_1 * x15_3)) * a1)) (wrap64 (x14_2 * a0)))) (decide ((wrap64 ((wrap64 ((wrap64 (x13_1 + x14_2)) + x15_3)) + (wrap64 (Int.tdiv (wrap64 ((wrap64 (x13_1 * x15_3)) * a1)) (wrap64 (x14_2 * a0)))))) ≥ x12_3))) = some (r1, r2) := by rw [if_pos rfl] at H; exact H
                clear H
                have H := H1
                clear H1
                as_aux_lemma =>
                 have H' := Aside0.mk H
                 clear H
                 go_wp2_with (first | ((with_reducible refine gate_callee (f := 53) rfl ?_); refine goesL_ (some 54) rfl rfl Try.func53 (by kernel_rfl) rfl #[.int .i64 (wrap64 (Int.tdiv (wrap64 ((wrap64 (x13_1 * x15_3)) * a1)) (wrap64 (x14_2 * a0)))), .int .i64 6, .int .i64 a2] rfl (by (try simp only [List.map_toArray, List.map_cons, List.map_nil]); first | done | rfl | (simp only [List.length_drop, List.length_take]; rfl)) ?_; (with_reducible refine (spec_l1In.calls (wrap64 (Int.tdiv (wrap64 ((wrap64 (x13_1 * x15_3)) * a1)) (wrap64 (x14_2 * a0)))) 6 a2 true _ A13.out).mono ?_); rintro e w' ⟨rfl, ⟨nd, rfl⟩⟩; refine ⟨_, rfl, ?_⟩))
                 go_meet
                 case rel => exact ⟨_, (decide ((wrap64 ((wrap64 ((wrap64 (x13_1 + x14_2)) + x15_3)) + (wrap64 (Int.tdiv (wrap64 ((wrap64 (x13_1 * x15_3)) * a1)) (wrap64 (x14_2 * a0)))))) ≥ x12_3)), (by first | rfl | (simp; done) | (simp [*]; done)), H', ⟨by have := HK1.out; have := HK2.out; have := HK3.out; first | omega | exact Nat.le_refl _⟩, ⟨by (with_reducible repeat (first | apply Kd.R_alloc | apply Kd.R_drewN | apply Kd.R_drew)); exact HO_10.out⟩, ⟨by repeat (first | (with_reducible first | exact HB.out | apply below_alloc | apply pw_below_drewN | apply below_drew1) | exact HB.out)⟩⟩
               ·
                replace c16 := Bool.eq_false_iff.mpr c16
                subst c16
                have H1 : (spec_geTrains.j3 k3 a0 a1 a2 false x10_3 true x12_3 x13_1 x14_2 x15_3 (wrap64 (Int.tdiv (wrap64 ((wrap64 (x13_1 * x15_3)) * a1)) (wrap64 (x14_2 * a0)))) true) = some (r1, r2) := by rw [if_neg (show ¬ (false = true) by decide)] at H; exact H
                clear H
                have H := H1
                clear H1
                as_aux_lemma =>
                 have H' := Aside0.mk H
                 clear H
                 go_wp2_with (first | ((with_reducible refine gate_callee (f := 53) rfl ?_); refine goesL_ (some 54) rfl rfl Try.func53 (by kernel_rfl) rfl #[.int .i64 (wrap64 (Int.tdiv (wrap64 ((wrap64 (x13_1 * x15_3)) * a1)) (wrap64 (x14_2 * a0)))), .int .i64 6, .int .i64 a2] rfl (by (try simp only [List.map_toArray, List.map_cons, List.map_nil]); first | done | rfl | (simp only [List.length_drop, List.length_take]; rfl)) ?_; (with_reducible refine (spec_l1In.calls (wrap64 (Int.tdiv (wrap64 ((wrap64 (x13_1 * x15_3)) * a1)) (wrap64 (x14_2 * a0)))) 6 a2 true _ A13.out).mono ?_); rintro e w' ⟨rfl, ⟨nd, rfl⟩⟩; refine ⟨_, rfl, ?_⟩))
                 go_meet
                 case rel => exact ⟨_, (true), (by first | rfl | (simp; done) | (simp [*]; done)), H', ⟨by have := HK1.out; have := HK2.out; have := HK3.out; first | omega | exact Nat.le_refl _⟩, ⟨by (with_reducible repeat (first | apply Kd.R_alloc | apply Kd.R_drewN | apply Kd.R_drew)); exact HO_10.out⟩, ⟨by repeat (first | (with_reducible first | exact HB.out | apply below_alloc | apply pw_below_drewN | apply below_drew1) | exact HB.out)⟩⟩
              ·
               replace c15 := Bool.eq_false_iff.mpr c15
               subst c15
               have H1 : (spec_geTrains.j3 k3 a0 a1 a2 a3 x10_3 false x12_3 x13_1 x14_2 x15_3 (wrap64 (Int.tdiv (wrap64 ((wrap64 (x13_1 * x15_3)) * a1)) (wrap64 (x14_2 * a0)))) false) = some (r1, r2) := by rw [if_neg (show ¬ (false = true) by decide)] at H; exact H
               clear H
               have H := H1
               clear H1
               as_aux_lemma =>
                have H' := Aside0.mk H
                clear H
                go_wp2_with (first | ((with_reducible refine gate_callee (f := 53) rfl ?_); refine goesL_ (some 54) rfl rfl Try.func53 (by kernel_rfl) rfl #[.int .i64 (wrap64 (Int.tdiv (wrap64 ((wrap64 (x13_1 * x15_3)) * a1)) (wrap64 (x14_2 * a0)))), .int .i64 6, .int .i64 a2] rfl (by (try simp only [List.map_toArray, List.map_cons, List.map_nil]); first | done | rfl | (simp only [List.length_drop, List.length_take]; rfl)) ?_; (with_reducible refine (spec_l1In.calls (wrap64 (Int.tdiv (wrap64 ((wrap64 (x13_1 * x15_3)) * a1)) (wrap64 (x14_2 * a0)))) 6 a2 true _ A13.out).mono ?_); rintro e w' ⟨rfl, ⟨nd, rfl⟩⟩; refine ⟨_, rfl, ?_⟩))
                go_meet
                case rel => exact ⟨_, (false), (by first | rfl | (simp; done) | (simp [*]; done)), H', ⟨by have := HK1.out; have := HK2.out; have := HK3.out; first | omega | exact Nat.le_refl _⟩, ⟨by (with_reducible repeat (first | apply Kd.R_alloc | apply Kd.R_drewN | apply Kd.R_drew)); exact HO_10.out⟩, ⟨by repeat (first | (with_reducible first | exact HB.out | apply below_alloc | apply pw_below_drewN | apply below_drew1) | exact HB.out)⟩⟩
             ·
              replace c14 := Bool.eq_false_iff.mpr c14
              subst c14
              have H1 : (spec_geTrains.j3 k3 a0 a1 a2 a3 x10_3 x11_3 x12_3 x13_1 x14_2 x15_3 (wrap64 (Int.tdiv (wrap64 ((wrap64 (x13_1 * x15_3)) * a1)) (wrap64 (x14_2 * a0)))) true) = some (r1, r2) := by rw [if_neg (show ¬ (false = true) by decide)] at H; exact H
              clear H
              have H := H1
              clear H1
              as_aux_lemma =>
               have H' := Aside0.mk H
               clear H
               go_wp2_with (first | ((with_reducible refine gate_callee (f := 53) rfl ?_); refine goesL_ (some 54) rfl rfl Try.func53 (by kernel_rfl) rfl #[.int .i64 (wrap64 (Int.tdiv (wrap64 ((wrap64 (x13_1 * x15_3)) * a1)) (wrap64 (x14_2 * a0)))), .int .i64 6, .int .i64 a2] rfl (by (try simp only [List.map_toArray, List.map_cons, List.map_nil]); first | done | rfl | (simp only [List.length_drop, List.length_take]; rfl)) ?_; (with_reducible refine (spec_l1In.calls (wrap64 (Int.tdiv (wrap64 ((wrap64 (x13_1 * x15_3)) * a1)) (wrap64 (x14_2 * a0)))) 6 a2 false _ A13.out).mono ?_); rintro e w' ⟨rfl, ⟨nd, rfl⟩⟩; refine ⟨_, rfl, ?_⟩))
               go_meet
               case rel => exact ⟨_, (true), (by first | rfl | (simp; done) | (simp [*]; done)), H', ⟨by have := HK1.out; have := HK2.out; have := HK3.out; first | omega | exact Nat.le_refl _⟩, ⟨by (with_reducible repeat (first | apply Kd.R_alloc | apply Kd.R_drewN | apply Kd.R_drew)); exact HO_10.out⟩, ⟨by repeat (first | (with_reducible first | exact HB.out | apply below_alloc | apply pw_below_drewN | apply below_drew1) | exact HB.out)⟩⟩
            case rest =>
             clear HC12
             try clear c7
             try clear c7b0
             try clear c8
             try clear c8b0
             try clear c9
             try clear c9b0
             try clear c10
             try clear c10b0
             try clear c10b1
             try clear c11
             try clear c11b0
             try clear c11b1
             obtain ⟨kq, x73_11, rfl, HA, HJ11, HO_10, HB⟩ := hcut
             cases kq with
             | zero => exact absurd HA.out (by simp [spec_geTrains.j3])
             | succ kj11 =>
              have H := HA.out
              clear HA
              simp only [spec_geTrains.j3] at H
              by_cases c17 : x73_11 = true
              ·
               subst c17
               have H1 : (spec_geTrains.l2 kj11 a0 a1 a2 a3 x10_3 x11_3 x12_3 x13_1 x14_2 (wrap64 (x15_3 + 1))) = some (r1, r2) := by rw [if_pos rfl] at H; exact H
               clear H
               have H := H1
               clear H1
               as_aux_lemma =>
                have H' := Aside0.mk H
                clear H
                go_wp2
                go_roundg kj11
                case measure => have := HK1.out; have := HK2.out; have := HK3.out; have := HJ11.out; omega
                case rel => exact ⟨(x10_3), (x11_3), (x12_3), (wrap64 (x15_3 + 1)), (by first | rfl | (simp; done) | (simp [*]; done)), (by first | rfl | (simp; done) | (simp [*]; done)), (by first | rfl | (simp; done) | (simp [*]; done)), H', ⟨by have := HK1.out; have := HK2.out; have := HK3.out; have := HJ11.out; omega⟩, ⟨by (with_reducible repeat (first | apply Kd.R_alloc | apply Kd.R_drewN | apply Kd.R_drew)); exact HO_10.out⟩, ⟨by repeat (first | (with_reducible first | exact HB.out | apply below_alloc | apply pw_below_drewN | apply below_drew1) | exact HB.out)⟩⟩
              ·
               replace c17 := Bool.eq_false_iff.mpr c17
               subst c17
               have H1 : ((some (([(⟨x13_1, x14_2⟩ : S23), (⟨x15_3, (wrap64 (Int.tdiv (wrap64 ((wrap64 (x13_1 * x15_3)) * a1)) (wrap64 (x14_2 * a0))))⟩ : S23)] : List (S23)) : List (S23))).bind fun y175 => (if a3 = true then (spec_geTrains.l2 kj11 a0 a1 a2 a3 y175 true (wrap64 ((wrap64 ((wrap64 (x13_1 + x14_2)) + x15_3)) + (wrap64 (Int.tdiv (wrap64 ((wrap64 (x13_1 * x15_3)) * a1)) (wrap64 (x14_2 * a0)))))) x13_1 x14_2 (wrap64 (x15_3 + 1))) else (some (y175, true)))) = some (r1, r2) := by rw [if_neg (show ¬ (false = true) by decide)] at H; exact H
               clear H
               have H := H1
               clear H1
               obtain ⟨y175, hy175⟩ : ∃ y_ : List (S23), y_ = (([(⟨x13_1, x14_2⟩ : S23), (⟨x15_3, (wrap64 (Int.tdiv (wrap64 ((wrap64 (x13_1 * x15_3)) * a1)) (wrap64 (x14_2 * a0))))⟩ : S23)] : List (S23))) := ⟨_, rfl⟩
               replace H : (if a3 = true then (spec_geTrains.l2 kj11 a0 a1 a2 a3 y175 true (wrap64 ((wrap64 ((wrap64 (x13_1 + x14_2)) + x15_3)) + (wrap64 (Int.tdiv (wrap64 ((wrap64 (x13_1 * x15_3)) * a1)) (wrap64 (x14_2 * a0)))))) x13_1 x14_2 (wrap64 (x15_3 + 1))) else (some (y175, true))) = some (r1, r2) := by first | (rw [hy175]; with_reducible exact H) | (have H2_ := (Option.bind_some _ _).symm.trans H; rw [hy175]; with_reducible exact H2_) | (have H2_ := (Option.bind_some _ _).symm.trans H; with_reducible exact H2_) | with_reducible exact H | (rw [hy175]; exact H) | exact H
               have Ny175 := Aside0.mk hy175
               clear hy175
               by_cases c18 : a3 = true
               ·
                subst c18
                have H1 : (spec_geTrains.l2 kj11 a0 a1 a2 true y175 true (wrap64 ((wrap64 ((wrap64 (x13_1 + x14_2)) + x15_3)) + (wrap64 (Int.tdiv (wrap64 ((wrap64 (x13_1 * x15_3)) * a1)) (wrap64 (x14_2 * a0)))))) x13_1 x14_2 (wrap64 (x15_3 + 1))) = some (r1, r2) := by rw [if_pos rfl] at H; exact H
                clear H
                have H := H1
                clear H1
                as_aux_lemma =>
                 have H' := Aside0.mk H
                 clear H
                 go_wp2_with (first | ((with_reducible refine gate_dst (N := 80) rfl ?_); refine Kd.R_lit k23 _ 23 ?hg (N := 80) ?hd (xs := ([(⟨x13_1, x14_2⟩ : S23), (⟨x15_3, (wrap64 (Int.tdiv (wrap64 ((wrap64 (x13_1 * x15_3)) * a1)) (wrap64 (x14_2 * a0))))⟩ : S23)] : List (S23))) (inner := [.int .i64 x13_1, .int .i64 x14_2, .int .i64 x15_3, .int .i64 (wrap64 (Int.tdiv (wrap64 ((wrap64 (x13_1 * x15_3)) * a1)) (wrap64 (x14_2 * a0))))]) (ok := fun _ => True) (okp := fun _ => True) ?hr ?hp (fun _ hk => hk) trivial (Below.refl _ _) (Nat.le_refl _) (by simp) ?_; (case hd => rfl); (case hg => rfl); (case hr => first | (go_simp; done) | (go_simp; rfl)); (case hp => exact (Reps.c2 (show Kd.M k23 _ _ _ (⟨x13_1, x14_2⟩ : S23) [.int .i64 x13_1, .int .i64 x14_2] from (k23_mkM _ _ _ (⟨x13_1, x14_2⟩ : S23) )) (Reps.c2 (show Kd.M k23 _ _ _ (⟨x15_3, (wrap64 (Int.tdiv (wrap64 ((wrap64 (x13_1 * x15_3)) * a1)) (wrap64 (x14_2 * a0))))⟩ : S23) [.int .i64 x15_3, .int .i64 (wrap64 (Int.tdiv (wrap64 ((wrap64 (x13_1 * x15_3)) * a1)) (wrap64 (x14_2 * a0))))] from (k23_mkM _ _ _ (⟨x15_3, (wrap64 (Int.tdiv (wrap64 ((wrap64 (x13_1 * x15_3)) * a1)) (wrap64 (x14_2 * a0))))⟩ : S23) )) (Reps.none _ _)))); intro v176 w19 ho20 hb hg_ hnew_; clear hg_ hnew_; (first | rw [← Ny175.out] at ho20 | (simp only [Int.reduceToNat] at ho20; rw [← Ny175.out] at ho20)); have n0_ := Aside0.mk (Kd.R_elder' (by (with_reducible repeat (first | apply Kd.R_alloc | apply Kd.R_drewN | apply Kd.R_drew)); exact HO_10.out) (Kd.R_base ho20) hb); have n1_ := Aside0.mk (Kd.R_lower (Kd.R_new' ho20 (Kd.R_lt (by (with_reducible repeat (first | apply Kd.R_alloc | apply Kd.R_drewN | apply Kd.R_drew)); exact HO_10.out))) (below_size (by repeat (first | (with_reducible first | exact HB.out | apply below_alloc | apply pw_below_drewN | apply below_drew1) | exact HB.out)))); have n2_ := Aside0.mk (below_step (by repeat (first | (with_reducible first | exact HB.out | apply below_alloc | apply pw_below_drewN | apply below_drew1) | exact HB.out)) hb); clear HO_10; clear HB; have HO_10 := n0_; have HO177 := n1_; have HB := n2_; clear n0_ n1_ n2_; clear hb ho20))
                 go_roundg kj11
                 case measure => have := HK1.out; have := HK2.out; have := HK3.out; have := HJ11.out; omega
                 case rel => exact ⟨(y175), (true), (wrap64 ((wrap64 ((wrap64 (x13_1 + x14_2)) + x15_3)) + (wrap64 (Int.tdiv (wrap64 ((wrap64 (x13_1 * x15_3)) * a1)) (wrap64 (x14_2 * a0)))))), (wrap64 (x15_3 + 1)), (by first | rfl | (simp; done) | (simp [*]; done)), (by first | rfl | (simp; done) | (simp [*]; done)), (by first | rfl | (simp; done) | (simp [*]; done)), H', ⟨by have := HK1.out; have := HK2.out; have := HK3.out; have := HJ11.out; omega⟩, ⟨by (with_reducible repeat (first | apply Kd.R_alloc | apply Kd.R_drewN | apply Kd.R_drew)); exact Kd.R_mono HO177.out (fun _ hk => trivial)⟩, ⟨by repeat (first | (with_reducible first | exact HB.out | apply below_alloc | apply pw_below_drewN | apply below_drew1) | exact HB.out)⟩⟩
               ·
                replace c18 := Bool.eq_false_iff.mpr c18
                subst c18
                have H1 : (some (y175, true)) = some (r1, r2) := by rw [if_neg (show ¬ (false = true) by decide)] at H; exact H
                clear H
                have H := H1
                clear H1
                as_aux_lemma =>
                 simp only [Option.some.injEq, Prod.mk.injEq] at H
                 obtain ⟨rfl, rfl⟩ := H
                 go_wp2_with (first | ((with_reducible refine gate_dst (N := 80) rfl ?_); refine Kd.R_lit k23 _ 23 ?hg (N := 80) ?hd (xs := ([(⟨x13_1, x14_2⟩ : S23), (⟨x15_3, (wrap64 (Int.tdiv (wrap64 ((wrap64 (x13_1 * x15_3)) * a1)) (wrap64 (x14_2 * a0))))⟩ : S23)] : List (S23))) (inner := [.int .i64 x13_1, .int .i64 x14_2, .int .i64 x15_3, .int .i64 (wrap64 (Int.tdiv (wrap64 ((wrap64 (x13_1 * x15_3)) * a1)) (wrap64 (x14_2 * a0))))]) (ok := fun _ => True) (okp := fun _ => True) ?hr ?hp (fun _ hk => hk) trivial (Below.refl _ _) (Nat.le_refl _) (by simp) ?_; (case hd => rfl); (case hg => rfl); (case hr => first | (go_simp; done) | (go_simp; rfl)); (case hp => exact (Reps.c2 (show Kd.M k23 _ _ _ (⟨x13_1, x14_2⟩ : S23) [.int .i64 x13_1, .int .i64 x14_2] from (k23_mkM _ _ _ (⟨x13_1, x14_2⟩ : S23) )) (Reps.c2 (show Kd.M k23 _ _ _ (⟨x15_3, (wrap64 (Int.tdiv (wrap64 ((wrap64 (x13_1 * x15_3)) * a1)) (wrap64 (x14_2 * a0))))⟩ : S23) [.int .i64 x15_3, .int .i64 (wrap64 (Int.tdiv (wrap64 ((wrap64 (x13_1 * x15_3)) * a1)) (wrap64 (x14_2 * a0))))] from (k23_mkM _ _ _ (⟨x15_3, (wrap64 (Int.tdiv (wrap64 ((wrap64 (x13_1 * x15_3)) * a1)) (wrap64 (x14_2 * a0))))⟩ : S23) )) (Reps.none _ _)))); intro v176 w21 ho22 hb hg_ hnew_; clear hg_ hnew_; (first | rw [← Ny175.out] at ho22 | (simp only [Int.reduceToNat] at ho22; rw [← Ny175.out] at ho22)); have n0_ := Aside0.mk (Kd.R_elder' (by (with_reducible repeat (first | apply Kd.R_alloc | apply Kd.R_drewN | apply Kd.R_drew)); exact HO_10.out) (Kd.R_base ho22) hb); have n1_ := Aside0.mk (Kd.R_lower (Kd.R_new' ho22 (Kd.R_lt (by (with_reducible repeat (first | apply Kd.R_alloc | apply Kd.R_drewN | apply Kd.R_drew)); exact HO_10.out))) (below_size (by repeat (first | (with_reducible first | exact HB.out | apply below_alloc | apply pw_below_drewN | apply below_drew1) | exact HB.out)))); have n2_ := Aside0.mk (below_step (by repeat (first | (with_reducible first | exact HB.out | apply below_alloc | apply pw_below_drewN | apply below_drew1) | exact HB.out)) hb); clear HO_10; clear HB; have HO_10 := n0_; have HO177 := n1_; have HB := n2_; clear n0_ n1_ n2_; clear hb ho22))
                 go_ret2
                 exact ⟨_, by first | rfl | (simp [errW_none, errW_some] <;> rfl) | (simp [*, errW_none, errW_some] <;> rfl), by (with_reducible repeat (first | apply Kd.R_alloc | apply Kd.R_drewN | apply Kd.R_drew)); exact Kd.R_mono HO177.out (fun _ hk => trivial), by repeat (first | (with_reducible first | exact HB.out | apply below_alloc | apply pw_below_drewN | apply below_drew1) | exact HB.out)⟩
           ·
            rw [if_neg c11] at H
            have c11b0 : ((Int.tmod (wrap64 ((wrap64 (x13_1 * x15_3)) * a1)) (wrap64 (x14_2 * a0))) == 0) = false := beq_eq_false_iff_ne.mpr c11
            have c11b1 : ((Int.tmod (wrap64 ((wrap64 (x13_1 * x15_3)) * a1)) (wrap64 (x14_2 * a0))) != 0) = true := bne_iff_ne.mpr c11
            as_aux_lemma =>
             have H' := Aside0.mk H
             clear H
             go_wp2
             go_roundg k3
             case measure => have := HK1.out; have := HK2.out; have := HK3.out; omega
             case rel => exact ⟨(x10_3), (x11_3), (x12_3), (wrap64 (x15_3 + 1)), (by first | rfl | (simp; done) | (simp [*]; done)), (by first | rfl | (simp; done) | (simp [*]; done)), (by first | rfl | (simp; done) | (simp [*]; done)), H', ⟨by have := HK1.out; have := HK2.out; have := HK3.out; omega⟩, ⟨by (with_reducible repeat (first | apply Kd.R_alloc | apply Kd.R_drewN | apply Kd.R_drew)); exact HO_10.out⟩, ⟨by repeat (first | (with_reducible first | exact HB.out | apply below_alloc | apply pw_below_drewN | apply below_drew1) | exact HB.out)⟩⟩
         ·
          rw [if_neg c9] at H
          have c9b0 : decide (x15_3 ≤ a2) = false := decide_eq_false c9
          clear c9
          as_aux_lemma =>
           have H' := Aside0.mk H
           clear H
           go_wp2
           go_roundg k3
           case measure => have := HK1.out; have := HK2.out; have := HK3.out; omega
           case rel => exact ⟨(x10_3), (x11_3), (x12_3), (wrap64 (x14_2 + 1)), (by first | rfl | (simp; done) | (simp [*]; done)), (by first | rfl | (simp; done) | (simp [*]; done)), (by first | rfl | (simp; done) | (simp [*]; done)), H', ⟨by have := HK1.out; have := HK2.out; have := HK3.out; omega⟩, ⟨by (with_reducible repeat (first | apply Kd.R_alloc | apply Kd.R_drewN | apply Kd.R_drew)); exact HO_10.out⟩, ⟨by repeat (first | (with_reducible first | exact HB.out | apply below_alloc | apply pw_below_drewN | apply below_drew1) | exact HB.out)⟩⟩
      ·
       rw [if_neg c8] at H
       have c8b0 : decide (x14_2 ≤ a2) = false := decide_eq_false c8
       clear c8
       as_aux_lemma =>
        have H' := Aside0.mk H
        clear H
        go_wp2
        go_roundg k2
        case measure => have := HK1.out; have := HK2.out; omega
        case rel => exact ⟨(x10_2), (x11_2), (x12_2), (wrap64 (x13_1 + 1)), (by first | rfl | (simp; done) | (simp [*]; done)), (by first | rfl | (simp; done) | (simp [*]; done)), (by first | rfl | (simp; done) | (simp [*]; done)), H', ⟨by have := HK1.out; have := HK2.out; omega⟩, ⟨by (with_reducible repeat (first | apply Kd.R_alloc | apply Kd.R_drewN | apply Kd.R_drew)); exact HO_10.out⟩, ⟨by repeat (first | (with_reducible first | exact HB.out | apply below_alloc | apply pw_below_drewN | apply below_drew1) | exact HB.out)⟩⟩
   ·
    rw [if_neg c7] at H
    have c7b0 : decide (x13_1 ≤ a2) = false := decide_eq_false c7
    clear c7
    as_aux_lemma =>
     simp only [Option.some.injEq, Prod.mk.injEq] at H
     obtain ⟨rfl, rfl⟩ := H
     go_wp2
     go_ret2
     exact ⟨_, by first | rfl | (simp [errW_none, errW_some] <;> rfl) | (simp [*, errW_none, errW_some] <;> rfl), by (with_reducible repeat (first | apply Kd.R_alloc | apply Kd.R_drewN | apply Kd.R_drew)); exact HO_10.out, by repeat (first | (with_reducible first | exact HB.out | apply below_alloc | apply pw_below_drewN | apply below_drew1) | exact HB.out)⟩

/-! ### spec_FewestTeeth: function 22 -/
def spec_FewestTeeth.f (k : Nat) (a0 : Int) (a1 : Int) (a2 : Int) : Option ((List (S23)) × Bool) := (spec_geAsked.f a0 a1 a2).bind fun t178 => (if t178 = true then ((spec_geTrains.f k a0 a1 a2 true).bind fun bt179 => (if bt179.2 = true then (some (bt179.1, true)) else (some (([] : List (S23)), false)))) else (some (([] : List (S23)), false)))
set_option maxHeartbeats 8000000 in
set_option maxRecDepth 100000 in
theorem spec_FewestTeeth.calls (k : Nat) (a0 : Int) (a1 : Int) (a2 : Int) (r1 : List (S23)) (r2 : Bool) (w : World) (h : spec_FewestTeeth.f k a0 a1 a2 = some (r1, r2)) :
  Calls Try.prog 22 #[.int .i64 a0, .int .i64 a1, .int .i64 a2] w fun e w' => ∃ v0_ : Value, e = .returned (.tuple #[v0_, .bool r2]) ∧ Kd.R k23 23 w' w.heap.size (fun _ => True) v0_ r1 ∧ Below w.heap.size w w' := by
 have HB := Aside0.mk (Below.refl w.heap.size w)
 have H : ((spec_geAsked.f a0 a1 a2).bind fun t178 => (if t178 = true then ((spec_geTrains.f k a0 a1 a2 true).bind fun bt179 => (if bt179.2 = true then (some (bt179.1, true)) else (some (([] : List (S23)), false)))) else (some (([] : List (S23)), false)))) = some (r1, r2) := h
 clear h
 replace H := Option.bind_eq_some_iff.mp H
 obtain ⟨t178, A40, H⟩ := H
 replace H : (if t178 = true then ((spec_geTrains.f k a0 a1 a2 true).bind fun bt179 => (if bt179.2 = true then (some (bt179.1, true)) else (some (([] : List (S23)), false)))) else (some (([] : List (S23)), false))) = some (r1, r2) := H
 have A4 := Aside0.mk A40
 clear A40
 by_cases c5 : t178 = true
 ·
  subst c5
  have H1 : ((spec_geTrains.f k a0 a1 a2 true).bind fun bt179 => (if bt179.2 = true then (some (bt179.1, true)) else (some (([] : List (S23)), false)))) = some (r1, r2) := by rw [if_pos rfl] at H; exact H
  clear H
  have H := H1
  clear H1
  replace H := Option.bind_eq_some_iff.mp H
  obtain ⟨⟨t179, t180⟩, A60, H⟩ := H
  replace H : (if t180 = true then (some (t179, true)) else (some (([] : List (S23)), false))) = some (r1, r2) := H
  have A6 := Aside0.mk A60
  clear A60
  by_cases c7 : t180 = true
  ·
   subst c7
   have H1 : (some (t179, true)) = some (r1, r2) := by rw [if_pos rfl] at H; exact H
   clear H
   have H := H1
   clear H1
   as_aux_lemma =>
    simp only [Option.some.injEq, Prod.mk.injEq] at H
    obtain ⟨rfl, rfl⟩ := H
    go_enter Try.func22, Try.ntmps22
    go_wp2_with (first | ((with_reducible refine gate_callee (f := 33) rfl ?_); refine goesL_ (some 13) rfl rfl Try.func33 (by kernel_rfl) rfl #[.int .i64 a0, .int .i64 a1, .int .i64 a2] rfl (by (try simp only [List.map_toArray, List.map_cons, List.map_nil]); first | done | rfl | (simp only [List.length_drop, List.length_take]; rfl)) ?_; (with_reducible refine (spec_geAsked.calls a0 a1 a2 true _ A4.out).mono ?_); rintro e w' ⟨rfl, ⟨nd, rfl⟩⟩; refine ⟨_, rfl, ?_⟩) | ((with_reducible refine gate_callee (f := 48) rfl ?_); refine goesL_ (some 19) rfl rfl Try.func48 (by kernel_rfl) rfl #[.int .i64 a0, .int .i64 a1, .int .i64 a2, .bool true] rfl (by (try simp only [List.map_toArray, List.map_cons, List.map_nil]); first | done | rfl | (simp only [List.length_drop, List.length_take]; rfl)) ?_; (with_reducible refine (spec_geTrains.calls k a0 a1 a2 true t179 true _ A6.out).mono ?_); rintro e w8 ⟨v181, rfl, ho0, hb⟩; refine ⟨_, rfl, ?_⟩; have n0_ := Aside0.mk (Kd.R_lower ho0 (below_size (by repeat (first | (with_reducible first | exact HB.out | apply below_alloc | apply pw_below_drewN | apply below_drew1) | exact HB.out)))); have n1_ := Aside0.mk (below_step (by repeat (first | (with_reducible first | exact HB.out | apply below_alloc | apply pw_below_drewN | apply below_drew1) | exact HB.out)) hb); clear HB; have HO182 := n0_; have HB := n1_; clear n0_ n1_; (try clear hb); (try clear hb2); (try clear hk); (try clear hi); (try clear ho0)))
    go_ret2
    exact ⟨_, by first | rfl | (simp [errW_none, errW_some] <;> rfl) | (simp [*, errW_none, errW_some] <;> rfl), by (with_reducible repeat (first | apply Kd.R_alloc | apply Kd.R_drewN | apply Kd.R_drew)); exact HO182.out, by repeat (first | (with_reducible first | exact HB.out | apply below_alloc | apply pw_below_drewN | apply below_drew1) | exact HB.out)⟩
  ·
   replace c7 := Bool.eq_false_iff.mpr c7
   subst c7
   have H1 : (some (([] : List (S23)), false)) = some (r1, r2) := by rw [if_neg (show ¬ (false = true) by decide)] at H; exact H
   clear H
   have H := H1
   clear H1
   as_aux_lemma =>
    simp only [Option.some.injEq, Prod.mk.injEq] at H
    obtain ⟨rfl, rfl⟩ := H
    go_enter Try.func22, Try.ntmps22
    go_wp2_with (first | ((with_reducible refine gate_callee (f := 33) rfl ?_); refine goesL_ (some 13) rfl rfl Try.func33 (by kernel_rfl) rfl #[.int .i64 a0, .int .i64 a1, .int .i64 a2] rfl (by (try simp only [List.map_toArray, List.map_cons, List.map_nil]); first | done | rfl | (simp only [List.length_drop, List.length_take]; rfl)) ?_; (with_reducible refine (spec_geAsked.calls a0 a1 a2 true _ A4.out).mono ?_); rintro e w' ⟨rfl, ⟨nd, rfl⟩⟩; refine ⟨_, rfl, ?_⟩) | ((with_reducible refine gate_callee (f := 48) rfl ?_); refine goesL_ (some 19) rfl rfl Try.func48 (by kernel_rfl) rfl #[.int .i64 a0, .int .i64 a1, .int .i64 a2, .bool true] rfl (by (try simp only [List.map_toArray, List.map_cons, List.map_nil]); first | done | rfl | (simp only [List.length_drop, List.length_take]; rfl)) ?_; (with_reducible refine (spec_geTrains.calls k a0 a1 a2 true t179 false _ A6.out).mono ?_); rintro e w9 ⟨v181, rfl, ho0, hb⟩; refine ⟨_, rfl, ?_⟩; have n0_ := Aside0.mk (Kd.R_lower ho0 (below_size (by repeat (first | (with_reducible first | exact HB.out | apply below_alloc | apply pw_below_drewN | apply below_drew1) | exact HB.out)))); have n1_ := Aside0.mk (below_step (by repeat (first | (with_reducible first | exact HB.out | apply below_alloc | apply pw_below_drewN | apply below_drew1) | exact HB.out)) hb); clear HB; have HO182 := n0_; have HB := n1_; clear n0_ n1_; (try clear hb); (try clear hb2); (try clear hk); (try clear hi); (try clear ho0)))
    go_ret2
    exact ⟨_, by first | rfl | (simp [errW_none, errW_some] <;> rfl) | (simp [*, errW_none, errW_some] <;> rfl), by first | exact Kd.R_nil _ _ _ _ _ | exact Kd.N_nil _ _ _ _ _ | exact Kd.V_nil _ _ _ _ _ | exact Kd.Q_nil _ _ _ _ _ | exact Kd.S_nil _ _ _ _ _, by repeat (first | (with_reducible first | exact HB.out | apply below_alloc | apply pw_below_drewN | apply below_drew1) | exact HB.out)⟩
 ·
  replace c5 := Bool.eq_false_iff.mpr c5
  subst c5
  have H1 : (some (([] : List (S23)), false)) = some (r1, r2) := by rw [if_neg (show ¬ (false = true) by decide)] at H; exact H
  clear H
  have H := H1
  clear H1
  as_aux_lemma =>
   simp only [Option.some.injEq, Prod.mk.injEq] at H
   obtain ⟨rfl, rfl⟩ := H
   go_enter Try.func22, Try.ntmps22
   go_wp2_with (first | ((with_reducible refine gate_callee (f := 33) rfl ?_); refine goesL_ (some 13) rfl rfl Try.func33 (by kernel_rfl) rfl #[.int .i64 a0, .int .i64 a1, .int .i64 a2] rfl (by (try simp only [List.map_toArray, List.map_cons, List.map_nil]); first | done | rfl | (simp only [List.length_drop, List.length_take]; rfl)) ?_; (with_reducible refine (spec_geAsked.calls a0 a1 a2 false _ A4.out).mono ?_); rintro e w' ⟨rfl, ⟨nd, rfl⟩⟩; refine ⟨_, rfl, ?_⟩))
   go_ret2
   exact ⟨_, by first | rfl | (simp [errW_none, errW_some] <;> rfl) | (simp [*, errW_none, errW_some] <;> rfl), by first | exact Kd.R_nil _ _ _ _ _ | exact Kd.N_nil _ _ _ _ _ | exact Kd.V_nil _ _ _ _ _ | exact Kd.Q_nil _ _ _ _ _ | exact Kd.S_nil _ _ _ _ _, by repeat (first | (with_reducible first | exact HB.out | apply below_alloc | apply pw_below_drewN | apply below_drew1) | exact HB.out)⟩

/-! ### impl_FewestTeeth: function 23 -/
def impl_FewestTeeth.f (k : Nat) (a0 : Int) (a1 : Int) (a2 : Int) : Option ((List (S23)) × Bool) := (impl_bestTrain.f k a0 a1 a2 true).bind fun bt183 => (some (bt183.1, bt183.2))
set_option maxHeartbeats 8000000 in
set_option maxRecDepth 100000 in
theorem impl_FewestTeeth.calls (k : Nat) (a0 : Int) (a1 : Int) (a2 : Int) (r1 : List (S23)) (r2 : Bool) (w : World) (h : impl_FewestTeeth.f k a0 a1 a2 = some (r1, r2)) :
  Calls Try.prog 23 #[.int .i64 a0, .int .i64 a1, .int .i64 a2] w fun e w' => ∃ v0_ : Value, e = .returned (.tuple #[v0_, .bool r2]) ∧ Kd.R k23 23 w' w.heap.size (fun _ => True) v0_ r1 ∧ Below w.heap.size w w' := by
 have HB := Aside0.mk (Below.refl w.heap.size w)
 have H : ((impl_bestTrain.f k a0 a1 a2 true).bind fun bt183 => (some (bt183.1, bt183.2))) = some (r1, r2) := h
 clear h
 replace H := Option.bind_eq_some_iff.mp H
 obtain ⟨⟨t183, t184⟩, A40, H⟩ := H
 replace H : (some (t183, t184)) = some (r1, r2) := H
 have A4 := Aside0.mk A40
 clear A40
 as_aux_lemma =>
  simp only [Option.some.injEq, Prod.mk.injEq] at H
  obtain ⟨rfl, rfl⟩ := H
  go_enter Try.func23, Try.ntmps23
  go_wp2_with (first | ((with_reducible refine gate_callee (f := 49) rfl ?_); refine goesL_ (some 11) rfl rfl Try.func49 (by kernel_rfl) rfl #[.int .i64 a0, .int .i64 a1, .int .i64 a2, .bool true] rfl (by (try simp only [List.map_toArray, List.map_cons, List.map_nil]); first | done | rfl | (simp only [List.length_drop, List.length_take]; rfl)) ?_; (with_reducible refine (impl_bestTrain.calls k a0 a1 a2 true t183 t184 _ A4.out).mono ?_); rintro e w5 ⟨v185, rfl, ho0, hb⟩; refine ⟨_, rfl, ?_⟩; have n0_ := Aside0.mk (Kd.R_lower ho0 (below_size (by repeat (first | (with_reducible first | exact HB.out | apply below_alloc | apply pw_below_drewN | apply below_drew1) | exact HB.out)))); have n1_ := Aside0.mk (below_step (by repeat (first | (with_reducible first | exact HB.out | apply below_alloc | apply pw_below_drewN | apply below_drew1) | exact HB.out)) hb); clear HB; have HO186 := n0_; have HB := n1_; clear n0_ n1_; (try clear hb); (try clear hb2); (try clear hk); (try clear hi); (try clear ho0)))
  go_ret2
  exact ⟨_, by first | rfl | (simp [errW_none, errW_some] <;> rfl) | (simp [*, errW_none, errW_some] <;> rfl), by (with_reducible repeat (first | apply Kd.R_alloc | apply Kd.R_drewN | apply Kd.R_drew)); exact HO186.out, by repeat (first | (with_reducible first | exact HB.out | apply below_alloc | apply pw_below_drewN | apply below_drew1) | exact HB.out)⟩

/-! ### spec_FirstTrain: function 24 -/
def spec_FirstTrain.f (k : Nat) (a0 : Int) (a1 : Int) (a2 : Int) : Option ((List (S23)) × Bool) := (spec_geAsked.f a0 a1 a2).bind fun t187 => (if t187 = true then ((spec_geTrains.f k a0 a1 a2 false).bind fun bt188 => (if bt188.2 = true then (some (bt188.1, true)) else (some (([] : List (S23)), false)))) else (some (([] : List (S23)), false)))
set_option maxHeartbeats 8000000 in
set_option maxRecDepth 100000 in
theorem spec_FirstTrain.calls (k : Nat) (a0 : Int) (a1 : Int) (a2 : Int) (r1 : List (S23)) (r2 : Bool) (w : World) (h : spec_FirstTrain.f k a0 a1 a2 = some (r1, r2)) :
  Calls Try.prog 24 #[.int .i64 a0, .int .i64 a1, .int .i64 a2] w fun e w' => ∃ v0_ : Value, e = .returned (.tuple #[v0_, .bool r2]) ∧ Kd.R k23 23 w' w.heap.size (fun _ => True) v0_ r1 ∧ Below w.heap.size w w' := by
 have HB := Aside0.mk (Below.refl w.heap.size w)
 have H : ((spec_geAsked.f a0 a1 a2).bind fun t187 => (if t187 = true then ((spec_geTrains.f k a0 a1 a2 false).bind fun bt188 => (if bt188.2 = true then (some (bt188.1, true)) else (some (([] : List (S23)), false)))) else (some (([] : List (S23)), false)))) = some (r1, r2) := h
 clear h
 replace H := Option.bind_eq_some_iff.mp H
 obtain ⟨t187, A40, H⟩ := H
 replace H : (if t187 = true then ((spec_geTrains.f k a0 a1 a2 false).bind fun bt188 => (if bt188.2 = true then (some (bt188.1, true)) else (some (([] : List (S23)), false)))) else (some (([] : List (S23)), false))) = some (r1, r2) := H
 have A4 := Aside0.mk A40
 clear A40
 by_cases c5 : t187 = true
 ·
  subst c5
  have H1 : ((spec_geTrains.f k a0 a1 a2 false).bind fun bt188 => (if bt188.2 = true then (some (bt188.1, true)) else (some (([] : List (S23)), false)))) = some (r1, r2) := by rw [if_pos rfl] at H; exact H
  clear H
  have H := H1
  clear H1
  replace H := Option.bind_eq_some_iff.mp H
  obtain ⟨⟨t188, t189⟩, A60, H⟩ := H
  replace H : (if t189 = true then (some (t188, true)) else (some (([] : List (S23)), false))) = some (r1, r2) := H
  have A6 := Aside0.mk A60
  clear A60
  by_cases c7 : t189 = true
  ·
   subst c7
   have H1 : (some (t188, true)) = some (r1, r2) := by rw [if_pos rfl] at H; exact H
   clear H
   have H := H1
   clear H1
   as_aux_lemma =>
    simp only [Option.some.injEq, Prod.mk.injEq] at H
    obtain ⟨rfl, rfl⟩ := H
    go_enter Try.func24, Try.ntmps24
    go_wp2_with (first | ((with_reducible refine gate_callee (f := 33) rfl ?_); refine goesL_ (some 13) rfl rfl Try.func33 (by kernel_rfl) rfl #[.int .i64 a0, .int .i64 a1, .int .i64 a2] rfl (by (try simp only [List.map_toArray, List.map_cons, List.map_nil]); first | done | rfl | (simp only [List.length_drop, List.length_take]; rfl)) ?_; (with_reducible refine (spec_geAsked.calls a0 a1 a2 true _ A4.out).mono ?_); rintro e w' ⟨rfl, ⟨nd, rfl⟩⟩; refine ⟨_, rfl, ?_⟩) | ((with_reducible refine gate_callee (f := 48) rfl ?_); refine goesL_ (some 19) rfl rfl Try.func48 (by kernel_rfl) rfl #[.int .i64 a0, .int .i64 a1, .int .i64 a2, .bool false] rfl (by (try simp only [List.map_toArray, List.map_cons, List.map_nil]); first | done | rfl | (simp only [List.length_drop, List.length_take]; rfl)) ?_; (with_reducible refine (spec_geTrains.calls k a0 a1 a2 false t188 true _ A6.out).mono ?_); rintro e w8 ⟨v190, rfl, ho0, hb⟩; refine ⟨_, rfl, ?_⟩; have n0_ := Aside0.mk (Kd.R_lower ho0 (below_size (by repeat (first | (with_reducible first | exact HB.out | apply below_alloc | apply pw_below_drewN | apply below_drew1) | exact HB.out)))); have n1_ := Aside0.mk (below_step (by repeat (first | (with_reducible first | exact HB.out | apply below_alloc | apply pw_below_drewN | apply below_drew1) | exact HB.out)) hb); clear HB; have HO191 := n0_; have HB := n1_; clear n0_ n1_; (try clear hb); (try clear hb2); (try clear hk); (try clear hi); (try clear ho0)))
    go_ret2
    exact ⟨_, by first | rfl | (simp [errW_none, errW_some] <;> rfl) | (simp [*, errW_none, errW_some] <;> rfl), by (with_reducible repeat (first | apply Kd.R_alloc | apply Kd.R_drewN | apply Kd.R_drew)); exact HO191.out, by repeat (first | (with_reducible first | exact HB.out | apply below_alloc | apply pw_below_drewN | apply below_drew1) | exact HB.out)⟩
  ·
   replace c7 := Bool.eq_false_iff.mpr c7
   subst c7
   have H1 : (some (([] : List (S23)), false)) = some (r1, r2) := by rw [if_neg (show ¬ (false = true) by decide)] at H; exact H
   clear H
   have H := H1
   clear H1
   as_aux_lemma =>
    simp only [Option.some.injEq, Prod.mk.injEq] at H
    obtain ⟨rfl, rfl⟩ := H
    go_enter Try.func24, Try.ntmps24
    go_wp2_with (first | ((with_reducible refine gate_callee (f := 33) rfl ?_); refine goesL_ (some 13) rfl rfl Try.func33 (by kernel_rfl) rfl #[.int .i64 a0, .int .i64 a1, .int .i64 a2] rfl (by (try simp only [List.map_toArray, List.map_cons, List.map_nil]); first | done | rfl | (simp only [List.length_drop, List.length_take]; rfl)) ?_; (with_reducible refine (spec_geAsked.calls a0 a1 a2 true _ A4.out).mono ?_); rintro e w' ⟨rfl, ⟨nd, rfl⟩⟩; refine ⟨_, rfl, ?_⟩) | ((with_reducible refine gate_callee (f := 48) rfl ?_); refine goesL_ (some 19) rfl rfl Try.func48 (by kernel_rfl) rfl #[.int .i64 a0, .int .i64 a1, .int .i64 a2, .bool false] rfl (by (try simp only [List.map_toArray, List.map_cons, List.map_nil]); first | done | rfl | (simp only [List.length_drop, List.length_take]; rfl)) ?_; (with_reducible refine (spec_geTrains.calls k a0 a1 a2 false t188 false _ A6.out).mono ?_); rintro e w9 ⟨v190, rfl, ho0, hb⟩; refine ⟨_, rfl, ?_⟩; have n0_ := Aside0.mk (Kd.R_lower ho0 (below_size (by repeat (first | (with_reducible first | exact HB.out | apply below_alloc | apply pw_below_drewN | apply below_drew1) | exact HB.out)))); have n1_ := Aside0.mk (below_step (by repeat (first | (with_reducible first | exact HB.out | apply below_alloc | apply pw_below_drewN | apply below_drew1) | exact HB.out)) hb); clear HB; have HO191 := n0_; have HB := n1_; clear n0_ n1_; (try clear hb); (try clear hb2); (try clear hk); (try clear hi); (try clear ho0)))
    go_ret2
    exact ⟨_, by first | rfl | (simp [errW_none, errW_some] <;> rfl) | (simp [*, errW_none, errW_some] <;> rfl), by first | exact Kd.R_nil _ _ _ _ _ | exact Kd.N_nil _ _ _ _ _ | exact Kd.V_nil _ _ _ _ _ | exact Kd.Q_nil _ _ _ _ _ | exact Kd.S_nil _ _ _ _ _, by repeat (first | (with_reducible first | exact HB.out | apply below_alloc | apply pw_below_drewN | apply below_drew1) | exact HB.out)⟩
 ·
  replace c5 := Bool.eq_false_iff.mpr c5
  subst c5
  have H1 : (some (([] : List (S23)), false)) = some (r1, r2) := by rw [if_neg (show ¬ (false = true) by decide)] at H; exact H
  clear H
  have H := H1
  clear H1
  as_aux_lemma =>
   simp only [Option.some.injEq, Prod.mk.injEq] at H
   obtain ⟨rfl, rfl⟩ := H
   go_enter Try.func24, Try.ntmps24
   go_wp2_with (first | ((with_reducible refine gate_callee (f := 33) rfl ?_); refine goesL_ (some 13) rfl rfl Try.func33 (by kernel_rfl) rfl #[.int .i64 a0, .int .i64 a1, .int .i64 a2] rfl (by (try simp only [List.map_toArray, List.map_cons, List.map_nil]); first | done | rfl | (simp only [List.length_drop, List.length_take]; rfl)) ?_; (with_reducible refine (spec_geAsked.calls a0 a1 a2 false _ A4.out).mono ?_); rintro e w' ⟨rfl, ⟨nd, rfl⟩⟩; refine ⟨_, rfl, ?_⟩))
   go_ret2
   exact ⟨_, by first | rfl | (simp [errW_none, errW_some] <;> rfl) | (simp [*, errW_none, errW_some] <;> rfl), by first | exact Kd.R_nil _ _ _ _ _ | exact Kd.N_nil _ _ _ _ _ | exact Kd.V_nil _ _ _ _ _ | exact Kd.Q_nil _ _ _ _ _ | exact Kd.S_nil _ _ _ _ _, by repeat (first | (with_reducible first | exact HB.out | apply below_alloc | apply pw_below_drewN | apply below_drew1) | exact HB.out)⟩

/-! ### impl_FirstTrain: function 25 -/
def impl_FirstTrain.f (k : Nat) (a0 : Int) (a1 : Int) (a2 : Int) : Option ((List (S23)) × Bool) := (impl_bestTrain.f k a0 a1 a2 false).bind fun bt192 => (some (bt192.1, bt192.2))
set_option maxHeartbeats 8000000 in
set_option maxRecDepth 100000 in
theorem impl_FirstTrain.calls (k : Nat) (a0 : Int) (a1 : Int) (a2 : Int) (r1 : List (S23)) (r2 : Bool) (w : World) (h : impl_FirstTrain.f k a0 a1 a2 = some (r1, r2)) :
  Calls Try.prog 25 #[.int .i64 a0, .int .i64 a1, .int .i64 a2] w fun e w' => ∃ v0_ : Value, e = .returned (.tuple #[v0_, .bool r2]) ∧ Kd.R k23 23 w' w.heap.size (fun _ => True) v0_ r1 ∧ Below w.heap.size w w' := by
 have HB := Aside0.mk (Below.refl w.heap.size w)
 have H : ((impl_bestTrain.f k a0 a1 a2 false).bind fun bt192 => (some (bt192.1, bt192.2))) = some (r1, r2) := h
 clear h
 replace H := Option.bind_eq_some_iff.mp H
 obtain ⟨⟨t192, t193⟩, A40, H⟩ := H
 replace H : (some (t192, t193)) = some (r1, r2) := H
 have A4 := Aside0.mk A40
 clear A40
 as_aux_lemma =>
  simp only [Option.some.injEq, Prod.mk.injEq] at H
  obtain ⟨rfl, rfl⟩ := H
  go_enter Try.func25, Try.ntmps25
  go_wp2_with (first | ((with_reducible refine gate_callee (f := 49) rfl ?_); refine goesL_ (some 11) rfl rfl Try.func49 (by kernel_rfl) rfl #[.int .i64 a0, .int .i64 a1, .int .i64 a2, .bool false] rfl (by (try simp only [List.map_toArray, List.map_cons, List.map_nil]); first | done | rfl | (simp only [List.length_drop, List.length_take]; rfl)) ?_; (with_reducible refine (impl_bestTrain.calls k a0 a1 a2 false t192 t193 _ A4.out).mono ?_); rintro e w5 ⟨v194, rfl, ho0, hb⟩; refine ⟨_, rfl, ?_⟩; have n0_ := Aside0.mk (Kd.R_lower ho0 (below_size (by repeat (first | (with_reducible first | exact HB.out | apply below_alloc | apply pw_below_drewN | apply below_drew1) | exact HB.out)))); have n1_ := Aside0.mk (below_step (by repeat (first | (with_reducible first | exact HB.out | apply below_alloc | apply pw_below_drewN | apply below_drew1) | exact HB.out)) hb); clear HB; have HO195 := n0_; have HB := n1_; clear n0_ n1_; (try clear hb); (try clear hb2); (try clear hk); (try clear hi); (try clear ho0)))
  go_ret2
  exact ⟨_, by first | rfl | (simp [errW_none, errW_some] <;> rfl) | (simp [*, errW_none, errW_some] <;> rfl), by (with_reducible repeat (first | apply Kd.R_alloc | apply Kd.R_drewN | apply Kd.R_drew)); exact HO195.out, by repeat (first | (with_reducible first | exact HB.out | apply below_alloc | apply pw_below_drewN | apply below_drew1) | exact HB.out)⟩

/-! ### laws_kPairs: function 26 -/
def laws_kPairs.l0 : Nat → List (S23) → List (S23) → Int → Int → Option (Bool)
 | 0, _, _, _, _ => none
 | k + 1, x0, x1, x12, x13 => if x13 < x12 then (if 0 ≤ x13 then (if x13 < (x0.length : Int) then (if x13 < (x1.length : Int) then (if (!(((rd_T23 x0 x13).f0) == ((rd_T23 x1 x13).f0)) || (!(((rd_T23 x0 x13).f1) == ((rd_T23 x1 x13).f1)))) = true then (some false) else (laws_kPairs.l0 k x0 x1 x12 (wrap64 (x13 + 1)))) else (none)) else (none)) else (none)) else (some true)
def laws_kPairs.f (k : Nat) (l0 : List (S23)) (l1 : List (S23)) : Option (Bool) := if (l0.length : Int) = (l1.length : Int) then (laws_kPairs.l0 k l0 l1 (l0.length : Int) 0) else (some false)
set_option maxHeartbeats 8000000 in
set_option maxRecDepth 100000 in
theorem laws_kPairs.calls (k : Nat) (A0 : Option Addr) (c0 : Nat) (l0 : List (S23)) (A1 : Option Addr) (c1 : Nat) (l1 : List (S23)) (r : Bool) (w : World) (hr0 : Kd.C k23 w A0 l0.length l0) (hc0 : l0.length ≤ c0) (hr1 : Kd.C k23 w A1 l1.length l1) (hc1 : l1.length ≤ c1) (h : laws_kPairs.f k l0 l1 = some r) :
  Calls Try.prog 26 #[.slice A0 l0.length c0, .slice A1 l1.length c1] w fun e w' => e = .returned (.bool r) ∧ Drawn0 w w' := by
 have hu23 := Try.underlying23
 have HR0 := Aside0.mk hr0
 have HC0 := Aside0.mk hc0
 clear hr0 hc0
 have HR1 := Aside0.mk hr1
 have HC1 := Aside0.mk hc1
 clear hr1 hc1
 have H : (if (l0.length : Int) = (l1.length : Int) then (laws_kPairs.l0 k l0 l1 (l0.length : Int) 0) else (some false)) = some r := h
 clear h
 by_cases c3 : (l0.length : Int) = (l1.length : Int)
 ·
  rw [if_pos c3] at H
  have c3b0 : ((l0.length : Int) == (l1.length : Int)) = true := beq_iff_eq.mpr c3
  have c3b1 : ((l0.length : Int) != (l1.length : Int)) = false := bne_eq_false_iff_eq.mpr c3
  have c3b2 : (l0.length == l1.length) = true := by first | simpa using c3 | (simp at c3 ⊢; omega)
  clear c3
  have H' := Aside0.mk H
  clear H
  go_enter Try.func26, Try.ntmps26
  go_wp2
  repeat (go_quiet (fail); try go_wp2)
  go_loopg [13] k (fun kq v13 w' => ∃ (x13_1 : Int), v13 = .int .i64 x13_1 ∧ Aside0 (laws_kPairs.l0 kq l0 l1 (l0.length : Int) x13_1 = some r) ∧ Aside0 (kq ≤ k) ∧ Drawn0 w w')
  case atStart => exact ⟨(0), (by first | rfl | (simp; done) | (simp [*]; done)), H', ⟨Nat.le_refl _⟩, by repeat (first | exact Drawn0.refl _ | apply Drawn0.step)⟩
  case round =>
   clear H'
   try clear c1
   try clear c3
   try clear c3b0
   try clear c3b1
   try clear c3b2
   obtain ⟨x13_1, rfl, HA, HK1, ⟨m1, rfl⟩⟩ := hrel
   cases gk with
   | zero => exact absurd HA.out (by simp [laws_kPairs.l0])
   | succ k1 =>
    have H := HA.out
    clear HA
    simp only [laws_kPairs.l0] at H
    by_cases c4 : x13_1 < (l0.length : Int)
    ·
     rw [if_pos c4] at H
     have c4b0 : decide (x13_1 < (l0.length : Int)) = true := decide_eq_true c4
     clear c4
     by_cases c5 : 0 ≤ x13_1
     ·
      rw [if_pos c5] at H
      have c5b0 : decide (0 ≤ x13_1) = true := decide_eq_true c5
      clear c5
      by_cases c6 : x13_1 < (l0.length : Int)
      ·
       rw [if_pos c6] at H
       have c6b0 : decide (x13_1 < (l0.length : Int)) = true := decide_eq_true c6
       clear c6
       by_cases c7 : x13_1 < (l1.length : Int)
       ·
        rw [if_pos c7] at H
        have c7b0 : decide (x13_1 < (l1.length : Int)) = true := decide_eq_true c7
        clear c7
        by_cases c8 : (!(((rd_T23 l0 x13_1).f0) == ((rd_T23 l1 x13_1).f0)) || (!(((rd_T23 l0 x13_1).f1) == ((rd_T23 l1 x13_1).f1)))) = true
        ·
         rw [if_pos c8] at H
         have c8b0 : (!(((rd_T23 l0 x13_1).f0) == ((rd_T23 l1 x13_1).f0)) || (!(((rd_T23 l0 x13_1).f1) == ((rd_T23 l1 x13_1).f1)))) = true := c8
         clear c8
         as_aux_lemma =>
          obtain rfl := Option.some.inj H
          have p196 : 0 ≤ (x13_1 : Int) := of_decide_eq_true (by first | (with_reducible assumption) | assumption)
          have q196 : x13_1 < (l0.length : Int) := of_decide_eq_true (by first | (with_reducible assumption) | assumption)
          obtain ⟨ad196, e196, hx196_0, hx196_1⟩ := at_T23 HR0.out x13_1 p196 q196
          cases e196
          replace p196 := eq_true p196
          replace q196 := eq_true q196
          have p197 : 0 ≤ (x13_1 : Int) := of_decide_eq_true (by first | (with_reducible assumption) | assumption)
          have q197 : x13_1 < (l1.length : Int) := of_decide_eq_true (by first | (with_reducible assumption) | assumption)
          obtain ⟨ad197, e197, hx197_0, hx197_1⟩ := at_T23 HR1.out x13_1 p197 q197
          cases e197
          replace p197 := eq_true p197
          replace q197 := eq_true q197
          go_wp2
          repeat (go_quiet (fail); try go_wp2)
          go_ret
          exact ⟨by first | rfl | (simp; done) | (simp [*]; done), by repeat (first | exact Drawn0.refl _ | apply Drawn0.step)⟩
        ·
         rw [if_neg c8] at H
         have c8b0 : (!(((rd_T23 l0 x13_1).f0) == ((rd_T23 l1 x13_1).f0)) || (!(((rd_T23 l0 x13_1).f1) == ((rd_T23 l1 x13_1).f1)))) = false := by simpa using c8
         clear c8
         as_aux_lemma =>
          have H' := Aside0.mk H
          clear H
          have p196 : 0 ≤ (x13_1 : Int) := of_decide_eq_true (by first | (with_reducible assumption) | assumption)
          have q196 : x13_1 < (l0.length : Int) := of_decide_eq_true (by first | (with_reducible assumption) | assumption)
          obtain ⟨ad196, e196, hx196_0, hx196_1⟩ := at_T23 HR0.out x13_1 p196 q196
          cases e196
          replace p196 := eq_true p196
          replace q196 := eq_true q196
          have p197 : 0 ≤ (x13_1 : Int) := of_decide_eq_true (by first | (with_reducible assumption) | assumption)
          have q197 : x13_1 < (l1.length : Int) := of_decide_eq_true (by first | (with_reducible assumption) | assumption)
          obtain ⟨ad197, e197, hx197_0, hx197_1⟩ := at_T23 HR1.out x13_1 p197 q197
          cases e197
          replace p197 := eq_true p197
          replace q197 := eq_true q197
          go_wp2
          repeat (go_quiet (fail); try go_wp2)
          go_roundg k1
          case measure => have := HK1.out; omega
          case rel => exact ⟨(wrap64 (x13_1 + 1)), (by first | rfl | (simp; done) | (simp [*]; done)), H', ⟨by have := HK1.out; omega⟩, by repeat (first | exact Drawn0.refl _ | apply Drawn0.step)⟩
       ·
        rw [if_neg c7] at H
        exact absurd H (by simp)
      ·
       rw [if_neg c6] at H
       exact absurd H (by simp)
     ·
      rw [if_neg c5] at H
      exact absurd H (by simp)
    ·
     rw [if_neg c4] at H
     have c4b0 : decide (x13_1 < (l0.length : Int)) = false := decide_eq_false c4
     clear c4
     as_aux_lemma =>
      obtain rfl := Option.some.inj H
      go_wp2
      repeat (go_quiet (fail); try go_wp2)
      go_ret
      exact ⟨by first | rfl | (simp; done) | (simp [*]; done), by repeat (first | exact Drawn0.refl _ | apply Drawn0.step)⟩
 ·
  rw [if_neg c3] at H
  have c3b0 : ((l0.length : Int) == (l1.length : Int)) = false := beq_eq_false_iff_ne.mpr c3
  have c3b1 : ((l0.length : Int) != (l1.length : Int)) = true := bne_iff_ne.mpr c3
  have c3b2 : (l0.length == l1.length) = false := by first | simpa using c3 | (simp at c3 ⊢; omega)
  as_aux_lemma =>
   obtain rfl := Option.some.inj H
   go_enter Try.func26, Try.ntmps26
   go_wp2
   repeat (go_quiet (fail); try go_wp2)
   go_ret
   exact ⟨by first | rfl | (simp; done) | (simp [*]; done), by repeat (first | exact Drawn0.refl _ | apply Drawn0.step)⟩

/-! ### impl_IsPair: function 61 -/
def impl_IsPair.f (a0_0 : Int) (a0_1 : Int) : Option (Bool) := (impl_areTeeth.f a0_0).bind fun t199 => (if t199 = true then ((impl_areTeeth.f a0_1).bind fun t200 => (some t200)) else (some false))
set_option maxHeartbeats 8000000 in
set_option maxRecDepth 100000 in
theorem impl_IsPair.calls (a0_0 : Int) (a0_1 : Int) (r : Bool) (w : World) (h : impl_IsPair.f a0_0 a0_1 = some r) :
  Calls Try.prog 61 #[.agg #[.int .i64 a0_0, .int .i64 a0_1]] w fun e w' => e = .returned (.bool r) ∧ Below w.heap.size w w' := by
 have hu23 := Try.underlying23
 have HB := Aside0.mk (Below.refl w.heap.size w)
 have H : ((impl_areTeeth.f a0_0).bind fun t199 => (if t199 = true then ((impl_areTeeth.f a0_1).bind fun t200 => (some t200)) else (some false))) = some r := h
 clear h
 replace H := Option.bind_eq_some_iff.mp H
 obtain ⟨t199, A20, H⟩ := H
 replace H : (if t199 = true then ((impl_areTeeth.f a0_1).bind fun t200 => (some t200)) else (some false)) = some r := H
 have A2 := Aside0.mk A20
 clear A20
 by_cases c3 : t199 = true
 ·
  subst c3
  have H1 : ((impl_areTeeth.f a0_1).bind fun t200 => (some t200)) = some r := by rw [if_pos rfl] at H; exact H
  clear H
  have H := H1
  clear H1
  replace H := Option.bind_eq_some_iff.mp H
  obtain ⟨t200, A40, H⟩ := H
  replace H : (some t200) = some r := H
  have A4 := Aside0.mk A40
  clear A40
  as_aux_lemma =>
   obtain rfl := Option.some.inj H
   go_enter Try.func61, Try.ntmps61
   go_wp2_with (first | ((with_reducible refine gate_dst (N := 1) rfl ?_); refine box_event ?hg (N := 1) ?hd (cs := #[.int .i64 a0_0, .int .i64 a0_1]) (t := 23) ?hr ?_; (case hd => rfl); (case hg => rfl); (case hr => first | (go_simp; done) | (go_simp; rfl)); intro gb198 hg w5 hbox hb; have n0_ := Aside0.mk (below_step (by repeat (first | (with_reducible first | exact HB.out | apply below_alloc | apply pw_below_drewN | apply below_drew1) | exact HB.out)) hb); have n1_ := Aside0.mk (hbox); have n2_ := Aside0.mk ((by rw [hg]; exact (below_size (by repeat (first | (with_reducible first | exact HB.out | apply below_alloc | apply pw_below_drewN | apply below_drew1) | exact HB.out))) : w.heap.size ≤ gb198)); have n3_ := Aside0.mk ((by rw [hg]; exact (below_size (by repeat (first | (with_reducible first | exact HB.out | apply below_alloc | apply pw_below_drewN | apply below_drew1) | exact HB.out))) : w.heap.size ≤ gb198)); clear HB; have HB := n0_; have BK198 := n1_; have GW198 := n2_; have GE198 := n3_; clear n0_ n1_ n2_ n3_; clear hb hbox hg; have hcz6_0 : w5.cell? ⟨gb198, 0, none⟩ = some (.int .i64 a0_0) := (blk_cell BK198.out 0).trans rfl; have hcz6_1 : w5.cell? ⟨gb198, 1, none⟩ = some (.int .i64 a0_1) := (blk_cell BK198.out 1).trans rfl; have hfz6_0 := blk_frozen BK198.out 0; have hfz6_1 := blk_frozen BK198.out 1) | ((with_reducible refine gate_callee (f := 45) rfl ?_); refine goesL_ (some 5) rfl rfl Try.func45 (by kernel_rfl) rfl #[.int .i64 a0_0] rfl (by (try simp only [List.map_toArray, List.map_cons, List.map_nil]); first | done | rfl | (simp only [List.length_drop, List.length_take]; rfl)) ?_; (with_reducible refine (impl_areTeeth.calls a0_0 true _ A2.out).mono ?_); rintro e w' ⟨rfl, ⟨nd, rfl⟩⟩; refine ⟨_, rfl, ?_⟩) | (go_at_call 45; refine calls_of_args (args' := #[.int .i64 a0_1]) (by first | rfl) ?_; (with_reducible refine (impl_areTeeth.calls a0_1 t200 _ A4.out).mono ?_); rintro e w' ⟨rfl, ⟨nd, rfl⟩⟩))
   go_ret
   exact ⟨by first | rfl | (simp [errW_none, errW_some] <;> rfl) | (simp [*, errW_none, errW_some] <;> rfl), by repeat (first | (with_reducible first | exact HB.out | apply below_alloc | apply pw_below_drewN | apply below_drew1 | refine below_set ?_ GE198.out) | exact HB.out)⟩
 ·
  replace c3 := Bool.eq_false_iff.mpr c3
  subst c3
  have H1 : (some false) = some r := by rw [if_neg (show ¬ (false = true) by decide)] at H; exact H
  clear H
  have H := H1
  clear H1
  as_aux_lemma =>
   obtain rfl := Option.some.inj H
   go_enter Try.func61, Try.ntmps61
   go_wp2_with (first | ((with_reducible refine gate_dst (N := 1) rfl ?_); refine box_event ?hg (N := 1) ?hd (cs := #[.int .i64 a0_0, .int .i64 a0_1]) (t := 23) ?hr ?_; (case hd => rfl); (case hg => rfl); (case hr => first | (go_simp; done) | (go_simp; rfl)); intro gb198 hg w7 hbox hb; have n0_ := Aside0.mk (below_step (by repeat (first | (with_reducible first | exact HB.out | apply below_alloc | apply pw_below_drewN | apply below_drew1) | exact HB.out)) hb); have n1_ := Aside0.mk (hbox); have n2_ := Aside0.mk ((by rw [hg]; exact (below_size (by repeat (first | (with_reducible first | exact HB.out | apply below_alloc | apply pw_below_drewN | apply below_drew1) | exact HB.out))) : w.heap.size ≤ gb198)); have n3_ := Aside0.mk ((by rw [hg]; exact (below_size (by repeat (first | (with_reducible first | exact HB.out | apply below_alloc | apply pw_below_drewN | apply below_drew1) | exact HB.out))) : w.heap.size ≤ gb198)); clear HB; have HB := n0_; have BK198 := n1_; have GW198 := n2_; have GE198 := n3_; clear n0_ n1_ n2_ n3_; clear hb hbox hg; have hcz8_0 : w7.cell? ⟨gb198, 0, none⟩ = some (.int .i64 a0_0) := (blk_cell BK198.out 0).trans rfl; have hcz8_1 : w7.cell? ⟨gb198, 1, none⟩ = some (.int .i64 a0_1) := (blk_cell BK198.out 1).trans rfl; have hfz8_0 := blk_frozen BK198.out 0; have hfz8_1 := blk_frozen BK198.out 1) | ((with_reducible refine gate_callee (f := 45) rfl ?_); refine goesL_ (some 5) rfl rfl Try.func45 (by kernel_rfl) rfl #[.int .i64 a0_0] rfl (by (try simp only [List.map_toArray, List.map_cons, List.map_nil]); first | done | rfl | (simp only [List.length_drop, List.length_take]; rfl)) ?_; (with_reducible refine (impl_areTeeth.calls a0_0 false _ A2.out).mono ?_); rintro e w' ⟨rfl, ⟨nd, rfl⟩⟩; refine ⟨_, rfl, ?_⟩))
   go_ret
   exact ⟨by first | rfl | (simp [errW_none, errW_some] <;> rfl) | (simp [*, errW_none, errW_some] <;> rfl), by repeat (first | (with_reducible first | exact HB.out | apply below_alloc | apply pw_below_drewN | apply below_drew1 | refine below_set ?_ GE198.out) | exact HB.out)⟩

end Go.Proofs.Ytofjjfaaadllmaa.GFnTrainsFoundOfAll
