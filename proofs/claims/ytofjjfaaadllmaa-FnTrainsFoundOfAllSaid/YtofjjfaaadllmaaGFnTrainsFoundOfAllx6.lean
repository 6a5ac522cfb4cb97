-- Written by a program of this session (a copy of the kit's print program that takes contracts of one's own); Lean checks it.
import Derived.Test.YtofjjfaaadllmaaGFnTrainsFoundOfAllx0
import Derived.Test.YtofjjfaaadllmaaGFnTrainsFoundOfAllx2
import Derived.Test.YtofjjfaaadllmaaGFnTrainsFoundOfAllx3
import Derived.Test.YtofjjfaaadllmaaGFnTrainsFoundOfAllx5
namespace Go.Proofs.Ytofjjfaaadllmaa.GFnTrainsFoundOfAll
open Go.RowKit Go.Proofs.YtofjjfaaadllmaaW.PrintWords Go.Proofs.YtofjjfaaadllmaaW.PrintLast Go.Proofs.YtofjjfaaadllmaaW.PrintMore
attribute [local go_sem] max2_int min2_int max_two min_two max_three min_three max_four min_four IntWalk.i64_left   -- for this text's walks alone
set_option linter.unusedVariables false
set_option linter.unusedSimpArgs false

/-! ### spec_geWorks: function 43 -/
mutual
def spec_geWorks.l0 : Nat → Int → Int → List (List (S23)) → Int → Option ((List (List (S23))))
 | 0, _, _, _, _ => none
 | k + 1, x0, x1, x5, x6 => if x6 ≤ x1 then (spec_geWorks.l1 k x0 x1 x5 x6 6) else (some x5)
def spec_geWorks.l1 : Nat → Int → Int → List (List (S23)) → Int → Int → Option ((List (List (S23))))
 | 0, _, _, _, _, _ => none
 | k + 1, x0, x1, x5, x6, x7 => if x7 ≤ x1 then (spec_geWorks.l2 k x0 x1 x5 x6 x7 6) else (spec_geWorks.l0 k x0 x1 x5 (wrap64 (x6 + 1)))
def spec_geWorks.l2 : Nat → Int → Int → List (List (S23)) → Int → Int → Int → Option ((List (List (S23))))
 | 0, _, _, _, _, _, _ => none
 | k + 1, x0, x1, x5, x6, x7, x8 => if x8 ≤ x1 then ((spec_l1In.f (wrap64 ((wrap64 (x6 + x7)) - x8)) 6 x1).bind fun t150 => (if t150 = true then (if (wrap64 ((wrap64 (x6 * x8)) * x0)) = (wrap64 (x7 * (wrap64 ((wrap64 (x6 + x7)) - x8)))) then (if x5.length < 5864062014805 then (spec_geWorks.l2 k x0 x1 (x5 ++ [(([(⟨x6, x7⟩ : S23), (⟨x8, wrap64 ((wrap64 (x6 + x7)) - x8)⟩ : S23)] : List (S23)))]) x6 x7 (wrap64 (x8 + 1))) else (none)) else (spec_geWorks.l2 k x0 x1 x5 x6 x7 (wrap64 (x8 + 1)))) else (spec_geWorks.l2 k x0 x1 x5 x6 x7 (wrap64 (x8 + 1))))) else (spec_geWorks.l1 k x0 x1 x5 x6 (wrap64 (x7 + 1)))
end
def spec_geWorks.f (k : Nat) (a0 : Int) (a1 : Int) : Option ((List (List (S23)))) := spec_geWorks.l0 k a0 a1 ([] : List (List (S23))) 6
set_option maxHeartbeats 8000000 in
set_option maxRecDepth 100000 in
theorem spec_geWorks.calls (k : Nat) (a0 : Int) (a1 : Int) (r : List (List (S23))) (w : World) (h : spec_geWorks.f k a0 a1 = some r) :
  Calls Try.prog 43 #[.int .i64 a0, .int .i64 a1] w fun e w' => ∃ v0_ : Value, e = .returned (v0_) ∧ Kd.S (Kd.slice 23 k23) 28 w' w.heap.size (fun _ => True) v0_ r ∧ Below w.heap.size w w' := by
 have hu23 := Try.underlying23
 have HB := Aside0.mk (Below.refl w.heap.size w)
 have H : (spec_geWorks.l0 k a0 a1 ([] : List (List (S23))) 6) = some r := h
 clear h
 have H' := Aside0.mk H
 clear H
 go_enter Try.func43, Try.ntmps43
 go_wp2
 go_loopg [5, 6] k (fun kq v5 v6 w' => ∃ (x5_1 : List (List (S23))) (x6_1 : Int), v6 = .int .i64 x6_1 ∧ Aside0 (spec_geWorks.l0 kq a0 a1 x5_1 x6_1 = some r) ∧ Aside0 (kq ≤ k) ∧ Aside0 (Kd.S (Kd.slice 23 k23) 28 w' w.heap.size (fun _ => True) v5 x5_1) ∧ Aside0 (Below w.heap.size w w'))
 case atStart => exact ⟨(([] : List (List (S23)))), (6), (by first | rfl | (simp; done) | (simp [*]; done)), H', ⟨Nat.le_refl _⟩, ⟨by first | exact Kd.S_nil _ _ _ _ _ | exact Kd.N_nil _ _ _ _ _ | exact Kd.V_nil _ _ _ _ _ | exact Kd.Q_nil _ _ _ _ _ | exact Kd.R_nil _ _ _ _ _⟩, ⟨by repeat (first | (with_reducible first | exact HB.out | apply below_alloc | apply pw_below_drewN | apply below_drew1) | exact HB.out)⟩⟩
 case round =>
  clear H'
  obtain ⟨x5_1, x6_1, rfl, HA, HK1, HO_5, HB⟩ := hrel
  cases gk with
  | zero => exact absurd HA.out (by simp [spec_geWorks.l0])
  | succ k1 =>
   have H := HA.out
   clear HA
   simp only [spec_geWorks.l0] at H
   by_cases c3 : x6_1 ≤ a1
   ·
    rw [if_pos c3] at H
    have c3b0 : decide (x6_1 ≤ a1) = true := decide_eq_true c3
    clear c3
    have H' := Aside0.mk H
    clear H
    go_wp2
    go_loopg [5, 7] k1 (fun kq v5 v7 w' => ∃ (x5_2 : List (List (S23))) (x7_2 : Int), v7 = .int .i64 x7_2 ∧ Aside0 (spec_geWorks.l1 kq a0 a1 x5_2 x6_1 x7_2 = some r) ∧ Aside0 (kq ≤ k1) ∧ Aside0 (Kd.S (Kd.slice 23 k23) 28 w' w.heap.size (fun _ => True) v5 x5_2) ∧ Aside0 (Below w.heap.size w w'))
    case atStart => exact ⟨(x5_1), (6), (by first | rfl | (simp; done) | (simp [*]; done)), H', ⟨Nat.le_refl _⟩, ⟨by (with_reducible repeat (first | apply Kd.S_alloc | apply Kd.S_drewN | apply Kd.S_drew)); exact HO_5.out⟩, ⟨by repeat (first | (with_reducible first | exact HB.out | apply below_alloc | apply pw_below_drewN | apply below_drew1) | exact HB.out)⟩⟩
    case round =>
     clear H'
     try clear c3
     try clear c3b0
     obtain ⟨x5_2, x7_2, rfl, HA, HK2, HO_5, HB⟩ := hrel
     cases gk with
     | zero => exact absurd HA.out (by simp [spec_geWorks.l1])
     | succ k2 =>
      have H := HA.out
      clear HA
      simp only [spec_geWorks.l1] at H
      by_cases c4 : x7_2 ≤ a1
      ·
       rw [if_pos c4] at H
       have c4b0 : decide (x7_2 ≤ a1) = true := decide_eq_true c4
       clear c4
       have H' := Aside0.mk H
       clear H
       go_wp2
       go_loopg [5, 8] k2 (fun kq v5 v8 w' => ∃ (x5_3 : List (List (S23))) (x8_3 : Int), v8 = .int .i64 x8_3 ∧ Aside0 (spec_geWorks.l2 kq a0 a1 x5_3 x6_1 x7_2 x8_3 = some r) ∧ Aside0 (kq ≤ k2) ∧ Aside0 (Kd.S (Kd.slice 23 k23) 28 w' w.heap.size (fun _ => True) v5 x5_3) ∧ Aside0 (Below w.heap.size w w'))
       case atStart => exact ⟨(x5_2), (6), (by first | rfl | (simp; done) | (simp [*]; done)), H', ⟨Nat.le_refl _⟩, ⟨by (with_reducible repeat (first | apply Kd.S_alloc | apply Kd.S_drewN | apply Kd.S_drew)); exact HO_5.out⟩, ⟨by repeat (first | (with_reducible first | exact HB.out | apply below_alloc | apply pw_below_drewN | apply below_drew1) | exact HB.out)⟩⟩
       case round =>
        clear H'
        try clear c3
        try clear c3b0
        try clear c4
        try clear c4b0
        obtain ⟨x5_3, x8_3, rfl, HA, HK3, HO_5, HB⟩ := hrel
        cases gk with
        | zero => exact absurd HA.out (by simp [spec_geWorks.l2])
        | succ k3 =>
         have H := HA.out
         clear HA
         simp only [spec_geWorks.l2] at H
         by_cases c5 : x8_3 ≤ a1
         ·
          rw [if_pos c5] at H
          have c5b0 : decide (x8_3 ≤ a1) = true := decide_eq_true c5
          clear c5
          replace H := Option.bind_eq_some_iff.mp H
          obtain ⟨t150, A60, H⟩ := H
          replace H : (if t150 = true then (if (wrap64 ((wrap64 (x6_1 * x8_3)) * a0)) = (wrap64 (x7_2 * (wrap64 ((wrap64 (x6_1 + x7_2)) - x8_3)))) then (if x5_3.length < 5864062014805 then (spec_geWorks.l2 k3 a0 a1 (x5_3 ++ [(([(⟨x6_1, x7_2⟩ : S23), (⟨x8_3, wrap64 ((wrap64 (x6_1 + x7_2)) - x8_3)⟩ : S23)] : List (S23)))]) x6_1 x7_2 (wrap64 (x8_3 + 1))) else (none)) else (spec_geWorks.l2 k3 a0 a1 x5_3 x6_1 x7_2 (wrap64 (x8_3 + 1)))) else (spec_geWorks.l2 k3 a0 a1 x5_3 x6_1 x7_2 (wrap64 (x8_3 + 1)))) = some r := H
          have A6 := Aside0.mk A60
          clear A60
          by_cases c7 : t150 = true
          ·
           subst c7
           have H1 : (if (wrap64 ((wrap64 (x6_1 * x8_3)) * a0)) = (wrap64 (x7_2 * (wrap64 ((wrap64 (x6_1 + x7_2)) - x8_3)))) then (if x5_3.length < 5864062014805 then (spec_geWorks.l2 k3 a0 a1 (x5_3 ++ [(([(⟨x6_1, x7_2⟩ : S23), (⟨x8_3, wrap64 ((wrap64 (x6_1 + x7_2)) - x8_3)⟩ : S23)] : List (S23)))]) x6_1 x7_2 (wrap64 (x8_3 + 1))) else (none)) else (spec_geWorks.l2 k3 a0 a1 x5_3 x6_1 x7_2 (wrap64 (x8_3 + 1)))) = some r := by rw [if_pos rfl] at H; exact H
           clear H
           have H := H1
           clear H1
           by_cases c8 : (wrap64 ((wrap64 (x6_1 * x8_3)) * a0)) = (wrap64 (x7_2 * (wrap64 ((wrap64 (x6_1 + x7_2)) - x8_3))))
           ·
            rw [if_pos c8] at H
            have c8b0 : ((wrap64 ((wrap64 (x6_1 * x8_3)) * a0)) == (wrap64 (x7_2 * (wrap64 ((wrap64 (x6_1 + x7_2)) - x8_3))))) = true := beq_iff_eq.mpr c8
            have c8b1 : ((wrap64 ((wrap64 (x6_1 * x8_3)) * a0)) != (wrap64 (x7_2 * (wrap64 ((wrap64 (x6_1 + x7_2)) - x8_3))))) = false := bne_eq_false_iff_eq.mpr c8
            clear c8
            obtain ⟨y151, hy151⟩ : ∃ y_ : List (S23), y_ = (([(⟨x6_1, x7_2⟩ : S23), (⟨x8_3, wrap64 ((wrap64 (x6_1 + x7_2)) - x8_3)⟩ : S23)] : List (S23))) := ⟨_, rfl⟩
            replace H : (if x5_3.length < 5864062014805 then (spec_geWorks.l2 k3 a0 a1 (x5_3 ++ [y151]) x6_1 x7_2 (wrap64 (x8_3 + 1))) else (none)) = some r := by first | (rw [hy151]; with_reducible exact H) | (have H2_ := (Option.bind_some _ _).symm.trans H; rw [hy151]; with_reducible exact H2_) | (have H2_ := (Option.bind_some _ _).symm.trans H; with_reducible exact H2_) | with_reducible exact H | (rw [hy151]; exact H) | exact H
            have Ny151 := Aside0.mk hy151
            clear hy151
            by_cases c9 : x5_3.length < 5864062014805
            ·
             rw [if_pos c9] at H
             have LMc9 := Aside0.mk c9
             clear c9
             obtain ⟨y154, hy154⟩ : ∃ y_ : List (List (S23)), y_ = (x5_3 ++ [y151]) := ⟨_, rfl⟩
             replace H : (spec_geWorks.l2 k3 a0 a1 y154 x6_1 x7_2 (wrap64 (x8_3 + 1))) = some r := by first | (rw [hy154]; with_reducible exact H) | (have H2_ := (Option.bind_some _ _).symm.trans H; rw [hy154]; with_reducible exact H2_) | (have H2_ := (Option.bind_some _ _).symm.trans H; with_reducible exact H2_) | with_reducible exact H | (rw [hy154]; exact H) | exact H
             have Ny154 := Aside0.mk hy154
             clear hy154
             as_aux_lemma =>
              have H' := Aside0.mk H
              clear H
              go_wp2_with (first | ((with_reducible refine gate_callee (f := 53) rfl ?_); refine goesL_ (some 32) rfl rfl Try.func53 (by kernel_rfl) rfl #[.int .i64 (wrap64 ((wrap64 (x6_1 + x7_2)) - x8_3)), .int .i64 6, .int .i64 a1] rfl (by (try simp only [List.map_toArray, List.map_cons, List.map_nil]); first | done | rfl | (simp only [List.length_drop, List.length_take]; rfl)) ?_; (with_reducible refine (spec_l1In.calls (wrap64 ((wrap64 (x6_1 + x7_2)) - x8_3)) 6 a1 true _ A6.out).mono ?_); rintro e w' ⟨rfl, ⟨nd, rfl⟩⟩; refine ⟨_, rfl, ?_⟩) | ((with_reducible refine gate_dst (N := 51) rfl ?_); refine Kd.R_lit k23 _ 23 ?hg (N := 51) ?hd (xs := ([(⟨x6_1, x7_2⟩ : S23), (⟨x8_3, wrap64 ((wrap64 (x6_1 + x7_2)) - x8_3)⟩ : S23)] : List (S23))) (inner := [.int .i64 x6_1, .int .i64 x7_2, .int .i64 x8_3, .int .i64 (wrap64 ((wrap64 (x6_1 + x7_2)) - x8_3))]) (ok := fun _ => True) (okp := fun _ => True) ?hr ?hp (fun _ hk => hk) trivial (Below.refl _ _) (Nat.le_refl _) (by simp) ?_; (case hd => rfl); (case hg => rfl); (case hr => first | (go_simp; done) | (go_simp; rfl)); (case hp => exact (Reps.c2 (show Kd.M k23 _ _ _ (⟨x6_1, x7_2⟩ : S23) [.int .i64 x6_1, .int .i64 x7_2] from (k23_mkM _ _ _ (⟨x6_1, x7_2⟩ : S23) )) (Reps.c2 (show Kd.M k23 _ _ _ (⟨x8_3, wrap64 ((wrap64 (x6_1 + x7_2)) - x8_3)⟩ : S23) [.int .i64 x8_3, .int .i64 (wrap64 ((wrap64 (x6_1 + x7_2)) - x8_3))] from (k23_mkM _ _ _ (⟨x8_3, wrap64 ((wrap64 (x6_1 + x7_2)) - x8_3)⟩ : S23) )) (Reps.none _ _)))); intro v152 w10 ho11 hb hg_ hnew_; clear hg_ hnew_; (first | rw [← Ny151.out] at ho11 | (simp only [Int.reduceToNat] at ho11; rw [← Ny151.out] at ho11)); have n0_ := Aside0.mk (Kd.S_elder' (by (with_reducible repeat (first | apply Kd.S_alloc | apply Kd.S_drewN | apply Kd.S_drew)); exact HO_5.out) (Kd.R_base ho11) hb); have n1_ := Aside0.mk (Kd.R_lower ho11 (below_size (by repeat (first | (with_reducible first | exact HB.out | apply below_alloc | apply pw_below_drewN | apply below_drew1) | exact HB.out)))); have n2_ := Aside0.mk (below_step (by repeat (first | (with_reducible first | exact HB.out | apply below_alloc | apply pw_below_drewN | apply below_drew1) | exact HB.out)) hb); clear HO_5; clear HB; have HO_5 := n0_; have HO153 := n1_; have HB := n2_; clear n0_ n1_ n2_; clear hb ho11; obtain ⟨Ao13, co13, eo13⟩ := Kd.R_slice HO153.out; subst eo13) | ((with_reducible refine gate_builtin (b := .append) (xs := #[.tmp 44, .tmp 52]) rfl ?_); at_builtin; refine Kd.S_append (Kd.slice 23 k23) (w0 := w) w.heap.size rfl (.tmp 44) (.tmp 52) 34 28 (.slice none 0 0) 24 rfl Try.underlying34 info28 rfl (by decide) (by omega) u5 x5_3 y151 [.slice Ao13 y151.length co13] (fun _ => True) (fun k_ => some k_ = (.slice Ao13 y151.length co13 : Value).ownBlock) rfl rfl ?aP (fun k_ hk_ => ((Kd.R_mono (ok' := fun k_ => ((fun _ => True)) k_ ∧ some k_ ≠ (u5 : Value).ownBlock) (Kd.R_apart' (HO153.out) (Kd.S_typed HO_5.out) (by decide)) (fun k_ hk => ⟨trivial, hk.2⟩))).1 k_ hk_.symm) ?aF ?aO ?aB ?aS ?aL ?_; (case aP => exact Kd.M_row (Kd.R_mono (Kd.R_tight rfl (Kd.R_mono (ok' := fun k_ => ((fun _ => True)) k_ ∧ some k_ ≠ (u5 : Value).ownBlock) (Kd.R_apart' (HO153.out) (Kd.S_typed HO_5.out) (by decide)) (fun k_ hk => ⟨trivial, hk.2⟩))) (fun _ h_ => h_))); (case aB => exact (by repeat (first | (with_reducible first | exact HB.out | apply below_alloc | apply pw_below_drewN | apply below_drew1) | exact HB.out))); (case aF => exact (fun _ _ => trivial)); (case aO => exact (by (with_reducible repeat (first | apply Kd.S_alloc | apply Kd.S_drewN | apply Kd.S_drew)); exact Kd.S_mono HO_5.out (fun k_ hk => ⟨trivial, fun e_ => hk.2 e_⟩))); (case aS => exact (below_size (by repeat (first | (with_reducible first | exact HB.out | apply below_alloc | apply pw_below_drewN | apply below_drew1) | exact HB.out)))); (case aL => have := LMc9.out; omega); intro v155 w12 ho hb hg hat; rw [← Ny154.out] at ho; have n0_ := Aside0.mk (hb); have n1_ := Aside0.mk (ho); clear HB; clear HO_5; clear HO153; have HB := n0_; have HO156 := n1_; clear n0_ n1_; clear ho hb hg hat))
              go_roundg k3
              case measure => have := HK1.out; have := HK2.out; have := HK3.out; omega
              case rel => exact ⟨(y154), (wrap64 (x8_3 + 1)), (by first | rfl | (simp; done) | (simp [*]; done)), H', ⟨by have := HK1.out; have := HK2.out; have := HK3.out; omega⟩, ⟨by (with_reducible repeat (first | apply Kd.S_alloc | apply Kd.S_drewN | apply Kd.S_drew)); exact HO156.out⟩, ⟨by repeat (first | (with_reducible first | exact HB.out | apply below_alloc | apply pw_below_drewN | apply below_drew1) | exact HB.out)⟩⟩
            ·
             rw [if_neg c9] at H
             exact absurd H (by simp)
           ·
            rw [if_neg c8] at H
            have c8b0 : ((wrap64 ((wrap64 (x6_1 * x8_3)) * a0)) == (wrap64 (x7_2 * (wrap64 ((wrap64 (x6_1 + x7_2)) - x8_3))))) = false := beq_eq_false_iff_ne.mpr c8
            have c8b1 : ((wrap64 ((wrap64 (x6_1 * x8_3)) * a0)) != (wrap64 (x7_2 * (wrap64 ((wrap64 (x6_1 + x7_2)) - x8_3))))) = true := bne_iff_ne.mpr c8
            as_aux_lemma =>
             have H' := Aside0.mk H
             clear H
             go_wp2_with (first | ((with_reducible refine gate_callee (f := 53) rfl ?_); refine goesL_ (some 32) rfl rfl Try.func53 (by kernel_rfl) rfl #[.int .i64 (wrap64 ((wrap64 (x6_1 + x7_2)) - x8_3)), .int .i64 6, .int .i64 a1] rfl (by (try simp only [List.map_toArray, List.map_cons, List.map_nil]); first | done | rfl | (simp only [List.length_drop, List.length_take]; rfl)) ?_; (with_reducible refine (spec_l1In.calls (wrap64 ((wrap64 (x6_1 + x7_2)) - x8_3)) 6 a1 true _ A6.out).mono ?_); rintro e w' ⟨rfl, ⟨nd, rfl⟩⟩; refine ⟨_, rfl, ?_⟩))
             go_roundg k3
             case measure => have := HK1.out; have := HK2.out; have := HK3.out; omega
             case rel => exact ⟨(x5_3), (wrap64 (x8_3 + 1)), (by first | rfl | (simp; done) | (simp [*]; done)), H', ⟨by have := HK1.out; have := HK2.out; have := HK3.out; omega⟩, ⟨by (with_reducible repeat (first | apply Kd.S_alloc | apply Kd.S_drewN | apply Kd.S_drew)); exact HO_5.out⟩, ⟨by repeat (first | (with_reducible first | exact HB.out | apply below_alloc | apply pw_below_drewN | apply below_drew1) | exact HB.out)⟩⟩
          ·
           replace c7 := Bool.eq_false_iff.mpr c7
           subst c7
           have H1 : (spec_geWorks.l2 k3 a0 a1 x5_3 x6_1 x7_2 (wrap64 (x8_3 + 1))) = some r := by rw [if_neg (show ¬ (false = true) by decide)] at H; exact H
           clear H
           have H := H1
           clear H1
           as_aux_lemma =>
            have H' := Aside0.mk H
            clear H
            go_wp2_with (first | ((with_reducible refine gate_callee (f := 53) rfl ?_); refine goesL_ (some 32) rfl rfl Try.func53 (by kernel_rfl) rfl #[.int .i64 (wrap64 ((wrap64 (x6_1 + x7_2)) - x8_3)), .int .i64 6, .int .i64 a1] rfl (by (try simp only [List.map_toArray, List.map_cons, List.map_nil]); first | done | rfl | (simp only [List.length_drop, List.length_take]; rfl)) ?_; (with_reducible refine (spec_l1In.calls (wrap64 ((wrap64 (x6_1 + x7_2)) - x8_3)) 6 a1 false _ A6.out).mono ?_); rintro e w' ⟨rfl, ⟨nd, rfl⟩⟩; refine ⟨_, rfl, ?_⟩))
            go_roundg k3
            case measure => have := HK1.out; have := HK2.out; have := HK3.out; omega
            case rel => exact ⟨(x5_3), (wrap64 (x8_3 + 1)), (by first | rfl | (simp; done) | (simp [*]; done)), H', ⟨by have := HK1.out; have := HK2.out; have := HK3.out; omega⟩, ⟨by (with_reducible repeat (first | apply Kd.S_alloc | apply Kd.S_drewN | apply Kd.S_drew)); exact HO_5.out⟩, ⟨by repeat (first | (with_reducible first | exact HB.out | apply below_alloc | apply pw_below_drewN | apply below_drew1) | exact HB.out)⟩⟩
         ·
          rw [if_neg c5] at H
          have c5b0 : decide (x8_3 ≤ a1) = false := decide_eq_false c5
          clear c5
          as_aux_lemma =>
           have H' := Aside0.mk H
           clear H
           go_wp2
           go_roundg k3
           case measure => have := HK1.out; have := HK2.out; have := HK3.out; omega
           case rel => exact ⟨(x5_3), (wrap64 (x7_2 + 1)), (by first | rfl | (simp; done) | (simp [*]; done)), H', ⟨by have := HK1.out; have := HK2.out; have := HK3.out; omega⟩, ⟨by (with_reducible repeat (first | apply Kd.S_alloc | apply Kd.S_drewN | apply Kd.S_drew)); exact HO_5.out⟩, ⟨by repeat (first | (with_reducible first | exact HB.out | apply below_alloc | apply pw_below_drewN | apply below_drew1) | exact HB.out)⟩⟩
      ·
       rw [if_neg c4] at H
       have c4b0 : decide (x7_2 ≤ a1) = false := decide_eq_false c4
       clear c4
       as_aux_lemma =>
        have H' := Aside0.mk H
        clear H
        go_wp2
        go_roundg k2
        case measure => have := HK1.out; have := HK2.out; omega
        case rel => exact ⟨(x5_2), (wrap64 (x6_1 + 1)), (by first | rfl | (simp; done) | (simp [*]; done)), H', ⟨by have := HK1.out; have := HK2.out; omega⟩, ⟨by (with_reducible repeat (first | apply Kd.S_alloc | apply Kd.S_drewN | apply Kd.S_drew)); exact HO_5.out⟩, ⟨by repeat (first | (with_reducible first | exact HB.out | apply below_alloc | apply pw_below_drewN | apply below_drew1) | exact HB.out)⟩⟩
   ·
    rw [if_neg c3] at H
    have c3b0 : decide (x6_1 ≤ a1) = false := decide_eq_false c3
    clear c3
    as_aux_lemma =>
     obtain rfl := Option.some.inj H
     go_wp2
     go_ret
     exact ⟨_, by first | rfl | (simp [errW_none, errW_some] <;> rfl) | (simp [*, errW_none, errW_some] <;> rfl), by (with_reducible repeat (first | apply Kd.S_alloc | apply Kd.S_drewN | apply Kd.S_drew)); exact HO_5.out, by repeat (first | (with_reducible first | exact HB.out | apply below_alloc | apply pw_below_drewN | apply below_drew1) | exact HB.out)⟩

/-! ### spec_FirstMotionWork: function 12 -/
def smN (row : List S23) : Int := wrap64 ((rd_T23 row 0).f0 + (rd_T23 row 0).f1)
def smF (rows : List (List S23)) : Nat → Int → List S23 → Int → Option (List S23 × Int)
 | 0, _, _, _ => none
 | g + 1, i, out, least => if i < (rows.length : Int) then (if 0 < (rd_L2 rows i).length then (if least = 0 ∨ smN (rd_L2 rows i) < least then smF rows g (i + 1) (rd_L2 rows i) (smN (rd_L2 rows i)) else smF rows g (i + 1) out least) else none) else some (out, least)
def spec_FirstMotionWork.f (k : Nat) (a0 a1 : Int) : Option (List S23 × Bool) := (spec_diHours.f a0).bind fun t => (spec_geWheel.f a1).bind fun u => if t = true ∧ u = true then (spec_geWorks.f k a0 a1).bind fun rows => (if rows.length ≤ 1000000000 then smF rows k 0 [] 0 else none).bind fun p => if p.2 = 0 then some ([], false) else some (p.1, true) else some ([], false)
set_option maxHeartbeats 8000000 in
set_option maxRecDepth 100000 in
theorem spec_FirstMotionWork.yes (k : Nat) (a0 a1 : Int) (rows : List (List S23)) (o : List S23 × Int) (w : World) (ht : spec_diHours.f a0 = some true) (hu : spec_geWheel.f a1 = some true) (hw : spec_geWorks.f k a0 a1 = some rows) (hl : rows.length ≤ 1000000000) (ho : smF rows k 0 [] 0 = some o) (r0 : List S23) (rb : Bool) (hr0 : o.2 = 0 → r0 = [] ∧ rb = false) (hr1 : o.2 ≠ 0 → r0 = o.1 ∧ rb = true) :
  Calls Try.prog 12 #[.int .i64 a0, .int .i64 a1] w fun e w' => ∃ v0_ : Value, e = .returned (.tuple #[v0_, .bool rb]) ∧ Kd.R k23 23 w' w.heap.size (fun _ => True) v0_ r0 ∧ Below w.heap.size w w' := by
 have hu23 := Try.underlying23
 have HB := Aside0.mk (Below.refl w.heap.size w)
 have HT := Aside0.mk ht
 have HU := Aside0.mk hu
 have HW := Aside0.mk hw
 have HF := Aside0.mk ho
 have HRL := Aside0.mk hl
 have HZ0 := Aside0.mk hr0
 have HZ1 := Aside0.mk hr1
 clear ht hu hw ho hl hr0 hr1
 go_enter Try.func12, Try.ntmps12
 go_wp2_with (first | ((with_reducible refine gate_dst (N := 19) rfl ?_); (refine Kd.R_lit k23 _ 23 ?hg (N := 19) ?hd (xs := ([] : List S23)) (inner := []) (ok := fun _ => True) (okp := fun _ => True) ?hr ?hp (fun _ hk => hk) trivial (Below.refl _ _) (Nat.le_refl _) (by simp) ?_; (case hd => rfl); (case hg => rfl); (case hr => first | (go_simp; done) | (go_simp; rfl)); (case hp => exact (Reps.none _ _)); intro v8 w8 ho hb hg_ hnew_; clear hg_ hnew_; obtain ⟨A8, c8, rfl, hc8, hC8⟩ := Kd.R_reads ho; clear hc8 hC8; have HO := Aside0.mk (Kd.R_lower ho (below_size (by repeat (first | (with_reducible first | exact HB.out | apply below_alloc | apply pw_below_drewN | apply below_drew1) | exact HB.out)))); have n0_ := Aside0.mk (below_step (by repeat (first | (with_reducible first | exact HB.out | apply below_alloc | apply pw_below_drewN | apply below_drew1) | exact HB.out)) hb); clear HB; have HB := n0_; clear n0_ ho hb)) | (go_at_call 41; (with_reducible refine (spec_diHours.calls a0 _ _ HT.out).mono ?_); rintro e w' ⟨rfl, ⟨nd, rfl⟩⟩) | (go_at_call 42; (with_reducible refine (spec_geWheel.calls a1 _ _ HU.out).mono ?_); rintro e w' ⟨rfl, ⟨nd, rfl⟩⟩) | (go_at_call 43; ((with_reducible refine (spec_geWorks.calls k a0 a1 rows _ HW.out).mono ?_); rintro e w9 ⟨v9, rfl, hS, hb⟩; obtain ⟨A9, c9, rfl, hc9, hC9⟩ := Kd.S_reads hS; have HS := Aside0.mk (Kd.S_lower hS (below_size (by repeat (first | (with_reducible first | exact HB.out | apply below_alloc | apply pw_below_drewN | apply below_drew1) | exact HB.out)))); have n1_ := Aside0.mk (Kd.R_below (by (with_reducible repeat (first | apply Kd.R_alloc | apply Kd.R_drewN | apply Kd.R_drew)); exact HO.out) hb); have n0_ := Aside0.mk (below_step (by repeat (first | (with_reducible first | exact HB.out | apply below_alloc | apply pw_below_drewN | apply below_drew1) | exact HB.out)) hb); clear HB HO; have HB := n0_; have HO := n1_; clear n0_ n1_ hS hb hc9 hC9)))
 go_loopg [24, 6, 7] k (fun gk v24 v6 v7 w' => ∃ (i least : Int) (out : List S23) (A6 : Option Addr) (c6 : Nat), v24 = .int .i64 i ∧ v6 = .slice A6 out.length c6 ∧ v7 = .int .i64 least ∧ Aside0 (0 ≤ i ∧ i ≤ rows.length) ∧ Aside0 (smF rows gk i out least = some o) ∧ Aside0 (Kd.R k23 23 w' w.heap.size (fun _ => True) (.slice A6 out.length c6) out) ∧ Aside0 (Kd.S (Kd.slice 23 k23) 28 w' w.heap.size (fun _ => True) (.slice A9 rows.length c9) rows) ∧ Aside0 (Below w.heap.size w w'))
 case atStart => exact ⟨0, 0, [], A8, c8, rfl, rfl, rfl, ⟨by omega⟩, HF, HO, HS, HB⟩
 case round =>
  clear HO HS HB HF
  obtain ⟨i, least, out, A6, c6, rfl, rfl, rfl, HI, HA0, HO, HS, HB⟩ := hrel
  cases gk with
  | zero => exact absurd HA0.out (by simp [smF])
  | succ k1 =>
   have H := HA0.out
   clear HA0
   simp only [smF] at H
   by_cases c3 : i < (rows.length : Int)
   ·
    rw [if_pos c3] at H
    have c3b : decide (i < (rows.length : Int)) = true := decide_eq_true c3
    have p0 : 0 ≤ i := HI.out.1
    by_cases c4 : 0 < (rd_L2 rows i).length
    ·
     rw [if_pos c4] at H
     have HL := Aside0.mk c3
     obtain ⟨ad, A1, c1, rfl, e1, hcell, hR⟩ := S_elem_row HS.out i p0 c3
     have HR := Aside0.mk hR
     obtain ⟨ad2, e2, hx0, hx1⟩ := at_T23 (Kd.R_reads' hR).2.2 0 (Int.le_refl 0) (by omega)
     subst e2
     obtain ⟨g2, rfl⟩ := Kd.R_head hR
     have y0 : wr.cell? ⟨g2, 0, none⟩ = some (.int .i64 (rd_T23 (rd_L2 rows i) 0).f0) := by
      rw [← hx0, add_plain]
      rfl
     have y1 : wr.cell? ⟨g2, 1, none⟩ = some (.int .i64 (rd_T23 (rd_L2 rows i) 0).f1) := by
      rw [← hx1, add_plain]
      rfl
     clear hx0 hx1
     have c4i : (0 : Int) < ((rd_L2 rows i).length : Int) := by omega
     clear hR e1
     replace p0 := eq_true p0
     replace c3 := eq_true c3
     replace c4i := eq_true c4i
     by_cases z : least = 0
     ·
      rw [if_pos (Or.inl z)] at H
      have H' := Aside0.mk H
      have zb : (least == 0) = true := beq_iff_eq.2 z
      clear H z
      go_wp2
      refine wp_region_quiet_lit (by kernel_rfl) (by kernel_rfl) ?_
      repeat (go_big_quiet_step (fail))
      refine wpQuiet_nil ?_
      intro _ hw'
      obtain ⟨nq, rfl⟩ := hw'
      go_wp2
      go_roundg k1
      case measure => omega
      case rel => exact ⟨i + 1, _, _, _, _, by rw [IntWalk.wrap64_in (i + 1) ⟨by have := HI.out; omega, by have := HI.out; have := HRL.out; omega⟩], rfl, rfl, ⟨by have := HI.out; have := HL.out; omega⟩, H', ⟨(by (with_reducible repeat (first | apply Kd.R_alloc | apply Kd.R_drewN | apply Kd.R_drew)); exact HR.out)⟩, ⟨(by (with_reducible repeat (first | apply Kd.S_alloc | apply Kd.S_drewN | apply Kd.S_drew)); exact HS.out)⟩, ⟨(by repeat (first | (with_reducible first | exact HB.out | apply below_alloc | apply pw_below_drewN | apply below_drew1) | exact HB.out))⟩⟩
     ·
      by_cases y : smN (rd_L2 rows i) < least
      ·
       rw [if_pos (Or.inr y)] at H
       have H' := Aside0.mk H
       have zb : (least == 0) = false := beq_eq_false_iff_ne.2 z
       have yb : decide (wrap64 ((rd_T23 (rd_L2 rows i) 0).f0 + (rd_T23 (rd_L2 rows i) 0).f1) < least) = true := decide_eq_true y
       clear H z y
       go_wp2
       refine wp_region_quiet_lit (by kernel_rfl) (by kernel_rfl) ?_
       repeat (go_big_quiet_step (fail))
       refine wpQuiet_nil ?_
       intro _ hw'
       obtain ⟨nq, rfl⟩ := hw'
       go_wp2
       go_roundg k1
       case measure => omega
       case rel => exact ⟨i + 1, _, _, _, _, by rw [IntWalk.wrap64_in (i + 1) ⟨by have := HI.out; omega, by have := HI.out; have := HRL.out; omega⟩], rfl, rfl, ⟨by have := HI.out; have := HL.out; omega⟩, H', ⟨(by (with_reducible repeat (first | apply Kd.R_alloc | apply Kd.R_drewN | apply Kd.R_drew)); exact HR.out)⟩, ⟨(by (with_reducible repeat (first | apply Kd.S_alloc | apply Kd.S_drewN | apply Kd.S_drew)); exact HS.out)⟩, ⟨(by repeat (first | (with_reducible first | exact HB.out | apply below_alloc | apply pw_below_drewN | apply below_drew1) | exact HB.out))⟩⟩
      ·
       rw [if_neg (fun q => q.elim z y)] at H
       have H' := Aside0.mk H
       have zb : (least == 0) = false := beq_eq_false_iff_ne.2 z
       have yb : decide (wrap64 ((rd_T23 (rd_L2 rows i) 0).f0 + (rd_T23 (rd_L2 rows i) 0).f1) < least) = false := decide_eq_false y
       clear H z y
       go_wp2
       refine wp_region_quiet_lit (by kernel_rfl) (by kernel_rfl) ?_
       repeat (go_big_quiet_step (fail))
       refine wpQuiet_nil ?_
       intro _ hw'
       obtain ⟨nq, rfl⟩ := hw'
       go_wp2
       go_roundg k1
       case measure => omega
       case rel => exact ⟨i + 1, _, _, _, _, by rw [IntWalk.wrap64_in (i + 1) ⟨by have := HI.out; omega, by have := HI.out; have := HRL.out; omega⟩], rfl, rfl, ⟨by have := HI.out; have := HL.out; omega⟩, H', ⟨(by (with_reducible repeat (first | apply Kd.R_alloc | apply Kd.R_drewN | apply Kd.R_drew)); exact HO.out)⟩, ⟨(by (with_reducible repeat (first | apply Kd.S_alloc | apply Kd.S_drewN | apply Kd.S_drew)); exact HS.out)⟩, ⟨(by repeat (first | (with_reducible first | exact HB.out | apply below_alloc | apply pw_below_drewN | apply below_drew1) | exact HB.out))⟩⟩
    ·
     rw [if_neg c4] at H
     cases H
   ·
    rw [if_neg c3] at H
    have c3b : decide (i < (rows.length : Int)) = false := decide_eq_false c3
    clear c3
    obtain rfl := Option.some.inj H
    clear H
    by_cases z : least = 0
    ·
     have zb : (least == 0) = true := beq_iff_eq.2 z
     obtain ⟨rfl, rfl⟩ := HZ0.out z
     clear z HZ0 HZ1
     go_wp2
     go_ret2
     exact ⟨_, rfl, Kd.R_nil _ _ _ _ _, (by repeat (first | (with_reducible first | exact HB.out | apply below_alloc | apply pw_below_drewN | apply below_drew1) | exact HB.out))⟩
    ·
     have zb : (least == 0) = false := beq_eq_false_iff_ne.2 z
     obtain ⟨rfl, rfl⟩ := HZ1.out z
     clear z HZ0 HZ1
     go_wp2
     all_goals (try go_region)
     all_goals (try go_wp2)
     all_goals go_ret2
     all_goals exact ⟨.slice A6 _ c6, rfl, (by (with_reducible repeat (first | apply Kd.R_alloc | apply Kd.R_drewN | apply Kd.R_drew)); exact HO.out), (by repeat (first | (with_reducible first | exact HB.out | apply below_alloc | apply pw_below_drewN | apply below_drew1) | exact HB.out))⟩

set_option maxHeartbeats 8000000 in
set_option maxRecDepth 100000 in
theorem spec_FirstMotionWork.no (a0 a1 : Int) (t u : Bool) (w : World) (ht : spec_diHours.f a0 = some t) (hu : spec_geWheel.f a1 = some u) (hz : ¬ (t = true ∧ u = true)) :
  Calls Try.prog 12 #[.int .i64 a0, .int .i64 a1] w fun e w' => ∃ v0_ : Value, e = .returned (.tuple #[v0_, .bool false]) ∧ Kd.R k23 23 w' w.heap.size (fun _ => True) v0_ [] ∧ Below w.heap.size w w' := by
 have HB := Aside0.mk (Below.refl w.heap.size w)
 have HT := Aside0.mk ht
 have HU := Aside0.mk hu
 cases t with
 | false =>
  clear ht hu hz
  go_enter Try.func12, Try.ntmps12
  go_wp2_with (first | (go_at_call 41; (with_reducible refine (spec_diHours.calls a0 _ _ HT.out).mono ?_); rintro e w' ⟨rfl, ⟨nd, rfl⟩⟩) | (go_at_call 42; (with_reducible refine (spec_geWheel.calls a1 _ _ HU.out).mono ?_); rintro e w' ⟨rfl, ⟨nd, rfl⟩⟩))
  go_ret2
  exact ⟨_, rfl, Kd.R_nil _ _ _ _ _, (by repeat (first | (with_reducible first | exact HB.out | apply below_alloc | apply pw_below_drewN | apply below_drew1) | exact HB.out))⟩
 | true =>
  cases u with
  | false =>
   clear ht hu hz
   go_enter Try.func12, Try.ntmps12
   go_wp2_with (first | (go_at_call 41; (with_reducible refine (spec_diHours.calls a0 _ _ HT.out).mono ?_); rintro e w' ⟨rfl, ⟨nd, rfl⟩⟩) | (go_at_call 42; (with_reducible refine (spec_geWheel.calls a1 _ _ HU.out).mono ?_); rintro e w' ⟨rfl, ⟨nd, rfl⟩⟩))
   go_ret2
   exact ⟨_, rfl, Kd.R_nil _ _ _ _ _, (by repeat (first | (with_reducible first | exact HB.out | apply below_alloc | apply pw_below_drewN | apply below_drew1) | exact HB.out))⟩
  | true => exact absurd ⟨rfl, rfl⟩ hz

theorem spec_FirstMotionWork.calls (k : Nat) (a0 : Int) (a1 : Int) (r1 : List (S23)) (r2 : Bool) (w : World) (h : spec_FirstMotionWork.f k a0 a1 = some (r1, r2)) :
  Calls Try.prog 12 #[.int .i64 a0, .int .i64 a1] w fun e w' => ∃ v0_ : Value, e = .returned (.tuple #[v0_, .bool r2]) ∧ Kd.R k23 23 w' w.heap.size (fun _ => True) v0_ r1 ∧ Below w.heap.size w w' := by
 unfold spec_FirstMotionWork.f at h
 obtain ⟨t, ht, h⟩ := Option.bind_eq_some_iff.mp h
 obtain ⟨u, hu, h⟩ := Option.bind_eq_some_iff.mp h
 by_cases z : t = true ∧ u = true
 ·
  rw [if_pos z] at h
  obtain ⟨rows, hw, h3⟩ := Option.bind_eq_some_iff.mp h
  obtain ⟨o, ho, h4⟩ := Option.bind_eq_some_iff.mp h3
  obtain ⟨rfl, rfl⟩ := z
  split at ho
  ·
   rename_i hl
   refine spec_FirstMotionWork.yes k a0 a1 rows o w ht hu hw hl ho r1 r2 (fun q => ?_) (fun q => ?_)
   ·
    rw [if_pos q] at h4
    simp only [Option.some.injEq, Prod.mk.injEq] at h4
    exact ⟨h4.1.symm, h4.2.symm⟩
   ·
    rw [if_neg q] at h4
    simp only [Option.some.injEq, Prod.mk.injEq] at h4
    exact ⟨h4.1.symm, h4.2.symm⟩
  ·
   cases ho
 ·
  rw [if_neg z] at h
  simp only [Option.some.injEq, Prod.mk.injEq] at h
  obtain ⟨rfl, rfl⟩ := h
  exact spec_FirstMotionWork.no a0 a1 t u w ht hu z

/-! ### spec_MotionWorks: function 17 -/
def spec_MotionWorks.j0 : Nat → Int → Int → Bool → Option ((List (List (S23))) × Bool)
 | 0, _, _, _ => none
 | k + 1, x0, x1, x14 => if x14 = true then (some (([] : List (List (S23))), false)) else ((spec_geWorks.f k x0 x1).bind fun t163 => (if (t163.length : Int) > 200 then (some (([] : List (List (S23))), false)) else (some (t163, true))))
def spec_MotionWorks.f (k : Nat) (a0 : Int) (a1 : Int) : Option ((List (List (S23))) × Bool) := (spec_diHours.f a0).bind fun t161 => (if t161 = true then ((spec_geWheel.f a1).bind fun t162 => (spec_MotionWorks.j0 k a0 a1 (!t162))) else (spec_MotionWorks.j0 k a0 a1 true))
set_option maxHeartbeats 8000000 in
set_option maxRecDepth 100000 in
theorem spec_MotionWorks.calls (k : Nat) (a0 : Int) (a1 : Int) (r1 : List (List (S23))) (r2 : Bool) (w : World) (h : spec_MotionWorks.f k a0 a1 = some (r1, r2)) :
  Calls Try.prog 17 #[.int .i64 a0, .int .i64 a1] w fun e w' => ∃ v0_ : Value, e = .returned (.tuple #[v0_, .bool r2]) ∧ Kd.S (Kd.slice 23 k23) 28 w' w.heap.size (fun _ => True) v0_ r1 ∧ Below w.heap.size w w' := by
 have HB := Aside0.mk (Below.refl w.heap.size w)
 have H : ((spec_diHours.f a0).bind fun t161 => (if t161 = true then ((spec_geWheel.f a1).bind fun t162 => (spec_MotionWorks.j0 k a0 a1 (!t162))) else (spec_MotionWorks.j0 k a0 a1 true))) = some (r1, r2) := h
 clear h
 have HC3 := Aside0.mk H
 clear H
 go_enter Try.func17, Try.ntmps17
 go_upto_region 1 with (fail)
 go_cut [14] (fun v14 wc => ∃ (kq : Nat) (x14_2 : Bool), v14 = .bool x14_2 ∧ Aside0 (spec_MotionWorks.j0 kq a0 a1 x14_2 = some (r1, r2)) ∧ Aside0 (kq ≤ k) ∧ Aside0 (Below w.heap.size w wc))
 case first =>
  have H := HC3.out
  clear HC3
  replace H := Option.bind_eq_some_iff.mp H
  obtain ⟨t161, A40, H⟩ := H
  replace H : (if t161 = true then ((spec_geWheel.f a1).bind fun t162 => (spec_MotionWorks.j0 k a0 a1 (!t162))) else (spec_MotionWorks.j0 k a0 a1 true)) = some (r1, r2) := H
  have A4 := Aside0.mk A40
  clear A40
  by_cases c5 : t161 = true
  ·
   subst c5
   have H1 : ((spec_geWheel.f a1).bind fun t162 => (spec_MotionWorks.j0 k a0 a1 (!t162))) = some (r1, r2) := by rw [if_pos rfl] at H; exact H
   clear H
   have H := H1
   clear H1
   replace H := Option.bind_eq_some_iff.mp H
   obtain ⟨t162, A60, H⟩ := H
   replace H : (spec_MotionWorks.j0 k a0 a1 (!t162)) = some (r1, r2) := H
   have A6 := Aside0.mk A60
   clear A60
   as_aux_lemma =>
    have H' := Aside0.mk H
    clear H
    go_wp2_with (first | ((with_reducible refine gate_callee (f := 41) rfl ?_); refine goesL_ (some 8) rfl rfl Try.func41 (by kernel_rfl) rfl #[.int .i64 a0] rfl (by (try simp only [List.map_toArray, List.map_cons, List.map_nil]); first | done | rfl | (simp only [List.length_drop, List.length_take]; rfl)) ?_; (with_reducible refine (spec_diHours.calls a0 true _ A4.out).mono ?_); rintro e w' ⟨rfl, ⟨nd, rfl⟩⟩; refine ⟨_, rfl, ?_⟩) | (go_at_call 42; refine calls_of_args (args' := #[.int .i64 a1]) (by first | rfl) ?_; (with_reducible refine (spec_geWheel.calls a1 t162 _ A6.out).mono ?_); rintro e w' ⟨rfl, ⟨nd, rfl⟩⟩))
    go_meet
    case rel => exact ⟨_, (!t162), (by first | rfl | (simp; done) | (simp [*]; done)), H', ⟨by first | omega | exact Nat.le_refl _⟩, ⟨by repeat (first | (with_reducible first | exact HB.out | apply below_alloc | apply pw_below_drewN | apply below_drew1) | exact HB.out)⟩⟩
  ·
   replace c5 := Bool.eq_false_iff.mpr c5
   subst c5
   have H1 : (spec_MotionWorks.j0 k a0 a1 true) = some (r1, r2) := by rw [if_neg (show ¬ (false = true) by decide)] at H; exact H
   clear H
   have H := H1
   clear H1
   as_aux_lemma =>
    have H' := Aside0.mk H
    clear H
    go_wp2_with (first | ((with_reducible refine gate_callee (f := 41) rfl ?_); refine goesL_ (some 8) rfl rfl Try.func41 (by kernel_rfl) rfl #[.int .i64 a0] rfl (by (try simp only [List.map_toArray, List.map_cons, List.map_nil]); first | done | rfl | (simp only [List.length_drop, List.length_take]; rfl)) ?_; (with_reducible refine (spec_diHours.calls a0 false _ A4.out).mono ?_); rintro e w' ⟨rfl, ⟨nd, rfl⟩⟩; refine ⟨_, rfl, ?_⟩))
    go_meet
    case rel => exact ⟨_, (true), (by first | rfl | (simp; done) | (simp [*]; done)), H', ⟨by first | omega | exact Nat.le_refl _⟩, ⟨by repeat (first | (with_reducible first | exact HB.out | apply below_alloc | apply pw_below_drewN | apply below_drew1) | exact HB.out)⟩⟩
 case rest =>
  clear HC3
  obtain ⟨kq, x14_2, rfl, HA, HJ2, HB⟩ := hcut
  cases kq with
  | zero => exact absurd HA.out (by simp [spec_MotionWorks.j0])
  | succ kj2 =>
   have H := HA.out
   clear HA
   simp only [spec_MotionWorks.j0] at H
   by_cases c7 : x14_2 = true
   ·
    subst c7
    have H1 : (some (([] : List (List (S23))), false)) = some (r1, r2) := by rw [if_pos rfl] at H; exact H
    clear H
    have H := H1
    clear H1
    as_aux_lemma =>
     simp only [Option.some.injEq, Prod.mk.injEq] at H
     obtain ⟨rfl, rfl⟩ := H
     go_wp2
     go_ret2
     exact ⟨_, by first | rfl | (simp [errW_none, errW_some] <;> rfl) | (simp [*, errW_none, errW_some] <;> rfl), by first | exact Kd.S_nil _ _ _ _ _ | exact Kd.N_nil _ _ _ _ _ | exact Kd.V_nil _ _ _ _ _ | exact Kd.Q_nil _ _ _ _ _ | exact Kd.R_nil _ _ _ _ _, by repeat (first | (with_reducible first | exact HB.out | apply below_alloc | apply pw_below_drewN | apply below_drew1) | exact HB.out)⟩
   ·
    replace c7 := Bool.eq_false_iff.mpr c7
    subst c7
    have H1 : ((spec_geWorks.f kj2 a0 a1).bind fun t163 => (if (t163.length : Int) > 200 then (some (([] : List (List (S23))), false)) else (some (t163, true)))) = some (r1, r2) := by rw [if_neg (show ¬ (false = true) by decide)] at H; exact H
    clear H
    have H := H1
    clear H1
    replace H := Option.bind_eq_some_iff.mp H
    obtain ⟨t163, A80, H⟩ := H
    replace H : (if (t163.length : Int) > 200 then (some (([] : List (List (S23))), false)) else (some (t163, true))) = some (r1, r2) := H
    have A8 := Aside0.mk A80
    clear A80
    by_cases c9 : (t163.length : Int) > 200
    ·
     rw [if_pos c9] at H
     have c9b0 : decide (200 < (t163.length : Int)) = true := decide_eq_true c9
     have c9b1 : decide (200 < t163.length) = true := decide_eq_true (by omega)
     clear c9
     as_aux_lemma =>
      simp only [Option.some.injEq, Prod.mk.injEq] at H
      obtain ⟨rfl, rfl⟩ := H
      go_wp2_with (first | ((with_reducible refine gate_callee (f := 43) rfl ?_); refine goesL_ (some 17) rfl rfl Try.func43 (by kernel_rfl) rfl #[.int .i64 a0, .int .i64 a1] rfl (by (try simp only [List.map_toArray, List.map_cons, List.map_nil]); first | done | rfl | (simp only [List.length_drop, List.length_take]; rfl)) ?_; (with_reducible refine (spec_geWorks.calls kj2 a0 a1 t163 _ A8.out).mono ?_); rintro e w10 ⟨v164, rfl, ho0, hb⟩; refine ⟨_, rfl, ?_⟩; have n0_ := Aside0.mk (Kd.S_lower ho0 (below_size (by repeat (first | (with_reducible first | exact HB.out | apply below_alloc | apply pw_below_drewN | apply below_drew1) | exact HB.out)))); have n1_ := Aside0.mk (below_step (by repeat (first | (with_reducible first | exact HB.out | apply below_alloc | apply pw_below_drewN | apply below_drew1) | exact HB.out)) hb); clear HB; have HO165 := n0_; have HB := n1_; clear n0_ n1_; (try clear hb); (try clear hb2); (try clear hk); (try clear hi); (try clear ho0); obtain ⟨Ao11, co11, eo11⟩ := Kd.S_slice HO165.out; subst eo11))
      go_ret2
      exact ⟨_, by first | rfl | (simp [errW_none, errW_some] <;> rfl) | (simp [*, errW_none, errW_some] <;> rfl), by first | exact Kd.S_nil _ _ _ _ _ | exact Kd.N_nil _ _ _ _ _ | exact Kd.V_nil _ _ _ _ _ | exact Kd.Q_nil _ _ _ _ _ | exact Kd.R_nil _ _ _ _ _, by repeat (first | (with_reducible first | exact HB.out | apply below_alloc | apply pw_below_drewN | apply below_drew1) | exact HB.out)⟩
    ·
     rw [if_neg c9] at H
     have c9b0 : decide (200 < (t163.length : Int)) = false := decide_eq_false c9
     have c9b1 : decide (200 < t163.length) = false := decide_eq_false (by omega)
     clear c9
     as_aux_lemma =>
      simp only [Option.some.injEq, Prod.mk.injEq] at H
      obtain ⟨rfl, rfl⟩ := H
      go_wp2_with (first | ((with_reducible refine gate_callee (f := 43) rfl ?_); refine goesL_ (some 17) rfl rfl Try.func43 (by kernel_rfl) rfl #[.int .i64 a0, .int .i64 a1] rfl (by (try simp only [List.map_toArray, List.map_cons, List.map_nil]); first | done | rfl | (simp only [List.length_drop, List.length_take]; rfl)) ?_; (with_reducible refine (spec_geWorks.calls kj2 a0 a1 t163 _ A8.out).mono ?_); rintro e w12 ⟨v164, rfl, ho0, hb⟩; refine ⟨_, rfl, ?_⟩; have n0_ := Aside0.mk (Kd.S_lower ho0 (below_size (by repeat (first | (with_reducible first | exact HB.out | apply below_alloc | apply pw_below_drewN | apply below_drew1) | exact HB.out)))); have n1_ := Aside0.mk (below_step (by repeat (first | (with_reducible first | exact HB.out | apply below_alloc | apply pw_below_drewN | apply below_drew1) | exact HB.out)) hb); clear HB; have HO165 := n0_; have HB := n1_; clear n0_ n1_; (try clear hb); (try clear hb2); (try clear hk); (try clear hi); (try clear ho0); obtain ⟨Ao13, co13, eo13⟩ := Kd.S_slice HO165.out; subst eo13))
      go_ret2
      exact ⟨_, by first | rfl | (simp [errW_none, errW_some] <;> rfl) | (simp [*, errW_none, errW_some] <;> rfl), by (with_reducible repeat (first | apply Kd.S_alloc | apply Kd.S_drewN | apply Kd.S_drew)); exact HO165.out, by repeat (first | (with_reducible first | exact HB.out | apply below_alloc | apply pw_below_drewN | apply below_drew1) | exact HB.out)⟩

/-! ### impl_MotionWorks: function 18 -/
def impl_MotionWorks.j0 : Nat → Int → Int → Bool → Option ((List (List (S23))) × Bool)
 | 0, _, _, _ => none
 | k + 1, x0, x1, x14 => if x14 = true then (some (([] : List (List (S23))), false)) else ((impl_works.f k x0 x1).bind fun t168 => (if (t168.length : Int) > 200 then (some (([] : List (List (S23))), false)) else (some (t168, true))))
def impl_MotionWorks.f (k : Nat) (a0 : Int) (a1 : Int) : Option ((List (List (S23))) × Bool) := (impl_isDial.f a0).bind fun t166 => (if t166 = true then ((impl_areTeeth.f a1).bind fun t167 => (impl_MotionWorks.j0 k a0 a1 (!t167))) else (impl_MotionWorks.j0 k a0 a1 true))
set_option maxHeartbeats 8000000 in
set_option maxRecDepth 100000 in
theorem impl_MotionWorks.calls (k : Nat) (a0 : Int) (a1 : Int) (r1 : List (List (S23))) (r2 : Bool) (w : World) (h : impl_MotionWorks.f k a0 a1 = some (r1, r2)) :
  Calls Try.prog 18 #[.int .i64 a0, .int .i64 a1] w fun e w' => ∃ v0_ : Value, e = .returned (.tuple #[v0_, .bool r2]) ∧ Kd.S (Kd.slice 23 k23) 28 w' w.heap.size (fun _ => True) v0_ r1 ∧ Below w.heap.size w w' := by
 have HB := Aside0.mk (Below.refl w.heap.size w)
 have H : ((impl_isDial.f a0).bind fun t166 => (if t166 = true then ((impl_areTeeth.f a1).bind fun t167 => (impl_MotionWorks.j0 k a0 a1 (!t167))) else (impl_MotionWorks.j0 k a0 a1 true))) = some (r1, r2) := h
 clear h
 have HC3 := Aside0.mk H
 clear H
 go_enter Try.func18, Try.ntmps18
 go_upto_region 1 with (fail)
 go_cut [14] (fun v14 wc => ∃ (kq : Nat) (x14_2 : Bool), v14 = .bool x14_2 ∧ Aside0 (impl_MotionWorks.j0 kq a0 a1 x14_2 = some (r1, r2)) ∧ Aside0 (kq ≤ k) ∧ Aside0 (Below w.heap.size w wc))
 case first =>
  have H := HC3.out
  clear HC3
  replace H := Option.bind_eq_some_iff.mp H
  obtain ⟨t166, A40, H⟩ := H
  replace H : (if t166 = true then ((impl_areTeeth.f a1).bind fun t167 => (impl_MotionWorks.j0 k a0 a1 (!t167))) else (impl_MotionWorks.j0 k a0 a1 true)) = some (r1, r2) := H
  have A4 := Aside0.mk A40
  clear A40
  by_cases c5 : t166 = true
  ·
   subst c5
   have H1 : ((impl_areTeeth.f a1).bind fun t167 => (impl_MotionWorks.j0 k a0 a1 (!t167))) = some (r1, r2) := by rw [if_pos rfl] at H; exact H
   clear H
   have H := H1
   clear H1
   replace H := Option.bind_eq_some_iff.mp H
   obtain ⟨t167, A60, H⟩ := H
   replace H : (impl_MotionWorks.j0 k a0 a1 (!t167)) = some (r1, r2) := H
   have A6 := Aside0.mk A60
   clear A60
   as_aux_lemma =>
    have H' := Aside0.mk H
    clear H
    go_wp2_with (first | ((with_reducible refine gate_callee (f := 44) rfl ?_); refine goesL_ (some 8) rfl rfl Try.func44 (by kernel_rfl) rfl #[.int .i64 a0] rfl (by (try simp only [List.map_toArray, List.map_cons, List.map_nil]); first | done | rfl | (simp only [List.length_drop, List.length_take]; rfl)) ?_; (with_reducible refine (impl_isDial.calls a0 true _ A4.out).mono ?_); rintro e w' ⟨rfl, ⟨nd, rfl⟩⟩; refine ⟨_, rfl, ?_⟩) | (go_at_call 45; refine calls_of_args (args' := #[.int .i64 a1]) (by first | rfl) ?_; (with_reducible refine (impl_areTeeth.calls a1 t167 _ A6.out).mono ?_); rintro e w' ⟨rfl, ⟨nd, rfl⟩⟩))
    go_meet
    case rel => exact ⟨_, (!t167), (by first | rfl | (simp; done) | (simp [*]; done)), H', ⟨by first | omega | exact Nat.le_refl _⟩, ⟨by repeat (first | (with_reducible first | exact HB.out | apply below_alloc | apply pw_below_drewN | apply below_drew1) | exact HB.out)⟩⟩
  ·
   replace c5 := Bool.eq_false_iff.mpr c5
   subst c5
   have H1 : (impl_MotionWorks.j0 k a0 a1 true) = some (r1, r2) := by rw [if_neg (show ¬ (false = true) by decide)] at H; exact H
   clear H
   have H := H1
   clear H1
   as_aux_lemma =>
    have H' := Aside0.mk H
    clear H
    go_wp2_with (first | ((with_reducible refine gate_callee (f := 44) rfl ?_); refine goesL_ (some 8) rfl rfl Try.func44 (by kernel_rfl) rfl #[.int .i64 a0] rfl (by (try simp only [List.map_toArray, List.map_cons, List.map_nil]); first | done | rfl | (simp only [List.length_drop, List.length_take]; rfl)) ?_; (with_reducible refine (impl_isDial.calls a0 false _ A4.out).mono ?_); rintro e w' ⟨rfl, ⟨nd, rfl⟩⟩; refine ⟨_, rfl, ?_⟩))
    go_meet
    case rel => exact ⟨_, (true), (by first | rfl | (simp; done) | (simp [*]; done)), H', ⟨by first | omega | exact Nat.le_refl _⟩, ⟨by repeat (first | (with_reducible first | exact HB.out | apply below_alloc | apply pw_below_drewN | apply below_drew1) | exact HB.out)⟩⟩
 case rest =>
  clear HC3
  obtain ⟨kq, x14_2, rfl, HA, HJ2, HB⟩ := hcut
  cases kq with
  | zero => exact absurd HA.out (by simp [impl_MotionWorks.j0])
  | succ kj2 =>
   have H := HA.out
   clear HA
   simp only [impl_MotionWorks.j0] at H
   by_cases c7 : x14_2 = true
   ·
    subst c7
    have H1 : (some (([] : List (List (S23))), false)) = some (r1, r2) := by rw [if_pos rfl] at H; exact H
    clear H
    have H := H1
    clear H1
    as_aux_lemma =>
     simp only [Option.some.injEq, Prod.mk.injEq] at H
     obtain ⟨rfl, rfl⟩ := H
     go_wp2
     go_ret2
     exact ⟨_, by first | rfl | (simp [errW_none, errW_some] <;> rfl) | (simp [*, errW_none, errW_some] <;> rfl), by first | exact Kd.S_nil _ _ _ _ _ | exact Kd.N_nil _ _ _ _ _ | exact Kd.V_nil _ _ _ _ _ | exact Kd.Q_nil _ _ _ _ _ | exact Kd.R_nil _ _ _ _ _, by repeat (first | (with_reducible first | exact HB.out | apply below_alloc | apply pw_below_drewN | apply below_drew1) | exact HB.out)⟩
   ·
    replace c7 := Bool.eq_false_iff.mpr c7
    subst c7
    have H1 : ((impl_works.f kj2 a0 a1).bind fun t168 => (if (t168.length : Int) > 200 then (some (([] : List (List (S23))), false)) else (some (t168, true)))) = some (r1, r2) := by rw [if_neg (show ¬ (false = true) by decide)] at H; exact H
    clear H
    have H := H1
    clear H1
    replace H := Option.bind_eq_some_iff.mp H
    obtain ⟨t168, A80, H⟩ := H
    replace H : (if (t168.length : Int) > 200 then (some (([] : List (List (S23))), false)) else (some (t168, true))) = some (r1, r2) := H
    have A8 := Aside0.mk A80
    clear A80
    by_cases c9 : (t168.length : Int) > 200
    ·
     rw [if_pos c9] at H
     have c9b0 : decide (200 < (t168.length : Int)) = true := decide_eq_true c9
     have c9b1 : decide (200 < t168.length) = true := decide_eq_true (by omega)
     clear c9
     as_aux_lemma =>
      simp only [Option.some.injEq, Prod.mk.injEq] at H
      obtain ⟨rfl, rfl⟩ := H
      go_wp2_with (first | ((with_reducible refine gate_callee (f := 46) rfl ?_); refine goesL_ (some 17) rfl rfl Try.func46 (by kernel_rfl) rfl #[.int .i64 a0, .int .i64 a1] rfl (by (try simp only [List.map_toArray, List.map_cons, List.map_nil]); first | done | rfl | (simp only [List.length_drop, List.length_take]; rfl)) ?_; (with_reducible refine (impl_works.calls kj2 a0 a1 t168 _ A8.out).mono ?_); rintro e w10 ⟨v169, rfl, ho0, hb⟩; refine ⟨_, rfl, ?_⟩; have n0_ := Aside0.mk (Kd.S_lower ho0 (below_size (by repeat (first | (with_reducible first | exact HB.out | apply below_alloc | apply pw_below_drewN | apply below_drew1) | exact HB.out)))); have n1_ := Aside0.mk (below_step (by repeat (first | (with_reducible first | exact HB.out | apply below_alloc | apply pw_below_drewN | apply below_drew1) | exact HB.out)) hb); clear HB; have HO170 := n0_; have HB := n1_; clear n0_ n1_; (try clear hb); (try clear hb2); (try clear hk); (try clear hi); (try clear ho0); obtain ⟨Ao11, co11, eo11⟩ := Kd.S_slice HO170.out; subst eo11))
      go_ret2
      exact ⟨_, by first | rfl | (simp [errW_none, errW_some] <;> rfl) | (simp [*, errW_none, errW_some] <;> rfl), by first | exact Kd.S_nil _ _ _ _ _ | exact Kd.N_nil _ _ _ _ _ | exact Kd.V_nil _ _ _ _ _ | exact Kd.Q_nil _ _ _ _ _ | exact Kd.R_nil _ _ _ _ _, by repeat (first | (with_reducible first | exact HB.out | apply below_alloc | apply pw_below_drewN | apply below_drew1) | exact HB.out)⟩
    ·
     rw [if_neg c9] at H
     have c9b0 : decide (200 < (t168.length : Int)) = false := decide_eq_false c9
     have c9b1 : decide (200 < t168.length) = false := decide_eq_false (by omega)
     clear c9
     as_aux_lemma =>
      simp only [Option.some.injEq, Prod.mk.injEq] at H
      obtain ⟨rfl, rfl⟩ := H
      go_wp2_with (first | ((with_reducible refine gate_callee (f := 46) rfl ?_); refine goesL_ (some 17) rfl rfl Try.func46 (by kernel_rfl) rfl #[.int .i64 a0, .int .i64 a1] rfl (by (try simp only [List.map_toArray, List.map_cons, List.map_nil]); first | done | rfl | (simp only [List.length_drop, List.length_take]; rfl)) ?_; (with_reducible refine (impl_works.calls kj2 a0 a1 t168 _ A8.out).mono ?_); rintro e w12 ⟨v169, rfl, ho0, hb⟩; refine ⟨_, rfl, ?_⟩; have n0_ := Aside0.mk (Kd.S_lower ho0 (below_size (by repeat (first | (with_reducible first | exact HB.out | apply below_alloc | apply pw_below_drewN | apply below_drew1) | exact HB.out)))); have n1_ := Aside0.mk (below_step (by repeat (first | (with_reducible first | exact HB.out | apply below_alloc | apply pw_below_drewN | apply below_drew1) | exact HB.out)) hb); clear HB; have HO170 := n0_; have HB := n1_; clear n0_ n1_; (try clear hb); (try clear hb2); (try clear hk); (try clear hi); (try clear ho0); obtain ⟨Ao13, co13, eo13⟩ := Kd.S_slice HO170.out; subst eo13))
      go_ret2
      exact ⟨_, by first | rfl | (simp [errW_none, errW_some] <;> rfl) | (simp [*, errW_none, errW_some] <;> rfl), by (with_reducible repeat (first | apply Kd.S_alloc | apply Kd.S_drewN | apply Kd.S_drew)); exact HO170.out, by repeat (first | (with_reducible first | exact HB.out | apply below_alloc | apply pw_below_drewN | apply below_drew1) | exact HB.out)⟩

end Go.Proofs.Ytofjjfaaadllmaa.GFnTrainsFoundOfAll
