-- Written by a program of this session (a copy of the kit's print program that takes contracts of one's own); Lean checks it.
import Derived.Test.YtkfcaldjepmffaaGFnDialsTurnedOfAllx0
import Derived.Test.YtkfcaldjepmffaaGFnDialsTurnedOfAllx5
namespace Go.Proofs.Ytkfcaldjepmffaa.GFnDialsTurnedOfAll
open Go.RowKit Go.Proofs.YtkfcaldjepmffaaW.PrintWords Go.Proofs.YtkfcaldjepmffaaW.PrintLast Go.Proofs.YtkfcaldjepmffaaW.PrintMore
attribute [local go_sem] max2_int min2_int max_two min_two max_three min_three max_four min_four   -- for this text's walks alone
set_option linter.unusedVariables false
set_option linter.unusedSimpArgs false

/-! ### spec_diGood: function 70 -/
def spec_diGood.f (k : Nat) (a0_0 : Int) (a0_1 : Int) : Option (Bool) := (spec_l1In.f a0_1 1 1000000).bind fun t194 => (if t194 = true then ((spec_l1In.f a0_0 0 (wrap64 (a0_1 - 1))).bind fun t195 => (if t195 = true then ((spec_diCommon.f k a0_0 a0_1).bind fun t196 => (some (t196 == 1))) else (some false))) else (some false))
theorem spec_diGood.mono : ∀ a0 a1 k, LeO (spec_diGood.f k a0 a1) (spec_diGood.f (k + 1) a0 a1) := by
 intro a0 a1 k
 unfold spec_diGood.f
 repeat' first
   | (with_reducible exact spec_diCommon.mono _ _ _)
   | (with_reducible exact LeO.refl _)
   | (with_reducible exact LeO.none _)
   | (with_reducible refine LeO.ite ?_ ?_)
   | (with_reducible refine LeO.bind ?_ (fun _ => ?_))
   | exact spec_diCommon.mono _ _ _
   | exact LeO.none _
   | refine LeO.ite ?_ ?_
   | refine LeO.bind ?_ (fun _ => ?_)
set_option maxHeartbeats 8000000 in
set_option maxRecDepth 100000 in
theorem spec_diGood.calls (k : Nat) (a0_0 : Int) (a0_1 : Int) (r : Bool) (w : World) (h : spec_diGood.f k a0_0 a0_1 = some r) :
  Calls Try.prog 70 #[.agg #[.int .i64 a0_0, .int .i64 a0_1]] w fun e w' => e = .returned (.bool r) ∧ Below w.heap.size w w' := by
 have hu23 := Try.underlying23
 have HB := Aside0.mk (Below.refl w.heap.size w)
 have H : ((spec_l1In.f a0_1 1 1000000).bind fun t194 => (if t194 = true then ((spec_l1In.f a0_0 0 (wrap64 (a0_1 - 1))).bind fun t195 => (if t195 = true then ((spec_diCommon.f k a0_0 a0_1).bind fun t196 => (some (t196 == 1))) else (some false))) else (some false))) = some r := h
 clear h
 replace H := Option.bind_eq_some_iff.mp H
 obtain ⟨t194, A20, H⟩ := H
 replace H : (if t194 = true then ((spec_l1In.f a0_0 0 (wrap64 (a0_1 - 1))).bind fun t195 => (if t195 = true then ((spec_diCommon.f k a0_0 a0_1).bind fun t196 => (some (t196 == 1))) else (some false))) else (some false)) = some r := H
 have A2 := Aside0.mk A20
 clear A20
 by_cases c3 : t194 = true
 ·
  subst c3
  have H1 : ((spec_l1In.f a0_0 0 (wrap64 (a0_1 - 1))).bind fun t195 => (if t195 = true then ((spec_diCommon.f k a0_0 a0_1).bind fun t196 => (some (t196 == 1))) else (some false))) = some r := by rw [if_pos rfl] at H; exact H
  clear H
  have H := H1
  clear H1
  replace H := Option.bind_eq_some_iff.mp H
  obtain ⟨t195, A40, H⟩ := H
  replace H : (if t195 = true then ((spec_diCommon.f k a0_0 a0_1).bind fun t196 => (some (t196 == 1))) else (some false)) = some r := H
  have A4 := Aside0.mk A40
  clear A40
  by_cases c5 : t195 = true
  ·
   subst c5
   have H1 : ((spec_diCommon.f k a0_0 a0_1).bind fun t196 => (some (t196 == 1))) = some r := by rw [if_pos rfl] at H; exact H
   clear H
   have H := H1
   clear H1
   replace H := Option.bind_eq_some_iff.mp H
   obtain ⟨t196, A60, H⟩ := H
   replace H : (some (t196 == 1)) = some r := H
   have A6 := Aside0.mk A60
   clear A60
   as_aux_lemma =>
    obtain rfl := Option.some.inj H
    go_enter Try.func70, Try.ntmps70
    go_wp2_with (first | ((with_reducible refine gate_dst (N := 1) rfl ?_); refine be_ (N := 1) (cs := #[.int .i64 a0_0, .int .i64 a0_1]) (t := 23) ?_; intro gb193 hg w7 hbox hb; have BK193 := Aside0.mk (hbox); have GW193 := ge_ HB hg; have GE193 := ge_ HB hg; replace HB := hs HB hb; clear hb hbox hg; have hcz8_0 := cz_ BK193 0 (.int .i64 a0_0); have hcz8_1 := cz_ BK193 1 (.int .i64 a0_1); have hfz8_0 := blk_frozen BK193.out 0; have hfz8_1 := blk_frozen BK193.out 1) | ((with_reducible refine gate_callee (f := 80) rfl ?_); refine gs_ (some 5) Try.func80 #[.int .i64 a0_1, .int .i64 1, .int .i64 1000000] ?_; (with_reducible refine (spec_l1In.calls a0_1 1 1000000 true _ A2.out).mono ?_); rintro e w' ⟨rfl, ⟨nd, rfl⟩⟩; refine ⟨_, rfl, ?_⟩) | (go_at_call 80; refine calls_of_args (args' := #[.int .i64 a0_0, .int .i64 0, .int .i64 (wrap64 (a0_1 - 1))]) (by first | rfl) ?_; (with_reducible refine (spec_l1In.calls a0_0 0 (wrap64 (a0_1 - 1)) true _ A4.out).mono ?_); rintro e w' ⟨rfl, ⟨nd, rfl⟩⟩) | (go_at_call 83; refine calls_of_args (args' := #[.int .i64 a0_0, .int .i64 a0_1]) (by first | rfl) ?_; (with_reducible refine (spec_diCommon.calls k a0_0 a0_1 t196 _ A6.out).mono ?_); rintro e w' ⟨rfl, ⟨nd, rfl⟩⟩))
    go_ret
    exact ⟨by first | rfl | (simp [errW_none, errW_some] <;> rfl) | (simp [*, errW_none, errW_some] <;> rfl), (ho_ HB)⟩
  ·
   replace c5 := Bool.eq_false_iff.mpr c5
   subst c5
   have H1 : (some false) = some r := by rw [if_neg (show ¬ (false = true) by decide)] at H; exact H
   clear H
   have H := H1
   clear H1
   as_aux_lemma =>
    obtain rfl := Option.some.inj H
    go_enter Try.func70, Try.ntmps70
    go_wp2_with (first | ((with_reducible refine gate_dst (N := 1) rfl ?_); refine be_ (N := 1) (cs := #[.int .i64 a0_0, .int .i64 a0_1]) (t := 23) ?_; intro gb193 hg w9 hbox hb; have BK193 := Aside0.mk (hbox); have GW193 := ge_ HB hg; have GE193 := ge_ HB hg; replace HB := hs HB hb; clear hb hbox hg; have hcz10_0 := cz_ BK193 0 (.int .i64 a0_0); have hcz10_1 := cz_ BK193 1 (.int .i64 a0_1); have hfz10_0 := blk_frozen BK193.out 0; have hfz10_1 := blk_frozen BK193.out 1) | ((with_reducible refine gate_callee (f := 80) rfl ?_); refine gs_ (some 5) Try.func80 #[.int .i64 a0_1, .int .i64 1, .int .i64 1000000] ?_; (with_reducible refine (spec_l1In.calls a0_1 1 1000000 true _ A2.out).mono ?_); rintro e w' ⟨rfl, ⟨nd, rfl⟩⟩; refine ⟨_, rfl, ?_⟩) | (go_at_call 80; refine calls_of_args (args' := #[.int .i64 a0_0, .int .i64 0, .int .i64 (wrap64 (a0_1 - 1))]) (by first | rfl) ?_; (with_reducible refine (spec_l1In.calls a0_0 0 (wrap64 (a0_1 - 1)) false _ A4.out).mono ?_); rintro e w' ⟨rfl, ⟨nd, rfl⟩⟩))
    go_ret
    exact ⟨by first | rfl | (simp [errW_none, errW_some] <;> rfl) | (simp [*, errW_none, errW_some] <;> rfl), (ho_ HB)⟩
 ·
  replace c3 := Bool.eq_false_iff.mpr c3
  subst c3
  have H1 : (some false) = some r := by rw [if_neg (show ¬ (false = true) by decide)] at H; exact H
  clear H
  have H := H1
  clear H1
  as_aux_lemma =>
   obtain rfl := Option.some.inj H
   go_enter Try.func70, Try.ntmps70
   go_wp2_with (first | ((with_reducible refine gate_dst (N := 1) rfl ?_); refine be_ (N := 1) (cs := #[.int .i64 a0_0, .int .i64 a0_1]) (t := 23) ?_; intro gb193 hg w11 hbox hb; have BK193 := Aside0.mk (hbox); have GW193 := ge_ HB hg; have GE193 := ge_ HB hg; replace HB := hs HB hb; clear hb hbox hg; have hcz12_0 := cz_ BK193 0 (.int .i64 a0_0); have hcz12_1 := cz_ BK193 1 (.int .i64 a0_1); have hfz12_0 := blk_frozen BK193.out 0; have hfz12_1 := blk_frozen BK193.out 1) | ((with_reducible refine gate_callee (f := 80) rfl ?_); refine gs_ (some 5) Try.func80 #[.int .i64 a0_1, .int .i64 1, .int .i64 1000000] ?_; (with_reducible refine (spec_l1In.calls a0_1 1 1000000 false _ A2.out).mono ?_); rintro e w' ⟨rfl, ⟨nd, rfl⟩⟩; refine ⟨_, rfl, ?_⟩))
   go_ret
   exact ⟨by first | rfl | (simp [errW_none, errW_some] <;> rfl) | (simp [*, errW_none, errW_some] <;> rfl), (ho_ HB)⟩

/-! ### spec_seGood: function 63 -/
def spec_seGood.f (k : Nat) (a0_0 : Int) (a0_1 : Int) (a0_2 : Int) (a0_3 : Int) : Option (Bool) := (spec_diGood.f k a0_0 a0_1).bind fun t198 => (if t198 = true then ((spec_diGood.f k a0_2 a0_3).bind fun t199 => (some t199)) else (some false))
theorem spec_seGood.mono : ∀ a0 a1 a2 a3 k, LeO (spec_seGood.f k a0 a1 a2 a3) (spec_seGood.f (k + 1) a0 a1 a2 a3) := by
 intro a0 a1 a2 a3 k
 unfold spec_seGood.f
 repeat' first
   | (with_reducible exact spec_diGood.mono _ _ _)
   | (with_reducible exact LeO.refl _)
   | (with_reducible exact LeO.none _)
   | (with_reducible refine LeO.ite ?_ ?_)
   | (with_reducible refine LeO.bind ?_ (fun _ => ?_))
   | exact spec_diGood.mono _ _ _
   | exact LeO.none _
   | refine LeO.ite ?_ ?_
   | refine LeO.bind ?_ (fun _ => ?_)
set_option maxHeartbeats 8000000 in
set_option maxRecDepth 100000 in
theorem spec_seGood.calls (k : Nat) (a0_0 : Int) (a0_1 : Int) (a0_2 : Int) (a0_3 : Int) (r : Bool) (w : World) (h : spec_seGood.f k a0_0 a0_1 a0_2 a0_3 = some r) :
  Calls Try.prog 63 #[.agg #[.int .i64 a0_0, .int .i64 a0_1, .int .i64 a0_2, .int .i64 a0_3]] w fun e w' => e = .returned (.bool r) ∧ Below w.heap.size w w' := by
 have hu25 := Try.underlying25
 have hu23 := Try.underlying23
 have HB := Aside0.mk (Below.refl w.heap.size w)
 have H : ((spec_diGood.f k a0_0 a0_1).bind fun t198 => (if t198 = true then ((spec_diGood.f k a0_2 a0_3).bind fun t199 => (some t199)) else (some false))) = some r := h
 clear h
 replace H := Option.bind_eq_some_iff.mp H
 obtain ⟨t198, A20, H⟩ := H
 replace H : (if t198 = true then ((spec_diGood.f k a0_2 a0_3).bind fun t199 => (some t199)) else (some false)) = some r := H
 have A2 := Aside0.mk A20
 clear A20
 by_cases c3 : t198 = true
 ·
  subst c3
  have H1 : ((spec_diGood.f k a0_2 a0_3).bind fun t199 => (some t199)) = some r := by rw [if_pos rfl] at H; exact H
  clear H
  have H := H1
  clear H1
  replace H := Option.bind_eq_some_iff.mp H
  obtain ⟨t199, A40, H⟩ := H
  replace H : (some t199) = some r := H
  have A4 := Aside0.mk A40
  clear A40
  as_aux_lemma =>
   obtain rfl := Option.some.inj H
   go_enter Try.func63, Try.ntmps63
   go_wp2_with (first | ((with_reducible refine gate_dst (N := 1) rfl ?_); refine be_ (N := 1) (cs := #[.int .i64 a0_0, .int .i64 a0_1, .int .i64 a0_2, .int .i64 a0_3]) (t := 25) ?_; intro gb197 hg w5 hbox hb; have BK197 := Aside0.mk (hbox); have GW197 := ge_ HB hg; have GE197 := ge_ HB hg; replace HB := hs HB hb; clear hb hbox hg; have hcz6_0 := cz_ BK197 0 (.int .i64 a0_0); have hcz6_1 := cz_ BK197 1 (.int .i64 a0_1); have hcz6_2 := cz_ BK197 2 (.int .i64 a0_2); have hcz6_3 := cz_ BK197 3 (.int .i64 a0_3); have hfz6_0 := blk_frozen BK197.out 0; have hfz6_1 := blk_frozen BK197.out 1; have hfz6_2 := blk_frozen BK197.out 2; have hfz6_3 := blk_frozen BK197.out 3) | ((with_reducible refine gate_callee (f := 70) rfl ?_); refine gs_ (some 5) Try.func70 #[.agg #[.int .i64 a0_0, .int .i64 a0_1]] ?_; (with_reducible refine (spec_diGood.calls k a0_0 a0_1 true _ A2.out).mono ?_); rintro e w7 ⟨rfl, hb⟩; refine ⟨_, rfl, ?_⟩; replace BK197 := bb BK197 hb; replace HB := hs HB hb; (try clear hb); (try clear hb2); (try clear hk); (try clear hi); have hcz8_0 := cz_ BK197 0 (.int .i64 a0_0); have hcz8_1 := cz_ BK197 1 (.int .i64 a0_1); have hcz8_2 := cz_ BK197 2 (.int .i64 a0_2); have hcz8_3 := cz_ BK197 3 (.int .i64 a0_3); have hfz8_0 := blk_frozen BK197.out 0; have hfz8_1 := blk_frozen BK197.out 1; have hfz8_2 := blk_frozen BK197.out 2; have hfz8_3 := blk_frozen BK197.out 3) | (go_at_call 70; refine calls_of_args (args' := #[.agg #[.int .i64 a0_2, .int .i64 a0_3]]) (by first | rfl) ?_; (with_reducible refine (spec_diGood.calls k a0_2 a0_3 t199 _ A4.out).mono ?_); rintro e w9 ⟨rfl, hb⟩; replace BK197 := bb BK197 hb; replace HB := hs HB hb; (try clear hb); (try clear hb2); (try clear hk); (try clear hi)))
   go_ret
   exact ⟨by first | rfl | (simp [errW_none, errW_some] <;> rfl) | (simp [*, errW_none, errW_some] <;> rfl), (ho_ HB)⟩
 ·
  replace c3 := Bool.eq_false_iff.mpr c3
  subst c3
  have H1 : (some false) = some r := by rw [if_neg (show ¬ (false = true) by decide)] at H; exact H
  clear H
  have H := H1
  clear H1
  as_aux_lemma =>
   obtain rfl := Option.some.inj H
   go_enter Try.func63, Try.ntmps63
   go_wp2_with (first | ((with_reducible refine gate_dst (N := 1) rfl ?_); refine be_ (N := 1) (cs := #[.int .i64 a0_0, .int .i64 a0_1, .int .i64 a0_2, .int .i64 a0_3]) (t := 25) ?_; intro gb197 hg w10 hbox hb; have BK197 := Aside0.mk (hbox); have GW197 := ge_ HB hg; have GE197 := ge_ HB hg; replace HB := hs HB hb; clear hb hbox hg; have hcz11_0 := cz_ BK197 0 (.int .i64 a0_0); have hcz11_1 := cz_ BK197 1 (.int .i64 a0_1); have hcz11_2 := cz_ BK197 2 (.int .i64 a0_2); have hcz11_3 := cz_ BK197 3 (.int .i64 a0_3); have hfz11_0 := blk_frozen BK197.out 0; have hfz11_1 := blk_frozen BK197.out 1; have hfz11_2 := blk_frozen BK197.out 2; have hfz11_3 := blk_frozen BK197.out 3) | ((with_reducible refine gate_callee (f := 70) rfl ?_); refine gs_ (some 5) Try.func70 #[.agg #[.int .i64 a0_0, .int .i64 a0_1]] ?_; (with_reducible refine (spec_diGood.calls k a0_0 a0_1 false _ A2.out).mono ?_); rintro e w12 ⟨rfl, hb⟩; refine ⟨_, rfl, ?_⟩; replace BK197 := bb BK197 hb; replace HB := hs HB hb; (try clear hb); (try clear hb2); (try clear hk); (try clear hi)))
   go_ret
   exact ⟨by first | rfl | (simp [errW_none, errW_some] <;> rfl) | (simp [*, errW_none, errW_some] <;> rfl), (ho_ HB)⟩

/-! ### spec_seAsked: function 61 -/
def spec_seAsked.f (k : Nat) (a0 : Int) (a1_0 : Int) (a1_1 : Int) (a1_2 : Int) (a1_3 : Int) : Option (Bool) := (spec_diHours.f a0).bind fun t201 => (if t201 = true then ((spec_seGood.f k a1_0 a1_1 a1_2 a1_3).bind fun t202 => (some t202)) else (some false))
theorem spec_seAsked.mono : ∀ a0 a1 a2 a3 a4 k, LeO (spec_seAsked.f k a0 a1 a2 a3 a4) (spec_seAsked.f (k + 1) a0 a1 a2 a3 a4) := by
 intro a0 a1 a2 a3 a4 k
 unfold spec_seAsked.f
 repeat' first
   | (with_reducible exact spec_seGood.mono _ _ _ _ _)
   | (with_reducible exact LeO.refl _)
   | (with_reducible exact LeO.none _)
   | (with_reducible refine LeO.ite ?_ ?_)
   | (with_reducible refine LeO.bind ?_ (fun _ => ?_))
   | exact spec_seGood.mono _ _ _ _ _
   | exact LeO.none _
   | refine LeO.ite ?_ ?_
   | refine LeO.bind ?_ (fun _ => ?_)
set_option maxHeartbeats 8000000 in
set_option maxRecDepth 100000 in
theorem spec_seAsked.calls (k : Nat) (a0 : Int) (a1_0 : Int) (a1_1 : Int) (a1_2 : Int) (a1_3 : Int) (r : Bool) (w : World) (h : spec_seAsked.f k a0 a1_0 a1_1 a1_2 a1_3 = some r) :
  Calls Try.prog 61 #[.int .i64 a0, .agg #[.int .i64 a1_0, .int .i64 a1_1, .int .i64 a1_2, .int .i64 a1_3]] w fun e w' => e = .returned (.bool r) ∧ Below w.heap.size w w' := by
 have hu25 := Try.underlying25
 have HB := Aside0.mk (Below.refl w.heap.size w)
 have H : ((spec_diHours.f a0).bind fun t201 => (if t201 = true then ((spec_seGood.f k a1_0 a1_1 a1_2 a1_3).bind fun t202 => (some t202)) else (some false))) = some r := h
 clear h
 replace H := Option.bind_eq_some_iff.mp H
 obtain ⟨t201, A30, H⟩ := H
 replace H : (if t201 = true then ((spec_seGood.f k a1_0 a1_1 a1_2 a1_3).bind fun t202 => (some t202)) else (some false)) = some r := H
 have A3 := Aside0.mk A30
 clear A30
 by_cases c4 : t201 = true
 ·
  subst c4
  have H1 : ((spec_seGood.f k a1_0 a1_1 a1_2 a1_3).bind fun t202 => (some t202)) = some r := by rw [if_pos rfl] at H; exact H
  clear H
  have H := H1
  clear H1
  replace H := Option.bind_eq_some_iff.mp H
  obtain ⟨t202, A50, H⟩ := H
  replace H : (some t202) = some r := H
  have A5 := Aside0.mk A50
  clear A50
  as_aux_lemma =>
   obtain rfl := Option.some.inj H
   go_enter Try.func61, Try.ntmps61
   go_wp2_with (first | ((with_reducible refine gate_dst (N := 3) rfl ?_); refine be_ (N := 3) (cs := #[.int .i64 a1_0, .int .i64 a1_1, .int .i64 a1_2, .int .i64 a1_3]) (t := 25) ?_; intro gb200 hg w6 hbox hb; have BK200 := Aside0.mk (hbox); have GW200 := ge_ HB hg; have GE200 := ge_ HB hg; replace HB := hs HB hb; clear hb hbox hg) | ((with_reducible refine gate_callee (f := 57) rfl ?_); refine gs_ (some 6) Try.func57 #[.int .i64 a0] ?_; (with_reducible refine (spec_diHours.calls a0 true _ A3.out).mono ?_); rintro e w' ⟨rfl, ⟨nd, rfl⟩⟩; refine ⟨_, rfl, ?_⟩; have hcz7_0 := cz_ BK200 0 (.int .i64 a1_0); have hcz7_1 := cz_ BK200 1 (.int .i64 a1_1); have hcz7_2 := cz_ BK200 2 (.int .i64 a1_2); have hcz7_3 := cz_ BK200 3 (.int .i64 a1_3); have hfz7_0 := blk_frozen BK200.out 0; have hfz7_1 := blk_frozen BK200.out 1; have hfz7_2 := blk_frozen BK200.out 2; have hfz7_3 := blk_frozen BK200.out 3) | (go_at_call 63; refine calls_of_args (args' := #[.agg #[.int .i64 a1_0, .int .i64 a1_1, .int .i64 a1_2, .int .i64 a1_3]]) (by first | rfl) ?_; (with_reducible refine (spec_seGood.calls k a1_0 a1_1 a1_2 a1_3 t202 _ A5.out).mono ?_); rintro e w8 ⟨rfl, hb⟩; replace BK200 := bb BK200 hb; replace HB := hs HB hb; (try clear hb); (try clear hb2); (try clear hk); (try clear hi)))
   go_ret
   exact ⟨by first | rfl | (simp [errW_none, errW_some] <;> rfl) | (simp [*, errW_none, errW_some] <;> rfl), (ho_ HB)⟩
 ·
  replace c4 := Bool.eq_false_iff.mpr c4
  subst c4
  have H1 : (some false) = some r := by rw [if_neg (show ¬ (false = true) by decide)] at H; exact H
  clear H
  have H := H1
  clear H1
  as_aux_lemma =>
   obtain rfl := Option.some.inj H
   go_enter Try.func61, Try.ntmps61
   go_wp2_with (first | ((with_reducible refine gate_dst (N := 3) rfl ?_); refine be_ (N := 3) (cs := #[.int .i64 a1_0, .int .i64 a1_1, .int .i64 a1_2, .int .i64 a1_3]) (t := 25) ?_; intro gb200 hg w9 hbox hb; have BK200 := Aside0.mk (hbox); have GW200 := ge_ HB hg; have GE200 := ge_ HB hg; replace HB := hs HB hb; clear hb hbox hg) | ((with_reducible refine gate_callee (f := 57) rfl ?_); refine gs_ (some 6) Try.func57 #[.int .i64 a0] ?_; (with_reducible refine (spec_diHours.calls a0 false _ A3.out).mono ?_); rintro e w' ⟨rfl, ⟨nd, rfl⟩⟩; refine ⟨_, rfl, ?_⟩))
   go_ret
   exact ⟨by first | rfl | (simp [errW_none, errW_some] <;> rfl) | (simp [*, errW_none, errW_some] <;> rfl), (ho_ HB)⟩

/-! ### spec_seApart: function 65 -/
def spec_seApart.f (k : Nat) (a0_0 : Int) (a0_1 : Int) (a0_2 : Int) (a0_3 : Int) : Option (Int × Int) := if (wrap64 (a0_3 * a0_1)) = 0 then (none) else ((spec_diCommon.f k (Int.tmod (wrap64 ((wrap64 ((wrap64 (a0_2 * a0_1)) - (wrap64 (a0_0 * a0_3)))) + (wrap64 (a0_3 * a0_1)))) (wrap64 (a0_3 * a0_1))) (wrap64 (a0_3 * a0_1))).bind fun t204 => (if t204 = 0 then (none) else (some (wrap64 (Int.tdiv (Int.tmod (wrap64 ((wrap64 ((wrap64 (a0_2 * a0_1)) - (wrap64 (a0_0 * a0_3)))) + (wrap64 (a0_3 * a0_1)))) (wrap64 (a0_3 * a0_1))) t204), wrap64 (Int.tdiv (wrap64 (a0_3 * a0_1)) t204)))))
theorem spec_seApart.mono : ∀ a0 a1 a2 a3 k, LeO (spec_seApart.f k a0 a1 a2 a3) (spec_seApart.f (k + 1) a0 a1 a2 a3) := by
 intro a0 a1 a2 a3 k
 unfold spec_seApart.f
 repeat' first
   | (with_reducible exact spec_diCommon.mono _ _ _)
   | (with_reducible exact LeO.refl _)
   | (with_reducible exact LeO.none _)
   | (with_reducible refine LeO.ite ?_ ?_)
   | (with_reducible refine LeO.bind ?_ (fun _ => ?_))
   | exact spec_diCommon.mono _ _ _
   | exact LeO.none _
   | refine LeO.ite ?_ ?_
   | refine LeO.bind ?_ (fun _ => ?_)
set_option maxHeartbeats 8000000 in
set_option maxRecDepth 100000 in
theorem spec_seApart.calls (k : Nat) (a0_0 : Int) (a0_1 : Int) (a0_2 : Int) (a0_3 : Int) (r1 : Int) (r2 : Int) (w : World) (h : spec_seApart.f k a0_0 a0_1 a0_2 a0_3 = some (r1, r2)) :
  Calls Try.prog 65 #[.agg #[.int .i64 a0_0, .int .i64 a0_1, .int .i64 a0_2, .int .i64 a0_3]] w fun e w' => e = .returned (.tuple #[.int .i64 r1, .int .i64 r2]) ∧ Below w.heap.size w w' := by
 have hu25 := Try.underlying25
 have HB := Aside0.mk (Below.refl w.heap.size w)
 have H : (if (wrap64 (a0_3 * a0_1)) = 0 then (none) else ((spec_diCommon.f k (Int.tmod (wrap64 ((wrap64 ((wrap64 (a0_2 * a0_1)) - (wrap64 (a0_0 * a0_3)))) + (wrap64 (a0_3 * a0_1)))) (wrap64 (a0_3 * a0_1))) (wrap64 (a0_3 * a0_1))).bind fun t204 => (if t204 = 0 then (none) else (some (wrap64 (Int.tdiv (Int.tmod (wrap64 ((wrap64 ((wrap64 (a0_2 * a0_1)) - (wrap64 (a0_0 * a0_3)))) + (wrap64 (a0_3 * a0_1)))) (wrap64 (a0_3 * a0_1))) t204), wrap64 (Int.tdiv (wrap64 (a0_3 * a0_1)) t204)))))) = some (r1, r2) := h
 clear h
 by_cases c2 : (wrap64 (a0_3 * a0_1)) = 0
 ·
  rw [if_pos c2] at H
  exact absurd H (by simp)
 ·
  rw [if_neg c2] at H
  have c2b0 : ((wrap64 (a0_3 * a0_1)) == 0) = false := beq_eq_false_iff_ne.mpr c2
  have c2b1 : ((wrap64 (a0_3 * a0_1)) != 0) = true := bne_iff_ne.mpr c2
  replace H := Option.bind_eq_some_iff.mp H
  obtain ⟨t204, A30, H⟩ := H
  replace H : (if t204 = 0 then (none) else (some (wrap64 (Int.tdiv (Int.tmod (wrap64 ((wrap64 ((wrap64 (a0_2 * a0_1)) - (wrap64 (a0_0 * a0_3)))) + (wrap64 (a0_3 * a0_1)))) (wrap64 (a0_3 * a0_1))) t204), wrap64 (Int.tdiv (wrap64 (a0_3 * a0_1)) t204)))) = some (r1, r2) := H
  have A3 := Aside0.mk A30
  clear A30
  by_cases c4 : t204 = 0
  ·
   rw [if_pos c4] at H
   exact absurd H (by simp)
  ·
   rw [if_neg c4] at H
   have c4b0 : (t204 == 0) = false := beq_eq_false_iff_ne.mpr c4
   have c4b1 : (t204 != 0) = true := bne_iff_ne.mpr c4
   as_aux_lemma =>
    simp only [Option.some.injEq, Prod.mk.injEq] at H
    obtain ⟨rfl, rfl⟩ := H
    go_enter Try.func65, Try.ntmps65
    go_wp2_with (first | ((with_reducible refine gate_dst (N := 1) rfl ?_); refine be_ (N := 1) (cs := #[.int .i64 a0_0, .int .i64 a0_1, .int .i64 a0_2, .int .i64 a0_3]) (t := 25) ?_; intro gb203 hg w5 hbox hb; have BK203 := Aside0.mk (hbox); have GW203 := ge_ HB hg; have GE203 := ge_ HB hg; replace HB := hs HB hb; clear hb hbox hg; have hcz6_0 := cz_ BK203 0 (.int .i64 a0_0); have hcz6_1 := cz_ BK203 1 (.int .i64 a0_1); have hcz6_2 := cz_ BK203 2 (.int .i64 a0_2); have hcz6_3 := cz_ BK203 3 (.int .i64 a0_3); have hfz6_0 := blk_frozen BK203.out 0; have hfz6_1 := blk_frozen BK203.out 1; have hfz6_2 := blk_frozen BK203.out 2; have hfz6_3 := blk_frozen BK203.out 3) | (go_at_call 83; refine calls_of_args (args' := #[.int .i64 (Int.tmod (wrap64 ((wrap64 ((wrap64 (a0_2 * a0_1)) - (wrap64 (a0_0 * a0_3)))) + (wrap64 (a0_3 * a0_1)))) (wrap64 (a0_3 * a0_1))), .int .i64 (wrap64 (a0_3 * a0_1))]) (by first | rfl) ?_; (with_reducible refine (spec_diCommon.calls k (Int.tmod (wrap64 ((wrap64 ((wrap64 (a0_2 * a0_1)) - (wrap64 (a0_0 * a0_3)))) + (wrap64 (a0_3 * a0_1)))) (wrap64 (a0_3 * a0_1))) (wrap64 (a0_3 * a0_1)) t204 _ A3.out).mono ?_); rintro e w' ⟨rfl, ⟨nd, rfl⟩⟩; (try first | exact ⟨rfl, _, World.drewN_drewN _ _ _⟩ | exact ⟨rfl, _, Eq.trans (World.drewN_drewN _ _ _) (congrArg (World.drewN _) (Nat.add_assoc _ _ _))⟩)))
    repeat (go_quiet (first | ((with_reducible refine gate_dst (N := 1) rfl ?_); refine be_ (N := 1) (cs := #[.int .i64 a0_0, .int .i64 a0_1, .int .i64 a0_2, .int .i64 a0_3]) (t := 25) ?_; intro gb203 hg w5 hbox hb; have BK203 := Aside0.mk (hbox); have GW203 := ge_ HB hg; have GE203 := ge_ HB hg; replace HB := hs HB hb; clear hb hbox hg; have hcz6_0 := cz_ BK203 0 (.int .i64 a0_0); have hcz6_1 := cz_ BK203 1 (.int .i64 a0_1); have hcz6_2 := cz_ BK203 2 (.int .i64 a0_2); have hcz6_3 := cz_ BK203 3 (.int .i64 a0_3); have hfz6_0 := blk_frozen BK203.out 0; have hfz6_1 := blk_frozen BK203.out 1; have hfz6_2 := blk_frozen BK203.out 2; have hfz6_3 := blk_frozen BK203.out 3) | (go_at_call 83; refine calls_of_args (args' := #[.int .i64 (Int.tmod (wrap64 ((wrap64 ((wrap64 (a0_2 * a0_1)) - (wrap64 (a0_0 * a0_3)))) + (wrap64 (a0_3 * a0_1)))) (wrap64 (a0_3 * a0_1))), .int .i64 (wrap64 (a0_3 * a0_1))]) (by first | rfl) ?_; (with_reducible refine (spec_diCommon.calls k (Int.tmod (wrap64 ((wrap64 ((wrap64 (a0_2 * a0_1)) - (wrap64 (a0_0 * a0_3)))) + (wrap64 (a0_3 * a0_1)))) (wrap64 (a0_3 * a0_1))) (wrap64 (a0_3 * a0_1)) t204 _ A3.out).mono ?_); rintro e w' ⟨rfl, ⟨nd, rfl⟩⟩; (try first | exact ⟨rfl, _, World.drewN_drewN _ _ _⟩ | exact ⟨rfl, _, Eq.trans (World.drewN_drewN _ _ _) (congrArg (World.drewN _) (Nat.add_assoc _ _ _))⟩))); try go_wp2_with (first | ((with_reducible refine gate_dst (N := 1) rfl ?_); refine be_ (N := 1) (cs := #[.int .i64 a0_0, .int .i64 a0_1, .int .i64 a0_2, .int .i64 a0_3]) (t := 25) ?_; intro gb203 hg w5 hbox hb; have BK203 := Aside0.mk (hbox); have GW203 := ge_ HB hg; have GE203 := ge_ HB hg; replace HB := hs HB hb; clear hb hbox hg; have hcz6_0 := cz_ BK203 0 (.int .i64 a0_0); have hcz6_1 := cz_ BK203 1 (.int .i64 a0_1); have hcz6_2 := cz_ BK203 2 (.int .i64 a0_2); have hcz6_3 := cz_ BK203 3 (.int .i64 a0_3); have hfz6_0 := blk_frozen BK203.out 0; have hfz6_1 := blk_frozen BK203.out 1; have hfz6_2 := blk_frozen BK203.out 2; have hfz6_3 := blk_frozen BK203.out 3) | (go_at_call 83; refine calls_of_args (args' := #[.int .i64 (Int.tmod (wrap64 ((wrap64 ((wrap64 (a0_2 * a0_1)) - (wrap64 (a0_0 * a0_3)))) + (wrap64 (a0_3 * a0_1)))) (wrap64 (a0_3 * a0_1))), .int .i64 (wrap64 (a0_3 * a0_1))]) (by first | rfl) ?_; (with_reducible refine (spec_diCommon.calls k (Int.tmod (wrap64 ((wrap64 ((wrap64 (a0_2 * a0_1)) - (wrap64 (a0_0 * a0_3)))) + (wrap64 (a0_3 * a0_1)))) (wrap64 (a0_3 * a0_1))) (wrap64 (a0_3 * a0_1)) t204 _ A3.out).mono ?_); rintro e w' ⟨rfl, ⟨nd, rfl⟩⟩; (try first | exact ⟨rfl, _, World.drewN_drewN _ _ _⟩ | exact ⟨rfl, _, Eq.trans (World.drewN_drewN _ _ _) (congrArg (World.drewN _) (Nat.add_assoc _ _ _))⟩))))
    go_ret2
    exact ⟨by first | rfl | (simp [errW_none, errW_some] <;> rfl) | (simp [*, errW_none, errW_some] <;> rfl), (ho_ HB)⟩

/-! ### spec_diMake: function 71 -/
def spec_diMake.f (k : Nat) (a0 : Int) (a1 : Int) : Option (Int × Int × Bool) := if a1 = 0 then (none) else ((spec_diCommon.f k (Int.tmod (wrap64 ((Int.tmod a0 a1) + a1)) a1) a1).bind fun t206 => (if t206 = 0 then (none) else (if (wrap64 (Int.tdiv a1 t206)) > 1000000 then (some (0, 0, false)) else (some (wrap64 (Int.tdiv (Int.tmod (wrap64 ((Int.tmod a0 a1) + a1)) a1) t206), wrap64 (Int.tdiv a1 t206), true)))))
theorem spec_diMake.mono : ∀ a0 a1 k, LeO (spec_diMake.f k a0 a1) (spec_diMake.f (k + 1) a0 a1) := by
 intro a0 a1 k
 unfold spec_diMake.f
 repeat' first
   | (with_reducible exact spec_diCommon.mono _ _ _)
   | (with_reducible exact LeO.refl _)
   | (with_reducible exact LeO.none _)
   | (with_reducible refine LeO.ite ?_ ?_)
   | (with_reducible refine LeO.bind ?_ (fun _ => ?_))
   | exact spec_diCommon.mono _ _ _
   | exact LeO.none _
   | refine LeO.ite ?_ ?_
   | refine LeO.bind ?_ (fun _ => ?_)
def spec_diMake.T3 : Bool × List (List Nat × List Nat) := (true, [([], []), ([], []), ([0, 1], [0, 1]), ([], []), ([], []), ([3, 4], [3, 4]), ([2, 5], [2, 5]), ([], []), ([7, 6, 0, 1, 2, 3, 4, 5, 6, 7], [6, 7])])
def spec_diMake.B3 : List Nat := [0, 0, 3, 0, 0, 24, 63, 0, 255]
theorem spec_diMake.tab3 : rtab .any (opsOf Try.f71 3) = spec_diMake.T3 := by kernel_rfl
theorem spec_diMake.bits3 : waitsOk spec_diMake.T3.2 spec_diMake.B3 = true := by kernel_rfl
set_option maxHeartbeats 8000000 in
set_option maxRecDepth 100000 in
theorem spec_diMake.calls (k : Nat) (a0 : Int) (a1 : Int) (r1 : Int) (r2 : Int) (r3 : Bool) (w : World) (h : spec_diMake.f k a0 a1 = some (r1, r2, r3)) :
  Calls Try.prog 71 #[.int .i64 a0, .int .i64 a1] w fun e w' => e = .returned (.tuple #[.agg #[.int .i64 r1, .int .i64 r2], .bool r3]) ∧ Below w.heap.size w w' := by
 have hu23 := Try.underlying23
 have HB := Aside0.mk (Below.refl w.heap.size w)
 have H : (if a1 = 0 then (none) else ((spec_diCommon.f k (Int.tmod (wrap64 ((Int.tmod a0 a1) + a1)) a1) a1).bind fun t206 => (if t206 = 0 then (none) else (if (wrap64 (Int.tdiv a1 t206)) > 1000000 then (some (0, 0, false)) else (some (wrap64 (Int.tdiv (Int.tmod (wrap64 ((Int.tmod a0 a1) + a1)) a1) t206), wrap64 (Int.tdiv a1 t206), true)))))) = some (r1, r2, r3) := h
 clear h
 by_cases c3 : a1 = 0
 ·
  rw [if_pos c3] at H
  exact absurd H (by simp)
 ·
  rw [if_neg c3] at H
  have c3b0 : (a1 == 0) = false := beq_eq_false_iff_ne.mpr c3
  have c3b1 : (a1 != 0) = true := bne_iff_ne.mpr c3
  replace H := Option.bind_eq_some_iff.mp H
  obtain ⟨t206, A40, H⟩ := H
  replace H : (if t206 = 0 then (none) else (if (wrap64 (Int.tdiv a1 t206)) > 1000000 then (some (0, 0, false)) else (some (wrap64 (Int.tdiv (Int.tmod (wrap64 ((Int.tmod a0 a1) + a1)) a1) t206), wrap64 (Int.tdiv a1 t206), true)))) = some (r1, r2, r3) := H
  have A4 := Aside0.mk A40
  clear A40
  by_cases c5 : t206 = 0
  ·
   rw [if_pos c5] at H
   exact absurd H (by simp)
  ·
   rw [if_neg c5] at H
   have c5b0 : (t206 == 0) = false := beq_eq_false_iff_ne.mpr c5
   have c5b1 : (t206 != 0) = true := bne_iff_ne.mpr c5
   by_cases c6 : (wrap64 (Int.tdiv a1 t206)) > 1000000
   ·
    rw [if_pos c6] at H
    have c6b0 : decide (1000000 < (wrap64 (Int.tdiv a1 t206))) = true := decide_eq_true c6
    clear c6
    as_aux_lemma =>
     simp only [Option.some.injEq, Prod.mk.injEq] at H
     obtain ⟨rfl, rfl, rfl⟩ := H
     go_enter Try.func71, Try.ntmps71
     try go_wp2_with (first | ((with_reducible refine gate_dst (N := 4) rfl ?_); refine be_ (N := 4) (cs := #[.int .i64 0, .int .i64 0]) (t := 23) ?_; intro gb205 hg w7 hbox hb; have BK205 := Aside0.mk (hbox); have GW205 := ge_ HB hg; have GE205 := ge_ HB hg; replace HB := hs HB hb; clear hb hbox hg) | ((with_reducible refine gate_callee (f := 83) rfl ?_); refine gs_ (some 17) Try.func83 #[.int .i64 (Int.tmod (wrap64 ((Int.tmod a0 a1) + a1)) a1), .int .i64 a1] ?_; (with_reducible refine (spec_diCommon.calls k (Int.tmod (wrap64 ((Int.tmod a0 a1) + a1)) a1) a1 t206 _ A4.out).mono ?_); rintro e w' ⟨rfl, ⟨nd, rfl⟩⟩; refine ⟨_, rfl, ?_⟩; (try (rw [drewN_self w7]; generalize hq_ : World.drewN w7 _ = w7; have n0_ : Aside0 (w7.heap[gb205]? = some (.cells #[.int .i64 0, .int .i64 0] 23 (0, 0))) := ⟨by rw [← hq_]; exact (by (with_reducible repeat (first | refine blk_drewN ?_ _ | refine blk_drew ?_ | refine blk_alloc ?_ _)); exact BK205.out)⟩; have n1_ : Aside0 (Below w.heap.size w w7) := ⟨by rw [← hq_]; exact (ho_ HB)⟩; clear BK205 HB hq_; have BK205 := n0_; have HB := n1_; clear n0_ n1_))))
     replace BK205 := Aside0.mk (blk_drew BK205.out)
     replace HB := Aside0.mk (below_drew1 HB.out)
     refine start_ (n := 9) (S := fun w' => True) (ds := []) #[false, false, false, false, false, false, false, false, false] (by kernel_rfl) rfl rfl trivial (fun hHeld => ?_); refine with_tabW spec_diMake.tab3 spec_diMake.bits3 (fun HT_ HW_ => ?_)
     generalize w7.drew = w8 at BK205 HB hHeld ⊢
     refine pu_ 0 (some 18) HT_.out ?_
     refine pu_ 1 (some 19) HT_.out ?_
     refine pu_ 2 (some 20) HT_.out ?_
     refine pu_ 3 (some 21) HT_.out ?_
     refine pu_ 4 (some 22) HT_.out ?_
     refine pu_ 5 (some 23) HT_.out ?_
     refine pu_ 6 (some 24) HT_.out ?_
     refine one_ (i := 7) (N := some 7) #[true, true, true, true, true, true, true, true, false] rfl rfl (one_of HT_.out (by kernel_rfl)) (by decide) (fun K hK => ?_)
     refine box_step ?hg (N := 7) ?hd (cs := #[.int .i64 0, .int .i64 0]) (t := 23) ?hr ?_; (case hd => rfl); (case hg => rfl); (case hr => first | (go_simp; done) | (go_simp; rfl))
     intro gb207 hg w9 hbox hb
     have BK207 := Aside0.mk (hbox)
     have GW207 := ge_ HB hg
     have GE207 := ge_ HB hg
     obtain ⟨NB205_207, NB207_205⟩ := nq_ BK205 hg
     replace BK205 := bb BK205 hb
     replace HB := hs HB hb
     clear hb hbox hg
     refine hK.out _ _ trivial (fun hHeld => ?_)
     clear hK K
     refine norm_ (a' := ?_) ?_ ?_
     rotate_left
     ·
      show Act.put _ (some 7) _ = _
      simp only [Act.put, List.setIfInBounds_toArray, List.set_cons_zero, List.set_cons_succ, i64_w, i32_w]
      rfl
     refine one_ (i := 8) (N := none) #[true, true, true, true, true, true, true, true, true] rfl rfl (one_of HT_.out (by kernel_rfl)) (by decide) (fun K hK => ?_)
     have hs10 : w9.cell? ⟨gb207, 0, none⟩ = some (.int .i64 0) := (blk_cell BK207.out 0).trans rfl
     have hfs10 := blk_frozen BK207.out 0
     obtain ⟨hns10_0, hms10_0⟩ := nn_ NB205_207
     have hs11 : w9.cell? ⟨gb207, 1, none⟩ = some (.int .i64 0) := (blk_cell BK207.out 1).trans rfl
     have hfs11 := blk_frozen BK207.out 1
     obtain ⟨hns11_0, hms11_0⟩ := nn_ NB205_207
     refine skip_ (w1 := ?_) (by rfl) rfl ?_ ?_
     rotate_left
     ·
      go_simp
      rfl
     refine hK.out _ _ trivial (fun hHeld => ?_)
     clear hK K
     refine done_ (done_of HT_.out (by kernel_rfl)) ?_
     obtain ⟨hnb12, hnc12⟩ := nn_ NB207_205
     have hcz13_0 := cz_ BK207 0 (.int .i64 0)
     have hcz13_1 := cz_ BK207 1 (.int .i64 0)
     have hfz13_0 := blk_frozen BK207.out 0
     have hfz13_1 := blk_frozen BK207.out 1
     have hcz14_0 := cz_ BK205 0 (.int .i64 0)
     have hcz14_1 := cz_ BK205 1 (.int .i64 0)
     have hfz14_0 := blk_frozen BK205.out 0
     have hfz14_1 := blk_frozen BK205.out 1
     try go_wp2
     refine bodyPost_ret (results_ct rfl _ _ gb205 23 #[.int .i64 0, .int .i64 0] (0, 0) _ rfl (by (with_reducible repeat (first | refine blk_drewN ?_ _ | refine blk_drew ?_ | refine blk_alloc ?_ _)); refine blk_put (cs := #[.int .i64 0, .int .i64 0]) ?_ 1 _ rfl; (with_reducible repeat (first | refine blk_drewN ?_ _ | refine blk_drew ?_ | refine blk_alloc ?_ _)); refine blk_put (cs := #[.int .i64 0, .int .i64 0]) ?_ 0 _ rfl; (with_reducible repeat (first | refine blk_drewN ?_ _ | refine blk_drew ?_ | refine blk_alloc ?_ _)); refine blk_far ?_ NB205_207.out _; (with_reducible repeat (first | refine blk_drewN ?_ _ | refine blk_drew ?_ | refine blk_alloc ?_ _)); refine blk_far ?_ NB205_207.out _; (with_reducible repeat (first | refine blk_drewN ?_ _ | refine blk_drew ?_ | refine blk_alloc ?_ _)); exact BK205.out) Try.underlying23 rfl (by kernel_rfl)) rfl ?_
     exact ⟨by first | rfl | (simp [errW_none, errW_some] <;> rfl) | (simp [*, errW_none, errW_some] <;> rfl), (ho_ HB)⟩
   ·
    rw [if_neg c6] at H
    have c6b0 : decide (1000000 < (wrap64 (Int.tdiv a1 t206))) = false := decide_eq_false c6
    clear c6
    as_aux_lemma =>
     simp only [Option.some.injEq, Prod.mk.injEq] at H
     obtain ⟨rfl, rfl, rfl⟩ := H
     go_enter Try.func71, Try.ntmps71
     try go_wp2_with (first | ((with_reducible refine gate_dst (N := 4) rfl ?_); refine be_ (N := 4) (cs := #[.int .i64 0, .int .i64 0]) (t := 23) ?_; intro gb205 hg w15 hbox hb; have BK205 := Aside0.mk (hbox); have GW205 := ge_ HB hg; have GE205 := ge_ HB hg; replace HB := hs HB hb; clear hb hbox hg) | ((with_reducible refine gate_callee (f := 83) rfl ?_); refine gs_ (some 17) Try.func83 #[.int .i64 (Int.tmod (wrap64 ((Int.tmod a0 a1) + a1)) a1), .int .i64 a1] ?_; (with_reducible refine (spec_diCommon.calls k (Int.tmod (wrap64 ((Int.tmod a0 a1) + a1)) a1) a1 t206 _ A4.out).mono ?_); rintro e w' ⟨rfl, ⟨nd, rfl⟩⟩; refine ⟨_, rfl, ?_⟩; (try (rw [drewN_self w15]; generalize hq_ : World.drewN w15 _ = w15; have n0_ : Aside0 (w15.heap[gb205]? = some (.cells #[.int .i64 0, .int .i64 0] 23 (0, 0))) := ⟨by rw [← hq_]; exact (by (with_reducible repeat (first | refine blk_drewN ?_ _ | refine blk_drew ?_ | refine blk_alloc ?_ _)); exact BK205.out)⟩; have n1_ : Aside0 (Below w.heap.size w w15) := ⟨by rw [← hq_]; exact (ho_ HB)⟩; clear BK205 HB hq_; have BK205 := n0_; have HB := n1_; clear n0_ n1_))))
     replace BK205 := Aside0.mk (blk_drew BK205.out)
     replace HB := Aside0.mk (below_drew1 HB.out)
     refine start_ (n := 9) (S := fun w' => True) (ds := []) #[false, false, false, false, false, false, false, false, false] (by kernel_rfl) rfl rfl trivial (fun hHeld => ?_); refine with_tabW spec_diMake.tab3 spec_diMake.bits3 (fun HT_ HW_ => ?_)
     generalize w15.drew = w16 at BK205 HB hHeld ⊢
     refine pu_ 0 (some 18) HT_.out ?_
     refine pu_ 1 (some 19) HT_.out ?_
     refine pu_ 2 (some 20) HT_.out ?_
     refine pu_ 3 (some 21) HT_.out ?_
     refine pu_ 4 (some 22) HT_.out ?_
     refine pu_ 5 (some 23) HT_.out ?_
     refine pu_ 6 (some 24) HT_.out ?_
     refine one_ (i := 7) (N := some 7) #[true, true, true, true, true, true, true, true, false] rfl rfl (one_of HT_.out (by kernel_rfl)) (by decide) (fun K hK => ?_)
     refine box_step ?hg (N := 7) ?hd (cs := #[.int .i64 0, .int .i64 0]) (t := 23) ?hr ?_; (case hd => rfl); (case hg => rfl); (case hr => first | (go_simp; done) | (go_simp; rfl))
     intro gb207 hg w17 hbox hb
     have BK207 := Aside0.mk (hbox)
     have GW207 := ge_ HB hg
     have GE207 := ge_ HB hg
     obtain ⟨NB205_207, NB207_205⟩ := nq_ BK205 hg
     replace BK205 := bb BK205 hb
     replace HB := hs HB hb
     clear hb hbox hg
     refine hK.out _ _ trivial (fun hHeld => ?_)
     clear hK K
     refine norm_ (a' := ?_) ?_ ?_
     rotate_left
     ·
      show Act.put _ (some 7) _ = _
      simp only [Act.put, List.setIfInBounds_toArray, List.set_cons_zero, List.set_cons_succ, i64_w, i32_w]
      rfl
     refine one_ (i := 8) (N := none) #[true, true, true, true, true, true, true, true, true] rfl rfl (one_of HT_.out (by kernel_rfl)) (by decide) (fun K hK => ?_)
     have hs18 : w17.cell? ⟨gb207, 0, none⟩ = some (.int .i64 0) := (blk_cell BK207.out 0).trans rfl
     have hfs18 := blk_frozen BK207.out 0
     obtain ⟨hns18_0, hms18_0⟩ := nn_ NB205_207
     have hs19 : w17.cell? ⟨gb207, 1, none⟩ = some (.int .i64 0) := (blk_cell BK207.out 1).trans rfl
     have hfs19 := blk_frozen BK207.out 1
     obtain ⟨hns19_0, hms19_0⟩ := nn_ NB205_207
     refine skip_ (w1 := ?_) (by rfl) rfl ?_ ?_
     rotate_left
     ·
      go_simp
      rfl
     refine hK.out _ _ trivial (fun hHeld => ?_)
     clear hK K
     refine done_ (done_of HT_.out (by kernel_rfl)) ?_
     obtain ⟨hnb20, hnc20⟩ := nn_ NB207_205
     have hcz21_0 := cz_ BK207 0 (.int .i64 0)
     have hcz21_1 := cz_ BK207 1 (.int .i64 0)
     have hfz21_0 := blk_frozen BK207.out 0
     have hfz21_1 := blk_frozen BK207.out 1
     have hcz22_0 := cz_ BK205 0 (.int .i64 0)
     have hcz22_1 := cz_ BK205 1 (.int .i64 0)
     have hfz22_0 := blk_frozen BK205.out 0
     have hfz22_1 := blk_frozen BK205.out 1
     try go_wp2
     refine bodyPost_ret (results_ct rfl _ _ gb205 23 #[.int .i64 (wrap64 (Int.tdiv (Int.tmod (wrap64 ((Int.tmod a0 a1) + a1)) a1) t206)), .int .i64 (wrap64 (Int.tdiv a1 t206))] (0, 0) _ rfl (by (with_reducible repeat (first | refine blk_drewN ?_ _ | refine blk_drew ?_ | refine blk_alloc ?_ _)); refine blk_put (cs := #[.int .i64 (wrap64 (Int.tdiv (Int.tmod (wrap64 ((Int.tmod a0 a1) + a1)) a1) t206)), .int .i64 0]) ?_ 1 _ rfl; (with_reducible repeat (first | refine blk_drewN ?_ _ | refine blk_drew ?_ | refine blk_alloc ?_ _)); refine blk_put (cs := #[.int .i64 0, .int .i64 0]) ?_ 0 _ rfl; (with_reducible repeat (first | refine blk_drewN ?_ _ | refine blk_drew ?_ | refine blk_alloc ?_ _)); refine blk_far ?_ NB205_207.out _; (with_reducible repeat (first | refine blk_drewN ?_ _ | refine blk_drew ?_ | refine blk_alloc ?_ _)); refine blk_far ?_ NB205_207.out _; (with_reducible repeat (first | refine blk_drewN ?_ _ | refine blk_drew ?_ | refine blk_alloc ?_ _)); exact BK205.out) Try.underlying23 rfl (by kernel_rfl)) rfl ?_
     exact ⟨by first | rfl | (simp [errW_none, errW_some] <;> rfl) | (simp [*, errW_none, errW_some] <;> rfl), (ho_ HB)⟩

/-! ### spec_seAngle: function 66 -/
def spec_seAngle.l0 : Nat → Int → Int → Int → List (S23) → Int → Option ((List (S23)) × Bool)
 | 0, _, _, _, _, _ => none
 | k + 1, x0, x1, x2, x8, x9 => if x9 < (wrap64 (x0 - 1)) then ((spec_diMake.f k (wrap64 (x1 + (wrap64 (x9 * x2)))) (wrap64 (x2 * (wrap64 (x0 - 1))))).bind fun bt208 => (if bt208.2.2 = true then (if x8.length < 8796093022208 then (spec_seAngle.l0 k x0 x1 x2 (x8 ++ [(⟨bt208.1, bt208.2.1⟩ : S23)]) (wrap64 (x9 + 1))) else (none)) else (some (([] : List (S23)), false)))) else (some (x8, true))
def spec_seAngle.f (k : Nat) (a0 : Int) (a1 : Int) (a2 : Int) : Option ((List (S23)) × Bool) := spec_seAngle.l0 k a0 a1 a2 ([] : List (S23)) 0
theorem spec_seAngle.mono_l : ∀ k, (∀ y0 y1 y2 y3 y4, LeO (spec_seAngle.l0 k y0 y1 y2 y3 y4) (spec_seAngle.l0 (k + 1) y0 y1 y2 y3 y4))
 | 0 => fun _ _ _ _ _ r h => by simp [spec_seAngle.l0] at h
 | k + 1 => by
  have ih0 := spec_seAngle.mono_l k
  ·
   intro y0 y1 y2 y3 y4
   unfold spec_seAngle.l0
   repeat' first
   | (with_reducible exact ih0 _ _ _ _ _)
   | (with_reducible exact spec_diMake.mono _ _ _)
   | (with_reducible exact LeO.refl _)
   | (with_reducible exact LeO.none _)
   | (with_reducible refine LeO.ite ?_ ?_)
   | (with_reducible refine LeO.bind ?_ (fun _ => ?_))
   | exact ih0 _ _ _ _ _
   | exact spec_diMake.mono _ _ _
   | exact LeO.none _
   | refine LeO.ite ?_ ?_
   | refine LeO.bind ?_ (fun _ => ?_)
theorem spec_seAngle.mono : ∀ a0 a1 a2 k, LeO (spec_seAngle.f k a0 a1 a2) (spec_seAngle.f (k + 1) a0 a1 a2) := by
 intro a0 a1 a2 k
 have ih0 := spec_seAngle.mono_l k
 unfold spec_seAngle.f
 repeat' first
   | (with_reducible exact ih0 _ _ _ _ _)
   | (with_reducible exact spec_diMake.mono _ _ _)
   | (with_reducible exact LeO.refl _)
   | (with_reducible exact LeO.none _)
   | (with_reducible refine LeO.ite ?_ ?_)
   | (with_reducible refine LeO.bind ?_ (fun _ => ?_))
   | exact ih0 _ _ _ _ _
   | exact spec_diMake.mono _ _ _
   | exact LeO.none _
   | refine LeO.ite ?_ ?_
   | refine LeO.bind ?_ (fun _ => ?_)
set_option maxHeartbeats 8000000 in
set_option maxRecDepth 100000 in
theorem spec_seAngle.calls (k : Nat) (a0 : Int) (a1 : Int) (a2 : Int) (r1 : List (S23)) (r2 : Bool) (w : World) (h : spec_seAngle.f k a0 a1 a2 = some (r1, r2)) :
  Calls Try.prog 66 #[.int .i64 a0, .int .i64 a1, .int .i64 a2] w fun e w' => ∃ v0_ : Value, e = .returned (.tuple #[v0_, .bool r2]) ∧ Kd.R k23 23 w' w.heap.size (fun _ => True) v0_ r1 ∧ Below w.heap.size w w' := by
 have hu23 := Try.underlying23
 have HB := Aside0.mk (Below.refl w.heap.size w)
 have H : (spec_seAngle.l0 k a0 a1 a2 ([] : List (S23)) 0) = some (r1, r2) := h
 clear h
 have H' := Aside0.mk H
 clear H
 go_enter Try.func66, Try.ntmps66
 go_wp2
 go_loopg [8, 9] k (fun kq v8 v9 w' => ∃ (x8_1 : List (S23)) (x9_1 : Int), v9 = .int .i64 x9_1 ∧ Aside0 (spec_seAngle.l0 kq a0 a1 a2 x8_1 x9_1 = some (r1, r2)) ∧ Aside0 (kq ≤ k) ∧ Aside0 (Kd.R k23 23 w' w.heap.size (fun _ => True) v8 x8_1) ∧ Aside0 (Below w.heap.size w w'))
 case atStart => exact ⟨(([] : List (S23))), (0), (by first | rfl | (simp; done) | (simp [*]; done)), H', ⟨Nat.le_refl _⟩, ⟨by first | exact Kd.R_nil _ _ _ _ _ | exact Kd.N_nil _ _ _ _ _ | exact Kd.V_nil _ _ _ _ _ | exact Kd.Q_nil _ _ _ _ _ | exact Kd.S_nil _ _ _ _ _⟩, hb_ HB⟩
 case round =>
  clear H'
  obtain ⟨x8_1, x9_1, rfl, HA, HK1, HO_8, HB⟩ := hrel
  cases gk with
  | zero => exact absurd HA.out (by simp [spec_seAngle.l0])
  | succ k1 =>
   have H := HA.out
   clear HA
   simp only [spec_seAngle.l0] at H
   by_cases c4 : x9_1 < (wrap64 (a0 - 1))
   ·
    rw [if_pos c4] at H
    have c4b0 : decide (x9_1 < (wrap64 (a0 - 1))) = true := decide_eq_true c4
    clear c4
    replace H := Option.bind_eq_some_iff.mp H
    obtain ⟨⟨t208, t209, t210⟩, A50, H⟩ := H
    replace H : (if t210 = true then (if x8_1.length < 8796093022208 then (spec_seAngle.l0 k1 a0 a1 a2 (x8_1 ++ [(⟨t208, t209⟩ : S23)]) (wrap64 (x9_1 + 1))) else (none)) else (some (([] : List (S23)), false))) = some (r1, r2) := H
    have A5 := Aside0.mk A50
    clear A50
    by_cases c6 : t210 = true
    ·
     subst c6
     have H1 : (if x8_1.length < 8796093022208 then (spec_seAngle.l0 k1 a0 a1 a2 (x8_1 ++ [(⟨t208, t209⟩ : S23)]) (wrap64 (x9_1 + 1))) else (none)) = some (r1, r2) := by rw [if_pos rfl] at H; exact H
     clear H
     have H := H1
     clear H1
     by_cases c7 : x8_1.length < 8796093022208
     ·
      rw [if_pos c7] at H
      have LMc7 := Aside0.mk c7
      clear c7
      obtain ⟨y212, hy212⟩ : ∃ y_ : List (S23), y_ = (x8_1 ++ [(⟨t208, t209⟩ : S23)]) := ⟨_, rfl⟩
      replace H : (spec_seAngle.l0 k1 a0 a1 a2 y212 (wrap64 (x9_1 + 1))) = some (r1, r2) := by first | (rw [hy212]; with_reducible exact H) | (have H2_ := (Option.bind_some _ _).symm.trans H; rw [hy212]; with_reducible exact H2_) | (have H2_ := (Option.bind_some _ _).symm.trans H; with_reducible exact H2_) | with_reducible exact H | (rw [hy212]; exact H) | exact H
      have Ny212 := Aside0.mk hy212
      clear hy212
      as_aux_lemma =>
       have H' := Aside0.mk H
       clear H
       go_wp2_with (first | ((with_reducible refine gate_callee (f := 71) rfl ?_); refine gs_ (some 28) Try.func71 #[.int .i64 (wrap64 (a1 + (wrap64 (x9_1 * a2)))), .int .i64 (wrap64 (a2 * (wrap64 (a0 - 1))))] ?_; (with_reducible refine (spec_diMake.calls k1 (wrap64 (a1 + (wrap64 (x9_1 * a2)))) (wrap64 (a2 * (wrap64 (a0 - 1)))) t208 t209 true _ A5.out).mono ?_); rintro e w8 ⟨rfl, hb⟩; refine ⟨_, rfl, ?_⟩; replace HO_8 := hr_ HO_8 hb; replace HB := hs HB hb; (try clear hb); (try clear hb2); (try clear hk); (try clear hi)) | ((with_reducible refine gate_dst (N := 10) rfl ?_); refine be_ (N := 10) (cs := #[.int .i64 0, .int .i64 0]) (t := 23) ?_; intro gb211 hg w9 hbox hb; have BK211 := Aside0.mk (hbox); have GW211 := ge_ HB hg; have GE211 := ge_ HB hg; replace HO_8 := Aside0.mk (Kd.R_below (Kd.R_elderB (by (with_reducible repeat (first | apply Kd.R_alloc | apply Kd.R_drewN | apply Kd.R_drew)); exact HO_8.out) gb211 (Nat.le_of_eq hg.symm)) hb); replace HB := hs HB hb; clear hb hbox hg; have hcz10_0 := cz_ BK211 0 (.int .i64 0); have hcz10_1 := cz_ BK211 1 (.int .i64 0); have hfz10_0 := blk_frozen BK211.out 0; have hfz10_1 := blk_frozen BK211.out 1) | ((with_reducible refine gate_builtin (b := .append) (xs := #[.tmp 33, .tmp 35]) rfl ?_); at_builtin; refine Kd.R_append k23 (w0 := w) w.heap.size rfl (.tmp 33) (.tmp 35) 34 23 (.agg #[(.int .i64 0), (.int .i64 0)]) 16 rfl Try.underlying34 info23 rfl (by decide) (by omega) u8 x8_1 (⟨t208, t209⟩ : S23) [.int .i64 t208, .int .i64 t209] (fun k_ => k_ ≠ gb211) (fun _ => False) rfl (by first | (go_simp; done) | (go_simp; rfl)) ?aP (fun _ hk => hk.elim) ?aF ?aO ?aB ?aS ?aL ?_; (case aP => exact k23_mkM _ _ _ (⟨t208, t209⟩ : S23)); (case aB => exact (ho_ HB)); (case aF => exact (fun k_ hk => Kd.freshB (g := gb211) (o := .cells #[.int .i64 t208, .int .i64 t209] 23 (0, 0)) (by (with_reducible repeat (first | refine blk_drewN ?_ _ | refine blk_drew ?_ | refine blk_alloc ?_ _)); refine blk_put (cs := #[.int .i64 t208, .int .i64 0]) ?_ 1 _ rfl; (with_reducible repeat (first | refine blk_drewN ?_ _ | refine blk_drew ?_ | refine blk_alloc ?_ _)); refine blk_put (cs := #[.int .i64 0, .int .i64 0]) ?_ 0 _ rfl; (with_reducible repeat (first | refine blk_drewN ?_ _ | refine blk_drew ?_ | refine blk_alloc ?_ _)); exact BK211.out) k_ hk)); (case aO => exact (by (with_reducible repeat (first | apply Kd.R_alloc | apply Kd.R_drewN | apply Kd.R_drew)); exact Kd.R_mono (Kd.R_far (p := ⟨gb211, 1, none⟩) (Kd.R_far (p := ⟨gb211, 0, none⟩) (Kd.R_mono HO_8.out (fun k_ hk => (⟨hk, hk.2⟩ : _ ∧ k_ ≠ gb211))) (fun _ hk => hk.2) (.int .i64 t208)) (fun _ hk => hk.2) (.int .i64 t209)) (fun _ hk => hk.1.2))); (case aS => exact (bs_ HB)); (case aL => have := LMc7.out; omega); intro v213 w11 ho hb hg hat; rw [← Ny212.out] at ho; have n0_ := Aside0.mk (blk_grown (g := gb211) (o := .cells #[.int .i64 t208, .int .i64 t209] 23 (0, 0)) (by (with_reducible repeat (first | refine blk_drewN ?_ _ | refine blk_drew ?_ | refine blk_alloc ?_ _)); refine blk_put (cs := #[.int .i64 t208, .int .i64 0]) ?_ 1 _ rfl; (with_reducible repeat (first | refine blk_drewN ?_ _ | refine blk_drew ?_ | refine blk_alloc ?_ _)); refine blk_put (cs := #[.int .i64 0, .int .i64 0]) ?_ 0 _ rfl; (with_reducible repeat (first | refine blk_drewN ?_ _ | refine blk_drew ?_ | refine blk_alloc ?_ _)); exact BK211.out) hg (Kd.R_away HO_8.out (fun _ hk => hk.2))); have n1_ := Aside0.mk (hb); have n2_ := Aside0.mk (ho); clear BK211; clear HB; clear HO_8; have BK211 := n0_; have HB := n1_; have HO214 := n2_; clear n0_ n1_ n2_; clear ho hb hg hat))
       go_roundg k1
       case measure => have := HK1.out; omega
       case rel => exact ⟨(y212), (wrap64 (x9_1 + 1)), (by first | rfl | (simp; done) | (simp [*]; done)), H', ⟨by have := HK1.out; omega⟩, ⟨by (with_reducible repeat (first | apply Kd.R_alloc | apply Kd.R_drewN | apply Kd.R_drew)); exact Kd.R_mono HO214.out (fun _ hk => trivial)⟩, hb_ HB⟩
     ·
      rw [if_neg c7] at H
      exact absurd H (by simp)
    ·
     replace c6 := Bool.eq_false_iff.mpr c6
     subst c6
     have H1 : (some (([] : List (S23)), false)) = some (r1, r2) := by rw [if_neg (show ¬ (false = true) by decide)] at H; exact H
     clear H
     have H := H1
     clear H1
     as_aux_lemma =>
      simp only [Option.some.injEq, Prod.mk.injEq] at H
      obtain ⟨rfl, rfl⟩ := H
      go_wp2_with (first | ((with_reducible refine gate_callee (f := 71) rfl ?_); refine gs_ (some 28) Try.func71 #[.int .i64 (wrap64 (a1 + (wrap64 (x9_1 * a2)))), .int .i64 (wrap64 (a2 * (wrap64 (a0 - 1))))] ?_; (with_reducible refine (spec_diMake.calls k1 (wrap64 (a1 + (wrap64 (x9_1 * a2)))) (wrap64 (a2 * (wrap64 (a0 - 1)))) t208 t209 false _ A5.out).mono ?_); rintro e w12 ⟨rfl, hb⟩; refine ⟨_, rfl, ?_⟩; replace HO_8 := hr_ HO_8 hb; replace HB := hs HB hb; (try clear hb); (try clear hb2); (try clear hk); (try clear hi)) | ((with_reducible refine gate_dst (N := 10) rfl ?_); refine be_ (N := 10) (cs := #[.int .i64 0, .int .i64 0]) (t := 23) ?_; intro gb211 hg w13 hbox hb; have BK211 := Aside0.mk (hbox); have GW211 := ge_ HB hg; have GE211 := ge_ HB hg; replace HO_8 := Aside0.mk (Kd.R_below (Kd.R_elderB (by (with_reducible repeat (first | apply Kd.R_alloc | apply Kd.R_drewN | apply Kd.R_drew)); exact HO_8.out) gb211 (Nat.le_of_eq hg.symm)) hb); replace HB := hs HB hb; clear hb hbox hg; have hcz14_0 := cz_ BK211 0 (.int .i64 0); have hcz14_1 := cz_ BK211 1 (.int .i64 0); have hfz14_0 := blk_frozen BK211.out 0; have hfz14_1 := blk_frozen BK211.out 1))
      go_ret2
      exact ⟨_, by first | rfl | (simp [errW_none, errW_some] <;> rfl) | (simp [*, errW_none, errW_some] <;> rfl), by first | exact Kd.R_nil _ _ _ _ _ | exact Kd.N_nil _ _ _ _ _ | exact Kd.V_nil _ _ _ _ _ | exact Kd.Q_nil _ _ _ _ _ | exact Kd.S_nil _ _ _ _ _, (ho_ HB)⟩
   ·
    rw [if_neg c4] at H
    have c4b0 : decide (x9_1 < (wrap64 (a0 - 1))) = false := decide_eq_false c4
    clear c4
    as_aux_lemma =>
     simp only [Option.some.injEq, Prod.mk.injEq] at H
     obtain ⟨rfl, rfl⟩ := H
     go_wp2
     go_ret2
     exact ⟨_, by first | rfl | (simp [errW_none, errW_some] <;> rfl) | (simp [*, errW_none, errW_some] <;> rfl), by (with_reducible repeat (first | apply Kd.R_alloc | apply Kd.R_drewN | apply Kd.R_drew)); exact HO_8.out, (ho_ HB)⟩

/-! ### spec_TimesTurned: function 30 -/
def spec_TimesTurned.f (k : Nat) (a0 : Int) (a1_0 : Int) (a1_1 : Int) (a1_2 : Int) (a1_3 : Int) : Option ((List (S23)) × Bool) := (spec_seAsked.f k a0 a1_0 a1_1 a1_2 a1_3).bind fun t216 => (if t216 = true then ((spec_seApart.f k a1_0 a1_1 a1_2 a1_3).bind fun bt217 => ((spec_seAngle.f k a0 bt217.1 bt217.2).bind fun bt219 => (some (bt219.1, bt219.2)))) else (some (([] : List (S23)), false)))
theorem spec_TimesTurned.mono : ∀ a0 a1 a2 a3 a4 k, LeO (spec_TimesTurned.f k a0 a1 a2 a3 a4) (spec_TimesTurned.f (k + 1) a0 a1 a2 a3 a4) := by
 intro a0 a1 a2 a3 a4 k
 unfold spec_TimesTurned.f
 repeat' first
   | (with_reducible exact spec_seAngle.mono _ _ _ _)
   | (with_reducible exact spec_seApart.mono _ _ _ _ _)
   | (with_reducible exact spec_seAsked.mono _ _ _ _ _ _)
   | (with_reducible exact LeO.refl _)
   | (with_reducible exact LeO.none _)
   | (with_reducible refine LeO.ite ?_ ?_)
   | (with_reducible refine LeO.bind ?_ (fun _ => ?_))
   | exact spec_seAngle.mono _ _ _ _
   | exact spec_seApart.mono _ _ _ _ _
   | exact spec_seAsked.mono _ _ _ _ _ _
   | exact LeO.none _
   | refine LeO.ite ?_ ?_
   | refine LeO.bind ?_ (fun _ => ?_)
set_option maxHeartbeats 8000000 in
set_option maxRecDepth 100000 in
theorem spec_TimesTurned.calls (k : Nat) (a0 : Int) (a1_0 : Int) (a1_1 : Int) (a1_2 : Int) (a1_3 : Int) (r1 : List (S23)) (r2 : Bool) (w : World) (h : spec_TimesTurned.f k a0 a1_0 a1_1 a1_2 a1_3 = some (r1, r2)) :
  Calls Try.prog 30 #[.int .i64 a0, .agg #[.int .i64 a1_0, .int .i64 a1_1, .int .i64 a1_2, .int .i64 a1_3]] w fun e w' => ∃ v0_ : Value, e = .returned (.tuple #[v0_, .bool r2]) ∧ Kd.R k23 23 w' w.heap.size (fun _ => True) v0_ r1 ∧ Below w.heap.size w w' := by
 have hu25 := Try.underlying25
 have HB := Aside0.mk (Below.refl w.heap.size w)
 have H : ((spec_seAsked.f k a0 a1_0 a1_1 a1_2 a1_3).bind fun t216 => (if t216 = true then ((spec_seApart.f k a1_0 a1_1 a1_2 a1_3).bind fun bt217 => ((spec_seAngle.f k a0 bt217.1 bt217.2).bind fun bt219 => (some (bt219.1, bt219.2)))) else (some (([] : List (S23)), false)))) = some (r1, r2) := h
 clear h
 replace H := Option.bind_eq_some_iff.mp H
 obtain ⟨t216, A30, H⟩ := H
 replace H : (if t216 = true then ((spec_seApart.f k a1_0 a1_1 a1_2 a1_3).bind fun bt217 => ((spec_seAngle.f k a0 bt217.1 bt217.2).bind fun bt219 => (some (bt219.1, bt219.2)))) else (some (([] : List (S23)), false))) = some (r1, r2) := H
 have A3 := Aside0.mk A30
 clear A30
 by_cases c4 : t216 = true
 ·
  subst c4
  have H1 : ((spec_seApart.f k a1_0 a1_1 a1_2 a1_3).bind fun bt217 => ((spec_seAngle.f k a0 bt217.1 bt217.2).bind fun bt219 => (some (bt219.1, bt219.2)))) = some (r1, r2) := by rw [if_pos rfl] at H; exact H
  clear H
  have H := H1
  clear H1
  replace H := Option.bind_eq_some_iff.mp H
  obtain ⟨⟨t217, t218⟩, A50, H⟩ := H
  replace H : ((spec_seAngle.f k a0 t217 t218).bind fun bt219 => (some (bt219.1, bt219.2))) = some (r1, r2) := H
  have A5 := Aside0.mk A50
  clear A50
  replace H := Option.bind_eq_some_iff.mp H
  obtain ⟨⟨t219, t220⟩, A60, H⟩ := H
  replace H : (some (t219, t220)) = some (r1, r2) := H
  have A6 := Aside0.mk A60
  clear A60
  as_aux_lemma =>
   simp only [Option.some.injEq, Prod.mk.injEq] at H
   obtain ⟨rfl, rfl⟩ := H
   go_enter Try.func30, Try.ntmps30
   go_wp2_with (first | ((with_reducible refine gate_dst (N := 3) rfl ?_); refine be_ (N := 3) (cs := #[.int .i64 a1_0, .int .i64 a1_1, .int .i64 a1_2, .int .i64 a1_3]) (t := 25) ?_; intro gb215 hg w7 hbox hb; have BK215 := Aside0.mk (hbox); have GW215 := ge_ HB hg; have GE215 := ge_ HB hg; replace HB := hs HB hb; clear hb hbox hg; have hcz8_0 := cz_ BK215 0 (.int .i64 a1_0); have hcz8_1 := cz_ BK215 1 (.int .i64 a1_1); have hcz8_2 := cz_ BK215 2 (.int .i64 a1_2); have hcz8_3 := cz_ BK215 3 (.int .i64 a1_3); have hfz8_0 := blk_frozen BK215.out 0; have hfz8_1 := blk_frozen BK215.out 1; have hfz8_2 := blk_frozen BK215.out 2; have hfz8_3 := blk_frozen BK215.out 3) | ((with_reducible refine gate_callee (f := 61) rfl ?_); refine gs_ (some 10) Try.func61 #[.int .i64 a0, .agg #[.int .i64 a1_0, .int .i64 a1_1, .int .i64 a1_2, .int .i64 a1_3]] ?_; (with_reducible refine (spec_seAsked.calls k a0 a1_0 a1_1 a1_2 a1_3 true _ A3.out).mono ?_); rintro e w9 ⟨rfl, hb⟩; refine ⟨_, rfl, ?_⟩; replace BK215 := bb BK215 hb; replace HB := hs HB hb; (try clear hb); (try clear hb2); (try clear hk); (try clear hi); have hcz10_0 := cz_ BK215 0 (.int .i64 a1_0); have hcz10_1 := cz_ BK215 1 (.int .i64 a1_1); have hcz10_2 := cz_ BK215 2 (.int .i64 a1_2); have hcz10_3 := cz_ BK215 3 (.int .i64 a1_3); have hfz10_0 := blk_frozen BK215.out 0; have hfz10_1 := blk_frozen BK215.out 1; have hfz10_2 := blk_frozen BK215.out 2; have hfz10_3 := blk_frozen BK215.out 3) | ((with_reducible refine gate_callee (f := 65) rfl ?_); refine gs_ (some 14) Try.func65 #[.agg #[.int .i64 a1_0, .int .i64 a1_1, .int .i64 a1_2, .int .i64 a1_3]] ?_; (with_reducible refine (spec_seApart.calls k a1_0 a1_1 a1_2 a1_3 t217 t218 _ A5.out).mono ?_); rintro e w11 ⟨rfl, hb⟩; refine ⟨_, rfl, ?_⟩; replace BK215 := bb BK215 hb; replace HB := hs HB hb; (try clear hb); (try clear hb2); (try clear hk); (try clear hi)) | ((with_reducible refine gate_callee (f := 66) rfl ?_); refine gs_ (some 20) Try.func66 #[.int .i64 a0, .int .i64 t217, .int .i64 t218] ?_; (with_reducible refine (spec_seAngle.calls k a0 t217 t218 t219 t220 _ A6.out).mono ?_); rintro e w12 ⟨v221, rfl, ho0, hb⟩; refine ⟨_, rfl, ?_⟩; have HO222 := Aside0.mk (Kd.R_lower ho0 (bs_ HB)); replace BK215 := bb BK215 hb; replace HB := hs HB hb; (try clear hb); (try clear hb2); (try clear hk); (try clear hi); (try clear ho0)))
   go_ret2
   exact ⟨_, by first | rfl | (simp [errW_none, errW_some] <;> rfl) | (simp [*, errW_none, errW_some] <;> rfl), by (with_reducible repeat (first | apply Kd.R_alloc | apply Kd.R_drewN | apply Kd.R_drew)); exact HO222.out, (ho_ HB)⟩
 ·
  replace c4 := Bool.eq_false_iff.mpr c4
  subst c4
  have H1 : (some (([] : List (S23)), false)) = some (r1, r2) := by rw [if_neg (show ¬ (false = true) by decide)] at H; exact H
  clear H
  have H := H1
  clear H1
  as_aux_lemma =>
   simp only [Option.some.injEq, Prod.mk.injEq] at H
   obtain ⟨rfl, rfl⟩ := H
   go_enter Try.func30, Try.ntmps30
   go_wp2_with (first | ((with_reducible refine gate_dst (N := 3) rfl ?_); refine be_ (N := 3) (cs := #[.int .i64 a1_0, .int .i64 a1_1, .int .i64 a1_2, .int .i64 a1_3]) (t := 25) ?_; intro gb215 hg w13 hbox hb; have BK215 := Aside0.mk (hbox); have GW215 := ge_ HB hg; have GE215 := ge_ HB hg; replace HB := hs HB hb; clear hb hbox hg; have hcz14_0 := cz_ BK215 0 (.int .i64 a1_0); have hcz14_1 := cz_ BK215 1 (.int .i64 a1_1); have hcz14_2 := cz_ BK215 2 (.int .i64 a1_2); have hcz14_3 := cz_ BK215 3 (.int .i64 a1_3); have hfz14_0 := blk_frozen BK215.out 0; have hfz14_1 := blk_frozen BK215.out 1; have hfz14_2 := blk_frozen BK215.out 2; have hfz14_3 := blk_frozen BK215.out 3) | ((with_reducible refine gate_callee (f := 61) rfl ?_); refine gs_ (some 10) Try.func61 #[.int .i64 a0, .agg #[.int .i64 a1_0, .int .i64 a1_1, .int .i64 a1_2, .int .i64 a1_3]] ?_; (with_reducible refine (spec_seAsked.calls k a0 a1_0 a1_1 a1_2 a1_3 false _ A3.out).mono ?_); rintro e w15 ⟨rfl, hb⟩; refine ⟨_, rfl, ?_⟩; replace BK215 := bb BK215 hb; replace HB := hs HB hb; (try clear hb); (try clear hb2); (try clear hk); (try clear hi)))
   go_ret2
   exact ⟨_, by first | rfl | (simp [errW_none, errW_some] <;> rfl) | (simp [*, errW_none, errW_some] <;> rfl), by first | exact Kd.R_nil _ _ _ _ _ | exact Kd.N_nil _ _ _ _ _ | exact Kd.V_nil _ _ _ _ _ | exact Kd.Q_nil _ _ _ _ _ | exact Kd.S_nil _ _ _ _ _, (ho_ HB)⟩

end Go.Proofs.Ytkfcaldjepmffaa.GFnDialsTurnedOfAll
