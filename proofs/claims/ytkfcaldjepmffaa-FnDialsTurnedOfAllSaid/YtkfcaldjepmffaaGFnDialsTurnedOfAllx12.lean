-- Written by a program of this session (a copy of the kit's print program that takes contracts of one's own); Lean checks it.
import Derived.Test.YtkfcaldjepmffaaGFnDialsTurnedOfAllx0
import Derived.Test.YtkfcaldjepmffaaGFnDialsTurnedOfAllx11
namespace Go.Proofs.Ytkfcaldjepmffaa.GFnDialsTurnedOfAll
open Go.RowKit Go.Proofs.YtkfcaldjepmffaaW.PrintWords Go.Proofs.YtkfcaldjepmffaaW.PrintLast Go.Proofs.YtkfcaldjepmffaaW.PrintMore
attribute [local go_sem] max2_int min2_int max_two min_two max_three min_three max_four min_four   -- for this text's walks alone
set_option linter.unusedVariables false
set_option linter.unusedSimpArgs false

/-! ### spec_diCompare: function 82 -/
def spec_diCompare.f (a0_0 : Int) (a0_1 : Int) (a1_0 : Int) (a1_1 : Int) : Option (Int) := (spec_l1Sign.f (wrap64 ((wrap64 (a0_0 * a1_1)) - (wrap64 (a1_0 * a0_1))))).bind fun t356 => (some t356)
set_option maxHeartbeats 8000000 in
set_option maxRecDepth 100000 in
theorem spec_diCompare.calls (a0_0 : Int) (a0_1 : Int) (a1_0 : Int) (a1_1 : Int) (r : Int) (w : World) (h : spec_diCompare.f a0_0 a0_1 a1_0 a1_1 = some r) :
  Calls Try.prog 82 #[.agg #[.int .i64 a0_0, .int .i64 a0_1], .agg #[.int .i64 a1_0, .int .i64 a1_1]] w fun e w' => e = .returned (.int .i64 r) ∧ Below w.heap.size w w' := by
 have hu23 := Try.underlying23
 have HB := Aside0.mk (Below.refl w.heap.size w)
 have H : ((spec_l1Sign.f (wrap64 ((wrap64 (a0_0 * a1_1)) - (wrap64 (a1_0 * a0_1))))).bind fun t356 => (some t356)) = some r := h
 clear h
 replace H := Option.bind_eq_some_iff.mp H
 obtain ⟨t356, A30, H⟩ := H
 replace H : (some t356) = some r := H
 have A3 := Aside0.mk A30
 clear A30
 as_aux_lemma =>
  obtain rfl := Option.some.inj H
  go_enter Try.func82, Try.ntmps82
  go_wp2_with (first | ((with_reducible refine gate_dst (N := 2) rfl ?_); refine be_ (N := 2) (cs := #[.int .i64 a0_0, .int .i64 a0_1]) (t := 23) ?_; intro gb354 hg w4 hbox hb; have BK354 := Aside0.mk (hbox); have GW354 := ge_ HB hg; have GE354 := ge_ HB hg; replace HB := hs HB hb; clear hb hbox hg) | ((with_reducible refine gate_dst (N := 3) rfl ?_); refine be_ (N := 3) (cs := #[.int .i64 a1_0, .int .i64 a1_1]) (t := 23) ?_; intro gb355 hg w5 hbox hb; have BK355 := Aside0.mk (hbox); have GW355 := ge_ HB hg; have GE355 := ge_ HB hg; obtain ⟨NB354_355, NB355_354⟩ := nq_ BK354 hg; replace BK354 := bb BK354 hb; replace HB := hs HB hb; clear hb hbox hg; obtain ⟨hnb6, hnc6⟩ := nn_ NB354_355; have hcz7_0 := cz_ BK354 0 (.int .i64 a0_0); have hcz7_1 := cz_ BK354 1 (.int .i64 a0_1); have hfz7_0 := blk_frozen BK354.out 0; have hfz7_1 := blk_frozen BK354.out 1; have hcz8_0 := cz_ BK355 0 (.int .i64 a1_0); have hcz8_1 := cz_ BK355 1 (.int .i64 a1_1); have hfz8_0 := blk_frozen BK355.out 0; have hfz8_1 := blk_frozen BK355.out 1) | ((with_reducible refine gate_callee (f := 90) rfl ?_); refine gs_ (some 16) Try.func90 #[.int .i64 (wrap64 ((wrap64 (a0_0 * a1_1)) - (wrap64 (a1_0 * a0_1))))] ?_; (with_reducible refine (spec_l1Sign.calls (wrap64 ((wrap64 (a0_0 * a1_1)) - (wrap64 (a1_0 * a0_1)))) t356 _ A3.out).mono ?_); rintro e w' ⟨rfl, ⟨nd, rfl⟩⟩; refine ⟨_, rfl, ?_⟩))
  go_ret
  exact ⟨by first | rfl | (simp [errW_none, errW_some] <;> rfl) | (simp [*, errW_none, errW_some] <;> rfl), (ho_ HB)⟩

end Go.Proofs.Ytkfcaldjepmffaa.GFnDialsTurnedOfAll
