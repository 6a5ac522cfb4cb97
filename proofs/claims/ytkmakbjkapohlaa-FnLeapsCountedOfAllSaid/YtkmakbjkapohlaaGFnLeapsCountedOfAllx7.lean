import Derived.Test.YtkmakbjkapohlaaGFnLeapsCountedOfAllx6
namespace Go.Proofs.Ytkmakbjkapohlaa.GFnLeapsCountedOfAll
open Go.RowKit Go.Proofs.YtkmakbjkapohlaaW.PrintWords Go.Proofs.YtkmakbjkapohlaaW.PrintLast Go.Proofs.YtkmakbjkapohlaaW.PrintMore
attribute [local go_sem] max2_int min2_int max_two min_two max_three min_three max_four min_four   -- for this text's walks alone
set_option linter.unusedVariables false
set_option linter.unusedSimpArgs false

open laws_FnLeapsCountedOfAll
set_option maxHeartbeats 8000000 in
set_option maxRecDepth 100000 in
theorem laws_FnLeapsCountedOfAll.calls (k : Nat) (a0_0 : Int) (a0_1 : Int) (a0_2 : Int) (a1 : Int) (a2_0 : Int) (a2_1 : Int) (a2_2 : Int) (a3 : Int) (a4 : Int) (a5_0 : Int) (a5_1 : Int) (a5_2 : Int) (a6 : Int) (a7_0 : Int) (a7_1 : Int) (a7_2 : Int) (r : Bool) (w : World) (h : laws_FnLeapsCountedOfAll.f k a0_0 a0_1 a0_2 a1 a2_0 a2_1 a2_2 a3 a4 a5_0 a5_1 a5_2 a6 a7_0 a7_1 a7_2 = some r) :
  Calls Try.prog 5 #[.agg #[.int .i64 a0_0, .int .i64 a0_1, .int .i64 a0_2], .int .i64 a1, .agg #[.int .i64 a2_0, .int .i64 a2_1, .int .i64 a2_2], .int .i64 a3, .int .i64 a4, .agg #[.int .i64 a5_0, .int .i64 a5_1, .int .i64 a5_2], .int .i64 a6, .agg #[.int .i64 a7_0, .int .i64 a7_1, .int .i64 a7_2]] w fun e w' => e = .returned (.bool r) ∧ Below w.heap.size w w' := by
 have hu26 := Try.underlying26
 have HB := Aside0.mk (Below.refl w.heap.size w)
 have H : ((impl_IsLeapYear.f a0_0 a0_1 a0_2 a1).bind fun bt203 => ((spec_IsLeapYear.f k a0_0 a0_1 a0_2 a1).bind fun bt205 => ((impl_DaysUpTo.f a0_0 a0_1 a0_2 a1).bind fun bt207 => ((spec_DaysUpTo.f k a0_0 a0_1 a0_2 a1).bind fun bt209 => ((impl_WeekdayOf.f a0_0 a0_1 a0_2 a1).bind fun bt211 => ((spec_WeekdayOf.f k a0_0 a0_1 a0_2 a1).bind fun bt213 => ((impl_NextLeap.f k a0_0 a0_1 a0_2 a1).bind fun bt215 => ((spec_NextLeap.f k a0_0 a0_1 a0_2 a1).bind fun bt217 => (if (bt203.2 != bt205.2) = true then (none) else (if (bt203.1 != bt205.1) = true then (none) else (if (bt207.2 != bt209.2) = true then (none) else (if bt207.1 = bt209.1 then (if (bt211.2 != bt213.2) = true then (none) else (if bt211.1 = bt213.1 then (if (bt215.2 != bt217.2) = true then (none) else (if bt215.1 = bt217.1 then (if (bt207.2 != bt203.2) = true then (none) else (if (bt211.2 != bt203.2) = true then (none) else (if bt215.2 = true then (if bt203.2 = true then ((impl_IsLeapRule.f a0_0 a0_1 a0_2).bind fun t219 => ((spec_IsLeapRule.f k a0_0 a0_1 a0_2).bind fun t220 => (if (t219 != t220) = true then (none) else ((impl_IsLeapRule.f a0_0 a0_1 a0_2).bind fun t221 => (j0 k a1 a3 a4 a6 bt203.1 bt203.2 bt207.1 bt211.1 bt215.1 bt215.2 (!t221) a0_0 a0_1 a0_2 a2_0 a2_1 a2_2 a5_0 a5_1 a5_2 a7_0 a7_1 a7_2))))) else (none)) else ((impl_IsLeapRule.f a0_0 a0_1 a0_2).bind fun t222 => ((spec_IsLeapRule.f k a0_0 a0_1 a0_2).bind fun t223 => (if (t222 != t223) = true then (none) else (if bt203.2 = true then ((impl_IsLeapRule.f a0_0 a0_1 a0_2).bind fun t224 => (j0 k a1 a3 a4 a6 bt203.1 bt203.2 bt207.1 bt211.1 bt215.1 bt215.2 (!t224) a0_0 a0_1 a0_2 a2_0 a2_1 a2_2 a5_0 a5_1 a5_2 a7_0 a7_1 a7_2)) else (j0 k a1 a3 a4 a6 bt203.1 bt203.2 bt207.1 bt211.1 bt215.1 bt215.2 false a0_0 a0_1 a0_2 a2_0 a2_1 a2_2 a5_0 a5_1 a5_2 a7_0 a7_1 a7_2)))))))) else (none))) else (none))) else (none))))))))))))) = some r := h
 clear h
 replace H := Option.bind_eq_some_iff.mp H
 obtain ⟨⟨t203, t204⟩, A90, H⟩ := H
 try dsimp only at H
 have A9 := Aside0.mk A90
 clear A90
 replace H := Option.bind_eq_some_iff.mp H
 obtain ⟨⟨t205, t206⟩, A100, H⟩ := H
 try dsimp only at H
 have A10 := Aside0.mk A100
 clear A100
 replace H := Option.bind_eq_some_iff.mp H
 obtain ⟨⟨t207, t208⟩, A110, H⟩ := H
 try dsimp only at H
 have A11 := Aside0.mk A110
 clear A110
 replace H := Option.bind_eq_some_iff.mp H
 obtain ⟨⟨t209, t210⟩, A120, H⟩ := H
 try dsimp only at H
 have A12 := Aside0.mk A120
 clear A120
 replace H := Option.bind_eq_some_iff.mp H
 obtain ⟨⟨t211, t212⟩, A130, H⟩ := H
 try dsimp only at H
 have A13 := Aside0.mk A130
 clear A130
 replace H := Option.bind_eq_some_iff.mp H
 obtain ⟨⟨t213, t214⟩, A140, H⟩ := H
 try dsimp only at H
 have A14 := Aside0.mk A140
 clear A140
 replace H := Option.bind_eq_some_iff.mp H
 obtain ⟨⟨t215, t216⟩, A150, H⟩ := H
 try dsimp only at H
 have A15 := Aside0.mk A150
 clear A150
 replace H := Option.bind_eq_some_iff.mp H
 obtain ⟨⟨t217, t218⟩, A160, H⟩ := H
 try dsimp only at H
 have A16 := Aside0.mk A160
 clear A160
 have HC17 := Aside0.mk H
 clear H
 go_enter Try.func5, Try.ntmps5
 go_upto_region 9 with (first | ((with_reducible refine gate_dst (N := 8) rfl ?_); refine box_event ?hg (N := 8) ?hd (cs := #[.int .i64 a0_0, .int .i64 a0_1, .int .i64 a0_2]) (t := 26) ?hr ?_; (case hd => rfl); (case hg => rfl); (case hr => first | (go_simp; done) | (go_simp; rfl)); intro gb199 hg w18 hbox hb; have n0_ := Aside0.mk (below_step (by repeat (first | (with_reducible first | exact HB.out | apply below_alloc | apply pw_below_drewN | apply below_drew1) | exact HB.out)) hb); have n1_ := Aside0.mk (hbox); have n2_ := Aside0.mk ((by rw [hg]; exact (below_size (by repeat (first | (with_reducible first | exact HB.out | apply below_alloc | apply pw_below_drewN | apply below_drew1) | exact HB.out))) : w.heap.size ≤ gb199)); have n3_ := Aside0.mk ((by rw [hg]; exact (below_size (by repeat (first | (with_reducible first | exact HB.out | apply below_alloc | apply pw_below_drewN | apply below_drew1) | exact HB.out))) : w.heap.size ≤ gb199)); clear HB; have HB := n0_; have BK199 := n1_; have GW199 := n2_; have GE199 := n3_; clear n0_ n1_ n2_ n3_; clear hb hbox hg) | ((with_reducible refine gate_dst (N := 10) rfl ?_); refine box_event ?hg (N := 10) ?hd (cs := #[.int .i64 a2_0, .int .i64 a2_1, .int .i64 a2_2]) (t := 26) ?hr ?_; (case hd => rfl); (case hg => rfl); (case hr => first | (go_simp; done) | (go_simp; rfl)); intro gb200 hg w19 hbox hb; have n0_ := Aside0.mk (blk_below (g := gb199) (by (with_reducible repeat (first | refine blk_drewN ?_ _ | refine blk_drew ?_ | refine blk_alloc ?_ _)); exact BK199.out) hb); have n1_ := Aside0.mk (below_step (by repeat (first | (with_reducible first | exact HB.out | apply below_alloc | apply pw_below_drewN | apply below_drew1 | refine below_set ?_ GE199.out) | exact HB.out)) hb); have n2_ := Aside0.mk (hbox); have n3_ := Aside0.mk ((by rw [hg]; exact (below_size (by repeat (first | (with_reducible first | exact HB.out | apply below_alloc | apply pw_below_drewN | apply below_drew1 | refine below_set ?_ GE199.out) | exact HB.out))) : w.heap.size ≤ gb200)); have n4_ := Aside0.mk ((by rw [hg]; exact (below_size (by repeat (first | (with_reducible first | exact HB.out | apply below_alloc | apply pw_below_drewN | apply below_drew1 | refine below_set ?_ GE199.out) | exact HB.out))) : w.heap.size ≤ gb200)); have n5_ := Aside0.mk ((by rw [hg]; exact Nat.ne_of_lt (blk_lt (g := gb199) (by (with_reducible repeat (first | refine blk_drewN ?_ _ | refine blk_drew ?_ | refine blk_alloc ?_ _)); exact BK199.out)) : gb199 ≠ gb200)); have n6_ := Aside0.mk ((by rw [hg]; exact Nat.ne_of_gt (blk_lt (g := gb199) (by (with_reducible repeat (first | refine blk_drewN ?_ _ | refine blk_drew ?_ | refine blk_alloc ?_ _)); exact BK199.out)) : gb200 ≠ gb199)); clear BK199; clear HB; have BK199 := n0_; have HB := n1_; have BK200 := n2_; have GW200 := n3_; have GE200 := n4_; have NB199_200 := n5_; have NB200_199 := n6_; clear n0_ n1_ n2_ n3_ n4_ n5_ n6_; clear hb hbox hg) | ((with_reducible refine gate_dst (N := 13) rfl ?_); refine box_event ?hg (N := 13) ?hd (cs := #[.int .i64 a5_0, .int .i64 a5_1, .int .i64 a5_2]) (t := 26) ?hr ?_; (case hd => rfl); (case hg => rfl); (case hr => first | (go_simp; done) | (go_simp; rfl)); intro gb201 hg w20 hbox hb; have n0_ := Aside0.mk (blk_below (g := gb199) (by (with_reducible repeat (first | refine blk_drewN ?_ _ | refine blk_drew ?_ | refine blk_alloc ?_ _)); exact BK199.out) hb); have n1_ := Aside0.mk (blk_below (g := gb200) (by (with_reducible repeat (first | refine blk_drewN ?_ _ | refine blk_drew ?_ | refine blk_alloc ?_ _)); exact BK200.out) hb); have n2_ := Aside0.mk (below_step (by repeat (first | (with_reducible first | exact HB.out | apply below_alloc | apply pw_below_drewN | apply below_drew1 | refine below_set ?_ GE199.out | refine below_set ?_ GE200.out) | exact HB.out)) hb); have n3_ := Aside0.mk (hbox); have n4_ := Aside0.mk ((by rw [hg]; exact (below_size (by repeat (first | (with_reducible first | exact HB.out | apply below_alloc | apply pw_below_drewN | apply below_drew1 | refine below_set ?_ GE199.out | refine below_set ?_ GE200.out) | exact HB.out))) : w.heap.size ≤ gb201)); have n5_ := Aside0.mk ((by rw [hg]; exact (below_size (by repeat (first | (with_reducible first | exact HB.out | apply below_alloc | apply pw_below_drewN | apply below_drew1 | refine below_set ?_ GE199.out | refine below_set ?_ GE200.out) | exact HB.out))) : w.heap.size ≤ gb201)); have n6_ := Aside0.mk ((by rw [hg]; exact Nat.ne_of_lt (blk_lt (g := gb199) (by (with_reducible repeat (first | refine blk_drewN ?_ _ | refine blk_drew ?_ | refine blk_alloc ?_ _)); exact BK199.out)) : gb199 ≠ gb201)); have n7_ := Aside0.mk ((by rw [hg]; exact Nat.ne_of_gt (blk_lt (g := gb199) (by (with_reducible repeat (first | refine blk_drewN ?_ _ | refine blk_drew ?_ | refine blk_alloc ?_ _)); exact BK199.out)) : gb201 ≠ gb199)); have n8_ := Aside0.mk ((by rw [hg]; exact Nat.ne_of_lt (blk_lt (g := gb200) (by (with_reducible repeat (first | refine blk_drewN ?_ _ | refine blk_drew ?_ | refine blk_alloc ?_ _)); exact BK200.out)) : gb200 ≠ gb201)); have n9_ := Aside0.mk ((by rw [hg]; exact Nat.ne_of_gt (blk_lt (g := gb200) (by (with_reducible repeat (first | refine blk_drewN ?_ _ | refine blk_drew ?_ | refine blk_alloc ?_ _)); exact BK200.out)) : gb201 ≠ gb200)); clear BK199; clear BK200; clear HB; have BK199 := n0_; have BK200 := n1_; have HB := n2_; have BK201 := n3_; have GW201 := n4_; have GE201 := n5_; have NB199_201 := n6_; have NB201_199 := n7_; have NB200_201 := n8_; have NB201_200 := n9_; clear n0_ n1_ n2_ n3_ n4_ n5_ n6_ n7_ n8_ n9_; clear hb hbox hg) | ((with_reducible refine gate_dst (N := 15) rfl ?_); refine box_event ?hg (N := 15) ?hd (cs := #[.int .i64 a7_0, .int .i64 a7_1, .int .i64 a7_2]) (t := 26) ?hr ?_; (case hd => rfl); (case hg => rfl); (case hr => first | (go_simp; done) | (go_simp; rfl)); intro gb202 hg w21 hbox hb; have n0_ := Aside0.mk (blk_below (g := gb199) (by (with_reducible repeat (first | refine blk_drewN ?_ _ | refine blk_drew ?_ | refine blk_alloc ?_ _)); exact BK199.out) hb); have n1_ := Aside0.mk (blk_below (g := gb200) (by (with_reducible repeat (first | refine blk_drewN ?_ _ | refine blk_drew ?_ | refine blk_alloc ?_ _)); exact BK200.out) hb); have n2_ := Aside0.mk (blk_below (g := gb201) (by (with_reducible repeat (first | refine blk_drewN ?_ _ | refine blk_drew ?_ | refine blk_alloc ?_ _)); exact BK201.out) hb); have n3_ := Aside0.mk (below_step (by repeat (first | (with_reducible first | exact HB.out | apply below_alloc | apply pw_below_drewN | apply below_drew1 | refine below_set ?_ GE199.out | refine below_set ?_ GE200.out | refine below_set ?_ GE201.out) | exact HB.out)) hb); have n4_ := Aside0.mk (hbox); have n5_ := Aside0.mk ((by rw [hg]; exact (below_size (by repeat (first | (with_reducible first | exact HB.out | apply below_alloc | apply pw_below_drewN | apply below_drew1 | refine below_set ?_ GE199.out | refine below_set ?_ GE200.out | refine below_set ?_ GE201.out) | exact HB.out))) : w.heap.size ≤ gb202)); have n6_ := Aside0.mk ((by rw [hg]; exact (below_size (by repeat (first | (with_reducible first | exact HB.out | apply below_alloc | apply pw_below_drewN | apply below_drew1 | refine below_set ?_ GE199.out | refine below_set ?_ GE200.out | refine below_set ?_ GE201.out) | exact HB.out))) : w.heap.size ≤ gb202)); have n7_ := Aside0.mk ((by rw [hg]; exact Nat.ne_of_lt (blk_lt (g := gb199) (by (with_reducible repeat (first | refine blk_drewN ?_ _ | refine blk_drew ?_ | refine blk_alloc ?_ _)); exact BK199.out)) : gb199 ≠ gb202)); have n8_ := Aside0.mk ((by rw [hg]; exact Nat.ne_of_gt (blk_lt (g := gb199) (by (with_reducible repeat (first | refine blk_drewN ?_ _ | refine blk_drew ?_ | refine blk_alloc ?_ _)); exact BK199.out)) : gb202 ≠ gb199)); have n9_ := Aside0.mk ((by rw [hg]; exact Nat.ne_of_lt (blk_lt (g := gb200) (by (with_reducible repeat (first | refine blk_drewN ?_ _ | refine blk_drew ?_ | refine blk_alloc ?_ _)); exact BK200.out)) : gb200 ≠ gb202)); have n10_ := Aside0.mk ((by rw [hg]; exact Nat.ne_of_gt (blk_lt (g := gb200) (by (with_reducible repeat (first | refine blk_drewN ?_ _ | refine blk_drew ?_ | refine blk_alloc ?_ _)); exact BK200.out)) : gb202 ≠ gb200)); have n11_ := Aside0.mk ((by rw [hg]; exact Nat.ne_of_lt (blk_lt (g := gb201) (by (with_reducible repeat (first | refine blk_drewN ?_ _ | refine blk_drew ?_ | refine blk_alloc ?_ _)); exact BK201.out)) : gb201 ≠ gb202)); have n12_ := Aside0.mk ((by rw [hg]; exact Nat.ne_of_gt (blk_lt (g := gb201) (by (with_reducible repeat (first | refine blk_drewN ?_ _ | refine blk_drew ?_ | refine blk_alloc ?_ _)); exact BK201.out)) : gb202 ≠ gb201)); clear BK199; clear BK200; clear BK201; clear HB; have BK199 := n0_; have BK200 := n1_; have BK201 := n2_; have HB := n3_; have BK202 := n4_; have GW202 := n5_; have GE202 := n6_; have NB199_202 := n7_; have NB202_199 := n8_; have NB200_202 := n9_; have NB202_200 := n10_; have NB201_202 := n11_; have NB202_201 := n12_; clear n0_ n1_ n2_ n3_ n4_ n5_ n6_ n7_ n8_ n9_ n10_ n11_ n12_; clear hb hbox hg; have hnb22 := NB199_200.out; have hnc22 := NB200_199.out; have hnb23 := NB199_201.out; have hnc23 := NB201_199.out; have hnb24 := NB199_202.out; have hnc24 := NB202_199.out; have hcz25_0 : w21.cell? ⟨gb199, 0, none⟩ = some (.int .i64 a0_0) := (blk_cell BK199.out 0).trans rfl; have hcz25_1 : w21.cell? ⟨gb199, 1, none⟩ = some (.int .i64 a0_1) := (blk_cell BK199.out 1).trans rfl; have hcz25_2 : w21.cell? ⟨gb199, 2, none⟩ = some (.int .i64 a0_2) := (blk_cell BK199.out 2).trans rfl; have hfz25_0 := blk_frozen BK199.out 0; have hfz25_1 := blk_frozen BK199.out 1; have hfz25_2 := blk_frozen BK199.out 2) | ((with_reducible refine gate_callee (f := 16) rfl ?_); refine goesL_ (some 79) rfl rfl Try.func16 (by kernel_rfl) rfl #[.agg #[.int .i64 a0_0, .int .i64 a0_1, .int .i64 a0_2], .int .i64 a1] rfl (by (try simp only [List.map_toArray, List.map_cons, List.map_nil]); first | done | rfl | (simp only [List.length_drop, List.length_take]; rfl)) ?_; (with_reducible refine (impl_IsLeapYear.calls a0_0 a0_1 a0_2 a1 t203 t204 _ A9.out).mono ?_); rintro e w26 ⟨rfl, hb⟩; refine ⟨_, rfl, ?_⟩; have n0_ := Aside0.mk (blk_below (g := gb199) (by (with_reducible repeat (first | refine blk_drewN ?_ _ | refine blk_drew ?_ | refine blk_alloc ?_ _)); exact BK199.out) hb); have n1_ := Aside0.mk (blk_below (g := gb200) (by (with_reducible repeat (first | refine blk_drewN ?_ _ | refine blk_drew ?_ | refine blk_alloc ?_ _)); exact BK200.out) hb); have n2_ := Aside0.mk (blk_below (g := gb201) (by (with_reducible repeat (first | refine blk_drewN ?_ _ | refine blk_drew ?_ | refine blk_alloc ?_ _)); exact BK201.out) hb); have n3_ := Aside0.mk (blk_below (g := gb202) (by (with_reducible repeat (first | refine blk_drewN ?_ _ | refine blk_drew ?_ | refine blk_alloc ?_ _)); exact BK202.out) hb); have n4_ := Aside0.mk (below_step (by repeat (first | (with_reducible first | exact HB.out | apply below_alloc | apply pw_below_drewN | apply below_drew1 | refine below_set ?_ GE199.out | refine below_set ?_ GE200.out | refine below_set ?_ GE201.out | refine below_set ?_ GE202.out) | exact HB.out)) hb); clear BK199; clear BK200; clear BK201; clear BK202; clear HB; have BK199 := n0_; have BK200 := n1_; have BK201 := n2_; have BK202 := n3_; have HB := n4_; clear n0_ n1_ n2_ n3_ n4_; (try clear hb); (try clear hb2); (try clear hk); (try clear hi); have hcz27_0 : w26.cell? ⟨gb199, 0, none⟩ = some (.int .i64 a0_0) := (blk_cell BK199.out 0).trans rfl; have hcz27_1 : w26.cell? ⟨gb199, 1, none⟩ = some (.int .i64 a0_1) := (blk_cell BK199.out 1).trans rfl; have hcz27_2 : w26.cell? ⟨gb199, 2, none⟩ = some (.int .i64 a0_2) := (blk_cell BK199.out 2).trans rfl; have hfz27_0 := blk_frozen BK199.out 0; have hfz27_1 := blk_frozen BK199.out 1; have hfz27_2 := blk_frozen BK199.out 2) | ((with_reducible refine gate_callee (f := 17) rfl ?_); refine goesL_ (some 85) rfl rfl Try.func17 (by kernel_rfl) rfl #[.agg #[.int .i64 a0_0, .int .i64 a0_1, .int .i64 a0_2], .int .i64 a1] rfl (by (try simp only [List.map_toArray, List.map_cons, List.map_nil]); first | done | rfl | (simp only [List.length_drop, List.length_take]; rfl)) ?_; (with_reducible refine (spec_IsLeapYear.calls k a0_0 a0_1 a0_2 a1 t205 t206 _ A10.out).mono ?_); rintro e w28 ⟨rfl, hb⟩; refine ⟨_, rfl, ?_⟩; have n0_ := Aside0.mk (blk_below (g := gb199) (by (with_reducible repeat (first | refine blk_drewN ?_ _ | refine blk_drew ?_ | refine blk_alloc ?_ _)); exact BK199.out) hb); have n1_ := Aside0.mk (blk_below (g := gb200) (by (with_reducible repeat (first | refine blk_drewN ?_ _ | refine blk_drew ?_ | refine blk_alloc ?_ _)); exact BK200.out) hb); have n2_ := Aside0.mk (blk_below (g := gb201) (by (with_reducible repeat (first | refine blk_drewN ?_ _ | refine blk_drew ?_ | refine blk_alloc ?_ _)); exact BK201.out) hb); have n3_ := Aside0.mk (blk_below (g := gb202) (by (with_reducible repeat (first | refine blk_drewN ?_ _ | refine blk_drew ?_ | refine blk_alloc ?_ _)); exact BK202.out) hb); have n4_ := Aside0.mk (below_step (by repeat (first | (with_reducible first | exact HB.out | apply below_alloc | apply pw_below_drewN | apply below_drew1 | refine below_set ?_ GE199.out | refine below_set ?_ GE200.out | refine below_set ?_ GE201.out | refine below_set ?_ GE202.out) | exact HB.out)) hb); clear BK199; clear BK200; clear BK201; clear BK202; clear HB; have BK199 := n0_; have BK200 := n1_; have BK201 := n2_; have BK202 := n3_; have HB := n4_; clear n0_ n1_ n2_ n3_ n4_; (try clear hb); (try clear hb2); (try clear hk); (try clear hi); have hcz29_0 : w28.cell? ⟨gb199, 0, none⟩ = some (.int .i64 a0_0) := (blk_cell BK199.out 0).trans rfl; have hcz29_1 : w28.cell? ⟨gb199, 1, none⟩ = some (.int .i64 a0_1) := (blk_cell BK199.out 1).trans rfl; have hcz29_2 : w28.cell? ⟨gb199, 2, none⟩ = some (.int .i64 a0_2) := (blk_cell BK199.out 2).trans rfl; have hfz29_0 := blk_frozen BK199.out 0; have hfz29_1 := blk_frozen BK199.out 1; have hfz29_2 := blk_frozen BK199.out 2) | ((with_reducible refine gate_callee (f := 18) rfl ?_); refine goesL_ (some 91) rfl rfl Try.func18 (by kernel_rfl) rfl #[.agg #[.int .i64 a0_0, .int .i64 a0_1, .int .i64 a0_2], .int .i64 a1] rfl (by (try simp only [List.map_toArray, List.map_cons, List.map_nil]); first | done | rfl | (simp only [List.length_drop, List.length_take]; rfl)) ?_; (with_reducible refine (impl_DaysUpTo.calls a0_0 a0_1 a0_2 a1 t207 t208 _ A11.out).mono ?_); rintro e w30 ⟨rfl, hb⟩; refine ⟨_, rfl, ?_⟩; have n0_ := Aside0.mk (blk_below (g := gb199) (by (with_reducible repeat (first | refine blk_drewN ?_ _ | refine blk_drew ?_ | refine blk_alloc ?_ _)); exact BK199.out) hb); have n1_ := Aside0.mk (blk_below (g := gb200) (by (with_reducible repeat (first | refine blk_drewN ?_ _ | refine blk_drew ?_ | refine blk_alloc ?_ _)); exact BK200.out) hb); have n2_ := Aside0.mk (blk_below (g := gb201) (by (with_reducible repeat (first | refine blk_drewN ?_ _ | refine blk_drew ?_ | refine blk_alloc ?_ _)); exact BK201.out) hb); have n3_ := Aside0.mk (blk_below (g := gb202) (by (with_reducible repeat (first | refine blk_drewN ?_ _ | refine blk_drew ?_ | refine blk_alloc ?_ _)); exact BK202.out) hb); have n4_ := Aside0.mk (below_step (by repeat (first | (with_reducible first | exact HB.out | apply below_alloc | apply pw_below_drewN | apply below_drew1 | refine below_set ?_ GE199.out | refine below_set ?_ GE200.out | refine below_set ?_ GE201.out | refine below_set ?_ GE202.out) | exact HB.out)) hb); clear BK199; clear BK200; clear BK201; clear BK202; clear HB; have BK199 := n0_; have BK200 := n1_; have BK201 := n2_; have BK202 := n3_; have HB := n4_; clear n0_ n1_ n2_ n3_ n4_; (try clear hb); (try clear hb2); (try clear hk); (try clear hi); have hcz31_0 : w30.cell? ⟨gb199, 0, none⟩ = some (.int .i64 a0_0) := (blk_cell BK199.out 0).trans rfl; have hcz31_1 : w30.cell? ⟨gb199, 1, none⟩ = some (.int .i64 a0_1) := (blk_cell BK199.out 1).trans rfl; have hcz31_2 : w30.cell? ⟨gb199, 2, none⟩ = some (.int .i64 a0_2) := (blk_cell BK199.out 2).trans rfl; have hfz31_0 := blk_frozen BK199.out 0; have hfz31_1 := blk_frozen BK199.out 1; have hfz31_2 := blk_frozen BK199.out 2) | ((with_reducible refine gate_callee (f := 19) rfl ?_); refine goesL_ (some 97) rfl rfl Try.func19 (by kernel_rfl) rfl #[.agg #[.int .i64 a0_0, .int .i64 a0_1, .int .i64 a0_2], .int .i64 a1] rfl (by (try simp only [List.map_toArray, List.map_cons, List.map_nil]); first | done | rfl | (simp only [List.length_drop, List.length_take]; rfl)) ?_; (with_reducible refine (spec_DaysUpTo.calls k a0_0 a0_1 a0_2 a1 t209 t210 _ A12.out).mono ?_); rintro e w32 ⟨rfl, hb⟩; refine ⟨_, rfl, ?_⟩; have n0_ := Aside0.mk (blk_below (g := gb199) (by (with_reducible repeat (first | refine blk_drewN ?_ _ | refine blk_drew ?_ | refine blk_alloc ?_ _)); exact BK199.out) hb); have n1_ := Aside0.mk (blk_below (g := gb200) (by (with_reducible repeat (first | refine blk_drewN ?_ _ | refine blk_drew ?_ | refine blk_alloc ?_ _)); exact BK200.out) hb); have n2_ := Aside0.mk (blk_below (g := gb201) (by (with_reducible repeat (first | refine blk_drewN ?_ _ | refine blk_drew ?_ | refine blk_alloc ?_ _)); exact BK201.out) hb); have n3_ := Aside0.mk (blk_below (g := gb202) (by (with_reducible repeat (first | refine blk_drewN ?_ _ | refine blk_drew ?_ | refine blk_alloc ?_ _)); exact BK202.out) hb); have n4_ := Aside0.mk (below_step (by repeat (first | (with_reducible first | exact HB.out | apply below_alloc | apply pw_below_drewN | apply below_drew1 | refine below_set ?_ GE199.out | refine below_set ?_ GE200.out | refine below_set ?_ GE201.out | refine below_set ?_ GE202.out) | exact HB.out)) hb); clear BK199; clear BK200; clear BK201; clear BK202; clear HB; have BK199 := n0_; have BK200 := n1_; have BK201 := n2_; have BK202 := n3_; have HB := n4_; clear n0_ n1_ n2_ n3_ n4_; (try clear hb); (try clear hb2); (try clear hk); (try clear hi); have hcz33_0 : w32.cell? ⟨gb199, 0, none⟩ = some (.int .i64 a0_0) := (blk_cell BK199.out 0).trans rfl; have hcz33_1 : w32.cell? ⟨gb199, 1, none⟩ = some (.int .i64 a0_1) := (blk_cell BK199.out 1).trans rfl; have hcz33_2 : w32.cell? ⟨gb199, 2, none⟩ = some (.int .i64 a0_2) := (blk_cell BK199.out 2).trans rfl; have hfz33_0 := blk_frozen BK199.out 0; have hfz33_1 := blk_frozen BK199.out 1; have hfz33_2 := blk_frozen BK199.out 2) | ((with_reducible refine gate_callee (f := 20) rfl ?_); refine goesL_ (some 103) rfl rfl Try.func20 (by kernel_rfl) rfl #[.agg #[.int .i64 a0_0, .int .i64 a0_1, .int .i64 a0_2], .int .i64 a1] rfl (by (try simp only [List.map_toArray, List.map_cons, List.map_nil]); first | done | rfl | (simp only [List.length_drop, List.length_take]; rfl)) ?_; (with_reducible refine (impl_WeekdayOf.calls a0_0 a0_1 a0_2 a1 t211 t212 _ A13.out).mono ?_); rintro e w34 ⟨rfl, hb⟩; refine ⟨_, rfl, ?_⟩; have n0_ := Aside0.mk (blk_below (g := gb199) (by (with_reducible repeat (first | refine blk_drewN ?_ _ | refine blk_drew ?_ | refine blk_alloc ?_ _)); exact BK199.out) hb); have n1_ := Aside0.mk (blk_below (g := gb200) (by (with_reducible repeat (first | refine blk_drewN ?_ _ | refine blk_drew ?_ | refine blk_alloc ?_ _)); exact BK200.out) hb); have n2_ := Aside0.mk (blk_below (g := gb201) (by (with_reducible repeat (first | refine blk_drewN ?_ _ | refine blk_drew ?_ | refine blk_alloc ?_ _)); exact BK201.out) hb); have n3_ := Aside0.mk (blk_below (g := gb202) (by (with_reducible repeat (first | refine blk_drewN ?_ _ | refine blk_drew ?_ | refine blk_alloc ?_ _)); exact BK202.out) hb); have n4_ := Aside0.mk (below_step (by repeat (first | (with_reducible first | exact HB.out | apply below_alloc | apply pw_below_drewN | apply below_drew1 | refine below_set ?_ GE199.out | refine below_set ?_ GE200.out | refine below_set ?_ GE201.out | refine below_set ?_ GE202.out) | exact HB.out)) hb); clear BK199; clear BK200; clear BK201; clear BK202; clear HB; have BK199 := n0_; have BK200 := n1_; have BK201 := n2_; have BK202 := n3_; have HB := n4_; clear n0_ n1_ n2_ n3_ n4_; (try clear hb); (try clear hb2); (try clear hk); (try clear hi); have hcz35_0 : w34.cell? ⟨gb199, 0, none⟩ = some (.int .i64 a0_0) := (blk_cell BK199.out 0).trans rfl; have hcz35_1 : w34.cell? ⟨gb199, 1, none⟩ = some (.int .i64 a0_1) := (blk_cell BK199.out 1).trans rfl; have hcz35_2 : w34.cell? ⟨gb199, 2, none⟩ = some (.int .i64 a0_2) := (blk_cell BK199.out 2).trans rfl; have hfz35_0 := blk_frozen BK199.out 0; have hfz35_1 := blk_frozen BK199.out 1; have hfz35_2 := blk_frozen BK199.out 2) | ((with_reducible refine gate_callee (f := 21) rfl ?_); refine goesL_ (some 109) rfl rfl Try.func21 (by kernel_rfl) rfl #[.agg #[.int .i64 a0_0, .int .i64 a0_1, .int .i64 a0_2], .int .i64 a1] rfl (by (try simp only [List.map_toArray, List.map_cons, List.map_nil]); first | done | rfl | (simp only [List.length_drop, List.length_take]; rfl)) ?_; (with_reducible refine (spec_WeekdayOf.calls k a0_0 a0_1 a0_2 a1 t213 t214 _ A14.out).mono ?_); rintro e w36 ⟨rfl, hb⟩; refine ⟨_, rfl, ?_⟩; have n0_ := Aside0.mk (blk_below (g := gb199) (by (with_reducible repeat (first | refine blk_drewN ?_ _ | refine blk_drew ?_ | refine blk_alloc ?_ _)); exact BK199.out) hb); have n1_ := Aside0.mk (blk_below (g := gb200) (by (with_reducible repeat (first | refine blk_drewN ?_ _ | refine blk_drew ?_ | refine blk_alloc ?_ _)); exact BK200.out) hb); have n2_ := Aside0.mk (blk_below (g := gb201) (by (with_reducible repeat (first | refine blk_drewN ?_ _ | refine blk_drew ?_ | refine blk_alloc ?_ _)); exact BK201.out) hb); have n3_ := Aside0.mk (blk_below (g := gb202) (by (with_reducible repeat (first | refine blk_drewN ?_ _ | refine blk_drew ?_ | refine blk_alloc ?_ _)); exact BK202.out) hb); have n4_ := Aside0.mk (below_step (by repeat (first | (with_reducible first | exact HB.out | apply below_alloc | apply pw_below_drewN | apply below_drew1 | refine below_set ?_ GE199.out | refine below_set ?_ GE200.out | refine below_set ?_ GE201.out | refine below_set ?_ GE202.out) | exact HB.out)) hb); clear BK199; clear BK200; clear BK201; clear BK202; clear HB; have BK199 := n0_; have BK200 := n1_; have BK201 := n2_; have BK202 := n3_; have HB := n4_; clear n0_ n1_ n2_ n3_ n4_; (try clear hb); (try clear hb2); (try clear hk); (try clear hi); have hcz37_0 : w36.cell? ⟨gb199, 0, none⟩ = some (.int .i64 a0_0) := (blk_cell BK199.out 0).trans rfl; have hcz37_1 : w36.cell? ⟨gb199, 1, none⟩ = some (.int .i64 a0_1) := (blk_cell BK199.out 1).trans rfl; have hcz37_2 : w36.cell? ⟨gb199, 2, none⟩ = some (.int .i64 a0_2) := (blk_cell BK199.out 2).trans rfl; have hfz37_0 := blk_frozen BK199.out 0; have hfz37_1 := blk_frozen BK199.out 1; have hfz37_2 := blk_frozen BK199.out 2) | ((with_reducible refine gate_callee (f := 22) rfl ?_); refine goesL_ (some 115) rfl rfl Try.func22 (by kernel_rfl) rfl #[.agg #[.int .i64 a0_0, .int .i64 a0_1, .int .i64 a0_2], .int .i64 a1] rfl (by (try simp only [List.map_toArray, List.map_cons, List.map_nil]); first | done | rfl | (simp only [List.length_drop, List.length_take]; rfl)) ?_; (with_reducible refine (impl_NextLeap.calls k a0_0 a0_1 a0_2 a1 t215 t216 _ A15.out).mono ?_); rintro e w38 ⟨rfl, hb⟩; refine ⟨_, rfl, ?_⟩; have n0_ := Aside0.mk (blk_below (g := gb199) (by (with_reducible repeat (first | refine blk_drewN ?_ _ | refine blk_drew ?_ | refine blk_alloc ?_ _)); exact BK199.out) hb); have n1_ := Aside0.mk (blk_below (g := gb200) (by (with_reducible repeat (first | refine blk_drewN ?_ _ | refine blk_drew ?_ | refine blk_alloc ?_ _)); exact BK200.out) hb); have n2_ := Aside0.mk (blk_below (g := gb201) (by (with_reducible repeat (first | refine blk_drewN ?_ _ | refine blk_drew ?_ | refine blk_alloc ?_ _)); exact BK201.out) hb); have n3_ := Aside0.mk (blk_below (g := gb202) (by (with_reducible repeat (first | refine blk_drewN ?_ _ | refine blk_drew ?_ | refine blk_alloc ?_ _)); exact BK202.out) hb); have n4_ := Aside0.mk (below_step (by repeat (first | (with_reducible first | exact HB.out | apply below_alloc | apply pw_below_drewN | apply below_drew1 | refine below_set ?_ GE199.out | refine below_set ?_ GE200.out | refine below_set ?_ GE201.out | refine below_set ?_ GE202.out) | exact HB.out)) hb); clear BK199; clear BK200; clear BK201; clear BK202; clear HB; have BK199 := n0_; have BK200 := n1_; have BK201 := n2_; have BK202 := n3_; have HB := n4_; clear n0_ n1_ n2_ n3_ n4_; (try clear hb); (try clear hb2); (try clear hk); (try clear hi); have hcz39_0 : w38.cell? ⟨gb199, 0, none⟩ = some (.int .i64 a0_0) := (blk_cell BK199.out 0).trans rfl; have hcz39_1 : w38.cell? ⟨gb199, 1, none⟩ = some (.int .i64 a0_1) := (blk_cell BK199.out 1).trans rfl; have hcz39_2 : w38.cell? ⟨gb199, 2, none⟩ = some (.int .i64 a0_2) := (blk_cell BK199.out 2).trans rfl; have hfz39_0 := blk_frozen BK199.out 0; have hfz39_1 := blk_frozen BK199.out 1; have hfz39_2 := blk_frozen BK199.out 2) | ((with_reducible refine gate_callee (f := 23) rfl ?_); refine goesL_ (some 121) rfl rfl Try.func23 (by kernel_rfl) rfl #[.agg #[.int .i64 a0_0, .int .i64 a0_1, .int .i64 a0_2], .int .i64 a1] rfl (by (try simp only [List.map_toArray, List.map_cons, List.map_nil]); first | done | rfl | (simp only [List.length_drop, List.length_take]; rfl)) ?_; (with_reducible refine (spec_NextLeap.calls k a0_0 a0_1 a0_2 a1 t217 t218 _ A16.out).mono ?_); rintro e w40 ⟨rfl, hb⟩; refine ⟨_, rfl, ?_⟩; have n0_ := Aside0.mk (blk_below (g := gb199) (by (with_reducible repeat (first | refine blk_drewN ?_ _ | refine blk_drew ?_ | refine blk_alloc ?_ _)); exact BK199.out) hb); have n1_ := Aside0.mk (blk_below (g := gb200) (by (with_reducible repeat (first | refine blk_drewN ?_ _ | refine blk_drew ?_ | refine blk_alloc ?_ _)); exact BK200.out) hb); have n2_ := Aside0.mk (blk_below (g := gb201) (by (with_reducible repeat (first | refine blk_drewN ?_ _ | refine blk_drew ?_ | refine blk_alloc ?_ _)); exact BK201.out) hb); have n3_ := Aside0.mk (blk_below (g := gb202) (by (with_reducible repeat (first | refine blk_drewN ?_ _ | refine blk_drew ?_ | refine blk_alloc ?_ _)); exact BK202.out) hb); have n4_ := Aside0.mk (below_step (by repeat (first | (with_reducible first | exact HB.out | apply below_alloc | apply pw_below_drewN | apply below_drew1 | refine below_set ?_ GE199.out | refine below_set ?_ GE200.out | refine below_set ?_ GE201.out | refine below_set ?_ GE202.out) | exact HB.out)) hb); clear BK199; clear BK200; clear BK201; clear BK202; clear HB; have BK199 := n0_; have BK200 := n1_; have BK201 := n2_; have BK202 := n3_; have HB := n4_; clear n0_ n1_ n2_ n3_ n4_; (try clear hb); (try clear hb2); (try clear hk); (try clear hi)))
 (try simp only [Act.put, s1, s2, s3])
 go_cut [193] from 76 to 193 (fun v193 wc => ∃ (kq : Nat) (x193_16 : Bool), v193 = .bool x193_16 ∧ Aside0 (j0 kq a1 a3 a4 a6 t203 t204 t207 t211 t215 t216 x193_16 a0_0 a0_1 a0_2 a2_0 a2_1 a2_2 a5_0 a5_1 a5_2 a7_0 a7_1 a7_2 = some r) ∧ Aside0 (kq ≤ k) ∧ Aside0 (wc.heap[gb199]? = some (.cells #[.int .i64 a0_0, .int .i64 a0_1, .int .i64 a0_2] 26 (0, 0))) ∧ Aside0 (wc.heap[gb200]? = some (.cells #[.int .i64 a2_0, .int .i64 a2_1, .int .i64 a2_2] 26 (0, 0))) ∧ Aside0 (wc.heap[gb201]? = some (.cells #[.int .i64 a5_0, .int .i64 a5_1, .int .i64 a5_2] 26 (0, 0))) ∧ Aside0 (wc.heap[gb202]? = some (.cells #[.int .i64 a7_0, .int .i64 a7_1, .int .i64 a7_2] 26 (0, 0))) ∧ Aside0 (Below w.heap.size w wc))
 case first => as_aux_lemma =>
  have H := HC17.out
  clear HC17
  by_cases c41 : (t204 != t206) = true
  ·
   rw [if_pos c41] at H
   exact absurd H (by simp)
  ·
   rw [if_neg c41] at H
   have c41b0 : (t204 != t206) = false := by simpa using c41
   (try (have c41b1 : decide (t204 = t206) = true := by simpa using c41))
   (try (have c41b2 : (t204 == t206) = true := by simpa using c41))
   clear c41
   (first | rw [c41b0] | (simp only [i64_w, i32_w]; rw [c41b0]) | skip)
   by_cases c42 : (t203 != t205) = true
   ·
    rw [if_pos c42] at H
    exact absurd H (by simp)
   ·
    rw [if_neg c42] at H
    have c42b0 : (t203 != t205) = false := by simpa using c42
    (try (have c42b1 : decide (t203 = t205) = true := by simpa using c42))
    (try (have c42b2 : (t203 == t205) = true := by simpa using c42))
    clear c42
    by_cases c43 : (t208 != t210) = true
    ·
     rw [if_pos c43] at H
     exact absurd H (by simp)
    ·
     rw [if_neg c43] at H
     have c43b0 : (t208 != t210) = false := by simpa using c43
     (try (have c43b1 : decide (t208 = t210) = true := by simpa using c43))
     (try (have c43b2 : (t208 == t210) = true := by simpa using c43))
     clear c43
     by_cases c44 : t207 = t209
     ·
      rw [if_pos c44] at H
      have c44b0 : (t207 == t209) = true := beq_iff_eq.mpr c44
      have c44b1 : (t207 != t209) = false := bne_eq_false_iff_eq.mpr c44
      clear c44
      by_cases c45 : (t212 != t214) = true
      ·
       rw [if_pos c45] at H
       exact absurd H (by simp)
      ·
       rw [if_neg c45] at H
       have c45b0 : (t212 != t214) = false := by simpa using c45
       (try (have c45b1 : decide (t212 = t214) = true := by simpa using c45))
       (try (have c45b2 : (t212 == t214) = true := by simpa using c45))
       clear c45
       by_cases c46 : t211 = t213
       ·
        rw [if_pos c46] at H
        have c46b0 : (t211 == t213) = true := beq_iff_eq.mpr c46
        have c46b1 : (t211 != t213) = false := bne_eq_false_iff_eq.mpr c46
        clear c46
        by_cases c47 : (t216 != t218) = true
        ·
         rw [if_pos c47] at H
         exact absurd H (by simp)
        ·
         rw [if_neg c47] at H
         have c47b0 : (t216 != t218) = false := by simpa using c47
         (try (have c47b1 : decide (t216 = t218) = true := by simpa using c47))
         (try (have c47b2 : (t216 == t218) = true := by simpa using c47))
         clear c47
         by_cases c48 : t215 = t217
         ·
          rw [if_pos c48] at H
          have c48b0 : (t215 == t217) = true := beq_iff_eq.mpr c48
          have c48b1 : (t215 != t217) = false := bne_eq_false_iff_eq.mpr c48
          clear c48
          by_cases c49 : (t208 != t204) = true
          ·
           rw [if_pos c49] at H
           exact absurd H (by simp)
          ·
           rw [if_neg c49] at H
           have c49b0 : (t208 != t204) = false := by simpa using c49
           (try (have c49b1 : decide (t208 = t204) = true := by simpa using c49))
           (try (have c49b2 : (t208 == t204) = true := by simpa using c49))
           clear c49
           by_cases c50 : (t212 != t204) = true
           ·
            rw [if_pos c50] at H
            exact absurd H (by simp)
           ·
            rw [if_neg c50] at H
            have c50b0 : (t212 != t204) = false := by simpa using c50
            (try (have c50b1 : decide (t212 = t204) = true := by simpa using c50))
            (try (have c50b2 : (t212 == t204) = true := by simpa using c50))
            clear c50
            by_cases c51 : t216 = true
            ·
             subst c51
             have H1 : (if t204 = true then ((impl_IsLeapRule.f a0_0 a0_1 a0_2).bind fun t219 => ((spec_IsLeapRule.f k a0_0 a0_1 a0_2).bind fun t220 => (if (t219 != t220) = true then (none) else ((impl_IsLeapRule.f a0_0 a0_1 a0_2).bind fun t221 => (j0 k a1 a3 a4 a6 t203 t204 t207 t211 t215 true (!t221) a0_0 a0_1 a0_2 a2_0 a2_1 a2_2 a5_0 a5_1 a5_2 a7_0 a7_1 a7_2))))) else (none)) = some r := by rw [if_pos rfl] at H; exact H
             clear H
             have H := H1
             clear H1
             by_cases c52 : t204 = true
             ·
              subst c52
              have H1 : ((impl_IsLeapRule.f a0_0 a0_1 a0_2).bind fun t219 => ((spec_IsLeapRule.f k a0_0 a0_1 a0_2).bind fun t220 => (if (t219 != t220) = true then (none) else ((impl_IsLeapRule.f a0_0 a0_1 a0_2).bind fun t221 => (j0 k a1 a3 a4 a6 t203 true t207 t211 t215 true (!t221) a0_0 a0_1 a0_2 a2_0 a2_1 a2_2 a5_0 a5_1 a5_2 a7_0 a7_1 a7_2))))) = some r := by rw [if_pos rfl] at H; exact H
              clear H
              have H := H1
              clear H1
              replace H := Option.bind_eq_some_iff.mp H
              obtain ⟨t219, A530, H⟩ := H
              try dsimp only at H
              have A53 := Aside0.mk A530
              clear A530
              replace H := Option.bind_eq_some_iff.mp H
              obtain ⟨t220, A540, H⟩ := H
              try dsimp only at H
              have A54 := Aside0.mk A540
              clear A540
              by_cases c55 : (t219 != t220) = true
              ·
               rw [if_pos c55] at H
               exact absurd H (by simp)
              ·
               rw [if_neg c55] at H
               have c55b0 : (t219 != t220) = false := by simpa using c55
               (try (have c55b1 : decide (t219 = t220) = true := by simpa using c55))
               (try (have c55b2 : (t219 == t220) = true := by simpa using c55))
               clear c55
               replace H := Option.bind_eq_some_iff.mp H
               obtain ⟨t221, A560, H⟩ := H
               try dsimp only at H
               have A56 := Aside0.mk A560
               clear A560
               as_aux_lemma =>
                have H' := Aside0.mk H
                clear H
                try go_wp2
                have n0_ := Aside0.mk (blk_drew BK199.out)
                have n1_ := Aside0.mk (blk_drew BK200.out)
                have n2_ := Aside0.mk (blk_drew BK201.out)
                have n3_ := Aside0.mk (blk_drew BK202.out)
                have n4_ := Aside0.mk (below_drew1 HB.out)
                clear BK199
                clear BK200
                clear BK201
                clear BK202
                clear HB
                have BK199 := n0_
                have BK200 := n1_
                have BK201 := n2_
                have BK202 := n3_
                have HB := n4_
                clear n0_ n1_ n2_ n3_ n4_
                refine start_ (n := 70) (S := fun w' => w'.cell? ⟨gb199, 0, none⟩ = some (.int .i64 a0_0) ∧ w'.cell? ⟨gb199, 1, none⟩ = some (.int .i64 a0_1) ∧ w'.cell? ⟨gb199, 2, none⟩ = some (.int .i64 a0_2)) (ds := []) (bl true [0, 70]) (by kernel_rfl) rfl rfl ⟨(blk_cell BK199.out 0).trans rfl, (blk_cell BK199.out 1).trans rfl, (blk_cell BK199.out 2).trans rfl⟩ (fun hHeld => ?_); refine with_tabW laws_FnLeapsCountedOfAll.tab9 laws_FnLeapsCountedOfAll.bits9 (fun HT_ HW_ => ?_)
                generalize w40.drew = w57 at BK199 BK200 BK201 BK202 HB hHeld ⊢
                refine pure_ (i := 0) (N := some 124) (v := ?_) (a' := ?_) (bl true [1, 69]) rfl rfl (any_of HT_.out (by kernel_rfl)) (fun _ _ _ h => h) (Or.inl ⟨by rfl, ?_⟩) ?_ ?_
                rotate_left
                ·
                 intro w'
                 go_simp
                 with_reducible rfl
                rotate_left
                ·
                 simp only [Act.put, s1, s2, s3, i64_w, i32_w]
                 rfl
                refine pure_ (i := 1) (N := some 125) (v := ?_) (a' := ?_) (bl true [2, 68]) rfl rfl (any_of HT_.out (by kernel_rfl)) (fun _ _ _ h => h) (Or.inl ⟨by rfl, ?_⟩) ?_ ?_
                rotate_left
                ·
                 intro w'
                 go_simp
                 with_reducible rfl
                rotate_left
                ·
                 simp only [Act.put, s1, s2, s3, i64_w, i32_w]
                 rfl
                refine pure_ (i := 2) (N := some 126) (v := ?_) (a' := ?_) (bl true [3, 67]) rfl rfl (any_of HT_.out (by kernel_rfl)) (fun _ _ _ h => h) (Or.inl ⟨by rfl, ?_⟩) ?_ ?_
                rotate_left
                ·
                 intro w'
                 go_simp
                 with_reducible rfl
                rotate_left
                ·
                 simp only [Act.put, s1, s2, s3, i64_w, i32_w]
                 rfl
                refine pure_ (i := 3) (N := some 127) (v := ?_) (a' := ?_) (bl true [4, 66]) rfl rfl (any_of HT_.out (by kernel_rfl)) (fun _ _ _ h => h) (Or.inl ⟨by rfl, ?_⟩) ?_ ?_
                rotate_left
                ·
                 intro w'
                 go_simp
                 with_reducible rfl
                rotate_left
                ·
                 simp only [Act.put, s1, s2, s3, i64_w, i32_w]
                 rfl
                refine pure_ (i := 4) (N := some 128) (v := ?_) (a' := ?_) (bl true [5, 65]) rfl rfl (any_of HT_.out (by kernel_rfl)) (fun _ _ _ h => h) (Or.inl ⟨by rfl, ?_⟩) ?_ ?_
                rotate_left
                ·
                 intro w'
                 go_simp
                 with_reducible rfl
                rotate_left
                ·
                 simp only [Act.put, s1, s2, s3, i64_w, i32_w]
                 rfl
                refine pure_ (i := 5) (N := some 129) (v := ?_) (a' := ?_) (bl true [6, 64]) rfl rfl (any_of HT_.out (by kernel_rfl)) (fun _ _ _ h => h) (Or.inl ⟨by rfl, ?_⟩) ?_ ?_
                rotate_left
                ·
                 intro w'
                 go_simp
                 with_reducible rfl
                rotate_left
                ·
                 simp only [Act.put, s1, s2, s3, i64_w, i32_w]
                 rfl
                refine pure_ (i := 6) (N := some 130) (v := ?_) (a' := ?_) (bl true [7, 63]) rfl rfl (any_of HT_.out (by kernel_rfl)) (fun _ _ _ h => h) (Or.inl ⟨by rfl, ?_⟩) ?_ ?_
                rotate_left
                ·
                 intro w'
                 go_simp
                 with_reducible rfl
                rotate_left
                ·
                 simp only [Act.put, s1, s2, s3, i64_w, i32_w]
                 rfl
                refine pure_ (i := 7) (N := some 131) (v := ?_) (a' := ?_) (bl true [8, 62]) rfl rfl (any_of HT_.out (by kernel_rfl)) (fun _ _ _ h => h) (Or.inl ⟨by rfl, ?_⟩) ?_ ?_
                rotate_left
                ·
                 intro w'
                 go_simp
                 with_reducible rfl
                rotate_left
                ·
                 simp only [Act.put, s1, s2, s3, i64_w, i32_w]
                 rfl
                refine pure_ (i := 8) (N := some 132) (v := ?_) (a' := ?_) (bl true [9, 61]) rfl rfl (any_of HT_.out (by kernel_rfl)) (fun _ _ _ h => h) (Or.inl ⟨by rfl, ?_⟩) ?_ ?_
                rotate_left
                ·
                 intro w'
                 go_simp
                 with_reducible rfl
                rotate_left
                ·
                 simp only [Act.put, s1, s2, s3, i64_w, i32_w]
                 rfl
                refine pure_ (i := 9) (N := some 133) (v := ?_) (a' := ?_) (bl true [10, 60]) rfl rfl (any_of HT_.out (by kernel_rfl)) (fun _ _ _ h => h) (Or.inl ⟨by rfl, ?_⟩) ?_ ?_
                rotate_left
                ·
                 intro w'
                 go_simp
                 with_reducible rfl
                rotate_left
                ·
                 simp only [Act.put, s1, s2, s3, i64_w, i32_w]
                 rfl
                refine pure_ (i := 10) (N := some 134) (v := ?_) (a' := ?_) (bl true [11, 59]) rfl rfl (any_of HT_.out (by kernel_rfl)) (fun _ _ _ h => h) (Or.inl ⟨by rfl, ?_⟩) ?_ ?_
                rotate_left
                ·
                 intro w'
                 go_simp
                 with_reducible rfl
                rotate_left
                ·
                 simp only [Act.put, s1, s2, s3, i64_w, i32_w]
                 rfl
                refine pure_ (i := 11) (N := some 135) (v := ?_) (a' := ?_) (bl true [12, 58]) rfl rfl (any_of HT_.out (by kernel_rfl)) (fun _ _ _ h => h) (Or.inl ⟨by rfl, ?_⟩) ?_ ?_
                rotate_left
                ·
                 intro w'
                 go_simp
                 with_reducible rfl
                rotate_left
                ·
                 simp only [Act.put, s1, s2, s3, i64_w, i32_w]
                 rfl
                refine pure_ (i := 12) (N := some 136) (v := ?_) (a' := ?_) (bl true [13, 57]) rfl rfl (any_of HT_.out (by kernel_rfl)) (fun _ _ _ h => h) (Or.inl ⟨by rfl, ?_⟩) ?_ ?_
                rotate_left
                ·
                 intro w'
                 go_simp
                 with_reducible rfl
                rotate_left
                ·
                 simp only [Act.put, s1, s2, s3, i64_w, i32_w]
                 rfl
                refine pure_ (i := 13) (N := some 137) (v := ?_) (a' := ?_) (bl true [14, 56]) rfl rfl (any_of HT_.out (by kernel_rfl)) (fun _ _ _ h => h) (Or.inl ⟨by rfl, ?_⟩) ?_ ?_
                rotate_left
                ·
                 intro w'
                 go_simp
                 with_reducible rfl
                rotate_left
                ·
                 simp only [Act.put, s1, s2, s3, i64_w, i32_w]
                 rfl
                refine pure_ (i := 14) (N := some 138) (v := ?_) (a' := ?_) (bl true [15, 55]) rfl rfl (any_of HT_.out (by kernel_rfl)) (fun _ _ _ h => h) (Or.inl ⟨by rfl, ?_⟩) ?_ ?_
                rotate_left
                ·
                 intro w'
                 go_simp
                 with_reducible rfl
                rotate_left
                ·
                 simp only [Act.put, s1, s2, s3, i64_w, i32_w]
                 rfl
                refine pure_ (i := 15) (N := some 139) (v := ?_) (a' := ?_) (bl true [16, 54]) rfl rfl (any_of HT_.out (by kernel_rfl)) (fun _ _ _ h => h) (Or.inl ⟨by rfl, ?_⟩) ?_ ?_
                rotate_left
                ·
                 intro w'
                 go_simp
                 with_reducible rfl
                rotate_left
                ·
                 simp only [Act.put, s1, s2, s3, i64_w, i32_w]
                 rfl
                refine pure_ (i := 16) (N := some 140) (v := ?_) (a' := ?_) (bl true [17, 53]) rfl rfl (any_of HT_.out (by kernel_rfl)) (fun _ _ _ h => h) (Or.inl ⟨by rfl, ?_⟩) ?_ ?_
                rotate_left
                ·
                 intro w'
                 go_simp
                 with_reducible rfl
                rotate_left
                ·
                 simp only [Act.put, s1, s2, s3, i64_w, i32_w]
                 rfl
                refine pure_ (i := 17) (N := some 141) (v := ?_) (a' := ?_) (bl true [18, 52]) rfl rfl (any_of HT_.out (by kernel_rfl)) (fun _ _ _ h => h) (Or.inl ⟨by rfl, ?_⟩) ?_ ?_
                rotate_left
                ·
                 intro w'
                 go_simp
                 with_reducible rfl
                rotate_left
                ·
                 simp only [Act.put, s1, s2, s3, i64_w, i32_w]
                 rfl
                refine pure_ (i := 18) (N := some 142) (v := ?_) (a' := ?_) (bl true [19, 51]) rfl rfl (any_of HT_.out (by kernel_rfl)) (fun _ _ _ h => h) (Or.inl ⟨by rfl, ?_⟩) ?_ ?_
                rotate_left
                ·
                 intro w'
                 go_simp
                 with_reducible rfl
                rotate_left
                ·
                 simp only [Act.put, s1, s2, s3, i64_w, i32_w]
                 rfl
                refine pure_ (i := 19) (N := some 143) (v := ?_) (a' := ?_) (bl true [20, 50]) rfl rfl (any_of HT_.out (by kernel_rfl)) (fun _ _ _ h => h) (Or.inl ⟨by rfl, ?_⟩) ?_ ?_
                rotate_left
                ·
                 intro w'
                 go_simp
                 with_reducible rfl
                rotate_left
                ·
                 simp only [Act.put, s1, s2, s3, i64_w, i32_w]
                 rfl
                refine pure_ (i := 20) (N := some 144) (v := ?_) (a' := ?_) (bl true [21, 49]) rfl rfl (any_of HT_.out (by kernel_rfl)) (fun _ _ _ h => h) (Or.inl ⟨by rfl, ?_⟩) ?_ ?_
                rotate_left
                ·
                 intro w'
                 go_simp
                 with_reducible rfl
                rotate_left
                ·
                 simp only [Act.put, s1, s2, s3, i64_w, i32_w]
                 rfl
                refine pure_ (i := 21) (N := some 145) (v := ?_) (a' := ?_) (bl true [22, 48]) rfl rfl (any_of HT_.out (by kernel_rfl)) (fun _ _ _ h => h) (Or.inl ⟨by rfl, ?_⟩) ?_ ?_
                rotate_left
                ·
                 intro w'
                 go_simp
                 with_reducible rfl
                rotate_left
                ·
                 simp only [Act.put, s1, s2, s3, i64_w, i32_w]
                 rfl
                refine pure_ (i := 22) (N := some 146) (v := ?_) (a' := ?_) (bl true [23, 47]) rfl rfl (any_of HT_.out (by kernel_rfl)) (fun _ _ _ h => h) (Or.inl ⟨by rfl, ?_⟩) ?_ ?_
                rotate_left
                ·
                 intro w'
                 go_simp
                 with_reducible rfl
                rotate_left
                ·
                 simp only [Act.put, s1, s2, s3, i64_w, i32_w]
                 rfl
                refine pure_ (i := 23) (N := some 147) (v := ?_) (a' := ?_) (bl true [24, 46]) rfl rfl (any_of HT_.out (by kernel_rfl)) (fun _ _ _ h => h) (Or.inl ⟨by rfl, ?_⟩) ?_ ?_
                rotate_left
                ·
                 intro w'
                 go_simp
                 with_reducible rfl
                rotate_left
                ·
                 simp only [Act.put, s1, s2, s3, i64_w, i32_w]
                 rfl
                refine pure_ (i := 24) (N := some 148) (v := ?_) (a' := ?_) (bl true [25, 45]) rfl rfl (any_of HT_.out (by kernel_rfl)) (fun _ _ _ h => h) (Or.inl ⟨by rfl, ?_⟩) ?_ ?_
                rotate_left
                ·
                 intro w'
                 go_simp
                 with_reducible rfl
                rotate_left
                ·
                 simp only [Act.put, s1, s2, s3, i64_w, i32_w]
                 rfl
                refine pure_ (i := 25) (N := some 149) (v := ?_) (a' := ?_) (bl true [26, 44]) rfl rfl (any_of HT_.out (by kernel_rfl)) (fun _ _ _ h => h) (Or.inl ⟨by rfl, ?_⟩) ?_ ?_
                rotate_left
                ·
                 intro w'
                 go_simp
                 with_reducible rfl
                rotate_left
                ·
                 simp only [Act.put, s1, s2, s3, i64_w, i32_w]
                 rfl
                refine pure_ (i := 26) (N := some 150) (v := ?_) (a' := ?_) (bl true [27, 43]) rfl rfl (any_of HT_.out (by kernel_rfl)) (fun _ _ _ h => h) (Or.inl ⟨by rfl, ?_⟩) ?_ ?_
                rotate_left
                ·
                 intro w'
                 go_simp
                 with_reducible rfl
                rotate_left
                ·
                 simp only [Act.put, s1, s2, s3, i64_w, i32_w]
                 rfl
                refine pure_ (i := 27) (N := some 151) (v := ?_) (a' := ?_) (bl true [28, 42]) rfl rfl (any_of HT_.out (by kernel_rfl)) (fun _ _ _ h => h) (Or.inl ⟨by rfl, ?_⟩) ?_ ?_
                rotate_left
                ·
                 intro w'
                 go_simp
                 with_reducible rfl
                rotate_left
                ·
                 simp only [Act.put, s1, s2, s3, i64_w, i32_w]
                 rfl
                refine pure_ (i := 28) (N := some 152) (v := ?_) (a' := ?_) (bl true [29, 41]) rfl rfl (any_of HT_.out (by kernel_rfl)) (fun _ _ _ h => h) (Or.inl ⟨by rfl, ?_⟩) ?_ ?_
                rotate_left
                ·
                 intro w'
                 go_simp
                 with_reducible rfl
                rotate_left
                ·
                 simp only [Act.put, s1, s2, s3, i64_w, i32_w]
                 rfl
                refine pure_ (i := 29) (N := some 153) (v := ?_) (a' := ?_) (bl true [30, 40]) rfl rfl (any_of HT_.out (by kernel_rfl)) (fun _ _ _ h => h) (Or.inl ⟨by rfl, ?_⟩) ?_ ?_
                rotate_left
                ·
                 intro w'
                 go_simp
                 with_reducible rfl
                rotate_left
                ·
                 simp only [Act.put, s1, s2, s3, i64_w, i32_w]
                 rfl
                refine pure_ (i := 30) (N := some 154) (v := ?_) (a' := ?_) (bl true [31, 39]) rfl rfl (any_of HT_.out (by kernel_rfl)) (fun _ _ _ h => h) (Or.inl ⟨by rfl, ?_⟩) ?_ ?_
                rotate_left
                ·
                 intro w'
                 go_simp
                 with_reducible rfl
                rotate_left
                ·
                 simp only [Act.put, s1, s2, s3, i64_w, i32_w]
                 rfl
                refine pure_ (i := 31) (N := some 155) (v := ?_) (a' := ?_) (bl true [32, 38]) rfl rfl (any_of HT_.out (by kernel_rfl)) (fun _ _ _ h => h) (Or.inl ⟨by rfl, ?_⟩) ?_ ?_
                rotate_left
                ·
                 intro w'
                 go_simp
                 with_reducible rfl
                rotate_left
                ·
                 simp only [Act.put, s1, s2, s3, i64_w, i32_w]
                 rfl
                refine pure_ (i := 32) (N := some 156) (v := ?_) (a' := ?_) (bl true [33, 37]) rfl rfl (any_of HT_.out (by kernel_rfl)) (fun _ _ _ h => h) (Or.inl ⟨by rfl, ?_⟩) ?_ ?_
                rotate_left
                ·
                 intro w'
                 go_simp
                 with_reducible rfl
                rotate_left
                ·
                 simp only [Act.put, s1, s2, s3, i64_w, i32_w]
                 rfl
                refine pure_ (i := 33) (N := some 157) (v := ?_) (a' := ?_) (bl true [34, 36]) rfl rfl (any_of HT_.out (by kernel_rfl)) (fun _ _ _ h => h) (Or.inl ⟨by rfl, ?_⟩) ?_ ?_
                rotate_left
                ·
                 intro w'
                 go_simp
                 with_reducible rfl
                rotate_left
                ·
                 simp only [Act.put, s1, s2, s3, i64_w, i32_w]
                 rfl
                refine pure_ (i := 34) (N := some 158) (v := ?_) (a' := ?_) (bl true [35, 35]) rfl rfl (any_of HT_.out (by kernel_rfl)) (fun _ _ _ h => h) (Or.inl ⟨by rfl, ?_⟩) ?_ ?_
                rotate_left
                ·
                 intro w'
                 go_simp
                 with_reducible rfl
                rotate_left
                ·
                 simp only [Act.put, s1, s2, s3, i64_w, i32_w]
                 rfl
                refine pure_ (i := 35) (N := some 159) (v := ?_) (a' := ?_) (bl true [36, 34]) rfl rfl (any_of HT_.out (by kernel_rfl)) (fun _ _ _ h => h) (Or.inl ⟨by rfl, ?_⟩) ?_ ?_
                rotate_left
                ·
                 intro w'
                 go_simp
                 with_reducible rfl
                rotate_left
                ·
                 simp only [Act.put, s1, s2, s3, i64_w, i32_w]
                 rfl
                refine pure_ (i := 36) (N := some 160) (v := ?_) (a' := ?_) (bl true [37, 33]) rfl rfl (any_of HT_.out (by kernel_rfl)) (fun _ _ _ h => h) (Or.inl ⟨by rfl, ?_⟩) ?_ ?_
                rotate_left
                ·
                 intro w'
                 go_simp
                 with_reducible rfl
                rotate_left
                ·
                 simp only [Act.put, s1, s2, s3, i64_w, i32_w]
                 rfl
                refine pure_ (i := 37) (N := some 161) (v := ?_) (a' := ?_) (bl true [38, 32]) rfl rfl (any_of HT_.out (by kernel_rfl)) (fun _ _ _ h => h) (Or.inl ⟨by rfl, ?_⟩) ?_ ?_
                rotate_left
                ·
                 intro w'
                 go_simp
                 with_reducible rfl
                rotate_left
                ·
                 simp only [Act.put, s1, s2, s3, i64_w, i32_w]
                 rfl
                refine pure_ (i := 38) (N := some 162) (v := ?_) (a' := ?_) (bl true [39, 31]) rfl rfl (any_of HT_.out (by kernel_rfl)) (fun _ _ _ h => h) (Or.inl ⟨by rfl, ?_⟩) ?_ ?_
                rotate_left
                ·
                 intro w'
                 go_simp
                 with_reducible rfl
                rotate_left
                ·
                 simp only [Act.put, s1, s2, s3, i64_w, i32_w]
                 rfl
                refine pure_ (i := 39) (N := some 163) (v := ?_) (a' := ?_) (bl true [40, 30]) rfl rfl (any_of HT_.out (by kernel_rfl)) (fun _ _ _ h => h) (Or.inl ⟨by rfl, ?_⟩) ?_ ?_
                rotate_left
                ·
                 intro w'
                 go_simp
                 with_reducible rfl
                rotate_left
                ·
                 simp only [Act.put, s1, s2, s3, i64_w, i32_w]
                 rfl
                refine pure_ (i := 40) (N := some 164) (v := ?_) (a' := ?_) (bl true [41, 29]) rfl rfl (any_of HT_.out (by kernel_rfl)) (fun _ _ _ h => h) (Or.inl ⟨by rfl, ?_⟩) ?_ ?_
                rotate_left
                ·
                 intro w'
                 go_simp
                 with_reducible rfl
                rotate_left
                ·
                 simp only [Act.put, s1, s2, s3, i64_w, i32_w]
                 rfl
                refine pure_ (i := 41) (N := some 165) (v := ?_) (a' := ?_) (bl true [42, 28]) rfl rfl (any_of HT_.out (by kernel_rfl)) (fun _ _ _ h => h) (Or.inl ⟨by rfl, ?_⟩) ?_ ?_
                rotate_left
                ·
                 intro w'
                 go_simp
                 with_reducible rfl
                rotate_left
                ·
                 simp only [Act.put, s1, s2, s3, i64_w, i32_w]
                 rfl
                refine pure_ (i := 42) (N := some 166) (v := ?_) (a' := ?_) (bl true [43, 27]) rfl rfl (any_of HT_.out (by kernel_rfl)) (fun _ _ _ h => h) (Or.inl ⟨by rfl, ?_⟩) ?_ ?_
                rotate_left
                ·
                 intro w'
                 go_simp
                 with_reducible rfl
                rotate_left
                ·
                 simp only [Act.put, s1, s2, s3, i64_w, i32_w]
                 rfl
                refine pure_ (i := 43) (N := some 167) (v := ?_) (a' := ?_) (bl true [44, 26]) rfl rfl (any_of HT_.out (by kernel_rfl)) (fun _ _ _ h => h) (Or.inl ⟨by rfl, ?_⟩) ?_ ?_
                rotate_left
                ·
                 intro w'
                 go_simp
                 with_reducible rfl
                rotate_left
                ·
                 simp only [Act.put, s1, s2, s3, i64_w, i32_w]
                 rfl
                refine pure_ (i := 44) (N := some 168) (v := ?_) (a' := ?_) (bl true [45, 25]) rfl rfl (any_of HT_.out (by kernel_rfl)) (fun _ _ _ h => h) (Or.inl ⟨by rfl, ?_⟩) ?_ ?_
                rotate_left
                ·
                 intro w'
                 go_simp
                 with_reducible rfl
                rotate_left
                ·
                 simp only [Act.put, s1, s2, s3, i64_w, i32_w]
                 rfl
                refine pure_ (i := 45) (N := some 169) (v := ?_) (a' := ?_) (bl true [46, 24]) rfl rfl (any_of HT_.out (by kernel_rfl)) (fun _ _ _ h => h) (Or.inl ⟨by rfl, ?_⟩) ?_ ?_
                rotate_left
                ·
                 intro w'
                 go_simp
                 with_reducible rfl
                rotate_left
                ·
                 simp only [Act.put, s1, s2, s3, i64_w, i32_w]
                 rfl
                refine pure_ (i := 46) (N := some 170) (v := ?_) (a' := ?_) (bl true [47, 23]) rfl rfl (any_of HT_.out (by kernel_rfl)) (fun _ _ _ h => h) (Or.inl ⟨by rfl, ?_⟩) ?_ ?_
                rotate_left
                ·
                 intro w'
                 go_simp
                 with_reducible rfl
                rotate_left
                ·
                 simp only [Act.put, s1, s2, s3, i64_w, i32_w]
                 rfl
                refine pure_ (i := 47) (N := some 171) (v := ?_) (a' := ?_) (bl true [48, 22]) rfl rfl (any_of HT_.out (by kernel_rfl)) (fun _ _ _ h => h) (Or.inl ⟨by rfl, ?_⟩) ?_ ?_
                rotate_left
                ·
                 intro w'
                 go_simp
                 with_reducible rfl
                rotate_left
                ·
                 simp only [Act.put, s1, s2, s3, i64_w, i32_w]
                 rfl
                refine pure_ (i := 48) (N := some 172) (v := ?_) (a' := ?_) (bl true [49, 21]) rfl rfl (any_of HT_.out (by kernel_rfl)) (fun _ _ _ h => h) (Or.inl ⟨by rfl, ?_⟩) ?_ ?_
                rotate_left
                ·
                 intro w'
                 go_simp
                 with_reducible rfl
                rotate_left
                ·
                 simp only [Act.put, s1, s2, s3, i64_w, i32_w]
                 rfl
                refine pure_ (i := 49) (N := some 173) (v := ?_) (a' := ?_) (bl true [50, 20]) rfl rfl (any_of HT_.out (by kernel_rfl)) (fun _ _ _ h => h) (Or.inl ⟨by rfl, ?_⟩) ?_ ?_
                rotate_left
                ·
                 intro w'
                 go_simp
                 with_reducible rfl
                rotate_left
                ·
                 simp only [Act.put, s1, s2, s3, i64_w, i32_w]
                 rfl
                refine pure_ (i := 50) (N := some 174) (v := ?_) (a' := ?_) (bl true [51, 19]) rfl rfl (any_of HT_.out (by kernel_rfl)) (fun _ _ _ h => h) (Or.inl ⟨by rfl, ?_⟩) ?_ ?_
                rotate_left
                ·
                 intro w'
                 go_simp
                 with_reducible rfl
                rotate_left
                ·
                 simp only [Act.put, s1, s2, s3, i64_w, i32_w]
                 rfl
                refine pure_ (i := 51) (N := some 175) (v := ?_) (a' := ?_) (bl true [52, 18]) rfl rfl (any_of HT_.out (by kernel_rfl)) (fun _ _ _ h => h) (Or.inl ⟨by rfl, ?_⟩) ?_ ?_
                rotate_left
                ·
                 intro w'
                 go_simp
                 with_reducible rfl
                rotate_left
                ·
                 simp only [Act.put, s1, s2, s3, i64_w, i32_w]
                 rfl
                refine pure_ (i := 52) (N := some 176) (v := ?_) (a' := ?_) (bl true [53, 17]) rfl rfl (any_of HT_.out (by kernel_rfl)) (fun _ _ _ h => h) (Or.inl ⟨by rfl, ?_⟩) ?_ ?_
                rotate_left
                ·
                 intro w'
                 go_simp
                 with_reducible rfl
                rotate_left
                ·
                 simp only [Act.put, s1, s2, s3, i64_w, i32_w]
                 rfl
                refine pure_ (i := 53) (N := some 177) (v := ?_) (a' := ?_) (bl true [54, 16]) rfl rfl (any_of HT_.out (by kernel_rfl)) (fun _ _ _ h => h) (Or.inl ⟨by rfl, ?_⟩) ?_ ?_
                rotate_left
                ·
                 intro w'
                 go_simp
                 with_reducible rfl
                rotate_left
                ·
                 simp only [Act.put, s1, s2, s3, i64_w, i32_w]
                 rfl
                refine pure_ (i := 54) (N := some 178) (v := ?_) (a' := ?_) (bl true [55, 15]) rfl rfl (any_of HT_.out (by kernel_rfl)) (fun _ _ _ h => h) (Or.inl ⟨by rfl, ?_⟩) ?_ ?_
                rotate_left
                ·
                 intro w'
                 go_simp
                 with_reducible rfl
                rotate_left
                ·
                 simp only [Act.put, s1, s2, s3, i64_w, i32_w]
                 rfl
                refine pure_ (i := 55) (N := some 179) (v := ?_) (a' := ?_) (bl true [56, 14]) rfl rfl (any_of HT_.out (by kernel_rfl)) (fun _ _ _ h => h) (Or.inl ⟨by rfl, ?_⟩) ?_ ?_
                rotate_left
                ·
                 intro w'
                 go_simp
                 with_reducible rfl
                rotate_left
                ·
                 simp only [Act.put, s1, s2, s3, i64_w, i32_w]
                 rfl
                refine take_ (i := 56) (N := some 180) (v := ?_) (a' := ?_) (bl true [57, 13]) rfl rfl (take_ofW HT_.out HW_.out (by kernel_rfl)) (fun _ _ _ h => h) (Or.inl ⟨by rfl, ?_⟩) hHeld ?_ ?_
                rotate_left
                ·
                 rintro w' ⟨s0, s1, s2⟩
                 go_simp
                 with_reducible rfl
                rotate_left
                ·
                 simp only [Act.put, s1, s2, s3, i64_w, i32_w]
                 rfl
                refine take_ (i := 58) (N := some 182) (v := ?_) (a' := ?_) (bl true [57, 1, 1, 11]) rfl rfl (take_ofW HT_.out HW_.out (by kernel_rfl)) (fun _ _ _ h => h) (Or.inl ⟨by rfl, ?_⟩) hHeld ?_ ?_
                rotate_left
                ·
                 rintro w' ⟨s0, s1, s2⟩
                 go_simp
                 with_reducible rfl
                rotate_left
                ·
                 simp only [Act.put, s1, s2, s3, i64_w, i32_w]
                 rfl
                refine one_ (i := 57) (N := some 181) (bl true [59, 11]) rfl rfl (one_of HT_.out (by kernel_rfl)) (by decide) (fun K hK => ?_)
                refine goes_ Try.func24 (by kernel_rfl) rfl #[.agg #[.int .i64 a0_0, .int .i64 a0_1, .int .i64 a0_2]] (by rfl) rfl rfl (by (try simp only [List.map_toArray, List.map_cons, List.map_nil]); first | done | rfl | (simp only [List.length_drop, List.length_take]; rfl)) ?_
                with_reducible refine (impl_IsLeapRule.calls a0_0 a0_1 a0_2 t219 _ A53.out).mono ?_
                rintro e w58 ⟨rfl, hb⟩
                refine ⟨_, rfl, ?_⟩
                have n0_ := Aside0.mk (blk_below (g := gb199) (by (with_reducible repeat (first | refine blk_drewN ?_ _ | refine blk_drew ?_ | refine blk_alloc ?_ _)); exact BK199.out) hb)
                have n1_ := Aside0.mk (blk_below (g := gb200) (by (with_reducible repeat (first | refine blk_drewN ?_ _ | refine blk_drew ?_ | refine blk_alloc ?_ _)); exact BK200.out) hb)
                have n2_ := Aside0.mk (blk_below (g := gb201) (by (with_reducible repeat (first | refine blk_drewN ?_ _ | refine blk_drew ?_ | refine blk_alloc ?_ _)); exact BK201.out) hb)
                have n3_ := Aside0.mk (blk_below (g := gb202) (by (with_reducible repeat (first | refine blk_drewN ?_ _ | refine blk_drew ?_ | refine blk_alloc ?_ _)); exact BK202.out) hb)
                have n4_ := Aside0.mk (below_step (by repeat (first | (with_reducible first | exact HB.out | apply below_alloc | apply pw_below_drewN | apply below_drew1 | refine below_set ?_ GE199.out | refine below_set ?_ GE200.out | refine below_set ?_ GE201.out | refine below_set ?_ GE202.out) | exact HB.out)) hb)
                clear BK199
                clear BK200
                clear BK201
                clear BK202
                clear HB
                have BK199 := n0_
                have BK200 := n1_
                have BK201 := n2_
                have BK202 := n3_
                have HB := n4_
                clear n0_ n1_ n2_ n3_ n4_
                (try clear hb)
                (try clear hb2)
                (try clear hk)
                (try clear hi)
                refine hK.out _ _ ⟨(blk_cell BK199.out 0).trans rfl, (blk_cell BK199.out 1).trans rfl, (blk_cell BK199.out 2).trans rfl⟩ (fun hHeld => ?_)
                clear hK K
                refine norm_ (a' := ?_) ?_ ?_
                rotate_left
                ·
                 show Act.put _ (some 181) _ = _
                 simp only [Act.put, s1, s2, s3, i64_w, i32_w]
                 rfl
                refine one_ (i := 59) (N := some 183) (bl true [60, 10]) rfl rfl (one_of HT_.out (by kernel_rfl)) (by decide) (fun K hK => ?_)
                refine goes_ Try.func25 (by kernel_rfl) rfl #[.agg #[.int .i64 a0_0, .int .i64 a0_1, .int .i64 a0_2]] (by rfl) rfl rfl (by (try simp only [List.map_toArray, List.map_cons, List.map_nil]); first | done | rfl | (simp only [List.length_drop, List.length_take]; rfl)) ?_
                with_reducible refine (spec_IsLeapRule.calls k a0_0 a0_1 a0_2 t220 _ A54.out).mono ?_
                rintro e w59 ⟨rfl, hb⟩
                refine ⟨_, rfl, ?_⟩
                have n0_ := Aside0.mk (blk_below (g := gb199) (by (with_reducible repeat (first | refine blk_drewN ?_ _ | refine blk_drew ?_ | refine blk_alloc ?_ _)); exact BK199.out) hb)
                have n1_ := Aside0.mk (blk_below (g := gb200) (by (with_reducible repeat (first | refine blk_drewN ?_ _ | refine blk_drew ?_ | refine blk_alloc ?_ _)); exact BK200.out) hb)
                have n2_ := Aside0.mk (blk_below (g := gb201) (by (with_reducible repeat (first | refine blk_drewN ?_ _ | refine blk_drew ?_ | refine blk_alloc ?_ _)); exact BK201.out) hb)
                have n3_ := Aside0.mk (blk_below (g := gb202) (by (with_reducible repeat (first | refine blk_drewN ?_ _ | refine blk_drew ?_ | refine blk_alloc ?_ _)); exact BK202.out) hb)
                have n4_ := Aside0.mk (below_step (by repeat (first | (with_reducible first | exact HB.out | apply below_alloc | apply pw_below_drewN | apply below_drew1 | refine below_set ?_ GE199.out | refine below_set ?_ GE200.out | refine below_set ?_ GE201.out | refine below_set ?_ GE202.out) | exact HB.out)) hb)
                clear BK199
                clear BK200
                clear BK201
                clear BK202
                clear HB
                have BK199 := n0_
                have BK200 := n1_
                have BK201 := n2_
                have BK202 := n3_
                have HB := n4_
                clear n0_ n1_ n2_ n3_ n4_
                (try clear hb)
                (try clear hb2)
                (try clear hk)
                (try clear hi)
                refine hK.out _ _ ⟨(blk_cell BK199.out 0).trans rfl, (blk_cell BK199.out 1).trans rfl, (blk_cell BK199.out 2).trans rfl⟩ (fun hHeld => ?_)
                clear hK K
                refine norm_ (a' := ?_) ?_ ?_
                rotate_left
                ·
                 show Act.put _ (some 183) _ = _
                 simp only [Act.put, s1, s2, s3, i64_w, i32_w]
                 rfl
                refine pure_ (i := 60) (N := some 184) (v := ?_) (a' := ?_) (bl true [61, 9]) rfl rfl (any_of HT_.out (by kernel_rfl)) (fun _ _ _ h => h) (Or.inl ⟨by rfl, ?_⟩) ?_ ?_
                rotate_left
                ·
                 intro w'
                 go_simp
                 with_reducible rfl
                rotate_left
                ·
                 simp only [Act.put, s1, s2, s3, i64_w, i32_w]
                 rfl
                refine pure_ (i := 61) (N := some 185) (v := ?_) (a' := ?_) (bl true [62, 8]) rfl rfl (any_of HT_.out (by kernel_rfl)) (fun _ _ _ h => h) (Or.inl ⟨by rfl, ?_⟩) ?_ ?_
                rotate_left
                ·
                 intro w'
                 go_simp
                 with_reducible rfl
                rotate_left
                ·
                 simp only [Act.put, s1, s2, s3, i64_w, i32_w]
                 rfl
                refine pure_ (i := 62) (N := some 186) (v := ?_) (a' := ?_) (bl true [63, 7]) rfl rfl (any_of HT_.out (by kernel_rfl)) (fun _ _ _ h => h) (Or.inl ⟨by rfl, ?_⟩) ?_ ?_
                rotate_left
                ·
                 intro w'
                 go_simp
                 with_reducible rfl
                rotate_left
                ·
                 simp only [Act.put, s1, s2, s3, i64_w, i32_w]
                 rfl
                refine pure_ (i := 63) (N := some 187) (v := ?_) (a' := ?_) (bl true [64, 6]) rfl rfl (any_of HT_.out (by kernel_rfl)) (fun _ _ _ h => h) (Or.inl ⟨by rfl, ?_⟩) ?_ ?_
                rotate_left
                ·
                 intro w'
                 go_simp
                 with_reducible rfl
                rotate_left
                ·
                 simp only [Act.put, s1, s2, s3, i64_w, i32_w]
                 rfl
                refine pure_ (i := 64) (N := some 188) (v := ?_) (a' := ?_) (bl true [65, 5]) rfl rfl (any_of HT_.out (by kernel_rfl)) (fun _ _ _ h => h) (Or.inl ⟨by rfl, ?_⟩) ?_ ?_
                rotate_left
                ·
                 intro w'
                 go_simp
                 with_reducible rfl
                rotate_left
                ·
                 simp only [Act.put, s1, s2, s3, i64_w, i32_w]
                 rfl
                refine take_ (i := 65) (N := some 189) (v := ?_) (a' := ?_) (bl true [66, 4]) rfl rfl (take_ofW HT_.out HW_.out (by kernel_rfl)) (fun _ _ _ h => h) (Or.inl ⟨by rfl, ?_⟩) hHeld ?_ ?_
                rotate_left
                ·
                 rintro w' ⟨s0, s1, s2⟩
                 go_simp
                 with_reducible rfl
                rotate_left
                ·
                 simp only [Act.put, s1, s2, s3, i64_w, i32_w]
                 rfl
                refine one_ (i := 66) (N := some 190) (bl true [67, 3]) rfl rfl (one_of HT_.out (by kernel_rfl)) (by decide) (fun K hK => ?_)
                refine goes_ Try.func24 (by kernel_rfl) rfl #[.agg #[.int .i64 a0_0, .int .i64 a0_1, .int .i64 a0_2]] (by rfl) rfl rfl (by (try simp only [List.map_toArray, List.map_cons, List.map_nil]); first | done | rfl | (simp only [List.length_drop, List.length_take]; rfl)) ?_
                with_reducible refine (impl_IsLeapRule.calls a0_0 a0_1 a0_2 t221 _ A56.out).mono ?_
                rintro e w60 ⟨rfl, hb⟩
                refine ⟨_, rfl, ?_⟩
                have n0_ := Aside0.mk (blk_below (g := gb199) (by (with_reducible repeat (first | refine blk_drewN ?_ _ | refine blk_drew ?_ | refine blk_alloc ?_ _)); exact BK199.out) hb)
                have n1_ := Aside0.mk (blk_below (g := gb200) (by (with_reducible repeat (first | refine blk_drewN ?_ _ | refine blk_drew ?_ | refine blk_alloc ?_ _)); exact BK200.out) hb)
                have n2_ := Aside0.mk (blk_below (g := gb201) (by (with_reducible repeat (first | refine blk_drewN ?_ _ | refine blk_drew ?_ | refine blk_alloc ?_ _)); exact BK201.out) hb)
                have n3_ := Aside0.mk (blk_below (g := gb202) (by (with_reducible repeat (first | refine blk_drewN ?_ _ | refine blk_drew ?_ | refine blk_alloc ?_ _)); exact BK202.out) hb)
                have n4_ := Aside0.mk (below_step (by repeat (first | (with_reducible first | exact HB.out | apply below_alloc | apply pw_below_drewN | apply below_drew1 | refine below_set ?_ GE199.out | refine below_set ?_ GE200.out | refine below_set ?_ GE201.out | refine below_set ?_ GE202.out) | exact HB.out)) hb)
                clear BK199
                clear BK200
                clear BK201
                clear BK202
                clear HB
                have BK199 := n0_
                have BK200 := n1_
                have BK201 := n2_
                have BK202 := n3_
                have HB := n4_
                clear n0_ n1_ n2_ n3_ n4_
                (try clear hb)
                (try clear hb2)
                (try clear hk)
                (try clear hi)
                refine hK.out _ _ ⟨(blk_cell BK199.out 0).trans rfl, (blk_cell BK199.out 1).trans rfl, (blk_cell BK199.out 2).trans rfl⟩ (fun hHeld => ?_)
                clear hK K
                refine norm_ (a' := ?_) ?_ ?_
                rotate_left
                ·
                 show Act.put _ (some 190) _ = _
                 simp only [Act.put, s1, s2, s3, i64_w, i32_w]
                 rfl
                refine pure_ (i := 67) (N := some 191) (v := ?_) (a' := ?_) (bl true [68, 2]) rfl rfl (any_of HT_.out (by kernel_rfl)) (fun _ _ _ h => h) (Or.inl ⟨by rfl, ?_⟩) ?_ ?_
                rotate_left
                ·
                 intro w'
                 go_simp
                 with_reducible rfl
                rotate_left
                ·
                 simp only [Act.put, s1, s2, s3, i64_w, i32_w]
                 rfl
                refine pure_ (i := 68) (N := some 192) (v := ?_) (a' := ?_) (bl true [69, 1]) rfl rfl (any_of HT_.out (by kernel_rfl)) (fun _ _ _ h => h) (Or.inl ⟨by rfl, ?_⟩) ?_ ?_
                rotate_left
                ·
                 intro w'
                 go_simp
                 with_reducible rfl
                rotate_left
                ·
                 simp only [Act.put, s1, s2, s3, i64_w, i32_w]
                 rfl
                refine pure_ (i := 69) (N := some 193) (v := ?_) (a' := ?_) (bl true [70]) rfl rfl (any_of HT_.out (by kernel_rfl)) (fun _ _ _ h => h) (Or.inl ⟨by rfl, ?_⟩) ?_ ?_
                rotate_left
                ·
                 intro w'
                 go_simp
                 with_reducible rfl
                rotate_left
                ·
                 simp only [Act.put, s1, s2, s3, i64_w, i32_w]
                 rfl
                refine done_ (done_of HT_.out (by kernel_rfl)) ?_
                try go_wp2
                go_meet
                case rel => exact ⟨_, (!t221), (by first | rfl | (simp; done) | (simp [*]; done)), H', ⟨by first | omega | exact Nat.le_refl _⟩, ⟨by (with_reducible repeat (first | refine blk_drewN ?_ _ | refine blk_drew ?_ | refine blk_alloc ?_ _)); exact BK199.out⟩, ⟨by (with_reducible repeat (first | refine blk_drewN ?_ _ | refine blk_drew ?_ | refine blk_alloc ?_ _)); exact BK200.out⟩, ⟨by (with_reducible repeat (first | refine blk_drewN ?_ _ | refine blk_drew ?_ | refine blk_alloc ?_ _)); exact BK201.out⟩, ⟨by (with_reducible repeat (first | refine blk_drewN ?_ _ | refine blk_drew ?_ | refine blk_alloc ?_ _)); exact BK202.out⟩, ⟨by repeat (first | (with_reducible first | exact HB.out | apply below_alloc | apply pw_below_drewN | apply below_drew1 | refine below_set ?_ GE199.out | refine below_set ?_ GE200.out | refine below_set ?_ GE201.out | refine below_set ?_ GE202.out) | exact HB.out)⟩⟩
             ·
              replace c52 := Bool.eq_false_iff.mpr c52
              subst c52
              have H1 : (none) = some r := by rw [if_neg (show ¬ (false = true) by decide)] at H; exact H
              clear H
              have H := H1
              clear H1
              exact absurd H (by simp)
            ·
             replace c51 := Bool.eq_false_iff.mpr c51
             subst c51
             have H1 : ((impl_IsLeapRule.f a0_0 a0_1 a0_2).bind fun t222 => ((spec_IsLeapRule.f k a0_0 a0_1 a0_2).bind fun t223 => (if (t222 != t223) = true then (none) else (if t204 = true then ((impl_IsLeapRule.f a0_0 a0_1 a0_2).bind fun t224 => (j0 k a1 a3 a4 a6 t203 t204 t207 t211 t215 false (!t224) a0_0 a0_1 a0_2 a2_0 a2_1 a2_2 a5_0 a5_1 a5_2 a7_0 a7_1 a7_2)) else (j0 k a1 a3 a4 a6 t203 t204 t207 t211 t215 false false a0_0 a0_1 a0_2 a2_0 a2_1 a2_2 a5_0 a5_1 a5_2 a7_0 a7_1 a7_2))))) = some r := by rw [if_neg (show ¬ (false = true) by decide)] at H; exact H
             clear H
             have H := H1
             clear H1
             replace H := Option.bind_eq_some_iff.mp H
             obtain ⟨t222, A610, H⟩ := H
             try dsimp only at H
             have A61 := Aside0.mk A610
             clear A610
             replace H := Option.bind_eq_some_iff.mp H
             obtain ⟨t223, A620, H⟩ := H
             try dsimp only at H
             have A62 := Aside0.mk A620
             clear A620
             by_cases c63 : (t222 != t223) = true
             ·
              rw [if_pos c63] at H
              exact absurd H (by simp)
             ·
              rw [if_neg c63] at H
              have c63b0 : (t222 != t223) = false := by simpa using c63
              (try (have c63b1 : decide (t222 = t223) = true := by simpa using c63))
              (try (have c63b2 : (t222 == t223) = true := by simpa using c63))
              clear c63
              by_cases c64 : t204 = true
              ·
               subst c64
               have H1 : ((impl_IsLeapRule.f a0_0 a0_1 a0_2).bind fun t224 => (j0 k a1 a3 a4 a6 t203 true t207 t211 t215 false (!t224) a0_0 a0_1 a0_2 a2_0 a2_1 a2_2 a5_0 a5_1 a5_2 a7_0 a7_1 a7_2)) = some r := by rw [if_pos rfl] at H; exact H
               clear H
               have H := H1
               clear H1
               replace H := Option.bind_eq_some_iff.mp H
               obtain ⟨t224, A650, H⟩ := H
               try dsimp only at H
               have A65 := Aside0.mk A650
               clear A650
               as_aux_lemma =>
                have H' := Aside0.mk H
                clear H
                try go_wp2
                have n0_ := Aside0.mk (blk_drew BK199.out)
                have n1_ := Aside0.mk (blk_drew BK200.out)
                have n2_ := Aside0.mk (blk_drew BK201.out)
                have n3_ := Aside0.mk (blk_drew BK202.out)
                have n4_ := Aside0.mk (below_drew1 HB.out)
                clear BK199
                clear BK200
                clear BK201
                clear BK202
                clear HB
                have BK199 := n0_
                have BK200 := n1_
                have BK201 := n2_
                have BK202 := n3_
                have HB := n4_
                clear n0_ n1_ n2_ n3_ n4_
                refine start_ (n := 70) (S := fun w' => w'.cell? ⟨gb199, 0, none⟩ = some (.int .i64 a0_0) ∧ w'.cell? ⟨gb199, 1, none⟩ = some (.int .i64 a0_1) ∧ w'.cell? ⟨gb199, 2, none⟩ = some (.int .i64 a0_2)) (ds := []) (bl true [0, 70]) (by kernel_rfl) rfl rfl ⟨(blk_cell BK199.out 0).trans rfl, (blk_cell BK199.out 1).trans rfl, (blk_cell BK199.out 2).trans rfl⟩ (fun hHeld => ?_); refine with_tabW laws_FnLeapsCountedOfAll.tab9 laws_FnLeapsCountedOfAll.bits9 (fun HT_ HW_ => ?_)
                generalize w40.drew = w66 at BK199 BK200 BK201 BK202 HB hHeld ⊢
                refine pure_ (i := 0) (N := some 124) (v := ?_) (a' := ?_) (bl true [1, 69]) rfl rfl (any_of HT_.out (by kernel_rfl)) (fun _ _ _ h => h) (Or.inl ⟨by rfl, ?_⟩) ?_ ?_
                rotate_left
                ·
                 intro w'
                 go_simp
                 with_reducible rfl
                rotate_left
                ·
                 simp only [Act.put, s1, s2, s3, i64_w, i32_w]
                 rfl
                refine pure_ (i := 1) (N := some 125) (v := ?_) (a' := ?_) (bl true [2, 68]) rfl rfl (any_of HT_.out (by kernel_rfl)) (fun _ _ _ h => h) (Or.inl ⟨by rfl, ?_⟩) ?_ ?_
                rotate_left
                ·
                 intro w'
                 go_simp
                 with_reducible rfl
                rotate_left
                ·
                 simp only [Act.put, s1, s2, s3, i64_w, i32_w]
                 rfl
                refine pure_ (i := 2) (N := some 126) (v := ?_) (a' := ?_) (bl true [3, 67]) rfl rfl (any_of HT_.out (by kernel_rfl)) (fun _ _ _ h => h) (Or.inl ⟨by rfl, ?_⟩) ?_ ?_
                rotate_left
                ·
                 intro w'
                 go_simp
                 with_reducible rfl
                rotate_left
                ·
                 simp only [Act.put, s1, s2, s3, i64_w, i32_w]
                 rfl
                refine pure_ (i := 3) (N := some 127) (v := ?_) (a' := ?_) (bl true [4, 66]) rfl rfl (any_of HT_.out (by kernel_rfl)) (fun _ _ _ h => h) (Or.inl ⟨by rfl, ?_⟩) ?_ ?_
                rotate_left
                ·
                 intro w'
                 go_simp
                 with_reducible rfl
                rotate_left
                ·
                 simp only [Act.put, s1, s2, s3, i64_w, i32_w]
                 rfl
                refine pure_ (i := 4) (N := some 128) (v := ?_) (a' := ?_) (bl true [5, 65]) rfl rfl (any_of HT_.out (by kernel_rfl)) (fun _ _ _ h => h) (Or.inl ⟨by rfl, ?_⟩) ?_ ?_
                rotate_left
                ·
                 intro w'
                 go_simp
                 with_reducible rfl
                rotate_left
                ·
                 simp only [Act.put, s1, s2, s3, i64_w, i32_w]
                 rfl
                refine pure_ (i := 5) (N := some 129) (v := ?_) (a' := ?_) (bl true [6, 64]) rfl rfl (any_of HT_.out (by kernel_rfl)) (fun _ _ _ h => h) (Or.inl ⟨by rfl, ?_⟩) ?_ ?_
                rotate_left
                ·
                 intro w'
                 go_simp
                 with_reducible rfl
                rotate_left
                ·
                 simp only [Act.put, s1, s2, s3, i64_w, i32_w]
                 rfl
                refine pure_ (i := 6) (N := some 130) (v := ?_) (a' := ?_) (bl true [7, 63]) rfl rfl (any_of HT_.out (by kernel_rfl)) (fun _ _ _ h => h) (Or.inl ⟨by rfl, ?_⟩) ?_ ?_
                rotate_left
                ·
                 intro w'
                 go_simp
                 with_reducible rfl
                rotate_left
                ·
                 simp only [Act.put, s1, s2, s3, i64_w, i32_w]
                 rfl
                refine pure_ (i := 7) (N := some 131) (v := ?_) (a' := ?_) (bl true [8, 62]) rfl rfl (any_of HT_.out (by kernel_rfl)) (fun _ _ _ h => h) (Or.inl ⟨by rfl, ?_⟩) ?_ ?_
                rotate_left
                ·
                 intro w'
                 go_simp
                 with_reducible rfl
                rotate_left
                ·
                 simp only [Act.put, s1, s2, s3, i64_w, i32_w]
                 rfl
                refine pure_ (i := 8) (N := some 132) (v := ?_) (a' := ?_) (bl true [9, 61]) rfl rfl (any_of HT_.out (by kernel_rfl)) (fun _ _ _ h => h) (Or.inl ⟨by rfl, ?_⟩) ?_ ?_
                rotate_left
                ·
                 intro w'
                 go_simp
                 with_reducible rfl
                rotate_left
                ·
                 simp only [Act.put, s1, s2, s3, i64_w, i32_w]
                 rfl
                refine pure_ (i := 9) (N := some 133) (v := ?_) (a' := ?_) (bl true [10, 60]) rfl rfl (any_of HT_.out (by kernel_rfl)) (fun _ _ _ h => h) (Or.inl ⟨by rfl, ?_⟩) ?_ ?_
                rotate_left
                ·
                 intro w'
                 go_simp
                 with_reducible rfl
                rotate_left
                ·
                 simp only [Act.put, s1, s2, s3, i64_w, i32_w]
                 rfl
                refine pure_ (i := 10) (N := some 134) (v := ?_) (a' := ?_) (bl true [11, 59]) rfl rfl (any_of HT_.out (by kernel_rfl)) (fun _ _ _ h => h) (Or.inl ⟨by rfl, ?_⟩) ?_ ?_
                rotate_left
                ·
                 intro w'
                 go_simp
                 with_reducible rfl
                rotate_left
                ·
                 simp only [Act.put, s1, s2, s3, i64_w, i32_w]
                 rfl
                refine pure_ (i := 11) (N := some 135) (v := ?_) (a' := ?_) (bl true [12, 58]) rfl rfl (any_of HT_.out (by kernel_rfl)) (fun _ _ _ h => h) (Or.inl ⟨by rfl, ?_⟩) ?_ ?_
                rotate_left
                ·
                 intro w'
                 go_simp
                 with_reducible rfl
                rotate_left
                ·
                 simp only [Act.put, s1, s2, s3, i64_w, i32_w]
                 rfl
                refine pure_ (i := 12) (N := some 136) (v := ?_) (a' := ?_) (bl true [13, 57]) rfl rfl (any_of HT_.out (by kernel_rfl)) (fun _ _ _ h => h) (Or.inl ⟨by rfl, ?_⟩) ?_ ?_
                rotate_left
                ·
                 intro w'
                 go_simp
                 with_reducible rfl
                rotate_left
                ·
                 simp only [Act.put, s1, s2, s3, i64_w, i32_w]
                 rfl
                refine pure_ (i := 13) (N := some 137) (v := ?_) (a' := ?_) (bl true [14, 56]) rfl rfl (any_of HT_.out (by kernel_rfl)) (fun _ _ _ h => h) (Or.inl ⟨by rfl, ?_⟩) ?_ ?_
                rotate_left
                ·
                 intro w'
                 go_simp
                 with_reducible rfl
                rotate_left
                ·
                 simp only [Act.put, s1, s2, s3, i64_w, i32_w]
                 rfl
                refine pure_ (i := 14) (N := some 138) (v := ?_) (a' := ?_) (bl true [15, 55]) rfl rfl (any_of HT_.out (by kernel_rfl)) (fun _ _ _ h => h) (Or.inl ⟨by rfl, ?_⟩) ?_ ?_
                rotate_left
                ·
                 intro w'
                 go_simp
                 with_reducible rfl
                rotate_left
                ·
                 simp only [Act.put, s1, s2, s3, i64_w, i32_w]
                 rfl
                refine pure_ (i := 15) (N := some 139) (v := ?_) (a' := ?_) (bl true [16, 54]) rfl rfl (any_of HT_.out (by kernel_rfl)) (fun _ _ _ h => h) (Or.inl ⟨by rfl, ?_⟩) ?_ ?_
                rotate_left
                ·
                 intro w'
                 go_simp
                 with_reducible rfl
                rotate_left
                ·
                 simp only [Act.put, s1, s2, s3, i64_w, i32_w]
                 rfl
                refine pure_ (i := 16) (N := some 140) (v := ?_) (a' := ?_) (bl true [17, 53]) rfl rfl (any_of HT_.out (by kernel_rfl)) (fun _ _ _ h => h) (Or.inl ⟨by rfl, ?_⟩) ?_ ?_
                rotate_left
                ·
                 intro w'
                 go_simp
                 with_reducible rfl
                rotate_left
                ·
                 simp only [Act.put, s1, s2, s3, i64_w, i32_w]
                 rfl
                refine pure_ (i := 17) (N := some 141) (v := ?_) (a' := ?_) (bl true [18, 52]) rfl rfl (any_of HT_.out (by kernel_rfl)) (fun _ _ _ h => h) (Or.inl ⟨by rfl, ?_⟩) ?_ ?_
                rotate_left
                ·
                 intro w'
                 go_simp
                 with_reducible rfl
                rotate_left
                ·
                 simp only [Act.put, s1, s2, s3, i64_w, i32_w]
                 rfl
                refine pure_ (i := 18) (N := some 142) (v := ?_) (a' := ?_) (bl true [19, 51]) rfl rfl (any_of HT_.out (by kernel_rfl)) (fun _ _ _ h => h) (Or.inl ⟨by rfl, ?_⟩) ?_ ?_
                rotate_left
                ·
                 intro w'
                 go_simp
                 with_reducible rfl
                rotate_left
                ·
                 simp only [Act.put, s1, s2, s3, i64_w, i32_w]
                 rfl
                refine pure_ (i := 19) (N := some 143) (v := ?_) (a' := ?_) (bl true [20, 50]) rfl rfl (any_of HT_.out (by kernel_rfl)) (fun _ _ _ h => h) (Or.inl ⟨by rfl, ?_⟩) ?_ ?_
                rotate_left
                ·
                 intro w'
                 go_simp
                 with_reducible rfl
                rotate_left
                ·
                 simp only [Act.put, s1, s2, s3, i64_w, i32_w]
                 rfl
                refine pure_ (i := 20) (N := some 144) (v := ?_) (a' := ?_) (bl true [21, 49]) rfl rfl (any_of HT_.out (by kernel_rfl)) (fun _ _ _ h => h) (Or.inl ⟨by rfl, ?_⟩) ?_ ?_
                rotate_left
                ·
                 intro w'
                 go_simp
                 with_reducible rfl
                rotate_left
                ·
                 simp only [Act.put, s1, s2, s3, i64_w, i32_w]
                 rfl
                refine pure_ (i := 21) (N := some 145) (v := ?_) (a' := ?_) (bl true [22, 48]) rfl rfl (any_of HT_.out (by kernel_rfl)) (fun _ _ _ h => h) (Or.inl ⟨by rfl, ?_⟩) ?_ ?_
                rotate_left
                ·
                 intro w'
                 go_simp
                 with_reducible rfl
                rotate_left
                ·
                 simp only [Act.put, s1, s2, s3, i64_w, i32_w]
                 rfl
                refine pure_ (i := 22) (N := some 146) (v := ?_) (a' := ?_) (bl true [23, 47]) rfl rfl (any_of HT_.out (by kernel_rfl)) (fun _ _ _ h => h) (Or.inl ⟨by rfl, ?_⟩) ?_ ?_
                rotate_left
                ·
                 intro w'
                 go_simp
                 with_reducible rfl
                rotate_left
                ·
                 simp only [Act.put, s1, s2, s3, i64_w, i32_w]
                 rfl
                refine pure_ (i := 23) (N := some 147) (v := ?_) (a' := ?_) (bl true [24, 46]) rfl rfl (any_of HT_.out (by kernel_rfl)) (fun _ _ _ h => h) (Or.inl ⟨by rfl, ?_⟩) ?_ ?_
                rotate_left
                ·
                 intro w'
                 go_simp
                 with_reducible rfl
                rotate_left
                ·
                 simp only [Act.put, s1, s2, s3, i64_w, i32_w]
                 rfl
                refine pure_ (i := 24) (N := some 148) (v := ?_) (a' := ?_) (bl true [25, 45]) rfl rfl (any_of HT_.out (by kernel_rfl)) (fun _ _ _ h => h) (Or.inl ⟨by rfl, ?_⟩) ?_ ?_
                rotate_left
                ·
                 intro w'
                 go_simp
                 with_reducible rfl
                rotate_left
                ·
                 simp only [Act.put, s1, s2, s3, i64_w, i32_w]
                 rfl
                refine pure_ (i := 25) (N := some 149) (v := ?_) (a' := ?_) (bl true [26, 44]) rfl rfl (any_of HT_.out (by kernel_rfl)) (fun _ _ _ h => h) (Or.inl ⟨by rfl, ?_⟩) ?_ ?_
                rotate_left
                ·
                 intro w'
                 go_simp
                 with_reducible rfl
                rotate_left
                ·
                 simp only [Act.put, s1, s2, s3, i64_w, i32_w]
                 rfl
                refine pure_ (i := 26) (N := some 150) (v := ?_) (a' := ?_) (bl true [27, 43]) rfl rfl (any_of HT_.out (by kernel_rfl)) (fun _ _ _ h => h) (Or.inl ⟨by rfl, ?_⟩) ?_ ?_
                rotate_left
                ·
                 intro w'
                 go_simp
                 with_reducible rfl
                rotate_left
                ·
                 simp only [Act.put, s1, s2, s3, i64_w, i32_w]
                 rfl
                refine pure_ (i := 27) (N := some 151) (v := ?_) (a' := ?_) (bl true [28, 42]) rfl rfl (any_of HT_.out (by kernel_rfl)) (fun _ _ _ h => h) (Or.inl ⟨by rfl, ?_⟩) ?_ ?_
                rotate_left
                ·
                 intro w'
                 go_simp
                 with_reducible rfl
                rotate_left
                ·
                 simp only [Act.put, s1, s2, s3, i64_w, i32_w]
                 rfl
                refine pure_ (i := 28) (N := some 152) (v := ?_) (a' := ?_) (bl true [29, 41]) rfl rfl (any_of HT_.out (by kernel_rfl)) (fun _ _ _ h => h) (Or.inl ⟨by rfl, ?_⟩) ?_ ?_
                rotate_left
                ·
                 intro w'
                 go_simp
                 with_reducible rfl
                rotate_left
                ·
                 simp only [Act.put, s1, s2, s3, i64_w, i32_w]
                 rfl
                refine pure_ (i := 29) (N := some 153) (v := ?_) (a' := ?_) (bl true [30, 40]) rfl rfl (any_of HT_.out (by kernel_rfl)) (fun _ _ _ h => h) (Or.inl ⟨by rfl, ?_⟩) ?_ ?_
                rotate_left
                ·
                 intro w'
                 go_simp
                 with_reducible rfl
                rotate_left
                ·
                 simp only [Act.put, s1, s2, s3, i64_w, i32_w]
                 rfl
                refine pure_ (i := 30) (N := some 154) (v := ?_) (a' := ?_) (bl true [31, 39]) rfl rfl (any_of HT_.out (by kernel_rfl)) (fun _ _ _ h => h) (Or.inl ⟨by rfl, ?_⟩) ?_ ?_
                rotate_left
                ·
                 intro w'
                 go_simp
                 with_reducible rfl
                rotate_left
                ·
                 simp only [Act.put, s1, s2, s3, i64_w, i32_w]
                 rfl
                refine pure_ (i := 31) (N := some 155) (v := ?_) (a' := ?_) (bl true [32, 38]) rfl rfl (any_of HT_.out (by kernel_rfl)) (fun _ _ _ h => h) (Or.inl ⟨by rfl, ?_⟩) ?_ ?_
                rotate_left
                ·
                 intro w'
                 go_simp
                 with_reducible rfl
                rotate_left
                ·
                 simp only [Act.put, s1, s2, s3, i64_w, i32_w]
                 rfl
                refine pure_ (i := 32) (N := some 156) (v := ?_) (a' := ?_) (bl true [33, 37]) rfl rfl (any_of HT_.out (by kernel_rfl)) (fun _ _ _ h => h) (Or.inl ⟨by rfl, ?_⟩) ?_ ?_
                rotate_left
                ·
                 intro w'
                 go_simp
                 with_reducible rfl
                rotate_left
                ·
                 simp only [Act.put, s1, s2, s3, i64_w, i32_w]
                 rfl
                refine pure_ (i := 33) (N := some 157) (v := ?_) (a' := ?_) (bl true [34, 36]) rfl rfl (any_of HT_.out (by kernel_rfl)) (fun _ _ _ h => h) (Or.inl ⟨by rfl, ?_⟩) ?_ ?_
                rotate_left
                ·
                 intro w'
                 go_simp
                 with_reducible rfl
                rotate_left
                ·
                 simp only [Act.put, s1, s2, s3, i64_w, i32_w]
                 rfl
                refine pure_ (i := 34) (N := some 158) (v := ?_) (a' := ?_) (bl true [35, 35]) rfl rfl (any_of HT_.out (by kernel_rfl)) (fun _ _ _ h => h) (Or.inl ⟨by rfl, ?_⟩) ?_ ?_
                rotate_left
                ·
                 intro w'
                 go_simp
                 with_reducible rfl
                rotate_left
                ·
                 simp only [Act.put, s1, s2, s3, i64_w, i32_w]
                 rfl
                refine pure_ (i := 35) (N := some 159) (v := ?_) (a' := ?_) (bl true [36, 34]) rfl rfl (any_of HT_.out (by kernel_rfl)) (fun _ _ _ h => h) (Or.inl ⟨by rfl, ?_⟩) ?_ ?_
                rotate_left
                ·
                 intro w'
                 go_simp
                 with_reducible rfl
                rotate_left
                ·
                 simp only [Act.put, s1, s2, s3, i64_w, i32_w]
                 rfl
                refine pure_ (i := 36) (N := some 160) (v := ?_) (a' := ?_) (bl true [37, 33]) rfl rfl (any_of HT_.out (by kernel_rfl)) (fun _ _ _ h => h) (Or.inl ⟨by rfl, ?_⟩) ?_ ?_
                rotate_left
                ·
                 intro w'
                 go_simp
                 with_reducible rfl
                rotate_left
                ·
                 simp only [Act.put, s1, s2, s3, i64_w, i32_w]
                 rfl
                refine pure_ (i := 37) (N := some 161) (v := ?_) (a' := ?_) (bl true [38, 32]) rfl rfl (any_of HT_.out (by kernel_rfl)) (fun _ _ _ h => h) (Or.inl ⟨by rfl, ?_⟩) ?_ ?_
                rotate_left
                ·
                 intro w'
                 go_simp
                 with_reducible rfl
                rotate_left
                ·
                 simp only [Act.put, s1, s2, s3, i64_w, i32_w]
                 rfl
                refine pure_ (i := 38) (N := some 162) (v := ?_) (a' := ?_) (bl true [39, 31]) rfl rfl (any_of HT_.out (by kernel_rfl)) (fun _ _ _ h => h) (Or.inl ⟨by rfl, ?_⟩) ?_ ?_
                rotate_left
                ·
                 intro w'
                 go_simp
                 with_reducible rfl
                rotate_left
                ·
                 simp only [Act.put, s1, s2, s3, i64_w, i32_w]
                 rfl
                refine pure_ (i := 39) (N := some 163) (v := ?_) (a' := ?_) (bl true [40, 30]) rfl rfl (any_of HT_.out (by kernel_rfl)) (fun _ _ _ h => h) (Or.inl ⟨by rfl, ?_⟩) ?_ ?_
                rotate_left
                ·
                 intro w'
                 go_simp
                 with_reducible rfl
                rotate_left
                ·
                 simp only [Act.put, s1, s2, s3, i64_w, i32_w]
                 rfl
                refine pure_ (i := 40) (N := some 164) (v := ?_) (a' := ?_) (bl true [41, 29]) rfl rfl (any_of HT_.out (by kernel_rfl)) (fun _ _ _ h => h) (Or.inl ⟨by rfl, ?_⟩) ?_ ?_
                rotate_left
                ·
                 intro w'
                 go_simp
                 with_reducible rfl
                rotate_left
                ·
                 simp only [Act.put, s1, s2, s3, i64_w, i32_w]
                 rfl
                refine pure_ (i := 41) (N := some 165) (v := ?_) (a' := ?_) (bl true [42, 28]) rfl rfl (any_of HT_.out (by kernel_rfl)) (fun _ _ _ h => h) (Or.inl ⟨by rfl, ?_⟩) ?_ ?_
                rotate_left
                ·
                 intro w'
                 go_simp
                 with_reducible rfl
                rotate_left
                ·
                 simp only [Act.put, s1, s2, s3, i64_w, i32_w]
                 rfl
                refine pure_ (i := 42) (N := some 166) (v := ?_) (a' := ?_) (bl true [43, 27]) rfl rfl (any_of HT_.out (by kernel_rfl)) (fun _ _ _ h => h) (Or.inl ⟨by rfl, ?_⟩) ?_ ?_
                rotate_left
                ·
                 intro w'
                 go_simp
                 with_reducible rfl
                rotate_left
                ·
                 simp only [Act.put, s1, s2, s3, i64_w, i32_w]
                 rfl
                refine pure_ (i := 43) (N := some 167) (v := ?_) (a' := ?_) (bl true [44, 26]) rfl rfl (any_of HT_.out (by kernel_rfl)) (fun _ _ _ h => h) (Or.inl ⟨by rfl, ?_⟩) ?_ ?_
                rotate_left
                ·
                 intro w'
                 go_simp
                 with_reducible rfl
                rotate_left
                ·
                 simp only [Act.put, s1, s2, s3, i64_w, i32_w]
                 rfl
                refine pure_ (i := 44) (N := some 168) (v := ?_) (a' := ?_) (bl true [45, 25]) rfl rfl (any_of HT_.out (by kernel_rfl)) (fun _ _ _ h => h) (Or.inl ⟨by rfl, ?_⟩) ?_ ?_
                rotate_left
                ·
                 intro w'
                 go_simp
                 with_reducible rfl
                rotate_left
                ·
                 simp only [Act.put, s1, s2, s3, i64_w, i32_w]
                 rfl
                refine pure_ (i := 45) (N := some 169) (v := ?_) (a' := ?_) (bl true [46, 24]) rfl rfl (any_of HT_.out (by kernel_rfl)) (fun _ _ _ h => h) (Or.inl ⟨by rfl, ?_⟩) ?_ ?_
                rotate_left
                ·
                 intro w'
                 go_simp
                 with_reducible rfl
                rotate_left
                ·
                 simp only [Act.put, s1, s2, s3, i64_w, i32_w]
                 rfl
                refine pure_ (i := 46) (N := some 170) (v := ?_) (a' := ?_) (bl true [47, 23]) rfl rfl (any_of HT_.out (by kernel_rfl)) (fun _ _ _ h => h) (Or.inl ⟨by rfl, ?_⟩) ?_ ?_
                rotate_left
                ·
                 intro w'
                 go_simp
                 with_reducible rfl
                rotate_left
                ·
                 simp only [Act.put, s1, s2, s3, i64_w, i32_w]
                 rfl
                refine pure_ (i := 47) (N := some 171) (v := ?_) (a' := ?_) (bl true [48, 22]) rfl rfl (any_of HT_.out (by kernel_rfl)) (fun _ _ _ h => h) (Or.inl ⟨by rfl, ?_⟩) ?_ ?_
                rotate_left
                ·
                 intro w'
                 go_simp
                 with_reducible rfl
                rotate_left
                ·
                 simp only [Act.put, s1, s2, s3, i64_w, i32_w]
                 rfl
                refine pure_ (i := 48) (N := some 172) (v := ?_) (a' := ?_) (bl true [49, 21]) rfl rfl (any_of HT_.out (by kernel_rfl)) (fun _ _ _ h => h) (Or.inl ⟨by rfl, ?_⟩) ?_ ?_
                rotate_left
                ·
                 intro w'
                 go_simp
                 with_reducible rfl
                rotate_left
                ·
                 simp only [Act.put, s1, s2, s3, i64_w, i32_w]
                 rfl
                refine pure_ (i := 49) (N := some 173) (v := ?_) (a' := ?_) (bl true [50, 20]) rfl rfl (any_of HT_.out (by kernel_rfl)) (fun _ _ _ h => h) (Or.inl ⟨by rfl, ?_⟩) ?_ ?_
                rotate_left
                ·
                 intro w'
                 go_simp
                 with_reducible rfl
                rotate_left
                ·
                 simp only [Act.put, s1, s2, s3, i64_w, i32_w]
                 rfl
                refine pure_ (i := 50) (N := some 174) (v := ?_) (a' := ?_) (bl true [51, 19]) rfl rfl (any_of HT_.out (by kernel_rfl)) (fun _ _ _ h => h) (Or.inl ⟨by rfl, ?_⟩) ?_ ?_
                rotate_left
                ·
                 intro w'
                 go_simp
                 with_reducible rfl
                rotate_left
                ·
                 simp only [Act.put, s1, s2, s3, i64_w, i32_w]
                 rfl
                refine pure_ (i := 51) (N := some 175) (v := undef) (a' := ?_) (bl true [52, 18]) rfl rfl (any_of HT_.out (by kernel_rfl)) (fun _ _ _ h => h) (Or.inr ⟨by rfl, rfl⟩) ?_ ?_
                rotate_left
                ·
                 simp only [Act.put, s1, s2, s3, i64_w, i32_w]
                 rfl
                refine pure_ (i := 52) (N := some 176) (v := undef) (a' := ?_) (bl true [53, 17]) rfl rfl (any_of HT_.out (by kernel_rfl)) (fun _ _ _ h => h) (Or.inr ⟨by rfl, rfl⟩) ?_ ?_
                rotate_left
                ·
                 simp only [Act.put, s1, s2, s3, i64_w, i32_w]
                 rfl
                refine pure_ (i := 53) (N := some 177) (v := ?_) (a' := ?_) (bl true [54, 16]) rfl rfl (any_of HT_.out (by kernel_rfl)) (fun _ _ _ h => h) (Or.inl ⟨by rfl, ?_⟩) ?_ ?_
                rotate_left
                ·
                 intro w'
                 go_simp
                 with_reducible rfl
                rotate_left
                ·
                 simp only [Act.put, s1, s2, s3, i64_w, i32_w]
                 rfl
                refine pure_ (i := 54) (N := some 178) (v := ?_) (a' := ?_) (bl true [55, 15]) rfl rfl (any_of HT_.out (by kernel_rfl)) (fun _ _ _ h => h) (Or.inl ⟨by rfl, ?_⟩) ?_ ?_
                rotate_left
                ·
                 intro w'
                 go_simp
                 with_reducible rfl
                rotate_left
                ·
                 simp only [Act.put, s1, s2, s3, i64_w, i32_w]
                 rfl
                refine pure_ (i := 55) (N := some 179) (v := ?_) (a' := ?_) (bl true [56, 14]) rfl rfl (any_of HT_.out (by kernel_rfl)) (fun _ _ _ h => h) (Or.inl ⟨by rfl, ?_⟩) ?_ ?_
                rotate_left
                ·
                 intro w'
                 go_simp
                 with_reducible rfl
                rotate_left
                ·
                 simp only [Act.put, s1, s2, s3, i64_w, i32_w]
                 rfl
                refine take_ (i := 56) (N := some 180) (v := ?_) (a' := ?_) (bl true [57, 13]) rfl rfl (take_ofW HT_.out HW_.out (by kernel_rfl)) (fun _ _ _ h => h) (Or.inl ⟨by rfl, ?_⟩) hHeld ?_ ?_
                rotate_left
                ·
                 rintro w' ⟨s0, s1, s2⟩
                 go_simp
                 with_reducible rfl
                rotate_left
                ·
                 simp only [Act.put, s1, s2, s3, i64_w, i32_w]
                 rfl
                refine take_ (i := 58) (N := some 182) (v := ?_) (a' := ?_) (bl true [57, 1, 1, 11]) rfl rfl (take_ofW HT_.out HW_.out (by kernel_rfl)) (fun _ _ _ h => h) (Or.inl ⟨by rfl, ?_⟩) hHeld ?_ ?_
                rotate_left
                ·
                 rintro w' ⟨s0, s1, s2⟩
                 go_simp
                 with_reducible rfl
                rotate_left
                ·
                 simp only [Act.put, s1, s2, s3, i64_w, i32_w]
                 rfl
                refine one_ (i := 57) (N := some 181) (bl true [59, 11]) rfl rfl (one_of HT_.out (by kernel_rfl)) (by decide) (fun K hK => ?_)
                refine goes_ Try.func24 (by kernel_rfl) rfl #[.agg #[.int .i64 a0_0, .int .i64 a0_1, .int .i64 a0_2]] (by rfl) rfl rfl (by (try simp only [List.map_toArray, List.map_cons, List.map_nil]); first | done | rfl | (simp only [List.length_drop, List.length_take]; rfl)) ?_
                with_reducible refine (impl_IsLeapRule.calls a0_0 a0_1 a0_2 t222 _ A61.out).mono ?_
                rintro e w67 ⟨rfl, hb⟩
                refine ⟨_, rfl, ?_⟩
                have n0_ := Aside0.mk (blk_below (g := gb199) (by (with_reducible repeat (first | refine blk_drewN ?_ _ | refine blk_drew ?_ | refine blk_alloc ?_ _)); exact BK199.out) hb)
                have n1_ := Aside0.mk (blk_below (g := gb200) (by (with_reducible repeat (first | refine blk_drewN ?_ _ | refine blk_drew ?_ | refine blk_alloc ?_ _)); exact BK200.out) hb)
                have n2_ := Aside0.mk (blk_below (g := gb201) (by (with_reducible repeat (first | refine blk_drewN ?_ _ | refine blk_drew ?_ | refine blk_alloc ?_ _)); exact BK201.out) hb)
                have n3_ := Aside0.mk (blk_below (g := gb202) (by (with_reducible repeat (first | refine blk_drewN ?_ _ | refine blk_drew ?_ | refine blk_alloc ?_ _)); exact BK202.out) hb)
                have n4_ := Aside0.mk (below_step (by repeat (first | (with_reducible first | exact HB.out | apply below_alloc | apply pw_below_drewN | apply below_drew1 | refine below_set ?_ GE199.out | refine below_set ?_ GE200.out | refine below_set ?_ GE201.out | refine below_set ?_ GE202.out) | exact HB.out)) hb)
                clear BK199
                clear BK200
                clear BK201
                clear BK202
                clear HB
                have BK199 := n0_
                have BK200 := n1_
                have BK201 := n2_
                have BK202 := n3_
                have HB := n4_
                clear n0_ n1_ n2_ n3_ n4_
                (try clear hb)
                (try clear hb2)
                (try clear hk)
                (try clear hi)
                refine hK.out _ _ ⟨(blk_cell BK199.out 0).trans rfl, (blk_cell BK199.out 1).trans rfl, (blk_cell BK199.out 2).trans rfl⟩ (fun hHeld => ?_)
                clear hK K
                refine norm_ (a' := ?_) ?_ ?_
                rotate_left
                ·
                 show Act.put _ (some 181) _ = _
                 simp only [Act.put, s1, s2, s3, i64_w, i32_w]
                 rfl
                refine one_ (i := 59) (N := some 183) (bl true [60, 10]) rfl rfl (one_of HT_.out (by kernel_rfl)) (by decide) (fun K hK => ?_)
                refine goes_ Try.func25 (by kernel_rfl) rfl #[.agg #[.int .i64 a0_0, .int .i64 a0_1, .int .i64 a0_2]] (by rfl) rfl rfl (by (try simp only [List.map_toArray, List.map_cons, List.map_nil]); first | done | rfl | (simp only [List.length_drop, List.length_take]; rfl)) ?_
                with_reducible refine (spec_IsLeapRule.calls k a0_0 a0_1 a0_2 t223 _ A62.out).mono ?_
                rintro e w68 ⟨rfl, hb⟩
                refine ⟨_, rfl, ?_⟩
                have n0_ := Aside0.mk (blk_below (g := gb199) (by (with_reducible repeat (first | refine blk_drewN ?_ _ | refine blk_drew ?_ | refine blk_alloc ?_ _)); exact BK199.out) hb)
                have n1_ := Aside0.mk (blk_below (g := gb200) (by (with_reducible repeat (first | refine blk_drewN ?_ _ | refine blk_drew ?_ | refine blk_alloc ?_ _)); exact BK200.out) hb)
                have n2_ := Aside0.mk (blk_below (g := gb201) (by (with_reducible repeat (first | refine blk_drewN ?_ _ | refine blk_drew ?_ | refine blk_alloc ?_ _)); exact BK201.out) hb)
                have n3_ := Aside0.mk (blk_below (g := gb202) (by (with_reducible repeat (first | refine blk_drewN ?_ _ | refine blk_drew ?_ | refine blk_alloc ?_ _)); exact BK202.out) hb)
                have n4_ := Aside0.mk (below_step (by repeat (first | (with_reducible first | exact HB.out | apply below_alloc | apply pw_below_drewN | apply below_drew1 | refine below_set ?_ GE199.out | refine below_set ?_ GE200.out | refine below_set ?_ GE201.out | refine below_set ?_ GE202.out) | exact HB.out)) hb)
                clear BK199
                clear BK200
                clear BK201
                clear BK202
                clear HB
                have BK199 := n0_
                have BK200 := n1_
                have BK201 := n2_
                have BK202 := n3_
                have HB := n4_
                clear n0_ n1_ n2_ n3_ n4_
                (try clear hb)
                (try clear hb2)
                (try clear hk)
                (try clear hi)
                refine hK.out _ _ ⟨(blk_cell BK199.out 0).trans rfl, (blk_cell BK199.out 1).trans rfl, (blk_cell BK199.out 2).trans rfl⟩ (fun hHeld => ?_)
                clear hK K
                refine norm_ (a' := ?_) ?_ ?_
                rotate_left
                ·
                 show Act.put _ (some 183) _ = _
                 simp only [Act.put, s1, s2, s3, i64_w, i32_w]
                 rfl
                refine pure_ (i := 60) (N := some 184) (v := ?_) (a' := ?_) (bl true [61, 9]) rfl rfl (any_of HT_.out (by kernel_rfl)) (fun _ _ _ h => h) (Or.inl ⟨by rfl, ?_⟩) ?_ ?_
                rotate_left
                ·
                 intro w'
                 go_simp
                 with_reducible rfl
                rotate_left
                ·
                 simp only [Act.put, s1, s2, s3, i64_w, i32_w]
                 rfl
                refine pure_ (i := 61) (N := some 185) (v := ?_) (a' := ?_) (bl true [62, 8]) rfl rfl (any_of HT_.out (by kernel_rfl)) (fun _ _ _ h => h) (Or.inl ⟨by rfl, ?_⟩) ?_ ?_
                rotate_left
                ·
                 intro w'
                 go_simp
                 with_reducible rfl
                rotate_left
                ·
                 simp only [Act.put, s1, s2, s3, i64_w, i32_w]
                 rfl
                refine pure_ (i := 62) (N := some 186) (v := ?_) (a' := ?_) (bl true [63, 7]) rfl rfl (any_of HT_.out (by kernel_rfl)) (fun _ _ _ h => h) (Or.inl ⟨by rfl, ?_⟩) ?_ ?_
                rotate_left
                ·
                 intro w'
                 go_simp
                 with_reducible rfl
                rotate_left
                ·
                 simp only [Act.put, s1, s2, s3, i64_w, i32_w]
                 rfl
                refine pure_ (i := 63) (N := some 187) (v := ?_) (a' := ?_) (bl true [64, 6]) rfl rfl (any_of HT_.out (by kernel_rfl)) (fun _ _ _ h => h) (Or.inl ⟨by rfl, ?_⟩) ?_ ?_
                rotate_left
                ·
                 intro w'
                 go_simp
                 with_reducible rfl
                rotate_left
                ·
                 simp only [Act.put, s1, s2, s3, i64_w, i32_w]
                 rfl
                refine pure_ (i := 64) (N := some 188) (v := ?_) (a' := ?_) (bl true [65, 5]) rfl rfl (any_of HT_.out (by kernel_rfl)) (fun _ _ _ h => h) (Or.inl ⟨by rfl, ?_⟩) ?_ ?_
                rotate_left
                ·
                 intro w'
                 go_simp
                 with_reducible rfl
                rotate_left
                ·
                 simp only [Act.put, s1, s2, s3, i64_w, i32_w]
                 rfl
                refine take_ (i := 65) (N := some 189) (v := ?_) (a' := ?_) (bl true [66, 4]) rfl rfl (take_ofW HT_.out HW_.out (by kernel_rfl)) (fun _ _ _ h => h) (Or.inl ⟨by rfl, ?_⟩) hHeld ?_ ?_
                rotate_left
                ·
                 rintro w' ⟨s0, s1, s2⟩
                 go_simp
                 with_reducible rfl
                rotate_left
                ·
                 simp only [Act.put, s1, s2, s3, i64_w, i32_w]
                 rfl
                refine one_ (i := 66) (N := some 190) (bl true [67, 3]) rfl rfl (one_of HT_.out (by kernel_rfl)) (by decide) (fun K hK => ?_)
                refine goes_ Try.func24 (by kernel_rfl) rfl #[.agg #[.int .i64 a0_0, .int .i64 a0_1, .int .i64 a0_2]] (by rfl) rfl rfl (by (try simp only [List.map_toArray, List.map_cons, List.map_nil]); first | done | rfl | (simp only [List.length_drop, List.length_take]; rfl)) ?_
                with_reducible refine (impl_IsLeapRule.calls a0_0 a0_1 a0_2 t224 _ A65.out).mono ?_
                rintro e w69 ⟨rfl, hb⟩
                refine ⟨_, rfl, ?_⟩
                have n0_ := Aside0.mk (blk_below (g := gb199) (by (with_reducible repeat (first | refine blk_drewN ?_ _ | refine blk_drew ?_ | refine blk_alloc ?_ _)); exact BK199.out) hb)
                have n1_ := Aside0.mk (blk_below (g := gb200) (by (with_reducible repeat (first | refine blk_drewN ?_ _ | refine blk_drew ?_ | refine blk_alloc ?_ _)); exact BK200.out) hb)
                have n2_ := Aside0.mk (blk_below (g := gb201) (by (with_reducible repeat (first | refine blk_drewN ?_ _ | refine blk_drew ?_ | refine blk_alloc ?_ _)); exact BK201.out) hb)
                have n3_ := Aside0.mk (blk_below (g := gb202) (by (with_reducible repeat (first | refine blk_drewN ?_ _ | refine blk_drew ?_ | refine blk_alloc ?_ _)); exact BK202.out) hb)
                have n4_ := Aside0.mk (below_step (by repeat (first | (with_reducible first | exact HB.out | apply below_alloc | apply pw_below_drewN | apply below_drew1 | refine below_set ?_ GE199.out | refine below_set ?_ GE200.out | refine below_set ?_ GE201.out | refine below_set ?_ GE202.out) | exact HB.out)) hb)
                clear BK199
                clear BK200
                clear BK201
                clear BK202
                clear HB
                have BK199 := n0_
                have BK200 := n1_
                have BK201 := n2_
                have BK202 := n3_
                have HB := n4_
                clear n0_ n1_ n2_ n3_ n4_
                (try clear hb)
                (try clear hb2)
                (try clear hk)
                (try clear hi)
                refine hK.out _ _ ⟨(blk_cell BK199.out 0).trans rfl, (blk_cell BK199.out 1).trans rfl, (blk_cell BK199.out 2).trans rfl⟩ (fun hHeld => ?_)
                clear hK K
                refine norm_ (a' := ?_) ?_ ?_
                rotate_left
                ·
                 show Act.put _ (some 190) _ = _
                 simp only [Act.put, s1, s2, s3, i64_w, i32_w]
                 rfl
                refine pure_ (i := 67) (N := some 191) (v := ?_) (a' := ?_) (bl true [68, 2]) rfl rfl (any_of HT_.out (by kernel_rfl)) (fun _ _ _ h => h) (Or.inl ⟨by rfl, ?_⟩) ?_ ?_
                rotate_left
                ·
                 intro w'
                 go_simp
                 with_reducible rfl
                rotate_left
                ·
                 simp only [Act.put, s1, s2, s3, i64_w, i32_w]
                 rfl
                refine pure_ (i := 68) (N := some 192) (v := ?_) (a' := ?_) (bl true [69, 1]) rfl rfl (any_of HT_.out (by kernel_rfl)) (fun _ _ _ h => h) (Or.inl ⟨by rfl, ?_⟩) ?_ ?_
                rotate_left
                ·
                 intro w'
                 go_simp
                 with_reducible rfl
                rotate_left
                ·
                 simp only [Act.put, s1, s2, s3, i64_w, i32_w]
                 rfl
                refine pure_ (i := 69) (N := some 193) (v := ?_) (a' := ?_) (bl true [70]) rfl rfl (any_of HT_.out (by kernel_rfl)) (fun _ _ _ h => h) (Or.inl ⟨by rfl, ?_⟩) ?_ ?_
                rotate_left
                ·
                 intro w'
                 go_simp
                 with_reducible rfl
                rotate_left
                ·
                 simp only [Act.put, s1, s2, s3, i64_w, i32_w]
                 rfl
                refine done_ (done_of HT_.out (by kernel_rfl)) ?_
                try go_wp2
                go_meet
                case rel => exact ⟨_, (!t224), (by first | rfl | (simp; done) | (simp [*]; done)), H', ⟨by first | omega | exact Nat.le_refl _⟩, ⟨by (with_reducible repeat (first | refine blk_drewN ?_ _ | refine blk_drew ?_ | refine blk_alloc ?_ _)); exact BK199.out⟩, ⟨by (with_reducible repeat (first | refine blk_drewN ?_ _ | refine blk_drew ?_ | refine blk_alloc ?_ _)); exact BK200.out⟩, ⟨by (with_reducible repeat (first | refine blk_drewN ?_ _ | refine blk_drew ?_ | refine blk_alloc ?_ _)); exact BK201.out⟩, ⟨by (with_reducible repeat (first | refine blk_drewN ?_ _ | refine blk_drew ?_ | refine blk_alloc ?_ _)); exact BK202.out⟩, ⟨by repeat (first | (with_reducible first | exact HB.out | apply below_alloc | apply pw_below_drewN | apply below_drew1 | refine below_set ?_ GE199.out | refine below_set ?_ GE200.out | refine below_set ?_ GE201.out | refine below_set ?_ GE202.out) | exact HB.out)⟩⟩
              ·
               replace c64 := Bool.eq_false_iff.mpr c64
               subst c64
               have H1 : (j0 k a1 a3 a4 a6 t203 false t207 t211 t215 false false a0_0 a0_1 a0_2 a2_0 a2_1 a2_2 a5_0 a5_1 a5_2 a7_0 a7_1 a7_2) = some r := by rw [if_neg (show ¬ (false = true) by decide)] at H; exact H
               clear H
               have H := H1
               clear H1
               as_aux_lemma =>
                have H' := Aside0.mk H
                clear H
                try go_wp2
                have n0_ := Aside0.mk (blk_drew BK199.out)
                have n1_ := Aside0.mk (blk_drew BK200.out)
                have n2_ := Aside0.mk (blk_drew BK201.out)
                have n3_ := Aside0.mk (blk_drew BK202.out)
                have n4_ := Aside0.mk (below_drew1 HB.out)
                clear BK199
                clear BK200
                clear BK201
                clear BK202
                clear HB
                have BK199 := n0_
                have BK200 := n1_
                have BK201 := n2_
                have BK202 := n3_
                have HB := n4_
                clear n0_ n1_ n2_ n3_ n4_
                refine start_ (n := 70) (S := fun w' => w'.cell? ⟨gb199, 0, none⟩ = some (.int .i64 a0_0) ∧ w'.cell? ⟨gb199, 1, none⟩ = some (.int .i64 a0_1) ∧ w'.cell? ⟨gb199, 2, none⟩ = some (.int .i64 a0_2)) (ds := []) (bl true [0, 70]) (by kernel_rfl) rfl rfl ⟨(blk_cell BK199.out 0).trans rfl, (blk_cell BK199.out 1).trans rfl, (blk_cell BK199.out 2).trans rfl⟩ (fun hHeld => ?_); refine with_tabW laws_FnLeapsCountedOfAll.tab9 laws_FnLeapsCountedOfAll.bits9 (fun HT_ HW_ => ?_)
                generalize w40.drew = w70 at BK199 BK200 BK201 BK202 HB hHeld ⊢
                refine pure_ (i := 0) (N := some 124) (v := ?_) (a' := ?_) (bl true [1, 69]) rfl rfl (any_of HT_.out (by kernel_rfl)) (fun _ _ _ h => h) (Or.inl ⟨by rfl, ?_⟩) ?_ ?_
                rotate_left
                ·
                 intro w'
                 go_simp
                 with_reducible rfl
                rotate_left
                ·
                 simp only [Act.put, s1, s2, s3, i64_w, i32_w]
                 rfl
                refine pure_ (i := 1) (N := some 125) (v := ?_) (a' := ?_) (bl true [2, 68]) rfl rfl (any_of HT_.out (by kernel_rfl)) (fun _ _ _ h => h) (Or.inl ⟨by rfl, ?_⟩) ?_ ?_
                rotate_left
                ·
                 intro w'
                 go_simp
                 with_reducible rfl
                rotate_left
                ·
                 simp only [Act.put, s1, s2, s3, i64_w, i32_w]
                 rfl
                refine pure_ (i := 2) (N := some 126) (v := ?_) (a' := ?_) (bl true [3, 67]) rfl rfl (any_of HT_.out (by kernel_rfl)) (fun _ _ _ h => h) (Or.inl ⟨by rfl, ?_⟩) ?_ ?_
                rotate_left
                ·
                 intro w'
                 go_simp
                 with_reducible rfl
                rotate_left
                ·
                 simp only [Act.put, s1, s2, s3, i64_w, i32_w]
                 rfl
                refine pure_ (i := 3) (N := some 127) (v := ?_) (a' := ?_) (bl true [4, 66]) rfl rfl (any_of HT_.out (by kernel_rfl)) (fun _ _ _ h => h) (Or.inl ⟨by rfl, ?_⟩) ?_ ?_
                rotate_left
                ·
                 intro w'
                 go_simp
                 with_reducible rfl
                rotate_left
                ·
                 simp only [Act.put, s1, s2, s3, i64_w, i32_w]
                 rfl
                refine pure_ (i := 4) (N := some 128) (v := ?_) (a' := ?_) (bl true [5, 65]) rfl rfl (any_of HT_.out (by kernel_rfl)) (fun _ _ _ h => h) (Or.inl ⟨by rfl, ?_⟩) ?_ ?_
                rotate_left
                ·
                 intro w'
                 go_simp
                 with_reducible rfl
                rotate_left
                ·
                 simp only [Act.put, s1, s2, s3, i64_w, i32_w]
                 rfl
                refine pure_ (i := 5) (N := some 129) (v := ?_) (a' := ?_) (bl true [6, 64]) rfl rfl (any_of HT_.out (by kernel_rfl)) (fun _ _ _ h => h) (Or.inl ⟨by rfl, ?_⟩) ?_ ?_
                rotate_left
                ·
                 intro w'
                 go_simp
                 with_reducible rfl
                rotate_left
                ·
                 simp only [Act.put, s1, s2, s3, i64_w, i32_w]
                 rfl
                refine pure_ (i := 6) (N := some 130) (v := ?_) (a' := ?_) (bl true [7, 63]) rfl rfl (any_of HT_.out (by kernel_rfl)) (fun _ _ _ h => h) (Or.inl ⟨by rfl, ?_⟩) ?_ ?_
                rotate_left
                ·
                 intro w'
                 go_simp
                 with_reducible rfl
                rotate_left
                ·
                 simp only [Act.put, s1, s2, s3, i64_w, i32_w]
                 rfl
                refine pure_ (i := 7) (N := some 131) (v := ?_) (a' := ?_) (bl true [8, 62]) rfl rfl (any_of HT_.out (by kernel_rfl)) (fun _ _ _ h => h) (Or.inl ⟨by rfl, ?_⟩) ?_ ?_
                rotate_left
                ·
                 intro w'
                 go_simp
                 with_reducible rfl
                rotate_left
                ·
                 simp only [Act.put, s1, s2, s3, i64_w, i32_w]
                 rfl
                refine pure_ (i := 8) (N := some 132) (v := ?_) (a' := ?_) (bl true [9, 61]) rfl rfl (any_of HT_.out (by kernel_rfl)) (fun _ _ _ h => h) (Or.inl ⟨by rfl, ?_⟩) ?_ ?_
                rotate_left
                ·
                 intro w'
                 go_simp
                 with_reducible rfl
                rotate_left
                ·
                 simp only [Act.put, s1, s2, s3, i64_w, i32_w]
                 rfl
                refine pure_ (i := 9) (N := some 133) (v := ?_) (a' := ?_) (bl true [10, 60]) rfl rfl (any_of HT_.out (by kernel_rfl)) (fun _ _ _ h => h) (Or.inl ⟨by rfl, ?_⟩) ?_ ?_
                rotate_left
                ·
                 intro w'
                 go_simp
                 with_reducible rfl
                rotate_left
                ·
                 simp only [Act.put, s1, s2, s3, i64_w, i32_w]
                 rfl
                refine pure_ (i := 10) (N := some 134) (v := ?_) (a' := ?_) (bl true [11, 59]) rfl rfl (any_of HT_.out (by kernel_rfl)) (fun _ _ _ h => h) (Or.inl ⟨by rfl, ?_⟩) ?_ ?_
                rotate_left
                ·
                 intro w'
                 go_simp
                 with_reducible rfl
                rotate_left
                ·
                 simp only [Act.put, s1, s2, s3, i64_w, i32_w]
                 rfl
                refine pure_ (i := 11) (N := some 135) (v := ?_) (a' := ?_) (bl true [12, 58]) rfl rfl (any_of HT_.out (by kernel_rfl)) (fun _ _ _ h => h) (Or.inl ⟨by rfl, ?_⟩) ?_ ?_
                rotate_left
                ·
                 intro w'
                 go_simp
                 with_reducible rfl
                rotate_left
                ·
                 simp only [Act.put, s1, s2, s3, i64_w, i32_w]
                 rfl
                refine pure_ (i := 12) (N := some 136) (v := ?_) (a' := ?_) (bl true [13, 57]) rfl rfl (any_of HT_.out (by kernel_rfl)) (fun _ _ _ h => h) (Or.inl ⟨by rfl, ?_⟩) ?_ ?_
                rotate_left
                ·
                 intro w'
                 go_simp
                 with_reducible rfl
                rotate_left
                ·
                 simp only [Act.put, s1, s2, s3, i64_w, i32_w]
                 rfl
                refine pure_ (i := 13) (N := some 137) (v := ?_) (a' := ?_) (bl true [14, 56]) rfl rfl (any_of HT_.out (by kernel_rfl)) (fun _ _ _ h => h) (Or.inl ⟨by rfl, ?_⟩) ?_ ?_
                rotate_left
                ·
                 intro w'
                 go_simp
                 with_reducible rfl
                rotate_left
                ·
                 simp only [Act.put, s1, s2, s3, i64_w, i32_w]
                 rfl
                refine pure_ (i := 14) (N := some 138) (v := ?_) (a' := ?_) (bl true [15, 55]) rfl rfl (any_of HT_.out (by kernel_rfl)) (fun _ _ _ h => h) (Or.inl ⟨by rfl, ?_⟩) ?_ ?_
                rotate_left
                ·
                 intro w'
                 go_simp
                 with_reducible rfl
                rotate_left
                ·
                 simp only [Act.put, s1, s2, s3, i64_w, i32_w]
                 rfl
                refine pure_ (i := 15) (N := some 139) (v := ?_) (a' := ?_) (bl true [16, 54]) rfl rfl (any_of HT_.out (by kernel_rfl)) (fun _ _ _ h => h) (Or.inl ⟨by rfl, ?_⟩) ?_ ?_
                rotate_left
                ·
                 intro w'
                 go_simp
                 with_reducible rfl
                rotate_left
                ·
                 simp only [Act.put, s1, s2, s3, i64_w, i32_w]
                 rfl
                refine pure_ (i := 16) (N := some 140) (v := ?_) (a' := ?_) (bl true [17, 53]) rfl rfl (any_of HT_.out (by kernel_rfl)) (fun _ _ _ h => h) (Or.inl ⟨by rfl, ?_⟩) ?_ ?_
                rotate_left
                ·
                 intro w'
                 go_simp
                 with_reducible rfl
                rotate_left
                ·
                 simp only [Act.put, s1, s2, s3, i64_w, i32_w]
                 rfl
                refine pure_ (i := 17) (N := some 141) (v := ?_) (a' := ?_) (bl true [18, 52]) rfl rfl (any_of HT_.out (by kernel_rfl)) (fun _ _ _ h => h) (Or.inl ⟨by rfl, ?_⟩) ?_ ?_
                rotate_left
                ·
                 intro w'
                 go_simp
                 with_reducible rfl
                rotate_left
                ·
                 simp only [Act.put, s1, s2, s3, i64_w, i32_w]
                 rfl
                refine pure_ (i := 18) (N := some 142) (v := ?_) (a' := ?_) (bl true [19, 51]) rfl rfl (any_of HT_.out (by kernel_rfl)) (fun _ _ _ h => h) (Or.inl ⟨by rfl, ?_⟩) ?_ ?_
                rotate_left
                ·
                 intro w'
                 go_simp
                 with_reducible rfl
                rotate_left
                ·
                 simp only [Act.put, s1, s2, s3, i64_w, i32_w]
                 rfl
                refine pure_ (i := 19) (N := some 143) (v := ?_) (a' := ?_) (bl true [20, 50]) rfl rfl (any_of HT_.out (by kernel_rfl)) (fun _ _ _ h => h) (Or.inl ⟨by rfl, ?_⟩) ?_ ?_
                rotate_left
                ·
                 intro w'
                 go_simp
                 with_reducible rfl
                rotate_left
                ·
                 simp only [Act.put, s1, s2, s3, i64_w, i32_w]
                 rfl
                refine pure_ (i := 20) (N := some 144) (v := ?_) (a' := ?_) (bl true [21, 49]) rfl rfl (any_of HT_.out (by kernel_rfl)) (fun _ _ _ h => h) (Or.inl ⟨by rfl, ?_⟩) ?_ ?_
                rotate_left
                ·
                 intro w'
                 go_simp
                 with_reducible rfl
                rotate_left
                ·
                 simp only [Act.put, s1, s2, s3, i64_w, i32_w]
                 rfl
                refine pure_ (i := 21) (N := some 145) (v := ?_) (a' := ?_) (bl true [22, 48]) rfl rfl (any_of HT_.out (by kernel_rfl)) (fun _ _ _ h => h) (Or.inl ⟨by rfl, ?_⟩) ?_ ?_
                rotate_left
                ·
                 intro w'
                 go_simp
                 with_reducible rfl
                rotate_left
                ·
                 simp only [Act.put, s1, s2, s3, i64_w, i32_w]
                 rfl
                refine pure_ (i := 22) (N := some 146) (v := ?_) (a' := ?_) (bl true [23, 47]) rfl rfl (any_of HT_.out (by kernel_rfl)) (fun _ _ _ h => h) (Or.inl ⟨by rfl, ?_⟩) ?_ ?_
                rotate_left
                ·
                 intro w'
                 go_simp
                 with_reducible rfl
                rotate_left
                ·
                 simp only [Act.put, s1, s2, s3, i64_w, i32_w]
                 rfl
                refine pure_ (i := 23) (N := some 147) (v := ?_) (a' := ?_) (bl true [24, 46]) rfl rfl (any_of HT_.out (by kernel_rfl)) (fun _ _ _ h => h) (Or.inl ⟨by rfl, ?_⟩) ?_ ?_
                rotate_left
                ·
                 intro w'
                 go_simp
                 with_reducible rfl
                rotate_left
                ·
                 simp only [Act.put, s1, s2, s3, i64_w, i32_w]
                 rfl
                refine pure_ (i := 24) (N := some 148) (v := ?_) (a' := ?_) (bl true [25, 45]) rfl rfl (any_of HT_.out (by kernel_rfl)) (fun _ _ _ h => h) (Or.inl ⟨by rfl, ?_⟩) ?_ ?_
                rotate_left
                ·
                 intro w'
                 go_simp
                 with_reducible rfl
                rotate_left
                ·
                 simp only [Act.put, s1, s2, s3, i64_w, i32_w]
                 rfl
                refine pure_ (i := 25) (N := some 149) (v := ?_) (a' := ?_) (bl true [26, 44]) rfl rfl (any_of HT_.out (by kernel_rfl)) (fun _ _ _ h => h) (Or.inl ⟨by rfl, ?_⟩) ?_ ?_
                rotate_left
                ·
                 intro w'
                 go_simp
                 with_reducible rfl
                rotate_left
                ·
                 simp only [Act.put, s1, s2, s3, i64_w, i32_w]
                 rfl
                refine pure_ (i := 26) (N := some 150) (v := ?_) (a' := ?_) (bl true [27, 43]) rfl rfl (any_of HT_.out (by kernel_rfl)) (fun _ _ _ h => h) (Or.inl ⟨by rfl, ?_⟩) ?_ ?_
                rotate_left
                ·
                 intro w'
                 go_simp
                 with_reducible rfl
                rotate_left
                ·
                 simp only [Act.put, s1, s2, s3, i64_w, i32_w]
                 rfl
                refine pure_ (i := 27) (N := some 151) (v := ?_) (a' := ?_) (bl true [28, 42]) rfl rfl (any_of HT_.out (by kernel_rfl)) (fun _ _ _ h => h) (Or.inl ⟨by rfl, ?_⟩) ?_ ?_
                rotate_left
                ·
                 intro w'
                 go_simp
                 with_reducible rfl
                rotate_left
                ·
                 simp only [Act.put, s1, s2, s3, i64_w, i32_w]
                 rfl
                refine pure_ (i := 28) (N := some 152) (v := ?_) (a' := ?_) (bl true [29, 41]) rfl rfl (any_of HT_.out (by kernel_rfl)) (fun _ _ _ h => h) (Or.inl ⟨by rfl, ?_⟩) ?_ ?_
                rotate_left
                ·
                 intro w'
                 go_simp
                 with_reducible rfl
                rotate_left
                ·
                 simp only [Act.put, s1, s2, s3, i64_w, i32_w]
                 rfl
                refine pure_ (i := 29) (N := some 153) (v := ?_) (a' := ?_) (bl true [30, 40]) rfl rfl (any_of HT_.out (by kernel_rfl)) (fun _ _ _ h => h) (Or.inl ⟨by rfl, ?_⟩) ?_ ?_
                rotate_left
                ·
                 intro w'
                 go_simp
                 with_reducible rfl
                rotate_left
                ·
                 simp only [Act.put, s1, s2, s3, i64_w, i32_w]
                 rfl
                refine pure_ (i := 30) (N := some 154) (v := ?_) (a' := ?_) (bl true [31, 39]) rfl rfl (any_of HT_.out (by kernel_rfl)) (fun _ _ _ h => h) (Or.inl ⟨by rfl, ?_⟩) ?_ ?_
                rotate_left
                ·
                 intro w'
                 go_simp
                 with_reducible rfl
                rotate_left
                ·
                 simp only [Act.put, s1, s2, s3, i64_w, i32_w]
                 rfl
                refine pure_ (i := 31) (N := some 155) (v := ?_) (a' := ?_) (bl true [32, 38]) rfl rfl (any_of HT_.out (by kernel_rfl)) (fun _ _ _ h => h) (Or.inl ⟨by rfl, ?_⟩) ?_ ?_
                rotate_left
                ·
                 intro w'
                 go_simp
                 with_reducible rfl
                rotate_left
                ·
                 simp only [Act.put, s1, s2, s3, i64_w, i32_w]
                 rfl
                refine pure_ (i := 32) (N := some 156) (v := ?_) (a' := ?_) (bl true [33, 37]) rfl rfl (any_of HT_.out (by kernel_rfl)) (fun _ _ _ h => h) (Or.inl ⟨by rfl, ?_⟩) ?_ ?_
                rotate_left
                ·
                 intro w'
                 go_simp
                 with_reducible rfl
                rotate_left
                ·
                 simp only [Act.put, s1, s2, s3, i64_w, i32_w]
                 rfl
                refine pure_ (i := 33) (N := some 157) (v := ?_) (a' := ?_) (bl true [34, 36]) rfl rfl (any_of HT_.out (by kernel_rfl)) (fun _ _ _ h => h) (Or.inl ⟨by rfl, ?_⟩) ?_ ?_
                rotate_left
                ·
                 intro w'
                 go_simp
                 with_reducible rfl
                rotate_left
                ·
                 simp only [Act.put, s1, s2, s3, i64_w, i32_w]
                 rfl
                refine pure_ (i := 34) (N := some 158) (v := ?_) (a' := ?_) (bl true [35, 35]) rfl rfl (any_of HT_.out (by kernel_rfl)) (fun _ _ _ h => h) (Or.inl ⟨by rfl, ?_⟩) ?_ ?_
                rotate_left
                ·
                 intro w'
                 go_simp
                 with_reducible rfl
                rotate_left
                ·
                 simp only [Act.put, s1, s2, s3, i64_w, i32_w]
                 rfl
                refine pure_ (i := 35) (N := some 159) (v := ?_) (a' := ?_) (bl true [36, 34]) rfl rfl (any_of HT_.out (by kernel_rfl)) (fun _ _ _ h => h) (Or.inl ⟨by rfl, ?_⟩) ?_ ?_
                rotate_left
                ·
                 intro w'
                 go_simp
                 with_reducible rfl
                rotate_left
                ·
                 simp only [Act.put, s1, s2, s3, i64_w, i32_w]
                 rfl
                refine pure_ (i := 36) (N := some 160) (v := ?_) (a' := ?_) (bl true [37, 33]) rfl rfl (any_of HT_.out (by kernel_rfl)) (fun _ _ _ h => h) (Or.inl ⟨by rfl, ?_⟩) ?_ ?_
                rotate_left
                ·
                 intro w'
                 go_simp
                 with_reducible rfl
                rotate_left
                ·
                 simp only [Act.put, s1, s2, s3, i64_w, i32_w]
                 rfl
                refine pure_ (i := 37) (N := some 161) (v := ?_) (a' := ?_) (bl true [38, 32]) rfl rfl (any_of HT_.out (by kernel_rfl)) (fun _ _ _ h => h) (Or.inl ⟨by rfl, ?_⟩) ?_ ?_
                rotate_left
                ·
                 intro w'
                 go_simp
                 with_reducible rfl
                rotate_left
                ·
                 simp only [Act.put, s1, s2, s3, i64_w, i32_w]
                 rfl
                refine pure_ (i := 38) (N := some 162) (v := ?_) (a' := ?_) (bl true [39, 31]) rfl rfl (any_of HT_.out (by kernel_rfl)) (fun _ _ _ h => h) (Or.inl ⟨by rfl, ?_⟩) ?_ ?_
                rotate_left
                ·
                 intro w'
                 go_simp
                 with_reducible rfl
                rotate_left
                ·
                 simp only [Act.put, s1, s2, s3, i64_w, i32_w]
                 rfl
                refine pure_ (i := 39) (N := some 163) (v := ?_) (a' := ?_) (bl true [40, 30]) rfl rfl (any_of HT_.out (by kernel_rfl)) (fun _ _ _ h => h) (Or.inl ⟨by rfl, ?_⟩) ?_ ?_
                rotate_left
                ·
                 intro w'
                 go_simp
                 with_reducible rfl
                rotate_left
                ·
                 simp only [Act.put, s1, s2, s3, i64_w, i32_w]
                 rfl
                refine pure_ (i := 40) (N := some 164) (v := ?_) (a' := ?_) (bl true [41, 29]) rfl rfl (any_of HT_.out (by kernel_rfl)) (fun _ _ _ h => h) (Or.inl ⟨by rfl, ?_⟩) ?_ ?_
                rotate_left
                ·
                 intro w'
                 go_simp
                 with_reducible rfl
                rotate_left
                ·
                 simp only [Act.put, s1, s2, s3, i64_w, i32_w]
                 rfl
                refine pure_ (i := 41) (N := some 165) (v := ?_) (a' := ?_) (bl true [42, 28]) rfl rfl (any_of HT_.out (by kernel_rfl)) (fun _ _ _ h => h) (Or.inl ⟨by rfl, ?_⟩) ?_ ?_
                rotate_left
                ·
                 intro w'
                 go_simp
                 with_reducible rfl
                rotate_left
                ·
                 simp only [Act.put, s1, s2, s3, i64_w, i32_w]
                 rfl
                refine pure_ (i := 42) (N := some 166) (v := ?_) (a' := ?_) (bl true [43, 27]) rfl rfl (any_of HT_.out (by kernel_rfl)) (fun _ _ _ h => h) (Or.inl ⟨by rfl, ?_⟩) ?_ ?_
                rotate_left
                ·
                 intro w'
                 go_simp
                 with_reducible rfl
                rotate_left
                ·
                 simp only [Act.put, s1, s2, s3, i64_w, i32_w]
                 rfl
                refine pure_ (i := 43) (N := some 167) (v := ?_) (a' := ?_) (bl true [44, 26]) rfl rfl (any_of HT_.out (by kernel_rfl)) (fun _ _ _ h => h) (Or.inl ⟨by rfl, ?_⟩) ?_ ?_
                rotate_left
                ·
                 intro w'
                 go_simp
                 with_reducible rfl
                rotate_left
                ·
                 simp only [Act.put, s1, s2, s3, i64_w, i32_w]
                 rfl
                refine pure_ (i := 44) (N := some 168) (v := ?_) (a' := ?_) (bl true [45, 25]) rfl rfl (any_of HT_.out (by kernel_rfl)) (fun _ _ _ h => h) (Or.inl ⟨by rfl, ?_⟩) ?_ ?_
                rotate_left
                ·
                 intro w'
                 go_simp
                 with_reducible rfl
                rotate_left
                ·
                 simp only [Act.put, s1, s2, s3, i64_w, i32_w]
                 rfl
                refine pure_ (i := 45) (N := some 169) (v := ?_) (a' := ?_) (bl true [46, 24]) rfl rfl (any_of HT_.out (by kernel_rfl)) (fun _ _ _ h => h) (Or.inl ⟨by rfl, ?_⟩) ?_ ?_
                rotate_left
                ·
                 intro w'
                 go_simp
                 with_reducible rfl
                rotate_left
                ·
                 simp only [Act.put, s1, s2, s3, i64_w, i32_w]
                 rfl
                refine pure_ (i := 46) (N := some 170) (v := ?_) (a' := ?_) (bl true [47, 23]) rfl rfl (any_of HT_.out (by kernel_rfl)) (fun _ _ _ h => h) (Or.inl ⟨by rfl, ?_⟩) ?_ ?_
                rotate_left
                ·
                 intro w'
                 go_simp
                 with_reducible rfl
                rotate_left
                ·
                 simp only [Act.put, s1, s2, s3, i64_w, i32_w]
                 rfl
                refine pure_ (i := 47) (N := some 171) (v := ?_) (a' := ?_) (bl true [48, 22]) rfl rfl (any_of HT_.out (by kernel_rfl)) (fun _ _ _ h => h) (Or.inl ⟨by rfl, ?_⟩) ?_ ?_
                rotate_left
                ·
                 intro w'
                 go_simp
                 with_reducible rfl
                rotate_left
                ·
                 simp only [Act.put, s1, s2, s3, i64_w, i32_w]
                 rfl
                refine pure_ (i := 48) (N := some 172) (v := ?_) (a' := ?_) (bl true [49, 21]) rfl rfl (any_of HT_.out (by kernel_rfl)) (fun _ _ _ h => h) (Or.inl ⟨by rfl, ?_⟩) ?_ ?_
                rotate_left
                ·
                 intro w'
                 go_simp
                 with_reducible rfl
                rotate_left
                ·
                 simp only [Act.put, s1, s2, s3, i64_w, i32_w]
                 rfl
                refine pure_ (i := 49) (N := some 173) (v := ?_) (a' := ?_) (bl true [50, 20]) rfl rfl (any_of HT_.out (by kernel_rfl)) (fun _ _ _ h => h) (Or.inl ⟨by rfl, ?_⟩) ?_ ?_
                rotate_left
                ·
                 intro w'
                 go_simp
                 with_reducible rfl
                rotate_left
                ·
                 simp only [Act.put, s1, s2, s3, i64_w, i32_w]
                 rfl
                refine pure_ (i := 50) (N := some 174) (v := ?_) (a' := ?_) (bl true [51, 19]) rfl rfl (any_of HT_.out (by kernel_rfl)) (fun _ _ _ h => h) (Or.inl ⟨by rfl, ?_⟩) ?_ ?_
                rotate_left
                ·
                 intro w'
                 go_simp
                 with_reducible rfl
                rotate_left
                ·
                 simp only [Act.put, s1, s2, s3, i64_w, i32_w]
                 rfl
                refine pure_ (i := 51) (N := some 175) (v := undef) (a' := ?_) (bl true [52, 18]) rfl rfl (any_of HT_.out (by kernel_rfl)) (fun _ _ _ h => h) (Or.inr ⟨by rfl, rfl⟩) ?_ ?_
                rotate_left
                ·
                 simp only [Act.put, s1, s2, s3, i64_w, i32_w]
                 rfl
                refine pure_ (i := 52) (N := some 176) (v := undef) (a' := ?_) (bl true [53, 17]) rfl rfl (any_of HT_.out (by kernel_rfl)) (fun _ _ _ h => h) (Or.inr ⟨by rfl, rfl⟩) ?_ ?_
                rotate_left
                ·
                 simp only [Act.put, s1, s2, s3, i64_w, i32_w]
                 rfl
                refine pure_ (i := 53) (N := some 177) (v := ?_) (a' := ?_) (bl true [54, 16]) rfl rfl (any_of HT_.out (by kernel_rfl)) (fun _ _ _ h => h) (Or.inl ⟨by rfl, ?_⟩) ?_ ?_
                rotate_left
                ·
                 intro w'
                 go_simp
                 with_reducible rfl
                rotate_left
                ·
                 simp only [Act.put, s1, s2, s3, i64_w, i32_w]
                 rfl
                refine pure_ (i := 54) (N := some 178) (v := ?_) (a' := ?_) (bl true [55, 15]) rfl rfl (any_of HT_.out (by kernel_rfl)) (fun _ _ _ h => h) (Or.inl ⟨by rfl, ?_⟩) ?_ ?_
                rotate_left
                ·
                 intro w'
                 go_simp
                 with_reducible rfl
                rotate_left
                ·
                 simp only [Act.put, s1, s2, s3, i64_w, i32_w]
                 rfl
                refine pure_ (i := 55) (N := some 179) (v := ?_) (a' := ?_) (bl true [56, 14]) rfl rfl (any_of HT_.out (by kernel_rfl)) (fun _ _ _ h => h) (Or.inl ⟨by rfl, ?_⟩) ?_ ?_
                rotate_left
                ·
                 intro w'
                 go_simp
                 with_reducible rfl
                rotate_left
                ·
                 simp only [Act.put, s1, s2, s3, i64_w, i32_w]
                 rfl
                refine take_ (i := 56) (N := some 180) (v := ?_) (a' := ?_) (bl true [57, 13]) rfl rfl (take_ofW HT_.out HW_.out (by kernel_rfl)) (fun _ _ _ h => h) (Or.inl ⟨by rfl, ?_⟩) hHeld ?_ ?_
                rotate_left
                ·
                 rintro w' ⟨s0, s1, s2⟩
                 go_simp
                 with_reducible rfl
                rotate_left
                ·
                 simp only [Act.put, s1, s2, s3, i64_w, i32_w]
                 rfl
                refine take_ (i := 58) (N := some 182) (v := ?_) (a' := ?_) (bl true [57, 1, 1, 11]) rfl rfl (take_ofW HT_.out HW_.out (by kernel_rfl)) (fun _ _ _ h => h) (Or.inl ⟨by rfl, ?_⟩) hHeld ?_ ?_
                rotate_left
                ·
                 rintro w' ⟨s0, s1, s2⟩
                 go_simp
                 with_reducible rfl
                rotate_left
                ·
                 simp only [Act.put, s1, s2, s3, i64_w, i32_w]
                 rfl
                refine one_ (i := 57) (N := some 181) (bl true [59, 11]) rfl rfl (one_of HT_.out (by kernel_rfl)) (by decide) (fun K hK => ?_)
                refine goes_ Try.func24 (by kernel_rfl) rfl #[.agg #[.int .i64 a0_0, .int .i64 a0_1, .int .i64 a0_2]] (by rfl) rfl rfl (by (try simp only [List.map_toArray, List.map_cons, List.map_nil]); first | done | rfl | (simp only [List.length_drop, List.length_take]; rfl)) ?_
                with_reducible refine (impl_IsLeapRule.calls a0_0 a0_1 a0_2 t222 _ A61.out).mono ?_
                rintro e w71 ⟨rfl, hb⟩
                refine ⟨_, rfl, ?_⟩
                have n0_ := Aside0.mk (blk_below (g := gb199) (by (with_reducible repeat (first | refine blk_drewN ?_ _ | refine blk_drew ?_ | refine blk_alloc ?_ _)); exact BK199.out) hb)
                have n1_ := Aside0.mk (blk_below (g := gb200) (by (with_reducible repeat (first | refine blk_drewN ?_ _ | refine blk_drew ?_ | refine blk_alloc ?_ _)); exact BK200.out) hb)
                have n2_ := Aside0.mk (blk_below (g := gb201) (by (with_reducible repeat (first | refine blk_drewN ?_ _ | refine blk_drew ?_ | refine blk_alloc ?_ _)); exact BK201.out) hb)
                have n3_ := Aside0.mk (blk_below (g := gb202) (by (with_reducible repeat (first | refine blk_drewN ?_ _ | refine blk_drew ?_ | refine blk_alloc ?_ _)); exact BK202.out) hb)
                have n4_ := Aside0.mk (below_step (by repeat (first | (with_reducible first | exact HB.out | apply below_alloc | apply pw_below_drewN | apply below_drew1 | refine below_set ?_ GE199.out | refine below_set ?_ GE200.out | refine below_set ?_ GE201.out | refine below_set ?_ GE202.out) | exact HB.out)) hb)
                clear BK199
                clear BK200
                clear BK201
                clear BK202
                clear HB
                have BK199 := n0_
                have BK200 := n1_
                have BK201 := n2_
                have BK202 := n3_
                have HB := n4_
                clear n0_ n1_ n2_ n3_ n4_
                (try clear hb)
                (try clear hb2)
                (try clear hk)
                (try clear hi)
                refine hK.out _ _ ⟨(blk_cell BK199.out 0).trans rfl, (blk_cell BK199.out 1).trans rfl, (blk_cell BK199.out 2).trans rfl⟩ (fun hHeld => ?_)
                clear hK K
                refine norm_ (a' := ?_) ?_ ?_
                rotate_left
                ·
                 show Act.put _ (some 181) _ = _
                 simp only [Act.put, s1, s2, s3, i64_w, i32_w]
                 rfl
                refine one_ (i := 59) (N := some 183) (bl true [60, 10]) rfl rfl (one_of HT_.out (by kernel_rfl)) (by decide) (fun K hK => ?_)
                refine goes_ Try.func25 (by kernel_rfl) rfl #[.agg #[.int .i64 a0_0, .int .i64 a0_1, .int .i64 a0_2]] (by rfl) rfl rfl (by (try simp only [List.map_toArray, List.map_cons, List.map_nil]); first | done | rfl | (simp only [List.length_drop, List.length_take]; rfl)) ?_
                with_reducible refine (spec_IsLeapRule.calls k a0_0 a0_1 a0_2 t223 _ A62.out).mono ?_
                rintro e w72 ⟨rfl, hb⟩
                refine ⟨_, rfl, ?_⟩
                have n0_ := Aside0.mk (blk_below (g := gb199) (by (with_reducible repeat (first | refine blk_drewN ?_ _ | refine blk_drew ?_ | refine blk_alloc ?_ _)); exact BK199.out) hb)
                have n1_ := Aside0.mk (blk_below (g := gb200) (by (with_reducible repeat (first | refine blk_drewN ?_ _ | refine blk_drew ?_ | refine blk_alloc ?_ _)); exact BK200.out) hb)
                have n2_ := Aside0.mk (blk_below (g := gb201) (by (with_reducible repeat (first | refine blk_drewN ?_ _ | refine blk_drew ?_ | refine blk_alloc ?_ _)); exact BK201.out) hb)
                have n3_ := Aside0.mk (blk_below (g := gb202) (by (with_reducible repeat (first | refine blk_drewN ?_ _ | refine blk_drew ?_ | refine blk_alloc ?_ _)); exact BK202.out) hb)
                have n4_ := Aside0.mk (below_step (by repeat (first | (with_reducible first | exact HB.out | apply below_alloc | apply pw_below_drewN | apply below_drew1 | refine below_set ?_ GE199.out | refine below_set ?_ GE200.out | refine below_set ?_ GE201.out | refine below_set ?_ GE202.out) | exact HB.out)) hb)
                clear BK199
                clear BK200
                clear BK201
                clear BK202
                clear HB
                have BK199 := n0_
                have BK200 := n1_
                have BK201 := n2_
                have BK202 := n3_
                have HB := n4_
                clear n0_ n1_ n2_ n3_ n4_
                (try clear hb)
                (try clear hb2)
                (try clear hk)
                (try clear hi)
                refine hK.out _ _ ⟨(blk_cell BK199.out 0).trans rfl, (blk_cell BK199.out 1).trans rfl, (blk_cell BK199.out 2).trans rfl⟩ (fun hHeld => ?_)
                clear hK K
                refine norm_ (a' := ?_) ?_ ?_
                rotate_left
                ·
                 show Act.put _ (some 183) _ = _
                 simp only [Act.put, s1, s2, s3, i64_w, i32_w]
                 rfl
                refine pure_ (i := 60) (N := some 184) (v := ?_) (a' := ?_) (bl true [61, 9]) rfl rfl (any_of HT_.out (by kernel_rfl)) (fun _ _ _ h => h) (Or.inl ⟨by rfl, ?_⟩) ?_ ?_
                rotate_left
                ·
                 intro w'
                 go_simp
                 with_reducible rfl
                rotate_left
                ·
                 simp only [Act.put, s1, s2, s3, i64_w, i32_w]
                 rfl
                refine pure_ (i := 61) (N := some 185) (v := ?_) (a' := ?_) (bl true [62, 8]) rfl rfl (any_of HT_.out (by kernel_rfl)) (fun _ _ _ h => h) (Or.inl ⟨by rfl, ?_⟩) ?_ ?_
                rotate_left
                ·
                 intro w'
                 go_simp
                 with_reducible rfl
                rotate_left
                ·
                 simp only [Act.put, s1, s2, s3, i64_w, i32_w]
                 rfl
                refine pure_ (i := 62) (N := some 186) (v := ?_) (a' := ?_) (bl true [63, 7]) rfl rfl (any_of HT_.out (by kernel_rfl)) (fun _ _ _ h => h) (Or.inl ⟨by rfl, ?_⟩) ?_ ?_
                rotate_left
                ·
                 intro w'
                 go_simp
                 with_reducible rfl
                rotate_left
                ·
                 simp only [Act.put, s1, s2, s3, i64_w, i32_w]
                 rfl
                refine pure_ (i := 63) (N := some 187) (v := ?_) (a' := ?_) (bl true [64, 6]) rfl rfl (any_of HT_.out (by kernel_rfl)) (fun _ _ _ h => h) (Or.inl ⟨by rfl, ?_⟩) ?_ ?_
                rotate_left
                ·
                 intro w'
                 go_simp
                 with_reducible rfl
                rotate_left
                ·
                 simp only [Act.put, s1, s2, s3, i64_w, i32_w]
                 rfl
                refine pure_ (i := 64) (N := some 188) (v := ?_) (a' := ?_) (bl true [65, 5]) rfl rfl (any_of HT_.out (by kernel_rfl)) (fun _ _ _ h => h) (Or.inl ⟨by rfl, ?_⟩) ?_ ?_
                rotate_left
                ·
                 intro w'
                 go_simp
                 with_reducible rfl
                rotate_left
                ·
                 simp only [Act.put, s1, s2, s3, i64_w, i32_w]
                 rfl
                refine pure_ (i := 65) (N := some 189) (v := undef) (a' := ?_) (bl true [66, 4]) rfl rfl (any_of HT_.out (by kernel_rfl)) (fun _ _ _ h => h) (Or.inr ⟨by rfl, rfl⟩) ?_ ?_
                rotate_left
                ·
                 simp only [Act.put, s1, s2, s3, i64_w, i32_w]
                 rfl
                refine pure_ (i := 66) (N := some 190) (v := undef) (a' := ?_) (bl true [67, 3]) rfl rfl (any_of HT_.out (by kernel_rfl)) (fun _ _ _ h => h) (Or.inr ⟨by rfl, rfl⟩) ?_ ?_
                rotate_left
                ·
                 simp only [Act.put, s1, s2, s3, i64_w, i32_w]
                 rfl
                refine pure_ (i := 67) (N := some 191) (v := undef) (a' := ?_) (bl true [68, 2]) rfl rfl (any_of HT_.out (by kernel_rfl)) (fun _ _ _ h => h) (Or.inr ⟨by rfl, rfl⟩) ?_ ?_
                rotate_left
                ·
                 simp only [Act.put, s1, s2, s3, i64_w, i32_w]
                 rfl
                refine pure_ (i := 68) (N := some 192) (v := ?_) (a' := ?_) (bl true [69, 1]) rfl rfl (any_of HT_.out (by kernel_rfl)) (fun _ _ _ h => h) (Or.inl ⟨by rfl, ?_⟩) ?_ ?_
                rotate_left
                ·
                 intro w'
                 go_simp
                 with_reducible rfl
                rotate_left
                ·
                 simp only [Act.put, s1, s2, s3, i64_w, i32_w]
                 rfl
                refine pure_ (i := 69) (N := some 193) (v := ?_) (a' := ?_) (bl true [70]) rfl rfl (any_of HT_.out (by kernel_rfl)) (fun _ _ _ h => h) (Or.inl ⟨by rfl, ?_⟩) ?_ ?_
                rotate_left
                ·
                 intro w'
                 go_simp
                 with_reducible rfl
                rotate_left
                ·
                 simp only [Act.put, s1, s2, s3, i64_w, i32_w]
                 rfl
                refine done_ (done_of HT_.out (by kernel_rfl)) ?_
                try go_wp2
                go_meet
                case rel => exact ⟨_, (false), (by first | rfl | (simp; done) | (simp [*]; done)), H', ⟨by first | omega | exact Nat.le_refl _⟩, ⟨by (with_reducible repeat (first | refine blk_drewN ?_ _ | refine blk_drew ?_ | refine blk_alloc ?_ _)); exact BK199.out⟩, ⟨by (with_reducible repeat (first | refine blk_drewN ?_ _ | refine blk_drew ?_ | refine blk_alloc ?_ _)); exact BK200.out⟩, ⟨by (with_reducible repeat (first | refine blk_drewN ?_ _ | refine blk_drew ?_ | refine blk_alloc ?_ _)); exact BK201.out⟩, ⟨by (with_reducible repeat (first | refine blk_drewN ?_ _ | refine blk_drew ?_ | refine blk_alloc ?_ _)); exact BK202.out⟩, ⟨by repeat (first | (with_reducible first | exact HB.out | apply below_alloc | apply pw_below_drewN | apply below_drew1 | refine below_set ?_ GE199.out | refine below_set ?_ GE200.out | refine below_set ?_ GE201.out | refine below_set ?_ GE202.out) | exact HB.out)⟩⟩
         ·
          rw [if_neg c48] at H
          exact absurd H (by simp)
       ·
        rw [if_neg c46] at H
        exact absurd H (by simp)
     ·
      rw [if_neg c44] at H
      exact absurd H (by simp)
 case rest => as_aux_lemma =>
  clear HC17
  obtain ⟨kq, x193_16, rfl, HA, HJ16, BK199, BK200, BK201, BK202, HB⟩ := hcut
  cases kq with
  | zero => exact absurd HA.out (by simp [j0])
  | succ kj16 =>
   have H := HA.out
   clear HA
   simp only [j0] at H
   by_cases c73 : x193_16 = true
   ·
    subst c73
    have H1 : (none) = some r := by rw [if_pos rfl] at H; exact H
    clear H
    have H := H1
    clear H1
    exact absurd H (by simp)
   ·
    replace c73 := Bool.eq_false_iff.mpr c73
    subst c73
    have H1 : (if t204 = true then (if t211 = (Int.tmod t207 7) then ((impl_YearOfDay.f kj16 a0_0 a0_1 a0_2 t207).bind fun bt225 => (if t207 ≤ 365000000 then (if bt225.2.2 = true then (if bt225.1 = a1 then (j1 kj16 a1 a3 a4 a6 t203 t207 t215 t216 (bt225.2.1 != 0) a0_0 a0_1 a0_2 a2_0 a2_1 a2_2 a5_0 a5_1 a5_2 a7_0 a7_1 a7_2) else (none)) else (none)) else (j1 kj16 a1 a3 a4 a6 t203 t207 t215 t216 false a0_0 a0_1 a0_2 a2_0 a2_1 a2_2 a5_0 a5_1 a5_2 a7_0 a7_1 a7_2))) else (none)) else (j3 kj16 a3 a4 a6 a2_0 a2_1 a2_2 a5_0 a5_1 a5_2 a7_0 a7_1 a7_2)) = some r := by rw [if_neg (show ¬ (false = true) by decide)] at H; exact H
    clear H
    have H := H1
    clear H1
    have HC74 := Aside0.mk H
    clear H
    go_upto_if 194 with (fail)
    go_cut [] from 194 to 377 (fun wc => ∃ (kq : Nat), Aside0 (j3 kq a3 a4 a6 a2_0 a2_1 a2_2 a5_0 a5_1 a5_2 a7_0 a7_1 a7_2 = some r) ∧ Aside0 (kq ≤ kj16) ∧ Aside0 (wc.heap[gb199]? = some (.cells #[.int .i64 a0_0, .int .i64 a0_1, .int .i64 a0_2] 26 (0, 0))) ∧ Aside0 (wc.heap[gb200]? = some (.cells #[.int .i64 a2_0, .int .i64 a2_1, .int .i64 a2_2] 26 (0, 0))) ∧ Aside0 (wc.heap[gb201]? = some (.cells #[.int .i64 a5_0, .int .i64 a5_1, .int .i64 a5_2] 26 (0, 0))) ∧ Aside0 (wc.heap[gb202]? = some (.cells #[.int .i64 a7_0, .int .i64 a7_1, .int .i64 a7_2] 26 (0, 0))) ∧ Aside0 (Below w.heap.size w wc))
    case first => as_aux_lemma =>
     have H := HC74.out
     clear HC74
     by_cases c75 : t204 = true
     ·
      subst c75
      have H1 : (if t211 = (Int.tmod t207 7) then ((impl_YearOfDay.f kj16 a0_0 a0_1 a0_2 t207).bind fun bt225 => (if t207 ≤ 365000000 then (if bt225.2.2 = true then (if bt225.1 = a1 then (j1 kj16 a1 a3 a4 a6 t203 t207 t215 t216 (bt225.2.1 != 0) a0_0 a0_1 a0_2 a2_0 a2_1 a2_2 a5_0 a5_1 a5_2 a7_0 a7_1 a7_2) else (none)) else (none)) else (j1 kj16 a1 a3 a4 a6 t203 t207 t215 t216 false a0_0 a0_1 a0_2 a2_0 a2_1 a2_2 a5_0 a5_1 a5_2 a7_0 a7_1 a7_2))) else (none)) = some r := by rw [if_pos rfl] at H; exact H
      clear H
      have H := H1
      clear H1
      by_cases c76 : t211 = (Int.tmod t207 7)
      ·
       rw [if_pos c76] at H
       have c76b0 : (t211 == (Int.tmod t207 7)) = true := beq_iff_eq.mpr c76
       have c76b1 : (t211 != (Int.tmod t207 7)) = false := bne_eq_false_iff_eq.mpr c76
       clear c76
       (first | rw [c76b0] | (simp only [i64_w, i32_w]; rw [c76b0]) | skip)
       replace H := Option.bind_eq_some_iff.mp H
       obtain ⟨⟨t225, t226, t227⟩, A770, H⟩ := H
       try dsimp only at H
       have A77 := Aside0.mk A770
       clear A770
       have HC78 := Aside0.mk H
       clear H
       have hnb79 := NB199_200.out
       have hnc79 := NB200_199.out
       have hnb80 := NB199_201.out
       have hnc80 := NB201_199.out
       have hnb81 := NB199_202.out
       have hnc81 := NB202_199.out
       have hcz82_0 : wc.cell? ⟨gb199, 0, none⟩ = some (.int .i64 a0_0) := (blk_cell BK199.out 0).trans rfl
       have hcz82_1 : wc.cell? ⟨gb199, 1, none⟩ = some (.int .i64 a0_1) := (blk_cell BK199.out 1).trans rfl
       have hcz82_2 : wc.cell? ⟨gb199, 2, none⟩ = some (.int .i64 a0_2) := (blk_cell BK199.out 2).trans rfl
       have hfz82_0 := blk_frozen BK199.out 0
       have hfz82_1 := blk_frozen BK199.out 1
       have hfz82_2 := blk_frozen BK199.out 2
       go_upto_region 15 with (first | ((with_reducible refine gate_callee (f := 26) rfl ?_); refine goesL_ (some 202) rfl rfl Try.func26 (by kernel_rfl) rfl #[.agg #[.int .i64 a0_0, .int .i64 a0_1, .int .i64 a0_2], .int .i64 t207] rfl (by (try simp only [List.map_toArray, List.map_cons, List.map_nil]); first | done | rfl | (simp only [List.length_drop, List.length_take]; rfl)) ?_; (with_reducible refine (impl_YearOfDay.calls kj16 a0_0 a0_1 a0_2 t207 t225 t226 t227 _ A77.out).mono ?_); rintro e w83 ⟨rfl, hb⟩; refine ⟨_, rfl, ?_⟩; have n0_ := Aside0.mk (blk_below (g := gb199) (by (with_reducible repeat (first | refine blk_drewN ?_ _ | refine blk_drew ?_ | refine blk_alloc ?_ _)); exact BK199.out) hb); have n1_ := Aside0.mk (blk_below (g := gb200) (by (with_reducible repeat (first | refine blk_drewN ?_ _ | refine blk_drew ?_ | refine blk_alloc ?_ _)); exact BK200.out) hb); have n2_ := Aside0.mk (blk_below (g := gb201) (by (with_reducible repeat (first | refine blk_drewN ?_ _ | refine blk_drew ?_ | refine blk_alloc ?_ _)); exact BK201.out) hb); have n3_ := Aside0.mk (blk_below (g := gb202) (by (with_reducible repeat (first | refine blk_drewN ?_ _ | refine blk_drew ?_ | refine blk_alloc ?_ _)); exact BK202.out) hb); have n4_ := Aside0.mk (below_step (by repeat (first | (with_reducible first | exact HB.out | apply below_alloc | apply pw_below_drewN | apply below_drew1 | refine below_set ?_ GE199.out | refine below_set ?_ GE200.out | refine below_set ?_ GE201.out | refine below_set ?_ GE202.out) | exact HB.out)) hb); clear BK199; clear BK200; clear BK201; clear BK202; clear HB; have BK199 := n0_; have BK200 := n1_; have BK201 := n2_; have BK202 := n3_; have HB := n4_; clear n0_ n1_ n2_ n3_ n4_; (try clear hb); (try clear hb2); (try clear hk); (try clear hi)))
       (try simp only [Act.put, s1, s2, s3])
       go_cut [220] from 194 to 220 (fun v220 wc => ∃ (kq : Nat) (x220_77 : Bool), v220 = .bool x220_77 ∧ Aside0 (j1 kq a1 a3 a4 a6 t203 t207 t215 t216 x220_77 a0_0 a0_1 a0_2 a2_0 a2_1 a2_2 a5_0 a5_1 a5_2 a7_0 a7_1 a7_2 = some r) ∧ Aside0 (kq ≤ kj16) ∧ Aside0 (wc.heap[gb199]? = some (.cells #[.int .i64 a0_0, .int .i64 a0_1, .int .i64 a0_2] 26 (0, 0))) ∧ Aside0 (wc.heap[gb200]? = some (.cells #[.int .i64 a2_0, .int .i64 a2_1, .int .i64 a2_2] 26 (0, 0))) ∧ Aside0 (wc.heap[gb201]? = some (.cells #[.int .i64 a5_0, .int .i64 a5_1, .int .i64 a5_2] 26 (0, 0))) ∧ Aside0 (wc.heap[gb202]? = some (.cells #[.int .i64 a7_0, .int .i64 a7_1, .int .i64 a7_2] 26 (0, 0))) ∧ Aside0 (Below w.heap.size w wc))
       case first => as_aux_lemma =>
        have H := HC78.out
        clear HC78
        by_cases c84 : t207 ≤ 365000000
        ·
         rw [if_pos c84] at H
         have c84b0 : decide (t207 ≤ 365000000) = true := decide_eq_true c84
         clear c84
         (first | rw [c84b0] | (simp only [i64_w, i32_w]; rw [c84b0]) | skip)
         by_cases c85 : t227 = true
         ·
          subst c85
          have H1 : (if t225 = a1 then (j1 kj16 a1 a3 a4 a6 t203 t207 t215 t216 (t226 != 0) a0_0 a0_1 a0_2 a2_0 a2_1 a2_2 a5_0 a5_1 a5_2 a7_0 a7_1 a7_2) else (none)) = some r := by rw [if_pos rfl] at H; exact H
          clear H
          have H := H1
          clear H1
          by_cases c86 : t225 = a1
          ·
           rw [if_pos c86] at H
           have c86b0 : (t225 == a1) = true := beq_iff_eq.mpr c86
           have c86b1 : (t225 != a1) = false := bne_eq_false_iff_eq.mpr c86
           clear c86
           as_aux_lemma =>
            have H' := Aside0.mk H
            clear H
            go_wp2
            go_meet
            case rel => exact ⟨_, ((t226 != 0)), (by first | rfl | (simp; done) | (simp [*]; done)), H', ⟨by have := HJ16.out; first | omega | exact Nat.le_refl _⟩, ⟨by (with_reducible repeat (first | refine blk_drewN ?_ _ | refine blk_drew ?_ | refine blk_alloc ?_ _)); exact BK199.out⟩, ⟨by (with_reducible repeat (first | refine blk_drewN ?_ _ | refine blk_drew ?_ | refine blk_alloc ?_ _)); exact BK200.out⟩, ⟨by (with_reducible repeat (first | refine blk_drewN ?_ _ | refine blk_drew ?_ | refine blk_alloc ?_ _)); exact BK201.out⟩, ⟨by (with_reducible repeat (first | refine blk_drewN ?_ _ | refine blk_drew ?_ | refine blk_alloc ?_ _)); exact BK202.out⟩, ⟨by repeat (first | (with_reducible first | exact HB.out | apply below_alloc | apply pw_below_drewN | apply below_drew1 | refine below_set ?_ GE199.out | refine below_set ?_ GE200.out | refine below_set ?_ GE201.out | refine below_set ?_ GE202.out) | exact HB.out)⟩⟩
          ·
           rw [if_neg c86] at H
           exact absurd H (by simp)
         ·
          replace c85 := Bool.eq_false_iff.mpr c85
          subst c85
          have H1 : (none) = some r := by rw [if_neg (show ¬ (false = true) by decide)] at H; exact H
          clear H
          have H := H1
          clear H1
          exact absurd H (by simp)
        ·
         rw [if_neg c84] at H
         have c84b0 : decide (t207 ≤ 365000000) = false := decide_eq_false c84
         clear c84
         (first | rw [c84b0] | (simp only [i64_w, i32_w]; rw [c84b0]) | skip)
         as_aux_lemma =>
          have H' := Aside0.mk H
          clear H
          go_wp2
          go_meet
          case rel => exact ⟨_, (false), (by first | rfl | (simp; done) | (simp [*]; done)), H', ⟨by have := HJ16.out; first | omega | exact Nat.le_refl _⟩, ⟨by (with_reducible repeat (first | refine blk_drewN ?_ _ | refine blk_drew ?_ | refine blk_alloc ?_ _)); exact BK199.out⟩, ⟨by (with_reducible repeat (first | refine blk_drewN ?_ _ | refine blk_drew ?_ | refine blk_alloc ?_ _)); exact BK200.out⟩, ⟨by (with_reducible repeat (first | refine blk_drewN ?_ _ | refine blk_drew ?_ | refine blk_alloc ?_ _)); exact BK201.out⟩, ⟨by (with_reducible repeat (first | refine blk_drewN ?_ _ | refine blk_drew ?_ | refine blk_alloc ?_ _)); exact BK202.out⟩, ⟨by repeat (first | (with_reducible first | exact HB.out | apply below_alloc | apply pw_below_drewN | apply below_drew1 | refine below_set ?_ GE199.out | refine below_set ?_ GE200.out | refine below_set ?_ GE201.out | refine below_set ?_ GE202.out) | exact HB.out)⟩⟩
       case rest => as_aux_lemma =>
        clear HC78
        try clear c73
        try clear c75
        try clear c76
        try clear c76b0
        try clear c76b1
        try clear hcz82_0
        try clear hcz82_1
        try clear hcz82_2
        try clear hfz82_0
        try clear hfz82_1
        try clear hfz82_2
        obtain ⟨kq, x220_77, rfl, HA, HJ77, BK199, BK200, BK201, BK202, HB⟩ := hcut
        cases kq with
        | zero => exact absurd HA.out (by simp [j1])
        | succ kj77 =>
         have H := HA.out
         clear HA
         simp only [j1] at H
         by_cases c87 : x220_77 = true
         ·
          subst c87
          have H1 : (none) = some r := by rw [if_pos rfl] at H; exact H
          clear H
          have H := H1
          clear H1
          exact absurd H (by simp)
         ·
          replace c87 := Bool.eq_false_iff.mpr c87
          subst c87
          have H1 : (if a1 < 1000000 then ((impl_DaysUpTo.f a0_0 a0_1 a0_2 (wrap64 (a1 + 1))).bind fun bt228 => (if t203 = true then (if bt228.2 = true then (if (wrap64 (bt228.1 - t207)) = 366 then (j2 kj77 a1 a3 a4 a6 t203 t215 t216 a0_0 a0_1 a0_2 a2_0 a2_1 a2_2 a5_0 a5_1 a5_2 a7_0 a7_1 a7_2) else (none)) else (none)) else (if bt228.2 = true then (if (wrap64 (bt228.1 - t207)) = 365 then (j2 kj77 a1 a3 a4 a6 t203 t215 t216 a0_0 a0_1 a0_2 a2_0 a2_1 a2_2 a5_0 a5_1 a5_2 a7_0 a7_1 a7_2) else (none)) else (none)))) else (j2 kj77 a1 a3 a4 a6 t203 t215 t216 a0_0 a0_1 a0_2 a2_0 a2_1 a2_2 a5_0 a5_1 a5_2 a7_0 a7_1 a7_2)) = some r := by rw [if_neg (show ¬ (false = true) by decide)] at H; exact H
          clear H
          have H := H1
          clear H1
          have HC88 := Aside0.mk H
          clear H
          go_upto_if 222 with (fail)
          go_cut [] from 221 to 377 (fun wc => ∃ (kq : Nat), Aside0 (j2 kq a1 a3 a4 a6 t203 t215 t216 a0_0 a0_1 a0_2 a2_0 a2_1 a2_2 a5_0 a5_1 a5_2 a7_0 a7_1 a7_2 = some r) ∧ Aside0 (kq ≤ kj77) ∧ Aside0 (wc.heap[gb199]? = some (.cells #[.int .i64 a0_0, .int .i64 a0_1, .int .i64 a0_2] 26 (0, 0))) ∧ Aside0 (wc.heap[gb200]? = some (.cells #[.int .i64 a2_0, .int .i64 a2_1, .int .i64 a2_2] 26 (0, 0))) ∧ Aside0 (wc.heap[gb201]? = some (.cells #[.int .i64 a5_0, .int .i64 a5_1, .int .i64 a5_2] 26 (0, 0))) ∧ Aside0 (wc.heap[gb202]? = some (.cells #[.int .i64 a7_0, .int .i64 a7_1, .int .i64 a7_2] 26 (0, 0))) ∧ Aside0 (Below w.heap.size w wc))
          case first => as_aux_lemma =>
           have H := HC88.out
           clear HC88
           by_cases c89 : a1 < 1000000
           ·
            rw [if_pos c89] at H
            have c89b0 : decide (a1 < 1000000) = true := decide_eq_true c89
            clear c89
            (first | rw [c89b0] | (simp only [i64_w, i32_w]; rw [c89b0]) | skip)
            replace H := Option.bind_eq_some_iff.mp H
            obtain ⟨⟨t228, t229⟩, A900, H⟩ := H
            try dsimp only at H
            have A90 := Aside0.mk A900
            clear A900
            by_cases c91 : t203 = true
            ·
             subst c91
             have H1 : (if t229 = true then (if (wrap64 (t228 - t207)) = 366 then (j2 kj77 a1 a3 a4 a6 true t215 t216 a0_0 a0_1 a0_2 a2_0 a2_1 a2_2 a5_0 a5_1 a5_2 a7_0 a7_1 a7_2) else (none)) else (none)) = some r := by rw [if_pos rfl] at H; exact H
             clear H
             have H := H1
             clear H1
             by_cases c92 : t229 = true
             ·
              subst c92
              have H1 : (if (wrap64 (t228 - t207)) = 366 then (j2 kj77 a1 a3 a4 a6 true t215 t216 a0_0 a0_1 a0_2 a2_0 a2_1 a2_2 a5_0 a5_1 a5_2 a7_0 a7_1 a7_2) else (none)) = some r := by rw [if_pos rfl] at H; exact H
              clear H
              have H := H1
              clear H1
              by_cases c93 : (wrap64 (t228 - t207)) = 366
              ·
               rw [if_pos c93] at H
               have c93b0 : ((wrap64 (t228 - t207)) == 366) = true := beq_iff_eq.mpr c93
               have c93b1 : ((wrap64 (t228 - t207)) != 366) = false := bne_eq_false_iff_eq.mpr c93
               clear c93
               as_aux_lemma =>
                have H' := Aside0.mk H
                clear H
                have hnb94 := NB199_200.out
                have hnc94 := NB200_199.out
                have hnb95 := NB199_201.out
                have hnc95 := NB201_199.out
                have hnb96 := NB199_202.out
                have hnc96 := NB202_199.out
                have hcz97_0 : wc.cell? ⟨gb199, 0, none⟩ = some (.int .i64 a0_0) := (blk_cell BK199.out 0).trans rfl
                have hcz97_1 : wc.cell? ⟨gb199, 1, none⟩ = some (.int .i64 a0_1) := (blk_cell BK199.out 1).trans rfl
                have hcz97_2 : wc.cell? ⟨gb199, 2, none⟩ = some (.int .i64 a0_2) := (blk_cell BK199.out 2).trans rfl
                have hfz97_0 := blk_frozen BK199.out 0
                have hfz97_1 := blk_frozen BK199.out 1
                have hfz97_2 := blk_frozen BK199.out 2
                go_wp2_with (first | ((with_reducible refine gate_callee (f := 18) rfl ?_); refine goesL_ (some 227) rfl rfl Try.func18 (by kernel_rfl) rfl #[.agg #[.int .i64 a0_0, .int .i64 a0_1, .int .i64 a0_2], .int .i64 (wrap64 (a1 + 1))] rfl (by (try simp only [List.map_toArray, List.map_cons, List.map_nil]); first | done | rfl | (simp only [List.length_drop, List.length_take]; rfl)) ?_; (with_reducible refine (impl_DaysUpTo.calls a0_0 a0_1 a0_2 (wrap64 (a1 + 1)) t228 true _ A90.out).mono ?_); rintro e w98 ⟨rfl, hb⟩; refine ⟨_, rfl, ?_⟩; have n0_ := Aside0.mk (blk_below (g := gb199) (by (with_reducible repeat (first | refine blk_drewN ?_ _ | refine blk_drew ?_ | refine blk_alloc ?_ _)); exact BK199.out) hb); have n1_ := Aside0.mk (blk_below (g := gb200) (by (with_reducible repeat (first | refine blk_drewN ?_ _ | refine blk_drew ?_ | refine blk_alloc ?_ _)); exact BK200.out) hb); have n2_ := Aside0.mk (blk_below (g := gb201) (by (with_reducible repeat (first | refine blk_drewN ?_ _ | refine blk_drew ?_ | refine blk_alloc ?_ _)); exact BK201.out) hb); have n3_ := Aside0.mk (blk_below (g := gb202) (by (with_reducible repeat (first | refine blk_drewN ?_ _ | refine blk_drew ?_ | refine blk_alloc ?_ _)); exact BK202.out) hb); have n4_ := Aside0.mk (below_step (by repeat (first | (with_reducible first | exact HB.out | apply below_alloc | apply pw_below_drewN | apply below_drew1 | refine below_set ?_ GE199.out | refine below_set ?_ GE200.out | refine below_set ?_ GE201.out | refine below_set ?_ GE202.out) | exact HB.out)) hb); clear BK199; clear BK200; clear BK201; clear BK202; clear HB; have BK199 := n0_; have BK200 := n1_; have BK201 := n2_; have BK202 := n3_; have HB := n4_; clear n0_ n1_ n2_ n3_ n4_; (try clear hb); (try clear hb2); (try clear hk); (try clear hi)))
                go_meet
                case rel => exact ⟨_, H', ⟨by have := HJ16.out; have := HJ77.out; first | omega | exact Nat.le_refl _⟩, ⟨by (with_reducible repeat (first | refine blk_drewN ?_ _ | refine blk_drew ?_ | refine blk_alloc ?_ _)); exact BK199.out⟩, ⟨by (with_reducible repeat (first | refine blk_drewN ?_ _ | refine blk_drew ?_ | refine blk_alloc ?_ _)); exact BK200.out⟩, ⟨by (with_reducible repeat (first | refine blk_drewN ?_ _ | refine blk_drew ?_ | refine blk_alloc ?_ _)); exact BK201.out⟩, ⟨by (with_reducible repeat (first | refine blk_drewN ?_ _ | refine blk_drew ?_ | refine blk_alloc ?_ _)); exact BK202.out⟩, ⟨by repeat (first | (with_reducible first | exact HB.out | apply below_alloc | apply pw_below_drewN | apply below_drew1 | refine below_set ?_ GE199.out | refine below_set ?_ GE200.out | refine below_set ?_ GE201.out | refine below_set ?_ GE202.out) | exact HB.out)⟩⟩
              ·
               rw [if_neg c93] at H
               exact absurd H (by simp)
             ·
              replace c92 := Bool.eq_false_iff.mpr c92
              subst c92
              have H1 : (none) = some r := by rw [if_neg (show ¬ (false = true) by decide)] at H; exact H
              clear H
              have H := H1
              clear H1
              exact absurd H (by simp)
            ·
             replace c91 := Bool.eq_false_iff.mpr c91
             subst c91
             have H1 : (if t229 = true then (if (wrap64 (t228 - t207)) = 365 then (j2 kj77 a1 a3 a4 a6 false t215 t216 a0_0 a0_1 a0_2 a2_0 a2_1 a2_2 a5_0 a5_1 a5_2 a7_0 a7_1 a7_2) else (none)) else (none)) = some r := by rw [if_neg (show ¬ (false = true) by decide)] at H; exact H
             clear H
             have H := H1
             clear H1
             by_cases c99 : t229 = true
             ·
              subst c99
              have H1 : (if (wrap64 (t228 - t207)) = 365 then (j2 kj77 a1 a3 a4 a6 false t215 t216 a0_0 a0_1 a0_2 a2_0 a2_1 a2_2 a5_0 a5_1 a5_2 a7_0 a7_1 a7_2) else (none)) = some r := by rw [if_pos rfl] at H; exact H
              clear H
              have H := H1
              clear H1
              by_cases c100 : (wrap64 (t228 - t207)) = 365
              ·
               rw [if_pos c100] at H
               have c100b0 : ((wrap64 (t228 - t207)) == 365) = true := beq_iff_eq.mpr c100
               have c100b1 : ((wrap64 (t228 - t207)) != 365) = false := bne_eq_false_iff_eq.mpr c100
               clear c100
               as_aux_lemma =>
                have H' := Aside0.mk H
                clear H
                have hnb101 := NB199_200.out
                have hnc101 := NB200_199.out
                have hnb102 := NB199_201.out
                have hnc102 := NB201_199.out
                have hnb103 := NB199_202.out
                have hnc103 := NB202_199.out
                have hcz104_0 : wc.cell? ⟨gb199, 0, none⟩ = some (.int .i64 a0_0) := (blk_cell BK199.out 0).trans rfl
                have hcz104_1 : wc.cell? ⟨gb199, 1, none⟩ = some (.int .i64 a0_1) := (blk_cell BK199.out 1).trans rfl
                have hcz104_2 : wc.cell? ⟨gb199, 2, none⟩ = some (.int .i64 a0_2) := (blk_cell BK199.out 2).trans rfl
                have hfz104_0 := blk_frozen BK199.out 0
                have hfz104_1 := blk_frozen BK199.out 1
                have hfz104_2 := blk_frozen BK199.out 2
                go_wp2_with (first | ((with_reducible refine gate_callee (f := 18) rfl ?_); refine goesL_ (some 227) rfl rfl Try.func18 (by kernel_rfl) rfl #[.agg #[.int .i64 a0_0, .int .i64 a0_1, .int .i64 a0_2], .int .i64 (wrap64 (a1 + 1))] rfl (by (try simp only [List.map_toArray, List.map_cons, List.map_nil]); first | done | rfl | (simp only [List.length_drop, List.length_take]; rfl)) ?_; (with_reducible refine (impl_DaysUpTo.calls a0_0 a0_1 a0_2 (wrap64 (a1 + 1)) t228 true _ A90.out).mono ?_); rintro e w105 ⟨rfl, hb⟩; refine ⟨_, rfl, ?_⟩; have n0_ := Aside0.mk (blk_below (g := gb199) (by (with_reducible repeat (first | refine blk_drewN ?_ _ | refine blk_drew ?_ | refine blk_alloc ?_ _)); exact BK199.out) hb); have n1_ := Aside0.mk (blk_below (g := gb200) (by (with_reducible repeat (first | refine blk_drewN ?_ _ | refine blk_drew ?_ | refine blk_alloc ?_ _)); exact BK200.out) hb); have n2_ := Aside0.mk (blk_below (g := gb201) (by (with_reducible repeat (first | refine blk_drewN ?_ _ | refine blk_drew ?_ | refine blk_alloc ?_ _)); exact BK201.out) hb); have n3_ := Aside0.mk (blk_below (g := gb202) (by (with_reducible repeat (first | refine blk_drewN ?_ _ | refine blk_drew ?_ | refine blk_alloc ?_ _)); exact BK202.out) hb); have n4_ := Aside0.mk (below_step (by repeat (first | (with_reducible first | exact HB.out | apply below_alloc | apply pw_below_drewN | apply below_drew1 | refine below_set ?_ GE199.out | refine below_set ?_ GE200.out | refine below_set ?_ GE201.out | refine below_set ?_ GE202.out) | exact HB.out)) hb); clear BK199; clear BK200; clear BK201; clear BK202; clear HB; have BK199 := n0_; have BK200 := n1_; have BK201 := n2_; have BK202 := n3_; have HB := n4_; clear n0_ n1_ n2_ n3_ n4_; (try clear hb); (try clear hb2); (try clear hk); (try clear hi)))
                go_meet
                case rel => exact ⟨_, H', ⟨by have := HJ16.out; have := HJ77.out; first | omega | exact Nat.le_refl _⟩, ⟨by (with_reducible repeat (first | refine blk_drewN ?_ _ | refine blk_drew ?_ | refine blk_alloc ?_ _)); exact BK199.out⟩, ⟨by (with_reducible repeat (first | refine blk_drewN ?_ _ | refine blk_drew ?_ | refine blk_alloc ?_ _)); exact BK200.out⟩, ⟨by (with_reducible repeat (first | refine blk_drewN ?_ _ | refine blk_drew ?_ | refine blk_alloc ?_ _)); exact BK201.out⟩, ⟨by (with_reducible repeat (first | refine blk_drewN ?_ _ | refine blk_drew ?_ | refine blk_alloc ?_ _)); exact BK202.out⟩, ⟨by repeat (first | (with_reducible first | exact HB.out | apply below_alloc | apply pw_below_drewN | apply below_drew1 | refine below_set ?_ GE199.out | refine below_set ?_ GE200.out | refine below_set ?_ GE201.out | refine below_set ?_ GE202.out) | exact HB.out)⟩⟩
              ·
               rw [if_neg c100] at H
               exact absurd H (by simp)
             ·
              replace c99 := Bool.eq_false_iff.mpr c99
              subst c99
              have H1 : (none) = some r := by rw [if_neg (show ¬ (false = true) by decide)] at H; exact H
              clear H
              have H := H1
              clear H1
              exact absurd H (by simp)
           ·
            rw [if_neg c89] at H
            have c89b0 : decide (a1 < 1000000) = false := decide_eq_false c89
            clear c89
            (first | rw [c89b0] | (simp only [i64_w, i32_w]; rw [c89b0]) | skip)
            as_aux_lemma =>
             have H' := Aside0.mk H
             clear H
             go_wp2
             go_meet
             case rel => exact ⟨_, H', ⟨by have := HJ16.out; have := HJ77.out; first | omega | exact Nat.le_refl _⟩, ⟨by (with_reducible repeat (first | refine blk_drewN ?_ _ | refine blk_drew ?_ | refine blk_alloc ?_ _)); exact BK199.out⟩, ⟨by (with_reducible repeat (first | refine blk_drewN ?_ _ | refine blk_drew ?_ | refine blk_alloc ?_ _)); exact BK200.out⟩, ⟨by (with_reducible repeat (first | refine blk_drewN ?_ _ | refine blk_drew ?_ | refine blk_alloc ?_ _)); exact BK201.out⟩, ⟨by (with_reducible repeat (first | refine blk_drewN ?_ _ | refine blk_drew ?_ | refine blk_alloc ?_ _)); exact BK202.out⟩, ⟨by repeat (first | (with_reducible first | exact HB.out | apply below_alloc | apply pw_below_drewN | apply below_drew1 | refine below_set ?_ GE199.out | refine below_set ?_ GE200.out | refine below_set ?_ GE201.out | refine below_set ?_ GE202.out) | exact HB.out)⟩⟩
          case rest => as_aux_lemma =>
           clear HC88
           try clear c73
           try clear c75
           try clear c76
           try clear c76b0
           try clear c76b1
           try clear c87
           try clear hcz82_0
           try clear hcz82_1
           try clear hcz82_2
           try clear hfz82_0
           try clear hfz82_1
           try clear hfz82_2
           obtain ⟨kq, HA, HJ87, BK199, BK200, BK201, BK202, HB⟩ := hcut
           cases kq with
           | zero => exact absurd HA.out (by simp [j2])
           | succ kj87 =>
            have H := HA.out
            clear HA
            simp only [j2] at H
            by_cases c106 : t216 = true
            ·
             subst c106
             have H1 : ((impl_IsLeapYear.f a0_0 a0_1 a0_2 t215).bind fun bt230 => ((impl_CountLeaps.f kj87 a0_0 a0_1 a0_2 a1 t215).bind fun bt232 => (if t203 = true then (if bt230.2 = true then (if bt230.1 = true then (if t215 ≤ a1 then (none) else (if bt232.2 = true then (if bt232.1 = 2 then (j3 kj87 a3 a4 a6 a2_0 a2_1 a2_2 a5_0 a5_1 a5_2 a7_0 a7_1 a7_2) else (none)) else (none))) else (none)) else (none)) else (if bt230.2 = true then (if bt230.1 = true then (if t215 ≤ a1 then (none) else (if bt232.2 = true then (if bt232.1 = 1 then (j3 kj87 a3 a4 a6 a2_0 a2_1 a2_2 a5_0 a5_1 a5_2 a7_0 a7_1 a7_2) else (none)) else (none))) else (none)) else (none))))) = some r := by rw [if_pos rfl] at H; exact H
             clear H
             have H := H1
             clear H1
             replace H := Option.bind_eq_some_iff.mp H
             obtain ⟨⟨t230, t231⟩, A1070, H⟩ := H
             try dsimp only at H
             have A107 := Aside0.mk A1070
             clear A1070
             replace H := Option.bind_eq_some_iff.mp H
             obtain ⟨⟨t232, t233⟩, A1080, H⟩ := H
             try dsimp only at H
             have A108 := Aside0.mk A1080
             clear A1080
             by_cases c109 : t203 = true
             ·
              subst c109
              have H1 : (if t231 = true then (if t230 = true then (if t215 ≤ a1 then (none) else (if t233 = true then (if t232 = 2 then (j3 kj87 a3 a4 a6 a2_0 a2_1 a2_2 a5_0 a5_1 a5_2 a7_0 a7_1 a7_2) else (none)) else (none))) else (none)) else (none)) = some r := by rw [if_pos rfl] at H; exact H
              clear H
              have H := H1
              clear H1
              by_cases c110 : t231 = true
              ·
               subst c110
               have H1 : (if t230 = true then (if t215 ≤ a1 then (none) else (if t233 = true then (if t232 = 2 then (j3 kj87 a3 a4 a6 a2_0 a2_1 a2_2 a5_0 a5_1 a5_2 a7_0 a7_1 a7_2) else (none)) else (none))) else (none)) = some r := by rw [if_pos rfl] at H; exact H
               clear H
               have H := H1
               clear H1
               by_cases c111 : t230 = true
               ·
                subst c111
                have H1 : (if t215 ≤ a1 then (none) else (if t233 = true then (if t232 = 2 then (j3 kj87 a3 a4 a6 a2_0 a2_1 a2_2 a5_0 a5_1 a5_2 a7_0 a7_1 a7_2) else (none)) else (none))) = some r := by rw [if_pos rfl] at H; exact H
                clear H
                have H := H1
                clear H1
                by_cases c112 : t215 ≤ a1
                ·
                 rw [if_pos c112] at H
                 exact absurd H (by simp)
                ·
                 rw [if_neg c112] at H
                 have c112b0 : decide (t215 ≤ a1) = false := decide_eq_false c112
                 clear c112
                 by_cases c113 : t233 = true
                 ·
                  subst c113
                  have H1 : (if t232 = 2 then (j3 kj87 a3 a4 a6 a2_0 a2_1 a2_2 a5_0 a5_1 a5_2 a7_0 a7_1 a7_2) else (none)) = some r := by rw [if_pos rfl] at H; exact H
                  clear H
                  have H := H1
                  clear H1
                  by_cases c114 : t232 = 2
                  ·
                   rw [if_pos c114] at H
                   have c114b0 : (t232 == 2) = true := beq_iff_eq.mpr c114
                   have c114b1 : (t232 != 2) = false := bne_eq_false_iff_eq.mpr c114
                   clear c114
                   as_aux_lemma =>
                    have H' := Aside0.mk H
                    clear H
                    have hnb115 := NB199_200.out
                    have hnc115 := NB200_199.out
                    have hnb116 := NB199_201.out
                    have hnc116 := NB201_199.out
                    have hnb117 := NB199_202.out
                    have hnc117 := NB202_199.out
                    have hcz118_0 : wc.cell? ⟨gb199, 0, none⟩ = some (.int .i64 a0_0) := (blk_cell BK199.out 0).trans rfl
                    have hcz118_1 : wc.cell? ⟨gb199, 1, none⟩ = some (.int .i64 a0_1) := (blk_cell BK199.out 1).trans rfl
                    have hcz118_2 : wc.cell? ⟨gb199, 2, none⟩ = some (.int .i64 a0_2) := (blk_cell BK199.out 2).trans rfl
                    have hfz118_0 := blk_frozen BK199.out 0
                    have hfz118_1 := blk_frozen BK199.out 1
                    have hfz118_2 := blk_frozen BK199.out 2
                    go_wp2_with (first | ((with_reducible refine gate_callee (f := 16) rfl ?_); refine goesL_ (some 244) rfl rfl Try.func16 (by kernel_rfl) rfl #[.agg #[.int .i64 a0_0, .int .i64 a0_1, .int .i64 a0_2], .int .i64 t215] rfl (by (try simp only [List.map_toArray, List.map_cons, List.map_nil]); first | done | rfl | (simp only [List.length_drop, List.length_take]; rfl)) ?_; (with_reducible refine (impl_IsLeapYear.calls a0_0 a0_1 a0_2 t215 true true _ A107.out).mono ?_); rintro e w119 ⟨rfl, hb⟩; refine ⟨_, rfl, ?_⟩; have n0_ := Aside0.mk (blk_below (g := gb199) (by (with_reducible repeat (first | refine blk_drewN ?_ _ | refine blk_drew ?_ | refine blk_alloc ?_ _)); exact BK199.out) hb); have n1_ := Aside0.mk (blk_below (g := gb200) (by (with_reducible repeat (first | refine blk_drewN ?_ _ | refine blk_drew ?_ | refine blk_alloc ?_ _)); exact BK200.out) hb); have n2_ := Aside0.mk (blk_below (g := gb201) (by (with_reducible repeat (first | refine blk_drewN ?_ _ | refine blk_drew ?_ | refine blk_alloc ?_ _)); exact BK201.out) hb); have n3_ := Aside0.mk (blk_below (g := gb202) (by (with_reducible repeat (first | refine blk_drewN ?_ _ | refine blk_drew ?_ | refine blk_alloc ?_ _)); exact BK202.out) hb); have n4_ := Aside0.mk (below_step (by repeat (first | (with_reducible first | exact HB.out | apply below_alloc | apply pw_below_drewN | apply below_drew1 | refine below_set ?_ GE199.out | refine below_set ?_ GE200.out | refine below_set ?_ GE201.out | refine below_set ?_ GE202.out) | exact HB.out)) hb); clear BK199; clear BK200; clear BK201; clear BK202; clear HB; have BK199 := n0_; have BK200 := n1_; have BK201 := n2_; have BK202 := n3_; have HB := n4_; clear n0_ n1_ n2_ n3_ n4_; (try clear hb); (try clear hb2); (try clear hk); (try clear hi); have hcz120_0 : w119.cell? ⟨gb199, 0, none⟩ = some (.int .i64 a0_0) := (blk_cell BK199.out 0).trans rfl; have hcz120_1 : w119.cell? ⟨gb199, 1, none⟩ = some (.int .i64 a0_1) := (blk_cell BK199.out 1).trans rfl; have hcz120_2 : w119.cell? ⟨gb199, 2, none⟩ = some (.int .i64 a0_2) := (blk_cell BK199.out 2).trans rfl; have hfz120_0 := blk_frozen BK199.out 0; have hfz120_1 := blk_frozen BK199.out 1; have hfz120_2 := blk_frozen BK199.out 2) | ((with_reducible refine gate_callee (f := 27) rfl ?_); refine goesL_ (some 251) rfl rfl Try.func27 (by kernel_rfl) rfl #[.agg #[.int .i64 a0_0, .int .i64 a0_1, .int .i64 a0_2], .int .i64 a1, .int .i64 t215] rfl (by (try simp only [List.map_toArray, List.map_cons, List.map_nil]); first | done | rfl | (simp only [List.length_drop, List.length_take]; rfl)) ?_; (with_reducible refine (impl_CountLeaps.calls kj87 a0_0 a0_1 a0_2 a1 t215 t232 true _ A108.out).mono ?_); rintro e w121 ⟨rfl, hb⟩; refine ⟨_, rfl, ?_⟩; have n0_ := Aside0.mk (blk_below (g := gb199) (by (with_reducible repeat (first | refine blk_drewN ?_ _ | refine blk_drew ?_ | refine blk_alloc ?_ _)); exact BK199.out) hb); have n1_ := Aside0.mk (blk_below (g := gb200) (by (with_reducible repeat (first | refine blk_drewN ?_ _ | refine blk_drew ?_ | refine blk_alloc ?_ _)); exact BK200.out) hb); have n2_ := Aside0.mk (blk_below (g := gb201) (by (with_reducible repeat (first | refine blk_drewN ?_ _ | refine blk_drew ?_ | refine blk_alloc ?_ _)); exact BK201.out) hb); have n3_ := Aside0.mk (blk_below (g := gb202) (by (with_reducible repeat (first | refine blk_drewN ?_ _ | refine blk_drew ?_ | refine blk_alloc ?_ _)); exact BK202.out) hb); have n4_ := Aside0.mk (below_step (by repeat (first | (with_reducible first | exact HB.out | apply below_alloc | apply pw_below_drewN | apply below_drew1 | refine below_set ?_ GE199.out | refine below_set ?_ GE200.out | refine below_set ?_ GE201.out | refine below_set ?_ GE202.out) | exact HB.out)) hb); clear BK199; clear BK200; clear BK201; clear BK202; clear HB; have BK199 := n0_; have BK200 := n1_; have BK201 := n2_; have BK202 := n3_; have HB := n4_; clear n0_ n1_ n2_ n3_ n4_; (try clear hb); (try clear hb2); (try clear hk); (try clear hi)))
                    go_meet
                    case rel => exact ⟨_, H', ⟨by have := HJ16.out; have := HJ77.out; have := HJ87.out; first | omega | exact Nat.le_refl _⟩, ⟨by (with_reducible repeat (first | refine blk_drewN ?_ _ | refine blk_drew ?_ | refine blk_alloc ?_ _)); exact BK199.out⟩, ⟨by (with_reducible repeat (first | refine blk_drewN ?_ _ | refine blk_drew ?_ | refine blk_alloc ?_ _)); exact BK200.out⟩, ⟨by (with_reducible repeat (first | refine blk_drewN ?_ _ | refine blk_drew ?_ | refine blk_alloc ?_ _)); exact BK201.out⟩, ⟨by (with_reducible repeat (first | refine blk_drewN ?_ _ | refine blk_drew ?_ | refine blk_alloc ?_ _)); exact BK202.out⟩, ⟨by repeat (first | (with_reducible first | exact HB.out | apply below_alloc | apply pw_below_drewN | apply below_drew1 | refine below_set ?_ GE199.out | refine below_set ?_ GE200.out | refine below_set ?_ GE201.out | refine below_set ?_ GE202.out) | exact HB.out)⟩⟩
                  ·
                   rw [if_neg c114] at H
                   exact absurd H (by simp)
                 ·
                  replace c113 := Bool.eq_false_iff.mpr c113
                  subst c113
                  have H1 : (none) = some r := by rw [if_neg (show ¬ (false = true) by decide)] at H; exact H
                  clear H
                  have H := H1
                  clear H1
                  exact absurd H (by simp)
               ·
                replace c111 := Bool.eq_false_iff.mpr c111
                subst c111
                have H1 : (none) = some r := by rw [if_neg (show ¬ (false = true) by decide)] at H; exact H
                clear H
                have H := H1
                clear H1
                exact absurd H (by simp)
              ·
               replace c110 := Bool.eq_false_iff.mpr c110
               subst c110
               have H1 : (none) = some r := by rw [if_neg (show ¬ (false = true) by decide)] at H; exact H
               clear H
               have H := H1
               clear H1
               exact absurd H (by simp)
             ·
              replace c109 := Bool.eq_false_iff.mpr c109
              subst c109
              have H1 : (if t231 = true then (if t230 = true then (if t215 ≤ a1 then (none) else (if t233 = true then (if t232 = 1 then (j3 kj87 a3 a4 a6 a2_0 a2_1 a2_2 a5_0 a5_1 a5_2 a7_0 a7_1 a7_2) else (none)) else (none))) else (none)) else (none)) = some r := by rw [if_neg (show ¬ (false = true) by decide)] at H; exact H
              clear H
              have H := H1
              clear H1
              by_cases c122 : t231 = true
              ·
               subst c122
               have H1 : (if t230 = true then (if t215 ≤ a1 then (none) else (if t233 = true then (if t232 = 1 then (j3 kj87 a3 a4 a6 a2_0 a2_1 a2_2 a5_0 a5_1 a5_2 a7_0 a7_1 a7_2) else (none)) else (none))) else (none)) = some r := by rw [if_pos rfl] at H; exact H
               clear H
               have H := H1
               clear H1
               by_cases c123 : t230 = true
               ·
                subst c123
                have H1 : (if t215 ≤ a1 then (none) else (if t233 = true then (if t232 = 1 then (j3 kj87 a3 a4 a6 a2_0 a2_1 a2_2 a5_0 a5_1 a5_2 a7_0 a7_1 a7_2) else (none)) else (none))) = some r := by rw [if_pos rfl] at H; exact H
                clear H
                have H := H1
                clear H1
                by_cases c124 : t215 ≤ a1
                ·
                 rw [if_pos c124] at H
                 exact absurd H (by simp)
                ·
                 rw [if_neg c124] at H
                 have c124b0 : decide (t215 ≤ a1) = false := decide_eq_false c124
                 clear c124
                 by_cases c125 : t233 = true
                 ·
                  subst c125
                  have H1 : (if t232 = 1 then (j3 kj87 a3 a4 a6 a2_0 a2_1 a2_2 a5_0 a5_1 a5_2 a7_0 a7_1 a7_2) else (none)) = some r := by rw [if_pos rfl] at H; exact H
                  clear H
                  have H := H1
                  clear H1
                  by_cases c126 : t232 = 1
                  ·
                   rw [if_pos c126] at H
                   have c126b0 : (t232 == 1) = true := beq_iff_eq.mpr c126
                   have c126b1 : (t232 != 1) = false := bne_eq_false_iff_eq.mpr c126
                   clear c126
                   as_aux_lemma =>
                    have H' := Aside0.mk H
                    clear H
                    have hnb127 := NB199_200.out
                    have hnc127 := NB200_199.out
                    have hnb128 := NB199_201.out
                    have hnc128 := NB201_199.out
                    have hnb129 := NB199_202.out
                    have hnc129 := NB202_199.out
                    have hcz130_0 : wc.cell? ⟨gb199, 0, none⟩ = some (.int .i64 a0_0) := (blk_cell BK199.out 0).trans rfl
                    have hcz130_1 : wc.cell? ⟨gb199, 1, none⟩ = some (.int .i64 a0_1) := (blk_cell BK199.out 1).trans rfl
                    have hcz130_2 : wc.cell? ⟨gb199, 2, none⟩ = some (.int .i64 a0_2) := (blk_cell BK199.out 2).trans rfl
                    have hfz130_0 := blk_frozen BK199.out 0
                    have hfz130_1 := blk_frozen BK199.out 1
                    have hfz130_2 := blk_frozen BK199.out 2
                    go_wp2_with (first | ((with_reducible refine gate_callee (f := 16) rfl ?_); refine goesL_ (some 244) rfl rfl Try.func16 (by kernel_rfl) rfl #[.agg #[.int .i64 a0_0, .int .i64 a0_1, .int .i64 a0_2], .int .i64 t215] rfl (by (try simp only [List.map_toArray, List.map_cons, List.map_nil]); first | done | rfl | (simp only [List.length_drop, List.length_take]; rfl)) ?_; (with_reducible refine (impl_IsLeapYear.calls a0_0 a0_1 a0_2 t215 true true _ A107.out).mono ?_); rintro e w131 ⟨rfl, hb⟩; refine ⟨_, rfl, ?_⟩; have n0_ := Aside0.mk (blk_below (g := gb199) (by (with_reducible repeat (first | refine blk_drewN ?_ _ | refine blk_drew ?_ | refine blk_alloc ?_ _)); exact BK199.out) hb); have n1_ := Aside0.mk (blk_below (g := gb200) (by (with_reducible repeat (first | refine blk_drewN ?_ _ | refine blk_drew ?_ | refine blk_alloc ?_ _)); exact BK200.out) hb); have n2_ := Aside0.mk (blk_below (g := gb201) (by (with_reducible repeat (first | refine blk_drewN ?_ _ | refine blk_drew ?_ | refine blk_alloc ?_ _)); exact BK201.out) hb); have n3_ := Aside0.mk (blk_below (g := gb202) (by (with_reducible repeat (first | refine blk_drewN ?_ _ | refine blk_drew ?_ | refine blk_alloc ?_ _)); exact BK202.out) hb); have n4_ := Aside0.mk (below_step (by repeat (first | (with_reducible first | exact HB.out | apply below_alloc | apply pw_below_drewN | apply below_drew1 | refine below_set ?_ GE199.out | refine below_set ?_ GE200.out | refine below_set ?_ GE201.out | refine below_set ?_ GE202.out) | exact HB.out)) hb); clear BK199; clear BK200; clear BK201; clear BK202; clear HB; have BK199 := n0_; have BK200 := n1_; have BK201 := n2_; have BK202 := n3_; have HB := n4_; clear n0_ n1_ n2_ n3_ n4_; (try clear hb); (try clear hb2); (try clear hk); (try clear hi); have hcz132_0 : w131.cell? ⟨gb199, 0, none⟩ = some (.int .i64 a0_0) := (blk_cell BK199.out 0).trans rfl; have hcz132_1 : w131.cell? ⟨gb199, 1, none⟩ = some (.int .i64 a0_1) := (blk_cell BK199.out 1).trans rfl; have hcz132_2 : w131.cell? ⟨gb199, 2, none⟩ = some (.int .i64 a0_2) := (blk_cell BK199.out 2).trans rfl; have hfz132_0 := blk_frozen BK199.out 0; have hfz132_1 := blk_frozen BK199.out 1; have hfz132_2 := blk_frozen BK199.out 2) | ((with_reducible refine gate_callee (f := 27) rfl ?_); refine goesL_ (some 251) rfl rfl Try.func27 (by kernel_rfl) rfl #[.agg #[.int .i64 a0_0, .int .i64 a0_1, .int .i64 a0_2], .int .i64 a1, .int .i64 t215] rfl (by (try simp only [List.map_toArray, List.map_cons, List.map_nil]); first | done | rfl | (simp only [List.length_drop, List.length_take]; rfl)) ?_; (with_reducible refine (impl_CountLeaps.calls kj87 a0_0 a0_1 a0_2 a1 t215 t232 true _ A108.out).mono ?_); rintro e w133 ⟨rfl, hb⟩; refine ⟨_, rfl, ?_⟩; have n0_ := Aside0.mk (blk_below (g := gb199) (by (with_reducible repeat (first | refine blk_drewN ?_ _ | refine blk_drew ?_ | refine blk_alloc ?_ _)); exact BK199.out) hb); have n1_ := Aside0.mk (blk_below (g := gb200) (by (with_reducible repeat (first | refine blk_drewN ?_ _ | refine blk_drew ?_ | refine blk_alloc ?_ _)); exact BK200.out) hb); have n2_ := Aside0.mk (blk_below (g := gb201) (by (with_reducible repeat (first | refine blk_drewN ?_ _ | refine blk_drew ?_ | refine blk_alloc ?_ _)); exact BK201.out) hb); have n3_ := Aside0.mk (blk_below (g := gb202) (by (with_reducible repeat (first | refine blk_drewN ?_ _ | refine blk_drew ?_ | refine blk_alloc ?_ _)); exact BK202.out) hb); have n4_ := Aside0.mk (below_step (by repeat (first | (with_reducible first | exact HB.out | apply below_alloc | apply pw_below_drewN | apply below_drew1 | refine below_set ?_ GE199.out | refine below_set ?_ GE200.out | refine below_set ?_ GE201.out | refine below_set ?_ GE202.out) | exact HB.out)) hb); clear BK199; clear BK200; clear BK201; clear BK202; clear HB; have BK199 := n0_; have BK200 := n1_; have BK201 := n2_; have BK202 := n3_; have HB := n4_; clear n0_ n1_ n2_ n3_ n4_; (try clear hb); (try clear hb2); (try clear hk); (try clear hi)))
                    go_meet
                    case rel => exact ⟨_, H', ⟨by have := HJ16.out; have := HJ77.out; have := HJ87.out; first | omega | exact Nat.le_refl _⟩, ⟨by (with_reducible repeat (first | refine blk_drewN ?_ _ | refine blk_drew ?_ | refine blk_alloc ?_ _)); exact BK199.out⟩, ⟨by (with_reducible repeat (first | refine blk_drewN ?_ _ | refine blk_drew ?_ | refine blk_alloc ?_ _)); exact BK200.out⟩, ⟨by (with_reducible repeat (first | refine blk_drewN ?_ _ | refine blk_drew ?_ | refine blk_alloc ?_ _)); exact BK201.out⟩, ⟨by (with_reducible repeat (first | refine blk_drewN ?_ _ | refine blk_drew ?_ | refine blk_alloc ?_ _)); exact BK202.out⟩, ⟨by repeat (first | (with_reducible first | exact HB.out | apply below_alloc | apply pw_below_drewN | apply below_drew1 | refine below_set ?_ GE199.out | refine below_set ?_ GE200.out | refine below_set ?_ GE201.out | refine below_set ?_ GE202.out) | exact HB.out)⟩⟩
                  ·
                   rw [if_neg c126] at H
                   exact absurd H (by simp)
                 ·
                  replace c125 := Bool.eq_false_iff.mpr c125
                  subst c125
                  have H1 : (none) = some r := by rw [if_neg (show ¬ (false = true) by decide)] at H; exact H
                  clear H
                  have H := H1
                  clear H1
                  exact absurd H (by simp)
               ·
                replace c123 := Bool.eq_false_iff.mpr c123
                subst c123
                have H1 : (none) = some r := by rw [if_neg (show ¬ (false = true) by decide)] at H; exact H
                clear H
                have H := H1
                clear H1
                exact absurd H (by simp)
              ·
               replace c122 := Bool.eq_false_iff.mpr c122
               subst c122
               have H1 : (none) = some r := by rw [if_neg (show ¬ (false = true) by decide)] at H; exact H
               clear H
               have H := H1
               clear H1
               exact absurd H (by simp)
            ·
             replace c106 := Bool.eq_false_iff.mpr c106
             subst c106
             have H1 : (j3 kj87 a3 a4 a6 a2_0 a2_1 a2_2 a5_0 a5_1 a5_2 a7_0 a7_1 a7_2) = some r := by rw [if_neg (show ¬ (false = true) by decide)] at H; exact H
             clear H
             have H := H1
             clear H1
             as_aux_lemma =>
              have H' := Aside0.mk H
              clear H
              go_wp2
              go_meet
              case rel => exact ⟨_, H', ⟨by have := HJ16.out; have := HJ77.out; have := HJ87.out; first | omega | exact Nat.le_refl _⟩, ⟨by (with_reducible repeat (first | refine blk_drewN ?_ _ | refine blk_drew ?_ | refine blk_alloc ?_ _)); exact BK199.out⟩, ⟨by (with_reducible repeat (first | refine blk_drewN ?_ _ | refine blk_drew ?_ | refine blk_alloc ?_ _)); exact BK200.out⟩, ⟨by (with_reducible repeat (first | refine blk_drewN ?_ _ | refine blk_drew ?_ | refine blk_alloc ?_ _)); exact BK201.out⟩, ⟨by (with_reducible repeat (first | refine blk_drewN ?_ _ | refine blk_drew ?_ | refine blk_alloc ?_ _)); exact BK202.out⟩, ⟨by repeat (first | (with_reducible first | exact HB.out | apply below_alloc | apply pw_below_drewN | apply below_drew1 | refine below_set ?_ GE199.out | refine below_set ?_ GE200.out | refine below_set ?_ GE201.out | refine below_set ?_ GE202.out) | exact HB.out)⟩⟩
      ·
       rw [if_neg c76] at H
       exact absurd H (by simp)
     ·
      replace c75 := Bool.eq_false_iff.mpr c75
      subst c75
      have H1 : (j3 kj16 a3 a4 a6 a2_0 a2_1 a2_2 a5_0 a5_1 a5_2 a7_0 a7_1 a7_2) = some r := by rw [if_neg (show ¬ (false = true) by decide)] at H; exact H
      clear H
      have H := H1
      clear H1
      as_aux_lemma =>
       have H' := Aside0.mk H
       clear H
       go_wp2
       go_meet
       case rel => exact ⟨_, H', ⟨by have := HJ16.out; first | omega | exact Nat.le_refl _⟩, ⟨by (with_reducible repeat (first | refine blk_drewN ?_ _ | refine blk_drew ?_ | refine blk_alloc ?_ _)); exact BK199.out⟩, ⟨by (with_reducible repeat (first | refine blk_drewN ?_ _ | refine blk_drew ?_ | refine blk_alloc ?_ _)); exact BK200.out⟩, ⟨by (with_reducible repeat (first | refine blk_drewN ?_ _ | refine blk_drew ?_ | refine blk_alloc ?_ _)); exact BK201.out⟩, ⟨by (with_reducible repeat (first | refine blk_drewN ?_ _ | refine blk_drew ?_ | refine blk_alloc ?_ _)); exact BK202.out⟩, ⟨by repeat (first | (with_reducible first | exact HB.out | apply below_alloc | apply pw_below_drewN | apply below_drew1 | refine below_set ?_ GE199.out | refine below_set ?_ GE200.out | refine below_set ?_ GE201.out | refine below_set ?_ GE202.out) | exact HB.out)⟩⟩
    case rest => as_aux_lemma =>
     clear HC74
     try clear c73
     obtain ⟨kq, HA, HJ73, BK199, BK200, BK201, BK202, HB⟩ := hcut
     cases kq with
     | zero => exact absurd HA.out (by simp [j3])
     | succ kj73 =>
      have H := HA.out
      clear HA
      simp only [j3] at H
      replace H := Option.bind_eq_some_iff.mp H
      obtain ⟨⟨t234, t235⟩, A1340, H⟩ := H
      try dsimp only at H
      have A134 := Aside0.mk A1340
      clear A1340
      replace H := Option.bind_eq_some_iff.mp H
      obtain ⟨⟨t236, t237⟩, A1350, H⟩ := H
      try dsimp only at H
      have A135 := Aside0.mk A1350
      clear A1350
      replace H := Option.bind_eq_some_iff.mp H
      obtain ⟨⟨t238, t239, t240⟩, A1360, H⟩ := H
      try dsimp only at H
      have A136 := Aside0.mk A1360
      clear A1360
      replace H := Option.bind_eq_some_iff.mp H
      obtain ⟨⟨t241, t242, t243⟩, A1370, H⟩ := H
      try dsimp only at H
      have A137 := Aside0.mk A1370
      clear A1370
      replace H := Option.bind_eq_some_iff.mp H
      obtain ⟨⟨t244, t245, t246⟩, A1380, H⟩ := H
      try dsimp only at H
      have A138 := Aside0.mk A1380
      clear A1380
      replace H := Option.bind_eq_some_iff.mp H
      obtain ⟨⟨t247, t248, t249⟩, A1390, H⟩ := H
      try dsimp only at H
      have A139 := Aside0.mk A1390
      clear A1390
      replace H := Option.bind_eq_some_iff.mp H
      obtain ⟨⟨t250, t251⟩, A1400, H⟩ := H
      try dsimp only at H
      have A140 := Aside0.mk A1400
      clear A1400
      replace H := Option.bind_eq_some_iff.mp H
      obtain ⟨⟨t252, t253⟩, A1410, H⟩ := H
      try dsimp only at H
      have A141 := Aside0.mk A1410
      clear A1410
      have HC142 := Aside0.mk H
      clear H
      have hnb143 := NB200_199.out
      have hnc143 := NB199_200.out
      have hnb144 := NB200_201.out
      have hnc144 := NB201_200.out
      have hnb145 := NB200_202.out
      have hnc145 := NB202_200.out
      have hcz146_0 : wc.cell? ⟨gb200, 0, none⟩ = some (.int .i64 a2_0) := (blk_cell BK200.out 0).trans rfl
      have hcz146_1 : wc.cell? ⟨gb200, 1, none⟩ = some (.int .i64 a2_1) := (blk_cell BK200.out 1).trans rfl
      have hcz146_2 : wc.cell? ⟨gb200, 2, none⟩ = some (.int .i64 a2_2) := (blk_cell BK200.out 2).trans rfl
      have hfz146_0 := blk_frozen BK200.out 0
      have hfz146_1 := blk_frozen BK200.out 1
      have hfz146_2 := blk_frozen BK200.out 2
      go_upto_region 40 with (first | ((with_reducible refine gate_callee (f := 27) rfl ?_); refine goesL_ (some 279) rfl rfl Try.func27 (by kernel_rfl) rfl #[.agg #[.int .i64 a2_0, .int .i64 a2_1, .int .i64 a2_2], .int .i64 a3, .int .i64 a4] rfl (by (try simp only [List.map_toArray, List.map_cons, List.map_nil]); first | done | rfl | (simp only [List.length_drop, List.length_take]; rfl)) ?_; (with_reducible refine (impl_CountLeaps.calls kj73 a2_0 a2_1 a2_2 a3 a4 t234 t235 _ A134.out).mono ?_); rintro e w147 ⟨rfl, hb⟩; refine ⟨_, rfl, ?_⟩; have n0_ := Aside0.mk (blk_below (g := gb199) (by (with_reducible repeat (first | refine blk_drewN ?_ _ | refine blk_drew ?_ | refine blk_alloc ?_ _)); exact BK199.out) hb); have n1_ := Aside0.mk (blk_below (g := gb200) (by (with_reducible repeat (first | refine blk_drewN ?_ _ | refine blk_drew ?_ | refine blk_alloc ?_ _)); exact BK200.out) hb); have n2_ := Aside0.mk (blk_below (g := gb201) (by (with_reducible repeat (first | refine blk_drewN ?_ _ | refine blk_drew ?_ | refine blk_alloc ?_ _)); exact BK201.out) hb); have n3_ := Aside0.mk (blk_below (g := gb202) (by (with_reducible repeat (first | refine blk_drewN ?_ _ | refine blk_drew ?_ | refine blk_alloc ?_ _)); exact BK202.out) hb); have n4_ := Aside0.mk (below_step (by repeat (first | (with_reducible first | exact HB.out | apply below_alloc | apply pw_below_drewN | apply below_drew1 | refine below_set ?_ GE199.out | refine below_set ?_ GE200.out | refine below_set ?_ GE201.out | refine below_set ?_ GE202.out) | exact HB.out)) hb); clear BK199; clear BK200; clear BK201; clear BK202; clear HB; have BK199 := n0_; have BK200 := n1_; have BK201 := n2_; have BK202 := n3_; have HB := n4_; clear n0_ n1_ n2_ n3_ n4_; (try clear hb); (try clear hb2); (try clear hk); (try clear hi); have hcz148_0 : w147.cell? ⟨gb200, 0, none⟩ = some (.int .i64 a2_0) := (blk_cell BK200.out 0).trans rfl; have hcz148_1 : w147.cell? ⟨gb200, 1, none⟩ = some (.int .i64 a2_1) := (blk_cell BK200.out 1).trans rfl; have hcz148_2 : w147.cell? ⟨gb200, 2, none⟩ = some (.int .i64 a2_2) := (blk_cell BK200.out 2).trans rfl; have hfz148_0 := blk_frozen BK200.out 0; have hfz148_1 := blk_frozen BK200.out 1; have hfz148_2 := blk_frozen BK200.out 2) | ((with_reducible refine gate_callee (f := 28) rfl ?_); refine goesL_ (some 286) rfl rfl Try.func28 (by kernel_rfl) rfl #[.agg #[.int .i64 a2_0, .int .i64 a2_1, .int .i64 a2_2], .int .i64 a3, .int .i64 a4] rfl (by (try simp only [List.map_toArray, List.map_cons, List.map_nil]); first | done | rfl | (simp only [List.length_drop, List.length_take]; rfl)) ?_; (with_reducible refine (spec_CountLeaps.calls kj73 a2_0 a2_1 a2_2 a3 a4 t236 t237 _ A135.out).mono ?_); rintro e w149 ⟨rfl, hb⟩; refine ⟨_, rfl, ?_⟩; have n0_ := Aside0.mk (blk_below (g := gb199) (by (with_reducible repeat (first | refine blk_drewN ?_ _ | refine blk_drew ?_ | refine blk_alloc ?_ _)); exact BK199.out) hb); have n1_ := Aside0.mk (blk_below (g := gb200) (by (with_reducible repeat (first | refine blk_drewN ?_ _ | refine blk_drew ?_ | refine blk_alloc ?_ _)); exact BK200.out) hb); have n2_ := Aside0.mk (blk_below (g := gb201) (by (with_reducible repeat (first | refine blk_drewN ?_ _ | refine blk_drew ?_ | refine blk_alloc ?_ _)); exact BK201.out) hb); have n3_ := Aside0.mk (blk_below (g := gb202) (by (with_reducible repeat (first | refine blk_drewN ?_ _ | refine blk_drew ?_ | refine blk_alloc ?_ _)); exact BK202.out) hb); have n4_ := Aside0.mk (below_step (by repeat (first | (with_reducible first | exact HB.out | apply below_alloc | apply pw_below_drewN | apply below_drew1 | refine below_set ?_ GE199.out | refine below_set ?_ GE200.out | refine below_set ?_ GE201.out | refine below_set ?_ GE202.out) | exact HB.out)) hb); clear BK199; clear BK200; clear BK201; clear BK202; clear HB; have BK199 := n0_; have BK200 := n1_; have BK201 := n2_; have BK202 := n3_; have HB := n4_; clear n0_ n1_ n2_ n3_ n4_; (try clear hb); (try clear hb2); (try clear hk); (try clear hi); have hnb150 := NB201_199.out; have hnc150 := NB199_201.out; have hnb151 := NB201_202.out; have hnc151 := NB202_201.out; have hcz152_0 : w149.cell? ⟨gb201, 0, none⟩ = some (.int .i64 a5_0) := (blk_cell BK201.out 0).trans rfl; have hcz152_1 : w149.cell? ⟨gb201, 1, none⟩ = some (.int .i64 a5_1) := (blk_cell BK201.out 1).trans rfl; have hcz152_2 : w149.cell? ⟨gb201, 2, none⟩ = some (.int .i64 a5_2) := (blk_cell BK201.out 2).trans rfl; have hfz152_0 := blk_frozen BK201.out 0; have hfz152_1 := blk_frozen BK201.out 1; have hfz152_2 := blk_frozen BK201.out 2) | ((with_reducible refine gate_callee (f := 26) rfl ?_); refine goesL_ (some 292) rfl rfl Try.func26 (by kernel_rfl) rfl #[.agg #[.int .i64 a5_0, .int .i64 a5_1, .int .i64 a5_2], .int .i64 a6] rfl (by (try simp only [List.map_toArray, List.map_cons, List.map_nil]); first | done | rfl | (simp only [List.length_drop, List.length_take]; rfl)) ?_; (with_reducible refine (impl_YearOfDay.calls kj73 a5_0 a5_1 a5_2 a6 t238 t239 t240 _ A136.out).mono ?_); rintro e w153 ⟨rfl, hb⟩; refine ⟨_, rfl, ?_⟩; have n0_ := Aside0.mk (blk_below (g := gb199) (by (with_reducible repeat (first | refine blk_drewN ?_ _ | refine blk_drew ?_ | refine blk_alloc ?_ _)); exact BK199.out) hb); have n1_ := Aside0.mk (blk_below (g := gb200) (by (with_reducible repeat (first | refine blk_drewN ?_ _ | refine blk_drew ?_ | refine blk_alloc ?_ _)); exact BK200.out) hb); have n2_ := Aside0.mk (blk_below (g := gb201) (by (with_reducible repeat (first | refine blk_drewN ?_ _ | refine blk_drew ?_ | refine blk_alloc ?_ _)); exact BK201.out) hb); have n3_ := Aside0.mk (blk_below (g := gb202) (by (with_reducible repeat (first | refine blk_drewN ?_ _ | refine blk_drew ?_ | refine blk_alloc ?_ _)); exact BK202.out) hb); have n4_ := Aside0.mk (below_step (by repeat (first | (with_reducible first | exact HB.out | apply below_alloc | apply pw_below_drewN | apply below_drew1 | refine below_set ?_ GE199.out | refine below_set ?_ GE200.out | refine below_set ?_ GE201.out | refine below_set ?_ GE202.out) | exact HB.out)) hb); clear BK199; clear BK200; clear BK201; clear BK202; clear HB; have BK199 := n0_; have BK200 := n1_; have BK201 := n2_; have BK202 := n3_; have HB := n4_; clear n0_ n1_ n2_ n3_ n4_; (try clear hb); (try clear hb2); (try clear hk); (try clear hi); have hcz154_0 : w153.cell? ⟨gb201, 0, none⟩ = some (.int .i64 a5_0) := (blk_cell BK201.out 0).trans rfl; have hcz154_1 : w153.cell? ⟨gb201, 1, none⟩ = some (.int .i64 a5_1) := (blk_cell BK201.out 1).trans rfl; have hcz154_2 : w153.cell? ⟨gb201, 2, none⟩ = some (.int .i64 a5_2) := (blk_cell BK201.out 2).trans rfl; have hfz154_0 := blk_frozen BK201.out 0; have hfz154_1 := blk_frozen BK201.out 1; have hfz154_2 := blk_frozen BK201.out 2) | ((with_reducible refine gate_callee (f := 29) rfl ?_); refine goesL_ (some 299) rfl rfl Try.func29 (by kernel_rfl) rfl #[.agg #[.int .i64 a5_0, .int .i64 a5_1, .int .i64 a5_2], .int .i64 a6] rfl (by (try simp only [List.map_toArray, List.map_cons, List.map_nil]); first | done | rfl | (simp only [List.length_drop, List.length_take]; rfl)) ?_; (with_reducible refine (spec_YearOfDay.calls kj73 a5_0 a5_1 a5_2 a6 t241 t242 t243 _ A137.out).mono ?_); rintro e w155 ⟨rfl, hb⟩; refine ⟨_, rfl, ?_⟩; have n0_ := Aside0.mk (blk_below (g := gb199) (by (with_reducible repeat (first | refine blk_drewN ?_ _ | refine blk_drew ?_ | refine blk_alloc ?_ _)); exact BK199.out) hb); have n1_ := Aside0.mk (blk_below (g := gb200) (by (with_reducible repeat (first | refine blk_drewN ?_ _ | refine blk_drew ?_ | refine blk_alloc ?_ _)); exact BK200.out) hb); have n2_ := Aside0.mk (blk_below (g := gb201) (by (with_reducible repeat (first | refine blk_drewN ?_ _ | refine blk_drew ?_ | refine blk_alloc ?_ _)); exact BK201.out) hb); have n3_ := Aside0.mk (blk_below (g := gb202) (by (with_reducible repeat (first | refine blk_drewN ?_ _ | refine blk_drew ?_ | refine blk_alloc ?_ _)); exact BK202.out) hb); have n4_ := Aside0.mk (below_step (by repeat (first | (with_reducible first | exact HB.out | apply below_alloc | apply pw_below_drewN | apply below_drew1 | refine below_set ?_ GE199.out | refine below_set ?_ GE200.out | refine below_set ?_ GE201.out | refine below_set ?_ GE202.out) | exact HB.out)) hb); clear BK199; clear BK200; clear BK201; clear BK202; clear HB; have BK199 := n0_; have BK200 := n1_; have BK201 := n2_; have BK202 := n3_; have HB := n4_; clear n0_ n1_ n2_ n3_ n4_; (try clear hb); (try clear hb2); (try clear hk); (try clear hi); have hnb156 := NB202_199.out; have hnc156 := NB199_202.out; have hcz157_0 : w155.cell? ⟨gb202, 0, none⟩ = some (.int .i64 a7_0) := (blk_cell BK202.out 0).trans rfl; have hcz157_1 : w155.cell? ⟨gb202, 1, none⟩ = some (.int .i64 a7_1) := (blk_cell BK202.out 1).trans rfl; have hcz157_2 : w155.cell? ⟨gb202, 2, none⟩ = some (.int .i64 a7_2) := (blk_cell BK202.out 2).trans rfl; have hfz157_0 := blk_frozen BK202.out 0; have hfz157_1 := blk_frozen BK202.out 1; have hfz157_2 := blk_frozen BK202.out 2) | ((with_reducible refine gate_callee (f := 30) rfl ?_); refine goesL_ (some 305) rfl rfl Try.func30 (by kernel_rfl) rfl #[.agg #[.int .i64 a7_0, .int .i64 a7_1, .int .i64 a7_2]] rfl (by (try simp only [List.map_toArray, List.map_cons, List.map_nil]); first | done | rfl | (simp only [List.length_drop, List.length_take]; rfl)) ?_; (with_reducible refine (impl_LeapsOfCycle.calls a7_0 a7_1 a7_2 t244 t245 t246 _ A138.out).mono ?_); rintro e w158 ⟨rfl, hb⟩; refine ⟨_, rfl, ?_⟩; have n0_ := Aside0.mk (blk_below (g := gb199) (by (with_reducible repeat (first | refine blk_drewN ?_ _ | refine blk_drew ?_ | refine blk_alloc ?_ _)); exact BK199.out) hb); have n1_ := Aside0.mk (blk_below (g := gb200) (by (with_reducible repeat (first | refine blk_drewN ?_ _ | refine blk_drew ?_ | refine blk_alloc ?_ _)); exact BK200.out) hb); have n2_ := Aside0.mk (blk_below (g := gb201) (by (with_reducible repeat (first | refine blk_drewN ?_ _ | refine blk_drew ?_ | refine blk_alloc ?_ _)); exact BK201.out) hb); have n3_ := Aside0.mk (blk_below (g := gb202) (by (with_reducible repeat (first | refine blk_drewN ?_ _ | refine blk_drew ?_ | refine blk_alloc ?_ _)); exact BK202.out) hb); have n4_ := Aside0.mk (below_step (by repeat (first | (with_reducible first | exact HB.out | apply below_alloc | apply pw_below_drewN | apply below_drew1 | refine below_set ?_ GE199.out | refine below_set ?_ GE200.out | refine below_set ?_ GE201.out | refine below_set ?_ GE202.out) | exact HB.out)) hb); clear BK199; clear BK200; clear BK201; clear BK202; clear HB; have BK199 := n0_; have BK200 := n1_; have BK201 := n2_; have BK202 := n3_; have HB := n4_; clear n0_ n1_ n2_ n3_ n4_; (try clear hb); (try clear hb2); (try clear hk); (try clear hi); have hcz159_0 : w158.cell? ⟨gb202, 0, none⟩ = some (.int .i64 a7_0) := (blk_cell BK202.out 0).trans rfl; have hcz159_1 : w158.cell? ⟨gb202, 1, none⟩ = some (.int .i64 a7_1) := (blk_cell BK202.out 1).trans rfl; have hcz159_2 : w158.cell? ⟨gb202, 2, none⟩ = some (.int .i64 a7_2) := (blk_cell BK202.out 2).trans rfl; have hfz159_0 := blk_frozen BK202.out 0; have hfz159_1 := blk_frozen BK202.out 1; have hfz159_2 := blk_frozen BK202.out 2) | ((with_reducible refine gate_callee (f := 31) rfl ?_); refine goesL_ (some 311) rfl rfl Try.func31 (by kernel_rfl) rfl #[.agg #[.int .i64 a7_0, .int .i64 a7_1, .int .i64 a7_2]] rfl (by (try simp only [List.map_toArray, List.map_cons, List.map_nil]); first | done | rfl | (simp only [List.length_drop, List.length_take]; rfl)) ?_; (with_reducible refine (spec_LeapsOfCycle.calls kj73 a7_0 a7_1 a7_2 t247 t248 t249 _ A139.out).mono ?_); rintro e w160 ⟨rfl, hb⟩; refine ⟨_, rfl, ?_⟩; have n0_ := Aside0.mk (blk_below (g := gb199) (by (with_reducible repeat (first | refine blk_drewN ?_ _ | refine blk_drew ?_ | refine blk_alloc ?_ _)); exact BK199.out) hb); have n1_ := Aside0.mk (blk_below (g := gb200) (by (with_reducible repeat (first | refine blk_drewN ?_ _ | refine blk_drew ?_ | refine blk_alloc ?_ _)); exact BK200.out) hb); have n2_ := Aside0.mk (blk_below (g := gb201) (by (with_reducible repeat (first | refine blk_drewN ?_ _ | refine blk_drew ?_ | refine blk_alloc ?_ _)); exact BK201.out) hb); have n3_ := Aside0.mk (blk_below (g := gb202) (by (with_reducible repeat (first | refine blk_drewN ?_ _ | refine blk_drew ?_ | refine blk_alloc ?_ _)); exact BK202.out) hb); have n4_ := Aside0.mk (below_step (by repeat (first | (with_reducible first | exact HB.out | apply below_alloc | apply pw_below_drewN | apply below_drew1 | refine below_set ?_ GE199.out | refine below_set ?_ GE200.out | refine below_set ?_ GE201.out | refine below_set ?_ GE202.out) | exact HB.out)) hb); clear BK199; clear BK200; clear BK201; clear BK202; clear HB; have BK199 := n0_; have BK200 := n1_; have BK201 := n2_; have BK202 := n3_; have HB := n4_; clear n0_ n1_ n2_ n3_ n4_; (try clear hb); (try clear hb2); (try clear hk); (try clear hi); have hcz161_0 : w160.cell? ⟨gb202, 0, none⟩ = some (.int .i64 a7_0) := (blk_cell BK202.out 0).trans rfl; have hcz161_1 : w160.cell? ⟨gb202, 1, none⟩ = some (.int .i64 a7_1) := (blk_cell BK202.out 1).trans rfl; have hcz161_2 : w160.cell? ⟨gb202, 2, none⟩ = some (.int .i64 a7_2) := (blk_cell BK202.out 2).trans rfl; have hfz161_0 := blk_frozen BK202.out 0; have hfz161_1 := blk_frozen BK202.out 1; have hfz161_2 := blk_frozen BK202.out 2) | ((with_reducible refine gate_callee (f := 32) rfl ?_); refine goesL_ (some 317) rfl rfl Try.func32 (by kernel_rfl) rfl #[.agg #[.int .i64 a7_0, .int .i64 a7_1, .int .i64 a7_2]] rfl (by (try simp only [List.map_toArray, List.map_cons, List.map_nil]); first | done | rfl | (simp only [List.length_drop, List.length_take]; rfl)) ?_; (with_reducible refine (impl_WeekCycle.calls a7_0 a7_1 a7_2 t250 t251 _ A140.out).mono ?_); rintro e w162 ⟨rfl, hb⟩; refine ⟨_, rfl, ?_⟩; have n0_ := Aside0.mk (blk_below (g := gb199) (by (with_reducible repeat (first | refine blk_drewN ?_ _ | refine blk_drew ?_ | refine blk_alloc ?_ _)); exact BK199.out) hb); have n1_ := Aside0.mk (blk_below (g := gb200) (by (with_reducible repeat (first | refine blk_drewN ?_ _ | refine blk_drew ?_ | refine blk_alloc ?_ _)); exact BK200.out) hb); have n2_ := Aside0.mk (blk_below (g := gb201) (by (with_reducible repeat (first | refine blk_drewN ?_ _ | refine blk_drew ?_ | refine blk_alloc ?_ _)); exact BK201.out) hb); have n3_ := Aside0.mk (blk_below (g := gb202) (by (with_reducible repeat (first | refine blk_drewN ?_ _ | refine blk_drew ?_ | refine blk_alloc ?_ _)); exact BK202.out) hb); have n4_ := Aside0.mk (below_step (by repeat (first | (with_reducible first | exact HB.out | apply below_alloc | apply pw_below_drewN | apply below_drew1 | refine below_set ?_ GE199.out | refine below_set ?_ GE200.out | refine below_set ?_ GE201.out | refine below_set ?_ GE202.out) | exact HB.out)) hb); clear BK199; clear BK200; clear BK201; clear BK202; clear HB; have BK199 := n0_; have BK200 := n1_; have BK201 := n2_; have BK202 := n3_; have HB := n4_; clear n0_ n1_ n2_ n3_ n4_; (try clear hb); (try clear hb2); (try clear hk); (try clear hi); have hcz163_0 : w162.cell? ⟨gb202, 0, none⟩ = some (.int .i64 a7_0) := (blk_cell BK202.out 0).trans rfl; have hcz163_1 : w162.cell? ⟨gb202, 1, none⟩ = some (.int .i64 a7_1) := (blk_cell BK202.out 1).trans rfl; have hcz163_2 : w162.cell? ⟨gb202, 2, none⟩ = some (.int .i64 a7_2) := (blk_cell BK202.out 2).trans rfl; have hfz163_0 := blk_frozen BK202.out 0; have hfz163_1 := blk_frozen BK202.out 1; have hfz163_2 := blk_frozen BK202.out 2) | ((with_reducible refine gate_callee (f := 33) rfl ?_); refine goesL_ (some 322) rfl rfl Try.func33 (by kernel_rfl) rfl #[.agg #[.int .i64 a7_0, .int .i64 a7_1, .int .i64 a7_2]] rfl (by (try simp only [List.map_toArray, List.map_cons, List.map_nil]); first | done | rfl | (simp only [List.length_drop, List.length_take]; rfl)) ?_; (with_reducible refine (spec_WeekCycle.calls kj73 a7_0 a7_1 a7_2 t252 t253 _ A141.out).mono ?_); rintro e w164 ⟨rfl, hb⟩; refine ⟨_, rfl, ?_⟩; have n0_ := Aside0.mk (blk_below (g := gb199) (by (with_reducible repeat (first | refine blk_drewN ?_ _ | refine blk_drew ?_ | refine blk_alloc ?_ _)); exact BK199.out) hb); have n1_ := Aside0.mk (blk_below (g := gb200) (by (with_reducible repeat (first | refine blk_drewN ?_ _ | refine blk_drew ?_ | refine blk_alloc ?_ _)); exact BK200.out) hb); have n2_ := Aside0.mk (blk_below (g := gb201) (by (with_reducible repeat (first | refine blk_drewN ?_ _ | refine blk_drew ?_ | refine blk_alloc ?_ _)); exact BK201.out) hb); have n3_ := Aside0.mk (blk_below (g := gb202) (by (with_reducible repeat (first | refine blk_drewN ?_ _ | refine blk_drew ?_ | refine blk_alloc ?_ _)); exact BK202.out) hb); have n4_ := Aside0.mk (below_step (by repeat (first | (with_reducible first | exact HB.out | apply below_alloc | apply pw_below_drewN | apply below_drew1 | refine below_set ?_ GE199.out | refine below_set ?_ GE200.out | refine below_set ?_ GE201.out | refine below_set ?_ GE202.out) | exact HB.out)) hb); clear BK199; clear BK200; clear BK201; clear BK202; clear HB; have BK199 := n0_; have BK200 := n1_; have BK201 := n2_; have BK202 := n3_; have HB := n4_; clear n0_ n1_ n2_ n3_ n4_; (try clear hb); (try clear hb2); (try clear hk); (try clear hi)))
      (try simp only [Act.put, s1, s2, s3])
      go_cut [377] from 221 to 377 (fun v377 wc => ∃ (kq : Nat) (x377_141 : Bool), v377 = .bool x377_141 ∧ Aside0 (j4 kq a3 a4 a6 t234 t235 t238 t239 t240 t244 t245 t246 t250 x377_141 a2_0 a2_1 a2_2 a5_0 a5_1 a5_2 a7_0 a7_1 a7_2 = some r) ∧ Aside0 (kq ≤ kj73) ∧ Aside0 (wc.heap[gb199]? = some (.cells #[.int .i64 a0_0, .int .i64 a0_1, .int .i64 a0_2] 26 (0, 0))) ∧ Aside0 (wc.heap[gb200]? = some (.cells #[.int .i64 a2_0, .int .i64 a2_1, .int .i64 a2_2] 26 (0, 0))) ∧ Aside0 (wc.heap[gb201]? = some (.cells #[.int .i64 a5_0, .int .i64 a5_1, .int .i64 a5_2] 26 (0, 0))) ∧ Aside0 (wc.heap[gb202]? = some (.cells #[.int .i64 a7_0, .int .i64 a7_1, .int .i64 a7_2] 26 (0, 0))) ∧ Aside0 (Below w.heap.size w wc))
      case first => as_aux_lemma =>
       have H := HC142.out
       clear HC142
       by_cases c165 : (t235 != t237) = true
       ·
        rw [if_pos c165] at H
        exact absurd H (by simp)
       ·
        rw [if_neg c165] at H
        have c165b0 : (t235 != t237) = false := by simpa using c165
        (try (have c165b1 : decide (t235 = t237) = true := by simpa using c165))
        (try (have c165b2 : (t235 == t237) = true := by simpa using c165))
        clear c165
        (first | rw [c165b0] | (simp only [i64_w, i32_w]; rw [c165b0]) | skip)
        by_cases c166 : t234 = t236
        ·
         rw [if_pos c166] at H
         have c166b0 : (t234 == t236) = true := beq_iff_eq.mpr c166
         have c166b1 : (t234 != t236) = false := bne_eq_false_iff_eq.mpr c166
         clear c166
         by_cases c167 : (t240 != t243) = true
         ·
          rw [if_pos c167] at H
          exact absurd H (by simp)
         ·
          rw [if_neg c167] at H
          have c167b0 : (t240 != t243) = false := by simpa using c167
          (try (have c167b1 : decide (t240 = t243) = true := by simpa using c167))
          (try (have c167b2 : (t240 == t243) = true := by simpa using c167))
          clear c167
          by_cases c168 : t238 = t241
          ·
           rw [if_pos c168] at H
           have c168b0 : (t238 == t241) = true := beq_iff_eq.mpr c168
           have c168b1 : (t238 != t241) = false := bne_eq_false_iff_eq.mpr c168
           clear c168
           by_cases c169 : t239 = t242
           ·
            rw [if_pos c169] at H
            have c169b0 : (t239 == t242) = true := beq_iff_eq.mpr c169
            have c169b1 : (t239 != t242) = false := bne_eq_false_iff_eq.mpr c169
            clear c169
            by_cases c170 : (t246 != t249) = true
            ·
             rw [if_pos c170] at H
             exact absurd H (by simp)
            ·
             rw [if_neg c170] at H
             have c170b0 : (t246 != t249) = false := by simpa using c170
             (try (have c170b1 : decide (t246 = t249) = true := by simpa using c170))
             (try (have c170b2 : (t246 == t249) = true := by simpa using c170))
             clear c170
             by_cases c171 : t244 = t247
             ·
              rw [if_pos c171] at H
              have c171b0 : (t244 == t247) = true := beq_iff_eq.mpr c171
              have c171b1 : (t244 != t247) = false := bne_eq_false_iff_eq.mpr c171
              clear c171
              by_cases c172 : t245 = t248
              ·
               rw [if_pos c172] at H
               have c172b0 : (t245 == t248) = true := beq_iff_eq.mpr c172
               have c172b1 : (t245 != t248) = false := bne_eq_false_iff_eq.mpr c172
               clear c172
               by_cases c173 : (t251 != t253) = true
               ·
                rw [if_pos c173] at H
                exact absurd H (by simp)
               ·
                rw [if_neg c173] at H
                have c173b0 : (t251 != t253) = false := by simpa using c173
                (try (have c173b1 : decide (t251 = t253) = true := by simpa using c173))
                (try (have c173b2 : (t251 == t253) = true := by simpa using c173))
                clear c173
                by_cases c174 : t250 = t252
                ·
                 rw [if_pos c174] at H
                 have c174b0 : (t250 == t252) = true := beq_iff_eq.mpr c174
                 have c174b1 : (t250 != t252) = false := bne_eq_false_iff_eq.mpr c174
                 clear c174
                 as_aux_lemma =>
                  have H' := Aside0.mk H
                  clear H
                  go_wp2
                  go_meet
                  case rel => exact ⟨_, ((t251 != t246)), (by first | rfl | (simp; done) | (simp [*]; done)), H', ⟨by have := HJ16.out; have := HJ73.out; first | omega | exact Nat.le_refl _⟩, ⟨by (with_reducible repeat (first | refine blk_drewN ?_ _ | refine blk_drew ?_ | refine blk_alloc ?_ _)); exact BK199.out⟩, ⟨by (with_reducible repeat (first | refine blk_drewN ?_ _ | refine blk_drew ?_ | refine blk_alloc ?_ _)); exact BK200.out⟩, ⟨by (with_reducible repeat (first | refine blk_drewN ?_ _ | refine blk_drew ?_ | refine blk_alloc ?_ _)); exact BK201.out⟩, ⟨by (with_reducible repeat (first | refine blk_drewN ?_ _ | refine blk_drew ?_ | refine blk_alloc ?_ _)); exact BK202.out⟩, ⟨by repeat (first | (with_reducible first | exact HB.out | apply below_alloc | apply pw_below_drewN | apply below_drew1 | refine below_set ?_ GE199.out | refine below_set ?_ GE200.out | refine below_set ?_ GE201.out | refine below_set ?_ GE202.out) | exact HB.out)⟩⟩
                ·
                 rw [if_neg c174] at H
                 exact absurd H (by simp)
              ·
               rw [if_neg c172] at H
               exact absurd H (by simp)
             ·
              rw [if_neg c171] at H
              exact absurd H (by simp)
           ·
            rw [if_neg c169] at H
            exact absurd H (by simp)
          ·
           rw [if_neg c168] at H
           exact absurd H (by simp)
        ·
         rw [if_neg c166] at H
         exact absurd H (by simp)
      case rest => as_aux_lemma =>
       clear HC142
       try clear c73
       try clear hcz146_0
       try clear hcz146_1
       try clear hcz146_2
       try clear hfz146_0
       try clear hfz146_1
       try clear hfz146_2
       obtain ⟨kq, x377_141, rfl, HA, HJ141, BK199, BK200, BK201, BK202, HB⟩ := hcut
       cases kq with
       | zero => exact absurd HA.out (by simp [j4])
       | succ kj141 =>
        have H := HA.out
        clear HA
        simp only [j4] at H
        by_cases c175 : x377_141 = true
        ·
         subst c175
         have H1 : (none) = some r := by rw [if_pos rfl] at H; exact H
         clear H
         have H := H1
         clear H1
         exact absurd H (by simp)
        ·
         replace c175 := Bool.eq_false_iff.mpr c175
         subst c175
         have H1 : (if t235 = true then (if a4 ≥ a3 then (j5 kj141 a3 a4 a6 t234 t238 t239 t240 t244 t245 t246 t250 (decide ((wrap64 (a4 - a3)) ≤ 300)) a2_0 a2_1 a2_2 a5_0 a5_1 a5_2 a7_0 a7_1 a7_2) else (j5 kj141 a3 a4 a6 t234 t238 t239 t240 t244 t245 t246 t250 false a2_0 a2_1 a2_2 a5_0 a5_1 a5_2 a7_0 a7_1 a7_2)) else (j5 kj141 a3 a4 a6 t234 t238 t239 t240 t244 t245 t246 t250 false a2_0 a2_1 a2_2 a5_0 a5_1 a5_2 a7_0 a7_1 a7_2)) = some r := by rw [if_neg (show ¬ (false = true) by decide)] at H; exact H
         clear H
         have H := H1
         clear H1
         have HC176 := Aside0.mk H
         clear H
         go_upto_region 42 with (fail)
         go_cut [389] from 378 to 389 (fun v389 wc => ∃ (kq : Nat) (x389_175 : Bool), v389 = .bool x389_175 ∧ Aside0 (j5 kq a3 a4 a6 t234 t238 t239 t240 t244 t245 t246 t250 x389_175 a2_0 a2_1 a2_2 a5_0 a5_1 a5_2 a7_0 a7_1 a7_2 = some r) ∧ Aside0 (kq ≤ kj141) ∧ Aside0 (wc.heap[gb199]? = some (.cells #[.int .i64 a0_0, .int .i64 a0_1, .int .i64 a0_2] 26 (0, 0))) ∧ Aside0 (wc.heap[gb200]? = some (.cells #[.int .i64 a2_0, .int .i64 a2_1, .int .i64 a2_2] 26 (0, 0))) ∧ Aside0 (wc.heap[gb201]? = some (.cells #[.int .i64 a5_0, .int .i64 a5_1, .int .i64 a5_2] 26 (0, 0))) ∧ Aside0 (wc.heap[gb202]? = some (.cells #[.int .i64 a7_0, .int .i64 a7_1, .int .i64 a7_2] 26 (0, 0))) ∧ Aside0 (Below w.heap.size w wc))
         case first => as_aux_lemma =>
          have H := HC176.out
          clear HC176
          by_cases c177 : t235 = true
          ·
           subst c177
           have H1 : (if a4 ≥ a3 then (j5 kj141 a3 a4 a6 t234 t238 t239 t240 t244 t245 t246 t250 (decide ((wrap64 (a4 - a3)) ≤ 300)) a2_0 a2_1 a2_2 a5_0 a5_1 a5_2 a7_0 a7_1 a7_2) else (j5 kj141 a3 a4 a6 t234 t238 t239 t240 t244 t245 t246 t250 false a2_0 a2_1 a2_2 a5_0 a5_1 a5_2 a7_0 a7_1 a7_2)) = some r := by rw [if_pos rfl] at H; exact H
           clear H
           have H := H1
           clear H1
           by_cases c178 : a4 ≥ a3
           ·
            rw [if_pos c178] at H
            have c178b0 : decide (a3 ≤ a4) = true := decide_eq_true c178
            clear c178
            (first | rw [c178b0] | (simp only [i64_w, i32_w]; rw [c178b0]) | skip)
            as_aux_lemma =>
             have H' := Aside0.mk H
             clear H
             go_wp2
             go_meet
             case rel => exact ⟨_, (decide ((wrap64 (a4 - a3)) ≤ 300)), (by first | rfl | (simp; done) | (simp [*]; done)), H', ⟨by have := HJ16.out; have := HJ73.out; have := HJ141.out; first | omega | exact Nat.le_refl _⟩, ⟨by (with_reducible repeat (first | refine blk_drewN ?_ _ | refine blk_drew ?_ | refine blk_alloc ?_ _)); exact BK199.out⟩, ⟨by (with_reducible repeat (first | refine blk_drewN ?_ _ | refine blk_drew ?_ | refine blk_alloc ?_ _)); exact BK200.out⟩, ⟨by (with_reducible repeat (first | refine blk_drewN ?_ _ | refine blk_drew ?_ | refine blk_alloc ?_ _)); exact BK201.out⟩, ⟨by (with_reducible repeat (first | refine blk_drewN ?_ _ | refine blk_drew ?_ | refine blk_alloc ?_ _)); exact BK202.out⟩, ⟨by repeat (first | (with_reducible first | exact HB.out | apply below_alloc | apply pw_below_drewN | apply below_drew1 | refine below_set ?_ GE199.out | refine below_set ?_ GE200.out | refine below_set ?_ GE201.out | refine below_set ?_ GE202.out) | exact HB.out)⟩⟩
           ·
            rw [if_neg c178] at H
            have c178b0 : decide (a3 ≤ a4) = false := decide_eq_false c178
            clear c178
            (first | rw [c178b0] | (simp only [i64_w, i32_w]; rw [c178b0]) | skip)
            as_aux_lemma =>
             have H' := Aside0.mk H
             clear H
             go_wp2
             go_meet
             case rel => exact ⟨_, (false), (by first | rfl | (simp; done) | (simp [*]; done)), H', ⟨by have := HJ16.out; have := HJ73.out; have := HJ141.out; first | omega | exact Nat.le_refl _⟩, ⟨by (with_reducible repeat (first | refine blk_drewN ?_ _ | refine blk_drew ?_ | refine blk_alloc ?_ _)); exact BK199.out⟩, ⟨by (with_reducible repeat (first | refine blk_drewN ?_ _ | refine blk_drew ?_ | refine blk_alloc ?_ _)); exact BK200.out⟩, ⟨by (with_reducible repeat (first | refine blk_drewN ?_ _ | refine blk_drew ?_ | refine blk_alloc ?_ _)); exact BK201.out⟩, ⟨by (with_reducible repeat (first | refine blk_drewN ?_ _ | refine blk_drew ?_ | refine blk_alloc ?_ _)); exact BK202.out⟩, ⟨by repeat (first | (with_reducible first | exact HB.out | apply below_alloc | apply pw_below_drewN | apply below_drew1 | refine below_set ?_ GE199.out | refine below_set ?_ GE200.out | refine below_set ?_ GE201.out | refine below_set ?_ GE202.out) | exact HB.out)⟩⟩
          ·
           replace c177 := Bool.eq_false_iff.mpr c177
           subst c177
           have H1 : (j5 kj141 a3 a4 a6 t234 t238 t239 t240 t244 t245 t246 t250 false a2_0 a2_1 a2_2 a5_0 a5_1 a5_2 a7_0 a7_1 a7_2) = some r := by rw [if_neg (show ¬ (false = true) by decide)] at H; exact H
           clear H
           have H := H1
           clear H1
           as_aux_lemma =>
            have H' := Aside0.mk H
            clear H
            go_wp2
            go_meet
            case rel => exact ⟨_, (false), (by first | rfl | (simp; done) | (simp [*]; done)), H', ⟨by have := HJ16.out; have := HJ73.out; have := HJ141.out; first | omega | exact Nat.le_refl _⟩, ⟨by (with_reducible repeat (first | refine blk_drewN ?_ _ | refine blk_drew ?_ | refine blk_alloc ?_ _)); exact BK199.out⟩, ⟨by (with_reducible repeat (first | refine blk_drewN ?_ _ | refine blk_drew ?_ | refine blk_alloc ?_ _)); exact BK200.out⟩, ⟨by (with_reducible repeat (first | refine blk_drewN ?_ _ | refine blk_drew ?_ | refine blk_alloc ?_ _)); exact BK201.out⟩, ⟨by (with_reducible repeat (first | refine blk_drewN ?_ _ | refine blk_drew ?_ | refine blk_alloc ?_ _)); exact BK202.out⟩, ⟨by repeat (first | (with_reducible first | exact HB.out | apply below_alloc | apply pw_below_drewN | apply below_drew1 | refine below_set ?_ GE199.out | refine below_set ?_ GE200.out | refine below_set ?_ GE201.out | refine below_set ?_ GE202.out) | exact HB.out)⟩⟩
         case rest => as_aux_lemma =>
          clear HC176
          try clear c73
          try clear c175
          try clear hcz146_0
          try clear hcz146_1
          try clear hcz146_2
          try clear hfz146_0
          try clear hfz146_1
          try clear hfz146_2
          obtain ⟨kq, x389_175, rfl, HA, HJ175, BK199, BK200, BK201, BK202, HB⟩ := hcut
          cases kq with
          | zero => exact absurd HA.out (by simp [j5])
          | succ kj175 =>
           have H := HA.out
           clear HA
           simp only [j5] at H
           have HC179 := Aside0.mk H
           clear H
           go_upto_if 389 with (fail)
           go_cut [] from 390 to 494 (fun wc => ∃ (kq : Nat), Aside0 (j7 kq a6 t238 t239 t240 t244 t245 t246 t250 a5_0 a5_1 a5_2 a7_0 a7_1 a7_2 = some r) ∧ Aside0 (kq ≤ kj175) ∧ Aside0 (wc.heap[gb199]? = some (.cells #[.int .i64 a0_0, .int .i64 a0_1, .int .i64 a0_2] 26 (0, 0))) ∧ Aside0 (wc.heap[gb200]? = some (.cells #[.int .i64 a2_0, .int .i64 a2_1, .int .i64 a2_2] 26 (0, 0))) ∧ Aside0 (wc.heap[gb201]? = some (.cells #[.int .i64 a5_0, .int .i64 a5_1, .int .i64 a5_2] 26 (0, 0))) ∧ Aside0 (wc.heap[gb202]? = some (.cells #[.int .i64 a7_0, .int .i64 a7_1, .int .i64 a7_2] 26 (0, 0))) ∧ Aside0 (Below w.heap.size w wc))
           case first => as_aux_lemma =>
            have H := HC179.out
            clear HC179
            by_cases c180 : x389_175 = true
            ·
             subst c180
             have H1 : (l0 kj175 a4 a6 t234 t238 t239 t240 t244 t245 t246 t250 0 a3 a2_0 a2_1 a2_2 a5_0 a5_1 a5_2 a7_0 a7_1 a7_2) = some r := by rw [if_pos rfl] at H; exact H
             clear H
             have H := H1
             clear H1
             have H' := Aside0.mk H
             clear H
             go_wp2
             go_loopg [64, 65] kj175 (fun kq v64 v65 w' => ∃ (x64_5 : Int) (x65_5 : Int), v64 = .int .i64 x64_5 ∧ v65 = .int .i64 x65_5 ∧ Aside0 (l0 kq a4 a6 t234 t238 t239 t240 t244 t245 t246 t250 x64_5 x65_5 a2_0 a2_1 a2_2 a5_0 a5_1 a5_2 a7_0 a7_1 a7_2 = some r) ∧ Aside0 (kq ≤ kj175) ∧ Aside0 (w'.heap[gb199]? = some (.cells #[.int .i64 a0_0, .int .i64 a0_1, .int .i64 a0_2] 26 (0, 0))) ∧ Aside0 (w'.heap[gb200]? = some (.cells #[.int .i64 a2_0, .int .i64 a2_1, .int .i64 a2_2] 26 (0, 0))) ∧ Aside0 (w'.heap[gb201]? = some (.cells #[.int .i64 a5_0, .int .i64 a5_1, .int .i64 a5_2] 26 (0, 0))) ∧ Aside0 (w'.heap[gb202]? = some (.cells #[.int .i64 a7_0, .int .i64 a7_1, .int .i64 a7_2] 26 (0, 0))) ∧ Aside0 (Below w.heap.size w w'))
             case atStart => exact ⟨(0), (a3), (by first | rfl | (simp; done) | (simp [*]; done)), (by first | rfl | (simp; done) | (simp [*]; done)), H', ⟨Nat.le_refl _⟩, ⟨by (with_reducible repeat (first | refine blk_drewN ?_ _ | refine blk_drew ?_ | refine blk_alloc ?_ _)); exact BK199.out⟩, ⟨by (with_reducible repeat (first | refine blk_drewN ?_ _ | refine blk_drew ?_ | refine blk_alloc ?_ _)); exact BK200.out⟩, ⟨by (with_reducible repeat (first | refine blk_drewN ?_ _ | refine blk_drew ?_ | refine blk_alloc ?_ _)); exact BK201.out⟩, ⟨by (with_reducible repeat (first | refine blk_drewN ?_ _ | refine blk_drew ?_ | refine blk_alloc ?_ _)); exact BK202.out⟩, ⟨by repeat (first | (with_reducible first | exact HB.out | apply below_alloc | apply pw_below_drewN | apply below_drew1 | refine below_set ?_ GE199.out | refine below_set ?_ GE200.out | refine below_set ?_ GE201.out | refine below_set ?_ GE202.out) | exact HB.out)⟩⟩
             case round => as_aux_lemma =>
              clear H'
              try clear c73
              try clear c175
              try clear c180
              try clear hcz146_0
              try clear hcz146_1
              try clear hcz146_2
              try clear hfz146_0
              try clear hfz146_1
              try clear hfz146_2
              obtain ⟨x64_5, x65_5, rfl, rfl, HA, HK5, BK199, BK200, BK201, BK202, HB⟩ := hrel
              cases gk with
              | zero => exact absurd HA.out (by simp [l0])
              | succ k5 =>
               have H := HA.out
               clear HA
               simp only [l0] at H
               by_cases c181 : x65_5 ≤ a4
               ·
                rw [if_pos c181] at H
                have c181b0 : decide (x65_5 ≤ a4) = true := decide_eq_true c181
                clear c181
                (first | rw [c181b0] | (simp only [i64_w, i32_w]; rw [c181b0]) | skip)
                replace H := Option.bind_eq_some_iff.mp H
                obtain ⟨⟨t254, t255⟩, A1820, H⟩ := H
                try dsimp only at H
                have A182 := Aside0.mk A1820
                clear A1820
                by_cases c183 : t255 = true
                ·
                 subst c183
                 have H1 : (if t254 = true then (l0 k5 a4 a6 t234 t238 t239 t240 t244 t245 t246 t250 (wrap64 (x64_5 + 1)) (wrap64 (x65_5 + 1)) a2_0 a2_1 a2_2 a5_0 a5_1 a5_2 a7_0 a7_1 a7_2) else (l0 k5 a4 a6 t234 t238 t239 t240 t244 t245 t246 t250 x64_5 (wrap64 (x65_5 + 1)) a2_0 a2_1 a2_2 a5_0 a5_1 a5_2 a7_0 a7_1 a7_2)) = some r := by rw [if_pos rfl] at H; exact H
                 clear H
                 have H := H1
                 clear H1
                 by_cases c184 : t254 = true
                 ·
                  subst c184
                  have H1 : (l0 k5 a4 a6 t234 t238 t239 t240 t244 t245 t246 t250 (wrap64 (x64_5 + 1)) (wrap64 (x65_5 + 1)) a2_0 a2_1 a2_2 a5_0 a5_1 a5_2 a7_0 a7_1 a7_2) = some r := by rw [if_pos rfl] at H; exact H
                  clear H
                  have H := H1
                  clear H1
                  as_aux_lemma =>
                   have H' := Aside0.mk H
                   clear H
                   have hnb185 := NB200_199.out
                   have hnc185 := NB199_200.out
                   have hnb186 := NB200_201.out
                   have hnc186 := NB201_200.out
                   have hnb187 := NB200_202.out
                   have hnc187 := NB202_200.out
                   have hcz188_0 : wr.cell? ⟨gb200, 0, none⟩ = some (.int .i64 a2_0) := (blk_cell BK200.out 0).trans rfl
                   have hcz188_1 : wr.cell? ⟨gb200, 1, none⟩ = some (.int .i64 a2_1) := (blk_cell BK200.out 1).trans rfl
                   have hcz188_2 : wr.cell? ⟨gb200, 2, none⟩ = some (.int .i64 a2_2) := (blk_cell BK200.out 2).trans rfl
                   have hfz188_0 := blk_frozen BK200.out 0
                   have hfz188_1 := blk_frozen BK200.out 1
                   have hfz188_2 := blk_frozen BK200.out 2
                   go_wp2_with (first | ((with_reducible refine gate_callee (f := 16) rfl ?_); refine goesL_ (some 399) rfl rfl Try.func16 (by kernel_rfl) rfl #[.agg #[.int .i64 a2_0, .int .i64 a2_1, .int .i64 a2_2], .int .i64 x65_5] rfl (by (try simp only [List.map_toArray, List.map_cons, List.map_nil]); first | done | rfl | (simp only [List.length_drop, List.length_take]; rfl)) ?_; (with_reducible refine (impl_IsLeapYear.calls a2_0 a2_1 a2_2 x65_5 true true _ A182.out).mono ?_); rintro e w189 ⟨rfl, hb⟩; refine ⟨_, rfl, ?_⟩; have n0_ := Aside0.mk (blk_below (g := gb199) (by (with_reducible repeat (first | refine blk_drewN ?_ _ | refine blk_drew ?_ | refine blk_alloc ?_ _)); exact BK199.out) hb); have n1_ := Aside0.mk (blk_below (g := gb200) (by (with_reducible repeat (first | refine blk_drewN ?_ _ | refine blk_drew ?_ | refine blk_alloc ?_ _)); exact BK200.out) hb); have n2_ := Aside0.mk (blk_below (g := gb201) (by (with_reducible repeat (first | refine blk_drewN ?_ _ | refine blk_drew ?_ | refine blk_alloc ?_ _)); exact BK201.out) hb); have n3_ := Aside0.mk (blk_below (g := gb202) (by (with_reducible repeat (first | refine blk_drewN ?_ _ | refine blk_drew ?_ | refine blk_alloc ?_ _)); exact BK202.out) hb); have n4_ := Aside0.mk (below_step (by repeat (first | (with_reducible first | exact HB.out | apply below_alloc | apply pw_below_drewN | apply below_drew1 | refine below_set ?_ GE199.out | refine below_set ?_ GE200.out | refine below_set ?_ GE201.out | refine below_set ?_ GE202.out) | exact HB.out)) hb); clear BK199; clear BK200; clear BK201; clear BK202; clear HB; have BK199 := n0_; have BK200 := n1_; have BK201 := n2_; have BK202 := n3_; have HB := n4_; clear n0_ n1_ n2_ n3_ n4_; (try clear hb); (try clear hb2); (try clear hk); (try clear hi)))
                   go_roundg k5
                   case measure => have := HJ16.out; have := HJ73.out; have := HJ141.out; have := HJ175.out; have := HK5.out; omega
                   case rel => exact ⟨(wrap64 (x64_5 + 1)), (wrap64 (x65_5 + 1)), (by first | rfl | (simp; done) | (simp [*]; done)), (by first | rfl | (simp; done) | (simp [*]; done)), H', ⟨by have := HJ16.out; have := HJ73.out; have := HJ141.out; have := HJ175.out; have := HK5.out; omega⟩, ⟨by (with_reducible repeat (first | refine blk_drewN ?_ _ | refine blk_drew ?_ | refine blk_alloc ?_ _)); exact BK199.out⟩, ⟨by (with_reducible repeat (first | refine blk_drewN ?_ _ | refine blk_drew ?_ | refine blk_alloc ?_ _)); exact BK200.out⟩, ⟨by (with_reducible repeat (first | refine blk_drewN ?_ _ | refine blk_drew ?_ | refine blk_alloc ?_ _)); exact BK201.out⟩, ⟨by (with_reducible repeat (first | refine blk_drewN ?_ _ | refine blk_drew ?_ | refine blk_alloc ?_ _)); exact BK202.out⟩, ⟨by repeat (first | (with_reducible first | exact HB.out | apply below_alloc | apply pw_below_drewN | apply below_drew1 | refine below_set ?_ GE199.out | refine below_set ?_ GE200.out | refine below_set ?_ GE201.out | refine below_set ?_ GE202.out) | exact HB.out)⟩⟩
                 ·
                  replace c184 := Bool.eq_false_iff.mpr c184
                  subst c184
                  have H1 : (l0 k5 a4 a6 t234 t238 t239 t240 t244 t245 t246 t250 x64_5 (wrap64 (x65_5 + 1)) a2_0 a2_1 a2_2 a5_0 a5_1 a5_2 a7_0 a7_1 a7_2) = some r := by rw [if_neg (show ¬ (false = true) by decide)] at H; exact H
                  clear H
                  have H := H1
                  clear H1
                  as_aux_lemma =>
                   have H' := Aside0.mk H
                   clear H
                   have hnb190 := NB200_199.out
                   have hnc190 := NB199_200.out
                   have hnb191 := NB200_201.out
                   have hnc191 := NB201_200.out
                   have hnb192 := NB200_202.out
                   have hnc192 := NB202_200.out
                   have hcz193_0 : wr.cell? ⟨gb200, 0, none⟩ = some (.int .i64 a2_0) := (blk_cell BK200.out 0).trans rfl
                   have hcz193_1 : wr.cell? ⟨gb200, 1, none⟩ = some (.int .i64 a2_1) := (blk_cell BK200.out 1).trans rfl
                   have hcz193_2 : wr.cell? ⟨gb200, 2, none⟩ = some (.int .i64 a2_2) := (blk_cell BK200.out 2).trans rfl
                   have hfz193_0 := blk_frozen BK200.out 0
                   have hfz193_1 := blk_frozen BK200.out 1
                   have hfz193_2 := blk_frozen BK200.out 2
                   go_wp2_with (first | ((with_reducible refine gate_callee (f := 16) rfl ?_); refine goesL_ (some 399) rfl rfl Try.func16 (by kernel_rfl) rfl #[.agg #[.int .i64 a2_0, .int .i64 a2_1, .int .i64 a2_2], .int .i64 x65_5] rfl (by (try simp only [List.map_toArray, List.map_cons, List.map_nil]); first | done | rfl | (simp only [List.length_drop, List.length_take]; rfl)) ?_; (with_reducible refine (impl_IsLeapYear.calls a2_0 a2_1 a2_2 x65_5 false true _ A182.out).mono ?_); rintro e w194 ⟨rfl, hb⟩; refine ⟨_, rfl, ?_⟩; have n0_ := Aside0.mk (blk_below (g := gb199) (by (with_reducible repeat (first | refine blk_drewN ?_ _ | refine blk_drew ?_ | refine blk_alloc ?_ _)); exact BK199.out) hb); have n1_ := Aside0.mk (blk_below (g := gb200) (by (with_reducible repeat (first | refine blk_drewN ?_ _ | refine blk_drew ?_ | refine blk_alloc ?_ _)); exact BK200.out) hb); have n2_ := Aside0.mk (blk_below (g := gb201) (by (with_reducible repeat (first | refine blk_drewN ?_ _ | refine blk_drew ?_ | refine blk_alloc ?_ _)); exact BK201.out) hb); have n3_ := Aside0.mk (blk_below (g := gb202) (by (with_reducible repeat (first | refine blk_drewN ?_ _ | refine blk_drew ?_ | refine blk_alloc ?_ _)); exact BK202.out) hb); have n4_ := Aside0.mk (below_step (by repeat (first | (with_reducible first | exact HB.out | apply below_alloc | apply pw_below_drewN | apply below_drew1 | refine below_set ?_ GE199.out | refine below_set ?_ GE200.out | refine below_set ?_ GE201.out | refine below_set ?_ GE202.out) | exact HB.out)) hb); clear BK199; clear BK200; clear BK201; clear BK202; clear HB; have BK199 := n0_; have BK200 := n1_; have BK201 := n2_; have BK202 := n3_; have HB := n4_; clear n0_ n1_ n2_ n3_ n4_; (try clear hb); (try clear hb2); (try clear hk); (try clear hi)))
                   go_roundg k5
                   case measure => have := HJ16.out; have := HJ73.out; have := HJ141.out; have := HJ175.out; have := HK5.out; omega
                   case rel => exact ⟨(x64_5), (wrap64 (x65_5 + 1)), (by first | rfl | (simp; done) | (simp [*]; done)), (by first | rfl | (simp; done) | (simp [*]; done)), H', ⟨by have := HJ16.out; have := HJ73.out; have := HJ141.out; have := HJ175.out; have := HK5.out; omega⟩, ⟨by (with_reducible repeat (first | refine blk_drewN ?_ _ | refine blk_drew ?_ | refine blk_alloc ?_ _)); exact BK199.out⟩, ⟨by (with_reducible repeat (first | refine blk_drewN ?_ _ | refine blk_drew ?_ | refine blk_alloc ?_ _)); exact BK200.out⟩, ⟨by (with_reducible repeat (first | refine blk_drewN ?_ _ | refine blk_drew ?_ | refine blk_alloc ?_ _)); exact BK201.out⟩, ⟨by (with_reducible repeat (first | refine blk_drewN ?_ _ | refine blk_drew ?_ | refine blk_alloc ?_ _)); exact BK202.out⟩, ⟨by repeat (first | (with_reducible first | exact HB.out | apply below_alloc | apply pw_below_drewN | apply below_drew1 | refine below_set ?_ GE199.out | refine below_set ?_ GE200.out | refine below_set ?_ GE201.out | refine below_set ?_ GE202.out) | exact HB.out)⟩⟩
                ·
                 replace c183 := Bool.eq_false_iff.mpr c183
                 subst c183
                 have H1 : (none) = some r := by rw [if_neg (show ¬ (false = true) by decide)] at H; exact H
                 clear H
                 have H := H1
                 clear H1
                 exact absurd H (by simp)
               ·
                rw [if_neg c181] at H
                have c181b0 : decide (x65_5 ≤ a4) = false := decide_eq_false c181
                clear c181
                (first | rw [c181b0] | (simp only [i64_w, i32_w]; rw [c181b0]) | skip)
                by_cases c195 : x64_5 = t234
                ·
                 rw [if_pos c195] at H
                 have c195b0 : (x64_5 == t234) = true := beq_iff_eq.mpr c195
                 have c195b1 : (x64_5 != t234) = false := bne_eq_false_iff_eq.mpr c195
                 clear c195
                 as_aux_lemma =>
                  have H' := Aside0.mk H
                  clear H
                  go_wp2
                  go_meet
                  case rel => exact ⟨_, H', ⟨by have := HJ16.out; have := HJ73.out; have := HJ141.out; have := HJ175.out; have := HK5.out; first | omega | exact Nat.le_refl _⟩, ⟨by (with_reducible repeat (first | refine blk_drewN ?_ _ | refine blk_drew ?_ | refine blk_alloc ?_ _)); exact BK199.out⟩, ⟨by (with_reducible repeat (first | refine blk_drewN ?_ _ | refine blk_drew ?_ | refine blk_alloc ?_ _)); exact BK200.out⟩, ⟨by (with_reducible repeat (first | refine blk_drewN ?_ _ | refine blk_drew ?_ | refine blk_alloc ?_ _)); exact BK201.out⟩, ⟨by (with_reducible repeat (first | refine blk_drewN ?_ _ | refine blk_drew ?_ | refine blk_alloc ?_ _)); exact BK202.out⟩, ⟨by repeat (first | (with_reducible first | exact HB.out | apply below_alloc | apply pw_below_drewN | apply below_drew1 | refine below_set ?_ GE199.out | refine below_set ?_ GE200.out | refine below_set ?_ GE201.out | refine below_set ?_ GE202.out) | exact HB.out)⟩⟩
                ·
                 rw [if_neg c195] at H
                 exact absurd H (by simp)
            ·
             replace c180 := Bool.eq_false_iff.mpr c180
             subst c180
             have H1 : (j7 kj175 a6 t238 t239 t240 t244 t245 t246 t250 a5_0 a5_1 a5_2 a7_0 a7_1 a7_2) = some r := by rw [if_neg (show ¬ (false = true) by decide)] at H; exact H
             clear H
             have H := H1
             clear H1
             as_aux_lemma =>
              have H' := Aside0.mk H
              clear H
              go_wp2
              go_meet
              case rel => exact ⟨_, H', ⟨by have := HJ16.out; have := HJ73.out; have := HJ141.out; have := HJ175.out; first | omega | exact Nat.le_refl _⟩, ⟨by (with_reducible repeat (first | refine blk_drewN ?_ _ | refine blk_drew ?_ | refine blk_alloc ?_ _)); exact BK199.out⟩, ⟨by (with_reducible repeat (first | refine blk_drewN ?_ _ | refine blk_drew ?_ | refine blk_alloc ?_ _)); exact BK200.out⟩, ⟨by (with_reducible repeat (first | refine blk_drewN ?_ _ | refine blk_drew ?_ | refine blk_alloc ?_ _)); exact BK201.out⟩, ⟨by (with_reducible repeat (first | refine blk_drewN ?_ _ | refine blk_drew ?_ | refine blk_alloc ?_ _)); exact BK202.out⟩, ⟨by repeat (first | (with_reducible first | exact HB.out | apply below_alloc | apply pw_below_drewN | apply below_drew1 | refine below_set ?_ GE199.out | refine below_set ?_ GE200.out | refine below_set ?_ GE201.out | refine below_set ?_ GE202.out) | exact HB.out)⟩⟩
           case rest => as_aux_lemma =>
            clear HC179
            try clear c73
            try clear c175
            try clear hcz146_0
            try clear hcz146_1
            try clear hcz146_2
            try clear hfz146_0
            try clear hfz146_1
            try clear hfz146_2
            obtain ⟨kq, HA, HJ178, BK199, BK200, BK201, BK202, HB⟩ := hcut
            cases kq with
            | zero => exact absurd HA.out (by simp [j7])
            | succ kj178 =>
             have H := HA.out
             clear HA
             simp only [j7] at H
             have HC196 := Aside0.mk H
             clear H
             go_upto_if 410 with (fail)
             go_cut [] from 390 to 494 (fun wc => ∃ (kq : Nat), Aside0 (j8 kq t244 t245 t246 t250 a7_0 a7_1 a7_2 = some r) ∧ Aside0 (kq ≤ kj178) ∧ Aside0 (wc.heap[gb199]? = some (.cells #[.int .i64 a0_0, .int .i64 a0_1, .int .i64 a0_2] 26 (0, 0))) ∧ Aside0 (wc.heap[gb200]? = some (.cells #[.int .i64 a2_0, .int .i64 a2_1, .int .i64 a2_2] 26 (0, 0))) ∧ Aside0 (wc.heap[gb201]? = some (.cells #[.int .i64 a5_0, .int .i64 a5_1, .int .i64 a5_2] 26 (0, 0))) ∧ Aside0 (wc.heap[gb202]? = some (.cells #[.int .i64 a7_0, .int .i64 a7_1, .int .i64 a7_2] 26 (0, 0))) ∧ Aside0 (Below w.heap.size w wc))
             case first => as_aux_lemma =>
              have H := HC196.out
              clear HC196
              by_cases c197 : t240 = true
              ·
               subst c197
               have H1 : ((impl_DaysUpTo.f a5_0 a5_1 a5_2 t238).bind fun bt256 => ((impl_IsLeapYear.f a5_0 a5_1 a5_2 t238).bind fun bt258 => (if bt256.2 = true then (if (wrap64 (bt256.1 + t239)) = a6 then (if bt258.2 = true then (if t239 < 0 then (none) else (if t239 > 365 then (none) else (if t239 = 365 then (if bt258.1 = true then (j8 kj178 t244 t245 t246 t250 a7_0 a7_1 a7_2) else (none)) else (j8 kj178 t244 t245 t246 t250 a7_0 a7_1 a7_2)))) else (none)) else (none)) else (none)))) = some r := by rw [if_pos rfl] at H; exact H
               clear H
               have H := H1
               clear H1
               replace H := Option.bind_eq_some_iff.mp H
               obtain ⟨⟨t256, t257⟩, A1980, H⟩ := H
               try dsimp only at H
               have A198 := Aside0.mk A1980
               clear A1980
               replace H := Option.bind_eq_some_iff.mp H
               obtain ⟨⟨t258, t259⟩, A1990, H⟩ := H
               try dsimp only at H
               have A199 := Aside0.mk A1990
               clear A1990
               by_cases c200 : t257 = true
               ·
                subst c200
                have H1 : (if (wrap64 (t256 + t239)) = a6 then (if t259 = true then (if t239 < 0 then (none) else (if t239 > 365 then (none) else (if t239 = 365 then (if t258 = true then (j8 kj178 t244 t245 t246 t250 a7_0 a7_1 a7_2) else (none)) else (j8 kj178 t244 t245 t246 t250 a7_0 a7_1 a7_2)))) else (none)) else (none)) = some r := by rw [if_pos rfl] at H; exact H
                clear H
                have H := H1
                clear H1
                by_cases c201 : (wrap64 (t256 + t239)) = a6
                ·
                 rw [if_pos c201] at H
                 have c201b0 : ((wrap64 (t256 + t239)) == a6) = true := beq_iff_eq.mpr c201
                 have c201b1 : ((wrap64 (t256 + t239)) != a6) = false := bne_eq_false_iff_eq.mpr c201
                 clear c201
                 (first | rw [c201b0] | (simp only [i64_w, i32_w]; rw [c201b0]) | skip)
                 by_cases c202 : t259 = true
                 ·
                  subst c202
                  have H1 : (if t239 < 0 then (none) else (if t239 > 365 then (none) else (if t239 = 365 then (if t258 = true then (j8 kj178 t244 t245 t246 t250 a7_0 a7_1 a7_2) else (none)) else (j8 kj178 t244 t245 t246 t250 a7_0 a7_1 a7_2)))) = some r := by rw [if_pos rfl] at H; exact H
                  clear H
                  have H := H1
                  clear H1
                  by_cases c203 : t239 < 0
                  ·
                   rw [if_pos c203] at H
                   exact absurd H (by simp)
                  ·
                   rw [if_neg c203] at H
                   have c203b0 : decide (t239 < 0) = false := decide_eq_false c203
                   clear c203
                   by_cases c204 : t239 > 365
                   ·
                    rw [if_pos c204] at H
                    exact absurd H (by simp)
                   ·
                    rw [if_neg c204] at H
                    have c204b0 : decide (365 < t239) = false := decide_eq_false c204
                    clear c204
                    by_cases c205 : t239 = 365
                    ·
                     rw [if_pos c205] at H
                     have c205b0 : (t239 == 365) = true := beq_iff_eq.mpr c205
                     have c205b1 : (t239 != 365) = false := bne_eq_false_iff_eq.mpr c205
                     clear c205
                     by_cases c206 : t258 = true
                     ·
                      subst c206
                      have H1 : (j8 kj178 t244 t245 t246 t250 a7_0 a7_1 a7_2) = some r := by rw [if_pos rfl] at H; exact H
                      clear H
                      have H := H1
                      clear H1
                      as_aux_lemma =>
                       have H' := Aside0.mk H
                       clear H
                       have hnb207 := NB201_199.out
                       have hnc207 := NB199_201.out
                       have hnb208 := NB201_200.out
                       have hnc208 := NB200_201.out
                       have hnb209 := NB201_202.out
                       have hnc209 := NB202_201.out
                       have hcz210_0 : wc.cell? ⟨gb201, 0, none⟩ = some (.int .i64 a5_0) := (blk_cell BK201.out 0).trans rfl
                       have hcz210_1 : wc.cell? ⟨gb201, 1, none⟩ = some (.int .i64 a5_1) := (blk_cell BK201.out 1).trans rfl
                       have hcz210_2 : wc.cell? ⟨gb201, 2, none⟩ = some (.int .i64 a5_2) := (blk_cell BK201.out 2).trans rfl
                       have hfz210_0 := blk_frozen BK201.out 0
                       have hfz210_1 := blk_frozen BK201.out 1
                       have hfz210_2 := blk_frozen BK201.out 2
                       go_wp2_with (first | ((with_reducible refine gate_callee (f := 18) rfl ?_); refine goesL_ (some 414) rfl rfl Try.func18 (by kernel_rfl) rfl #[.agg #[.int .i64 a5_0, .int .i64 a5_1, .int .i64 a5_2], .int .i64 t238] rfl (by (try simp only [List.map_toArray, List.map_cons, List.map_nil]); first | done | rfl | (simp only [List.length_drop, List.length_take]; rfl)) ?_; (with_reducible refine (impl_DaysUpTo.calls a5_0 a5_1 a5_2 t238 t256 true _ A198.out).mono ?_); rintro e w211 ⟨rfl, hb⟩; refine ⟨_, rfl, ?_⟩; have n0_ := Aside0.mk (blk_below (g := gb199) (by (with_reducible repeat (first | refine blk_drewN ?_ _ | refine blk_drew ?_ | refine blk_alloc ?_ _)); exact BK199.out) hb); have n1_ := Aside0.mk (blk_below (g := gb200) (by (with_reducible repeat (first | refine blk_drewN ?_ _ | refine blk_drew ?_ | refine blk_alloc ?_ _)); exact BK200.out) hb); have n2_ := Aside0.mk (blk_below (g := gb201) (by (with_reducible repeat (first | refine blk_drewN ?_ _ | refine blk_drew ?_ | refine blk_alloc ?_ _)); exact BK201.out) hb); have n3_ := Aside0.mk (blk_below (g := gb202) (by (with_reducible repeat (first | refine blk_drewN ?_ _ | refine blk_drew ?_ | refine blk_alloc ?_ _)); exact BK202.out) hb); have n4_ := Aside0.mk (below_step (by repeat (first | (with_reducible first | exact HB.out | apply below_alloc | apply pw_below_drewN | apply below_drew1 | refine below_set ?_ GE199.out | refine below_set ?_ GE200.out | refine below_set ?_ GE201.out | refine below_set ?_ GE202.out) | exact HB.out)) hb); clear BK199; clear BK200; clear BK201; clear BK202; clear HB; have BK199 := n0_; have BK200 := n1_; have BK201 := n2_; have BK202 := n3_; have HB := n4_; clear n0_ n1_ n2_ n3_ n4_; (try clear hb); (try clear hb2); (try clear hk); (try clear hi); have hcz212_0 : w211.cell? ⟨gb201, 0, none⟩ = some (.int .i64 a5_0) := (blk_cell BK201.out 0).trans rfl; have hcz212_1 : w211.cell? ⟨gb201, 1, none⟩ = some (.int .i64 a5_1) := (blk_cell BK201.out 1).trans rfl; have hcz212_2 : w211.cell? ⟨gb201, 2, none⟩ = some (.int .i64 a5_2) := (blk_cell BK201.out 2).trans rfl; have hfz212_0 := blk_frozen BK201.out 0; have hfz212_1 := blk_frozen BK201.out 1; have hfz212_2 := blk_frozen BK201.out 2) | ((with_reducible refine gate_callee (f := 16) rfl ?_); refine goesL_ (some 420) rfl rfl Try.func16 (by kernel_rfl) rfl #[.agg #[.int .i64 a5_0, .int .i64 a5_1, .int .i64 a5_2], .int .i64 t238] rfl (by (try simp only [List.map_toArray, List.map_cons, List.map_nil]); first | done | rfl | (simp only [List.length_drop, List.length_take]; rfl)) ?_; (with_reducible refine (impl_IsLeapYear.calls a5_0 a5_1 a5_2 t238 true true _ A199.out).mono ?_); rintro e w213 ⟨rfl, hb⟩; refine ⟨_, rfl, ?_⟩; have n0_ := Aside0.mk (blk_below (g := gb199) (by (with_reducible repeat (first | refine blk_drewN ?_ _ | refine blk_drew ?_ | refine blk_alloc ?_ _)); exact BK199.out) hb); have n1_ := Aside0.mk (blk_below (g := gb200) (by (with_reducible repeat (first | refine blk_drewN ?_ _ | refine blk_drew ?_ | refine blk_alloc ?_ _)); exact BK200.out) hb); have n2_ := Aside0.mk (blk_below (g := gb201) (by (with_reducible repeat (first | refine blk_drewN ?_ _ | refine blk_drew ?_ | refine blk_alloc ?_ _)); exact BK201.out) hb); have n3_ := Aside0.mk (blk_below (g := gb202) (by (with_reducible repeat (first | refine blk_drewN ?_ _ | refine blk_drew ?_ | refine blk_alloc ?_ _)); exact BK202.out) hb); have n4_ := Aside0.mk (below_step (by repeat (first | (with_reducible first | exact HB.out | apply below_alloc | apply pw_below_drewN | apply below_drew1 | refine below_set ?_ GE199.out | refine below_set ?_ GE200.out | refine below_set ?_ GE201.out | refine below_set ?_ GE202.out) | exact HB.out)) hb); clear BK199; clear BK200; clear BK201; clear BK202; clear HB; have BK199 := n0_; have BK200 := n1_; have BK201 := n2_; have BK202 := n3_; have HB := n4_; clear n0_ n1_ n2_ n3_ n4_; (try clear hb); (try clear hb2); (try clear hk); (try clear hi)))
                       go_meet
                       case rel => exact ⟨_, H', ⟨by have := HJ16.out; have := HJ73.out; have := HJ141.out; have := HJ175.out; have := HJ178.out; first | omega | exact Nat.le_refl _⟩, ⟨by (with_reducible repeat (first | refine blk_drewN ?_ _ | refine blk_drew ?_ | refine blk_alloc ?_ _)); exact BK199.out⟩, ⟨by (with_reducible repeat (first | refine blk_drewN ?_ _ | refine blk_drew ?_ | refine blk_alloc ?_ _)); exact BK200.out⟩, ⟨by (with_reducible repeat (first | refine blk_drewN ?_ _ | refine blk_drew ?_ | refine blk_alloc ?_ _)); exact BK201.out⟩, ⟨by (with_reducible repeat (first | refine blk_drewN ?_ _ | refine blk_drew ?_ | refine blk_alloc ?_ _)); exact BK202.out⟩, ⟨by repeat (first | (with_reducible first | exact HB.out | apply below_alloc | apply pw_below_drewN | apply below_drew1 | refine below_set ?_ GE199.out | refine below_set ?_ GE200.out | refine below_set ?_ GE201.out | refine below_set ?_ GE202.out) | exact HB.out)⟩⟩
                     ·
                      replace c206 := Bool.eq_false_iff.mpr c206
                      subst c206
                      have H1 : (none) = some r := by rw [if_neg (show ¬ (false = true) by decide)] at H; exact H
                      clear H
                      have H := H1
                      clear H1
                      exact absurd H (by simp)
                    ·
                     rw [if_neg c205] at H
                     have c205b0 : (t239 == 365) = false := beq_eq_false_iff_ne.mpr c205
                     have c205b1 : (t239 != 365) = true := bne_iff_ne.mpr c205
                     as_aux_lemma =>
                      have H' := Aside0.mk H
                      clear H
                      have hnb214 := NB201_199.out
                      have hnc214 := NB199_201.out
                      have hnb215 := NB201_200.out
                      have hnc215 := NB200_201.out
                      have hnb216 := NB201_202.out
                      have hnc216 := NB202_201.out
                      have hcz217_0 : wc.cell? ⟨gb201, 0, none⟩ = some (.int .i64 a5_0) := (blk_cell BK201.out 0).trans rfl
                      have hcz217_1 : wc.cell? ⟨gb201, 1, none⟩ = some (.int .i64 a5_1) := (blk_cell BK201.out 1).trans rfl
                      have hcz217_2 : wc.cell? ⟨gb201, 2, none⟩ = some (.int .i64 a5_2) := (blk_cell BK201.out 2).trans rfl
                      have hfz217_0 := blk_frozen BK201.out 0
                      have hfz217_1 := blk_frozen BK201.out 1
                      have hfz217_2 := blk_frozen BK201.out 2
                      go_wp2_with (first | ((with_reducible refine gate_callee (f := 18) rfl ?_); refine goesL_ (some 414) rfl rfl Try.func18 (by kernel_rfl) rfl #[.agg #[.int .i64 a5_0, .int .i64 a5_1, .int .i64 a5_2], .int .i64 t238] rfl (by (try simp only [List.map_toArray, List.map_cons, List.map_nil]); first | done | rfl | (simp only [List.length_drop, List.length_take]; rfl)) ?_; (with_reducible refine (impl_DaysUpTo.calls a5_0 a5_1 a5_2 t238 t256 true _ A198.out).mono ?_); rintro e w218 ⟨rfl, hb⟩; refine ⟨_, rfl, ?_⟩; have n0_ := Aside0.mk (blk_below (g := gb199) (by (with_reducible repeat (first | refine blk_drewN ?_ _ | refine blk_drew ?_ | refine blk_alloc ?_ _)); exact BK199.out) hb); have n1_ := Aside0.mk (blk_below (g := gb200) (by (with_reducible repeat (first | refine blk_drewN ?_ _ | refine blk_drew ?_ | refine blk_alloc ?_ _)); exact BK200.out) hb); have n2_ := Aside0.mk (blk_below (g := gb201) (by (with_reducible repeat (first | refine blk_drewN ?_ _ | refine blk_drew ?_ | refine blk_alloc ?_ _)); exact BK201.out) hb); have n3_ := Aside0.mk (blk_below (g := gb202) (by (with_reducible repeat (first | refine blk_drewN ?_ _ | refine blk_drew ?_ | refine blk_alloc ?_ _)); exact BK202.out) hb); have n4_ := Aside0.mk (below_step (by repeat (first | (with_reducible first | exact HB.out | apply below_alloc | apply pw_below_drewN | apply below_drew1 | refine below_set ?_ GE199.out | refine below_set ?_ GE200.out | refine below_set ?_ GE201.out | refine below_set ?_ GE202.out) | exact HB.out)) hb); clear BK199; clear BK200; clear BK201; clear BK202; clear HB; have BK199 := n0_; have BK200 := n1_; have BK201 := n2_; have BK202 := n3_; have HB := n4_; clear n0_ n1_ n2_ n3_ n4_; (try clear hb); (try clear hb2); (try clear hk); (try clear hi); have hcz219_0 : w218.cell? ⟨gb201, 0, none⟩ = some (.int .i64 a5_0) := (blk_cell BK201.out 0).trans rfl; have hcz219_1 : w218.cell? ⟨gb201, 1, none⟩ = some (.int .i64 a5_1) := (blk_cell BK201.out 1).trans rfl; have hcz219_2 : w218.cell? ⟨gb201, 2, none⟩ = some (.int .i64 a5_2) := (blk_cell BK201.out 2).trans rfl; have hfz219_0 := blk_frozen BK201.out 0; have hfz219_1 := blk_frozen BK201.out 1; have hfz219_2 := blk_frozen BK201.out 2) | ((with_reducible refine gate_callee (f := 16) rfl ?_); refine goesL_ (some 420) rfl rfl Try.func16 (by kernel_rfl) rfl #[.agg #[.int .i64 a5_0, .int .i64 a5_1, .int .i64 a5_2], .int .i64 t238] rfl (by (try simp only [List.map_toArray, List.map_cons, List.map_nil]); first | done | rfl | (simp only [List.length_drop, List.length_take]; rfl)) ?_; (with_reducible refine (impl_IsLeapYear.calls a5_0 a5_1 a5_2 t238 t258 true _ A199.out).mono ?_); rintro e w220 ⟨rfl, hb⟩; refine ⟨_, rfl, ?_⟩; have n0_ := Aside0.mk (blk_below (g := gb199) (by (with_reducible repeat (first | refine blk_drewN ?_ _ | refine blk_drew ?_ | refine blk_alloc ?_ _)); exact BK199.out) hb); have n1_ := Aside0.mk (blk_below (g := gb200) (by (with_reducible repeat (first | refine blk_drewN ?_ _ | refine blk_drew ?_ | refine blk_alloc ?_ _)); exact BK200.out) hb); have n2_ := Aside0.mk (blk_below (g := gb201) (by (with_reducible repeat (first | refine blk_drewN ?_ _ | refine blk_drew ?_ | refine blk_alloc ?_ _)); exact BK201.out) hb); have n3_ := Aside0.mk (blk_below (g := gb202) (by (with_reducible repeat (first | refine blk_drewN ?_ _ | refine blk_drew ?_ | refine blk_alloc ?_ _)); exact BK202.out) hb); have n4_ := Aside0.mk (below_step (by repeat (first | (with_reducible first | exact HB.out | apply below_alloc | apply pw_below_drewN | apply below_drew1 | refine below_set ?_ GE199.out | refine below_set ?_ GE200.out | refine below_set ?_ GE201.out | refine below_set ?_ GE202.out) | exact HB.out)) hb); clear BK199; clear BK200; clear BK201; clear BK202; clear HB; have BK199 := n0_; have BK200 := n1_; have BK201 := n2_; have BK202 := n3_; have HB := n4_; clear n0_ n1_ n2_ n3_ n4_; (try clear hb); (try clear hb2); (try clear hk); (try clear hi)))
                      go_meet
                      case rel => exact ⟨_, H', ⟨by have := HJ16.out; have := HJ73.out; have := HJ141.out; have := HJ175.out; have := HJ178.out; first | omega | exact Nat.le_refl _⟩, ⟨by (with_reducible repeat (first | refine blk_drewN ?_ _ | refine blk_drew ?_ | refine blk_alloc ?_ _)); exact BK199.out⟩, ⟨by (with_reducible repeat (first | refine blk_drewN ?_ _ | refine blk_drew ?_ | refine blk_alloc ?_ _)); exact BK200.out⟩, ⟨by (with_reducible repeat (first | refine blk_drewN ?_ _ | refine blk_drew ?_ | refine blk_alloc ?_ _)); exact BK201.out⟩, ⟨by (with_reducible repeat (first | refine blk_drewN ?_ _ | refine blk_drew ?_ | refine blk_alloc ?_ _)); exact BK202.out⟩, ⟨by repeat (first | (with_reducible first | exact HB.out | apply below_alloc | apply pw_below_drewN | apply below_drew1 | refine below_set ?_ GE199.out | refine below_set ?_ GE200.out | refine below_set ?_ GE201.out | refine below_set ?_ GE202.out) | exact HB.out)⟩⟩
                 ·
                  replace c202 := Bool.eq_false_iff.mpr c202
                  subst c202
                  have H1 : (none) = some r := by rw [if_neg (show ¬ (false = true) by decide)] at H; exact H
                  clear H
                  have H := H1
                  clear H1
                  exact absurd H (by simp)
                ·
                 rw [if_neg c201] at H
                 exact absurd H (by simp)
               ·
                replace c200 := Bool.eq_false_iff.mpr c200
                subst c200
                have H1 : (none) = some r := by rw [if_neg (show ¬ (false = true) by decide)] at H; exact H
                clear H
                have H := H1
                clear H1
                exact absurd H (by simp)
              ·
               replace c197 := Bool.eq_false_iff.mpr c197
               subst c197
               have H1 : (j8 kj178 t244 t245 t246 t250 a7_0 a7_1 a7_2) = some r := by rw [if_neg (show ¬ (false = true) by decide)] at H; exact H
               clear H
               have H := H1
               clear H1
               as_aux_lemma =>
                have H' := Aside0.mk H
                clear H
                go_wp2
                go_meet
                case rel => exact ⟨_, H', ⟨by have := HJ16.out; have := HJ73.out; have := HJ141.out; have := HJ175.out; have := HJ178.out; first | omega | exact Nat.le_refl _⟩, ⟨by (with_reducible repeat (first | refine blk_drewN ?_ _ | refine blk_drew ?_ | refine blk_alloc ?_ _)); exact BK199.out⟩, ⟨by (with_reducible repeat (first | refine blk_drewN ?_ _ | refine blk_drew ?_ | refine blk_alloc ?_ _)); exact BK200.out⟩, ⟨by (with_reducible repeat (first | refine blk_drewN ?_ _ | refine blk_drew ?_ | refine blk_alloc ?_ _)); exact BK201.out⟩, ⟨by (with_reducible repeat (first | refine blk_drewN ?_ _ | refine blk_drew ?_ | refine blk_alloc ?_ _)); exact BK202.out⟩, ⟨by repeat (first | (with_reducible first | exact HB.out | apply below_alloc | apply pw_below_drewN | apply below_drew1 | refine below_set ?_ GE199.out | refine below_set ?_ GE200.out | refine below_set ?_ GE201.out | refine below_set ?_ GE202.out) | exact HB.out)⟩⟩
             case rest => as_aux_lemma =>
              clear HC196
              try clear c73
              try clear c175
              try clear hcz146_0
              try clear hcz146_1
              try clear hcz146_2
              try clear hfz146_0
              try clear hfz146_1
              try clear hfz146_2
              obtain ⟨kq, HA, HJ195, BK199, BK200, BK201, BK202, HB⟩ := hcut
              cases kq with
              | zero => exact absurd HA.out (by simp [j8])
              | succ kj195 =>
               have H := HA.out
               clear HA
               simp only [j8] at H
               by_cases c221 : t246 = true
               ·
                subst c221
                have H1 : ((impl_CountLeaps.f kj195 a7_0 a7_1 a7_2 1 t244).bind fun bt260 => (if bt260.2 = true then (if bt260.1 = t245 then (if t244 = 0 then (none) else (if (Int.tmod t250 t244) = 0 then (if (Int.tmod (wrap64 ((wrap64 (365 * t250)) + (wrap64 (t245 * (wrap64 (Int.tdiv t250 t244)))))) 7) = 0 then (if t250 = t244 then (j9 kj195 t250 false a7_0 a7_1 a7_2) else (j9 kj195 t250 (t250 != (wrap64 (7 * t244))) a7_0 a7_1 a7_2)) else (none)) else (none))) else (none)) else (none))) = some r := by rw [if_pos rfl] at H; exact H
                clear H
                have H := H1
                clear H1
                replace H := Option.bind_eq_some_iff.mp H
                obtain ⟨⟨t260, t261⟩, A2220, H⟩ := H
                try dsimp only at H
                have A222 := Aside0.mk A2220
                clear A2220
                have HC223 := Aside0.mk H
                clear H
                have hnb224 := NB202_199.out
                have hnc224 := NB199_202.out
                have hnb225 := NB202_200.out
                have hnc225 := NB200_202.out
                have hnb226 := NB202_201.out
                have hnc226 := NB201_202.out
                have hcz227_0 : wc.cell? ⟨gb202, 0, none⟩ = some (.int .i64 a7_0) := (blk_cell BK202.out 0).trans rfl
                have hcz227_1 : wc.cell? ⟨gb202, 1, none⟩ = some (.int .i64 a7_1) := (blk_cell BK202.out 1).trans rfl
                have hcz227_2 : wc.cell? ⟨gb202, 2, none⟩ = some (.int .i64 a7_2) := (blk_cell BK202.out 2).trans rfl
                have hfz227_0 := blk_frozen BK202.out 0
                have hfz227_1 := blk_frozen BK202.out 1
                have hfz227_2 := blk_frozen BK202.out 2
                go_upto_region 61 with (first | ((with_reducible refine gate_callee (f := 27) rfl ?_); refine goesL_ (some 456) rfl rfl Try.func27 (by kernel_rfl) rfl #[.agg #[.int .i64 a7_0, .int .i64 a7_1, .int .i64 a7_2], .int .i64 1, .int .i64 t244] rfl (by (try simp only [List.map_toArray, List.map_cons, List.map_nil]); first | done | rfl | (simp only [List.length_drop, List.length_take]; rfl)) ?_; (with_reducible refine (impl_CountLeaps.calls kj195 a7_0 a7_1 a7_2 1 t244 t260 t261 _ A222.out).mono ?_); rintro e w228 ⟨rfl, hb⟩; refine ⟨_, rfl, ?_⟩; have n0_ := Aside0.mk (blk_below (g := gb199) (by (with_reducible repeat (first | refine blk_drewN ?_ _ | refine blk_drew ?_ | refine blk_alloc ?_ _)); exact BK199.out) hb); have n1_ := Aside0.mk (blk_below (g := gb200) (by (with_reducible repeat (first | refine blk_drewN ?_ _ | refine blk_drew ?_ | refine blk_alloc ?_ _)); exact BK200.out) hb); have n2_ := Aside0.mk (blk_below (g := gb201) (by (with_reducible repeat (first | refine blk_drewN ?_ _ | refine blk_drew ?_ | refine blk_alloc ?_ _)); exact BK201.out) hb); have n3_ := Aside0.mk (blk_below (g := gb202) (by (with_reducible repeat (first | refine blk_drewN ?_ _ | refine blk_drew ?_ | refine blk_alloc ?_ _)); exact BK202.out) hb); have n4_ := Aside0.mk (below_step (by repeat (first | (with_reducible first | exact HB.out | apply below_alloc | apply pw_below_drewN | apply below_drew1 | refine below_set ?_ GE199.out | refine below_set ?_ GE200.out | refine below_set ?_ GE201.out | refine below_set ?_ GE202.out) | exact HB.out)) hb); clear BK199; clear BK200; clear BK201; clear BK202; clear HB; have BK199 := n0_; have BK200 := n1_; have BK201 := n2_; have BK202 := n3_; have HB := n4_; clear n0_ n1_ n2_ n3_ n4_; (try clear hb); (try clear hb2); (try clear hk); (try clear hi)))
                (try simp only [Act.put, s1, s2, s3])
                go_cut [494] from 390 to 494 (fun v494 wc => ∃ (kq : Nat) (x494_222 : Bool), v494 = .bool x494_222 ∧ Aside0 (j9 kq t250 x494_222 a7_0 a7_1 a7_2 = some r) ∧ Aside0 (kq ≤ kj195) ∧ Aside0 (wc.heap[gb199]? = some (.cells #[.int .i64 a0_0, .int .i64 a0_1, .int .i64 a0_2] 26 (0, 0))) ∧ Aside0 (wc.heap[gb200]? = some (.cells #[.int .i64 a2_0, .int .i64 a2_1, .int .i64 a2_2] 26 (0, 0))) ∧ Aside0 (wc.heap[gb201]? = some (.cells #[.int .i64 a5_0, .int .i64 a5_1, .int .i64 a5_2] 26 (0, 0))) ∧ Aside0 (wc.heap[gb202]? = some (.cells #[.int .i64 a7_0, .int .i64 a7_1, .int .i64 a7_2] 26 (0, 0))) ∧ Aside0 (Below w.heap.size w wc))
                case first => as_aux_lemma =>
                 have H := HC223.out
                 clear HC223
                 by_cases c229 : t261 = true
                 ·
                  subst c229
                  have H1 : (if t260 = t245 then (if t244 = 0 then (none) else (if (Int.tmod t250 t244) = 0 then (if (Int.tmod (wrap64 ((wrap64 (365 * t250)) + (wrap64 (t245 * (wrap64 (Int.tdiv t250 t244)))))) 7) = 0 then (if t250 = t244 then (j9 kj195 t250 false a7_0 a7_1 a7_2) else (j9 kj195 t250 (t250 != (wrap64 (7 * t244))) a7_0 a7_1 a7_2)) else (none)) else (none))) else (none)) = some r := by rw [if_pos rfl] at H; exact H
                  clear H
                  have H := H1
                  clear H1
                  by_cases c230 : t260 = t245
                  ·
                   rw [if_pos c230] at H
                   have c230b0 : (t260 == t245) = true := beq_iff_eq.mpr c230
                   have c230b1 : (t260 != t245) = false := bne_eq_false_iff_eq.mpr c230
                   clear c230
                   (first | rw [c230b0] | (simp only [i64_w, i32_w]; rw [c230b0]) | skip)
                   by_cases c231 : t244 = 0
                   ·
                    rw [if_pos c231] at H
                    exact absurd H (by simp)
                   ·
                    rw [if_neg c231] at H
                    have c231b0 : (t244 == 0) = false := beq_eq_false_iff_ne.mpr c231
                    have c231b1 : (t244 != 0) = true := bne_iff_ne.mpr c231
                    by_cases c232 : (Int.tmod t250 t244) = 0
                    ·
                     rw [if_pos c232] at H
                     have c232b0 : ((Int.tmod t250 t244) == 0) = true := beq_iff_eq.mpr c232
                     have c232b1 : ((Int.tmod t250 t244) != 0) = false := bne_eq_false_iff_eq.mpr c232
                     clear c232
                     by_cases c233 : (Int.tmod (wrap64 ((wrap64 (365 * t250)) + (wrap64 (t245 * (wrap64 (Int.tdiv t250 t244)))))) 7) = 0
                     ·
                      rw [if_pos c233] at H
                      have c233b0 : ((Int.tmod (wrap64 ((wrap64 (365 * t250)) + (wrap64 (t245 * (wrap64 (Int.tdiv t250 t244)))))) 7) == 0) = true := beq_iff_eq.mpr c233
                      have c233b1 : ((Int.tmod (wrap64 ((wrap64 (365 * t250)) + (wrap64 (t245 * (wrap64 (Int.tdiv t250 t244)))))) 7) != 0) = false := bne_eq_false_iff_eq.mpr c233
                      clear c233
                      by_cases c234 : t250 = t244
                      ·
                       rw [if_pos c234] at H
                       have c234b0 : (t250 == t244) = true := beq_iff_eq.mpr c234
                       have c234b1 : (t250 != t244) = false := bne_eq_false_iff_eq.mpr c234
                       clear c234
                       as_aux_lemma =>
                        have H' := Aside0.mk H
                        clear H
                        go_wp2
                        go_meet
                        case rel => exact ⟨_, (false), (by first | rfl | (simp; done) | (simp [*]; done)), H', ⟨by have := HJ16.out; have := HJ73.out; have := HJ141.out; have := HJ175.out; have := HJ178.out; have := HJ195.out; first | omega | exact Nat.le_refl _⟩, ⟨by (with_reducible repeat (first | refine blk_drewN ?_ _ | refine blk_drew ?_ | refine blk_alloc ?_ _)); exact BK199.out⟩, ⟨by (with_reducible repeat (first | refine blk_drewN ?_ _ | refine blk_drew ?_ | refine blk_alloc ?_ _)); exact BK200.out⟩, ⟨by (with_reducible repeat (first | refine blk_drewN ?_ _ | refine blk_drew ?_ | refine blk_alloc ?_ _)); exact BK201.out⟩, ⟨by (with_reducible repeat (first | refine blk_drewN ?_ _ | refine blk_drew ?_ | refine blk_alloc ?_ _)); exact BK202.out⟩, ⟨by repeat (first | (with_reducible first | exact HB.out | apply below_alloc | apply pw_below_drewN | apply below_drew1 | refine below_set ?_ GE199.out | refine below_set ?_ GE200.out | refine below_set ?_ GE201.out | refine below_set ?_ GE202.out) | exact HB.out)⟩⟩
                      ·
                       rw [if_neg c234] at H
                       have c234b0 : (t250 == t244) = false := beq_eq_false_iff_ne.mpr c234
                       have c234b1 : (t250 != t244) = true := bne_iff_ne.mpr c234
                       as_aux_lemma =>
                        have H' := Aside0.mk H
                        clear H
                        go_wp2
                        go_meet
                        case rel => exact ⟨_, ((t250 != (wrap64 (7 * t244)))), (by first | rfl | (simp; done) | (simp [*]; done)), H', ⟨by have := HJ16.out; have := HJ73.out; have := HJ141.out; have := HJ175.out; have := HJ178.out; have := HJ195.out; first | omega | exact Nat.le_refl _⟩, ⟨by (with_reducible repeat (first | refine blk_drewN ?_ _ | refine blk_drew ?_ | refine blk_alloc ?_ _)); exact BK199.out⟩, ⟨by (with_reducible repeat (first | refine blk_drewN ?_ _ | refine blk_drew ?_ | refine blk_alloc ?_ _)); exact BK200.out⟩, ⟨by (with_reducible repeat (first | refine blk_drewN ?_ _ | refine blk_drew ?_ | refine blk_alloc ?_ _)); exact BK201.out⟩, ⟨by (with_reducible repeat (first | refine blk_drewN ?_ _ | refine blk_drew ?_ | refine blk_alloc ?_ _)); exact BK202.out⟩, ⟨by repeat (first | (with_reducible first | exact HB.out | apply below_alloc | apply pw_below_drewN | apply below_drew1 | refine below_set ?_ GE199.out | refine below_set ?_ GE200.out | refine below_set ?_ GE201.out | refine below_set ?_ GE202.out) | exact HB.out)⟩⟩
                     ·
                      rw [if_neg c233] at H
                      exact absurd H (by simp)
                    ·
                     rw [if_neg c232] at H
                     exact absurd H (by simp)
                  ·
                   rw [if_neg c230] at H
                   exact absurd H (by simp)
                 ·
                  replace c229 := Bool.eq_false_iff.mpr c229
                  subst c229
                  have H1 : (none) = some r := by rw [if_neg (show ¬ (false = true) by decide)] at H; exact H
                  clear H
                  have H := H1
                  clear H1
                  exact absurd H (by simp)
                case rest => as_aux_lemma =>
                 clear HC223
                 try clear c73
                 try clear c175
                 try clear c221
                 try clear hcz146_0
                 try clear hcz146_1
                 try clear hcz146_2
                 try clear hcz227_0
                 try clear hcz227_1
                 try clear hcz227_2
                 try clear hfz146_0
                 try clear hfz146_1
                 try clear hfz146_2
                 try clear hfz227_0
                 try clear hfz227_1
                 try clear hfz227_2
                 obtain ⟨kq, x494_222, rfl, HA, HJ222, BK199, BK200, BK201, BK202, HB⟩ := hcut
                 cases kq with
                 | zero => exact absurd HA.out (by simp [j9])
                 | succ kj222 =>
                  have H := HA.out
                  clear HA
                  simp only [j9] at H
                  by_cases c235 : x494_222 = true
                  ·
                   subst c235
                   have H1 : (none) = some r := by rw [if_pos rfl] at H; exact H
                   clear H
                   have H := H1
                   clear H1
                   exact absurd H (by simp)
                  ·
                   replace c235 := Bool.eq_false_iff.mpr c235
                   subst c235
                   have H1 : (if t250 < 1000000 then ((impl_WeekdayOf.f a7_0 a7_1 a7_2 (wrap64 (t250 + 1))).bind fun bt262 => (if bt262.2 = true then (if bt262.1 = 0 then (some true) else (none)) else (none))) else (some true)) = some r := by rw [if_neg (show ¬ (false = true) by decide)] at H; exact H
                   clear H
                   have H := H1
                   clear H1
                   by_cases c236 : t250 < 1000000
                   ·
                    rw [if_pos c236] at H
                    have c236b0 : decide (t250 < 1000000) = true := decide_eq_true c236
                    clear c236
                    replace H := Option.bind_eq_some_iff.mp H
                    obtain ⟨⟨t262, t263⟩, A2370, H⟩ := H
                    try dsimp only at H
                    have A237 := Aside0.mk A2370
                    clear A2370
                    by_cases c238 : t263 = true
                    ·
                     subst c238
                     have H1 : (if t262 = 0 then (some true) else (none)) = some r := by rw [if_pos rfl] at H; exact H
                     clear H
                     have H := H1
                     clear H1
                     by_cases c239 : t262 = 0
                     ·
                      rw [if_pos c239] at H
                      have c239b0 : (t262 == 0) = true := beq_iff_eq.mpr c239
                      have c239b1 : (t262 != 0) = false := bne_eq_false_iff_eq.mpr c239
                      clear c239
                      as_aux_lemma =>
                       obtain rfl := Option.some.inj H
                       have hnb240 := NB202_199.out
                       have hnc240 := NB199_202.out
                       have hnb241 := NB202_200.out
                       have hnc241 := NB200_202.out
                       have hnb242 := NB202_201.out
                       have hnc242 := NB201_202.out
                       have hcz243_0 : wc.cell? ⟨gb202, 0, none⟩ = some (.int .i64 a7_0) := (blk_cell BK202.out 0).trans rfl
                       have hcz243_1 : wc.cell? ⟨gb202, 1, none⟩ = some (.int .i64 a7_1) := (blk_cell BK202.out 1).trans rfl
                       have hcz243_2 : wc.cell? ⟨gb202, 2, none⟩ = some (.int .i64 a7_2) := (blk_cell BK202.out 2).trans rfl
                       have hfz243_0 := blk_frozen BK202.out 0
                       have hfz243_1 := blk_frozen BK202.out 1
                       have hfz243_2 := blk_frozen BK202.out 2
                       go_wp2_with (first | ((with_reducible refine gate_callee (f := 20) rfl ?_); refine goesL_ (some 501) rfl rfl Try.func20 (by kernel_rfl) rfl #[.agg #[.int .i64 a7_0, .int .i64 a7_1, .int .i64 a7_2], .int .i64 (wrap64 (t250 + 1))] rfl (by (try simp only [List.map_toArray, List.map_cons, List.map_nil]); first | done | rfl | (simp only [List.length_drop, List.length_take]; rfl)) ?_; (with_reducible refine (impl_WeekdayOf.calls a7_0 a7_1 a7_2 (wrap64 (t250 + 1)) t262 true _ A237.out).mono ?_); rintro e w244 ⟨rfl, hb⟩; refine ⟨_, rfl, ?_⟩; have n0_ := Aside0.mk (blk_below (g := gb199) (by (with_reducible repeat (first | refine blk_drewN ?_ _ | refine blk_drew ?_ | refine blk_alloc ?_ _)); exact BK199.out) hb); have n1_ := Aside0.mk (blk_below (g := gb200) (by (with_reducible repeat (first | refine blk_drewN ?_ _ | refine blk_drew ?_ | refine blk_alloc ?_ _)); exact BK200.out) hb); have n2_ := Aside0.mk (blk_below (g := gb201) (by (with_reducible repeat (first | refine blk_drewN ?_ _ | refine blk_drew ?_ | refine blk_alloc ?_ _)); exact BK201.out) hb); have n3_ := Aside0.mk (blk_below (g := gb202) (by (with_reducible repeat (first | refine blk_drewN ?_ _ | refine blk_drew ?_ | refine blk_alloc ?_ _)); exact BK202.out) hb); have n4_ := Aside0.mk (below_step (by repeat (first | (with_reducible first | exact HB.out | apply below_alloc | apply pw_below_drewN | apply below_drew1 | refine below_set ?_ GE199.out | refine below_set ?_ GE200.out | refine below_set ?_ GE201.out | refine below_set ?_ GE202.out) | exact HB.out)) hb); clear BK199; clear BK200; clear BK201; clear BK202; clear HB; have BK199 := n0_; have BK200 := n1_; have BK201 := n2_; have BK202 := n3_; have HB := n4_; clear n0_ n1_ n2_ n3_ n4_; (try clear hb); (try clear hb2); (try clear hk); (try clear hi)))
                       go_ret
                       exact ⟨by first | rfl | (simp [errW_none, errW_some] <;> rfl) | (simp [*, errW_none, errW_some] <;> rfl), by repeat (first | (with_reducible first | exact HB.out | apply below_alloc | apply pw_below_drewN | apply below_drew1 | refine below_set ?_ GE199.out | refine below_set ?_ GE200.out | refine below_set ?_ GE201.out | refine below_set ?_ GE202.out) | exact HB.out)⟩
                     ·
                      rw [if_neg c239] at H
                      exact absurd H (by simp)
                    ·
                     replace c238 := Bool.eq_false_iff.mpr c238
                     subst c238
                     have H1 : (none) = some r := by rw [if_neg (show ¬ (false = true) by decide)] at H; exact H
                     clear H
                     have H := H1
                     clear H1
                     exact absurd H (by simp)
                   ·
                    rw [if_neg c236] at H
                    have c236b0 : decide (t250 < 1000000) = false := decide_eq_false c236
                    clear c236
                    as_aux_lemma =>
                     obtain rfl := Option.some.inj H
                     go_wp2
                     go_ret
                     exact ⟨by first | rfl | (simp [errW_none, errW_some] <;> rfl) | (simp [*, errW_none, errW_some] <;> rfl), by repeat (first | (with_reducible first | exact HB.out | apply below_alloc | apply pw_below_drewN | apply below_drew1 | refine below_set ?_ GE199.out | refine below_set ?_ GE200.out | refine below_set ?_ GE201.out | refine below_set ?_ GE202.out) | exact HB.out)⟩
               ·
                replace c221 := Bool.eq_false_iff.mpr c221
                subst c221
                have H1 : (some true) = some r := by rw [if_neg (show ¬ (false = true) by decide)] at H; exact H
                clear H
                have H := H1
                clear H1
                as_aux_lemma =>
                 obtain rfl := Option.some.inj H
                 go_wp2
                 go_ret
                 exact ⟨by first | rfl | (simp [errW_none, errW_some] <;> rfl) | (simp [*, errW_none, errW_some] <;> rfl), by repeat (first | (with_reducible first | exact HB.out | apply below_alloc | apply pw_below_drewN | apply below_drew1 | refine below_set ?_ GE199.out | refine below_set ?_ GE200.out | refine below_set ?_ GE201.out | refine below_set ?_ GE202.out) | exact HB.out)⟩

end Go.Proofs.Ytkmakbjkapohlaa.GFnLeapsCountedOfAll
