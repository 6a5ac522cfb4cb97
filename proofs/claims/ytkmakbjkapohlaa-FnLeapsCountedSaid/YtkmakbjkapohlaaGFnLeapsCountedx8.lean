import Derived.Test.YtkmakbjkapohlaaGFnLeapsCountedx7
namespace Go.Proofs.Ytkmakbjkapohlaa.GFnLeapsCounted
open Go.RowKit Go.Proofs.YtkmakbjkapohlaaW.PrintWords Go.Proofs.YtkmakbjkapohlaaW.PrintLast Go.Proofs.YtkmakbjkapohlaaW.PrintMore
attribute [local go_sem] max2_int min2_int max_two min_two max_three min_three max_four min_four   -- for this text's walks alone
set_option linter.unusedVariables false
set_option linter.unusedSimpArgs false

open laws_FnLeapsCounted
set_option maxHeartbeats 8000000 in
set_option maxRecDepth 100000 in
theorem laws_FnLeapsCounted.calls (k : Nat) (A0 : Option Addr) (c0 : Nat) (l0 : List Int) (A1 : Option Addr) (c1 : Nat) (l1 : List Int) (r : Bool) (w : World) (hr0 : Kd.C (Kd.int .u8) w A0 l0.length l0) (hc0 : l0.length ≤ c0) (hr1 : Kd.C (Kd.int .u8) w A1 l1.length l1) (hc1 : l1.length ≤ c1) (h : laws_FnLeapsCounted.f k l0 l1 = some r) :
  Calls Try.prog 6 #[.slice A0 l0.length c0, .slice A1 l1.length c1] w fun e w' => e = .returned (.bool r) ∧ Below w.heap.size w w' := by
 have hu26 := Try.underlying26
 have HR0 := Aside0.mk hr0
 have HC0 := Aside0.mk hc0
 clear hr0 hc0
 have HR1 := Aside0.mk hr1
 have HC1 := Aside0.mk hc1
 clear hr1 hc1
 have HB := Aside0.mk (Below.refl w.heap.size w)
 have H : ((laws_big.f l0 l1).bind fun t282 => (if t282 = true then (some true) else ((spec_DrawIsLeapYear.f l0).bind fun bt283 => ((impl_IsLeapYear.f bt283.1 bt283.2.1 bt283.2.2.1 bt283.2.2.2).bind fun bt288 => ((spec_IsLeapYear.f k bt283.1 bt283.2.1 bt283.2.2.1 bt283.2.2.2).bind fun bt290 => ((impl_DaysUpTo.f bt283.1 bt283.2.1 bt283.2.2.1 bt283.2.2.2).bind fun bt292 => ((spec_DaysUpTo.f k bt283.1 bt283.2.1 bt283.2.2.1 bt283.2.2.2).bind fun bt294 => ((impl_WeekdayOf.f bt283.1 bt283.2.1 bt283.2.2.1 bt283.2.2.2).bind fun bt296 => ((spec_WeekdayOf.f k bt283.1 bt283.2.1 bt283.2.2.1 bt283.2.2.2).bind fun bt298 => ((impl_NextLeap.f k bt283.1 bt283.2.1 bt283.2.2.1 bt283.2.2.2).bind fun bt300 => ((spec_NextLeap.f k bt283.1 bt283.2.1 bt283.2.2.1 bt283.2.2.2).bind fun bt302 => (if (bt288.2 != bt290.2) = true then (none) else (if (bt288.1 != bt290.1) = true then (none) else (if (bt292.2 != bt294.2) = true then (none) else (if bt292.1 = bt294.1 then (if (bt296.2 != bt298.2) = true then (none) else (if bt296.1 = bt298.1 then (if (bt300.2 != bt302.2) = true then (none) else (if bt300.1 = bt302.1 then (if (bt292.2 != bt288.2) = true then (none) else (if (bt296.2 != bt288.2) = true then (none) else (if bt300.2 = true then (if bt288.2 = true then ((impl_IsLeapRule.f bt283.1 bt283.2.1 bt283.2.2.1).bind fun t304 => ((spec_IsLeapRule.f k bt283.1 bt283.2.1 bt283.2.2.1).bind fun t305 => (if (t304 != t305) = true then (none) else ((impl_IsLeapRule.f bt283.1 bt283.2.1 bt283.2.2.1).bind fun t306 => (j0 k l1 bt283.2.2.2 bt288.1 bt288.2 bt292.1 bt296.1 bt300.1 bt300.2 (!t306) bt283.1 bt283.2.1 bt283.2.2.1))))) else (none)) else ((impl_IsLeapRule.f bt283.1 bt283.2.1 bt283.2.2.1).bind fun t307 => ((spec_IsLeapRule.f k bt283.1 bt283.2.1 bt283.2.2.1).bind fun t308 => (if (t307 != t308) = true then (none) else (if bt288.2 = true then ((impl_IsLeapRule.f bt283.1 bt283.2.1 bt283.2.2.1).bind fun t309 => (j0 k l1 bt283.2.2.2 bt288.1 bt288.2 bt292.1 bt296.1 bt300.1 bt300.2 (!t309) bt283.1 bt283.2.1 bt283.2.2.1)) else (j0 k l1 bt283.2.2.2 bt288.1 bt288.2 bt292.1 bt296.1 bt300.1 bt300.2 false bt283.1 bt283.2.1 bt283.2.2.1)))))))) else (none))) else (none))) else (none)))))))))))))))) = some r := h
 clear h
 replace H := Option.bind_eq_some_iff.mp H
 obtain ⟨t282, A30, H⟩ := H
 try dsimp only at H
 have A3 := Aside0.mk A30
 clear A30
 by_cases c4 : t282 = true
 ·
  subst c4
  have H1 : (some true) = some r := by rw [if_pos rfl] at H; exact H
  clear H
  have H := H1
  clear H1
  as_aux_lemma =>
   obtain rfl := Option.some.inj H
   go_enter Try.func6, Try.ntmps6
   go_wp2_with (first | ((with_reducible refine gate_callee (f := 34) rfl ?_); refine goesL_ (some 74) rfl rfl Try.func34 (by kernel_rfl) rfl #[.slice A0 l0.length c0, .slice A1 l1.length c1] rfl (by (try simp only [List.map_toArray, List.map_cons, List.map_nil]); first | done | rfl | (simp only [List.length_drop, List.length_take]; rfl)) ?_; (with_reducible refine (laws_big.calls _ _ l0 _ _ l1 true _ ?side1 ?side2 ?side3 ?side4 A3.out).mono ?_); (case side1 => repeat (first | exact HR0.out | (with_reducible refine Kd.C_alloc ?_ _) | (with_reducible refine Kd.C_drewN ?_ _) | (with_reducible refine Kd.C_drew ?_))); (case side2 => exact HC0.out); (case side3 => repeat (first | exact HR1.out | (with_reducible refine Kd.C_alloc ?_ _) | (with_reducible refine Kd.C_drewN ?_ _) | (with_reducible refine Kd.C_drew ?_))); (case side4 => exact HC1.out); rintro e w' ⟨rfl, ⟨nd, rfl⟩⟩; refine ⟨_, rfl, ?_⟩))
   go_ret
   exact ⟨by first | rfl | (simp [errW_none, errW_some] <;> rfl) | (simp [*, errW_none, errW_some] <;> rfl), by repeat (first | (with_reducible first | exact HB.out | apply below_alloc | apply pw_below_drewN | apply below_drew1) | exact HB.out)⟩
 ·
  replace c4 := Bool.eq_false_iff.mpr c4
  subst c4
  have H1 : ((spec_DrawIsLeapYear.f l0).bind fun bt283 => ((impl_IsLeapYear.f bt283.1 bt283.2.1 bt283.2.2.1 bt283.2.2.2).bind fun bt288 => ((spec_IsLeapYear.f k bt283.1 bt283.2.1 bt283.2.2.1 bt283.2.2.2).bind fun bt290 => ((impl_DaysUpTo.f bt283.1 bt283.2.1 bt283.2.2.1 bt283.2.2.2).bind fun bt292 => ((spec_DaysUpTo.f k bt283.1 bt283.2.1 bt283.2.2.1 bt283.2.2.2).bind fun bt294 => ((impl_WeekdayOf.f bt283.1 bt283.2.1 bt283.2.2.1 bt283.2.2.2).bind fun bt296 => ((spec_WeekdayOf.f k bt283.1 bt283.2.1 bt283.2.2.1 bt283.2.2.2).bind fun bt298 => ((impl_NextLeap.f k bt283.1 bt283.2.1 bt283.2.2.1 bt283.2.2.2).bind fun bt300 => ((spec_NextLeap.f k bt283.1 bt283.2.1 bt283.2.2.1 bt283.2.2.2).bind fun bt302 => (if (bt288.2 != bt290.2) = true then (none) else (if (bt288.1 != bt290.1) = true then (none) else (if (bt292.2 != bt294.2) = true then (none) else (if bt292.1 = bt294.1 then (if (bt296.2 != bt298.2) = true then (none) else (if bt296.1 = bt298.1 then (if (bt300.2 != bt302.2) = true then (none) else (if bt300.1 = bt302.1 then (if (bt292.2 != bt288.2) = true then (none) else (if (bt296.2 != bt288.2) = true then (none) else (if bt300.2 = true then (if bt288.2 = true then ((impl_IsLeapRule.f bt283.1 bt283.2.1 bt283.2.2.1).bind fun t304 => ((spec_IsLeapRule.f k bt283.1 bt283.2.1 bt283.2.2.1).bind fun t305 => (if (t304 != t305) = true then (none) else ((impl_IsLeapRule.f bt283.1 bt283.2.1 bt283.2.2.1).bind fun t306 => (j0 k l1 bt283.2.2.2 bt288.1 bt288.2 bt292.1 bt296.1 bt300.1 bt300.2 (!t306) bt283.1 bt283.2.1 bt283.2.2.1))))) else (none)) else ((impl_IsLeapRule.f bt283.1 bt283.2.1 bt283.2.2.1).bind fun t307 => ((spec_IsLeapRule.f k bt283.1 bt283.2.1 bt283.2.2.1).bind fun t308 => (if (t307 != t308) = true then (none) else (if bt288.2 = true then ((impl_IsLeapRule.f bt283.1 bt283.2.1 bt283.2.2.1).bind fun t309 => (j0 k l1 bt283.2.2.2 bt288.1 bt288.2 bt292.1 bt296.1 bt300.1 bt300.2 (!t309) bt283.1 bt283.2.1 bt283.2.2.1)) else (j0 k l1 bt283.2.2.2 bt288.1 bt288.2 bt292.1 bt296.1 bt300.1 bt300.2 false bt283.1 bt283.2.1 bt283.2.2.1)))))))) else (none))) else (none))) else (none)))))))))))))) = some r := by rw [if_neg (show ¬ (false = true) by decide)] at H; exact H
  clear H
  have H := H1
  clear H1
  replace H := Option.bind_eq_some_iff.mp H
  obtain ⟨⟨t283, t284, t285, t286⟩, A50, H⟩ := H
  try dsimp only at H
  have A5 := Aside0.mk A50
  clear A50
  replace H := Option.bind_eq_some_iff.mp H
  obtain ⟨⟨t288, t289⟩, A60, H⟩ := H
  try dsimp only at H
  have A6 := Aside0.mk A60
  clear A60
  replace H := Option.bind_eq_some_iff.mp H
  obtain ⟨⟨t290, t291⟩, A70, H⟩ := H
  try dsimp only at H
  have A7 := Aside0.mk A70
  clear A70
  replace H := Option.bind_eq_some_iff.mp H
  obtain ⟨⟨t292, t293⟩, A80, H⟩ := H
  try dsimp only at H
  have A8 := Aside0.mk A80
  clear A80
  replace H := Option.bind_eq_some_iff.mp H
  obtain ⟨⟨t294, t295⟩, A90, H⟩ := H
  try dsimp only at H
  have A9 := Aside0.mk A90
  clear A90
  replace H := Option.bind_eq_some_iff.mp H
  obtain ⟨⟨t296, t297⟩, A100, H⟩ := H
  try dsimp only at H
  have A10 := Aside0.mk A100
  clear A100
  replace H := Option.bind_eq_some_iff.mp H
  obtain ⟨⟨t298, t299⟩, A110, H⟩ := H
  try dsimp only at H
  have A11 := Aside0.mk A110
  clear A110
  replace H := Option.bind_eq_some_iff.mp H
  obtain ⟨⟨t300, t301⟩, A120, H⟩ := H
  try dsimp only at H
  have A12 := Aside0.mk A120
  clear A120
  replace H := Option.bind_eq_some_iff.mp H
  obtain ⟨⟨t302, t303⟩, A130, H⟩ := H
  try dsimp only at H
  have A13 := Aside0.mk A130
  clear A130
  have HC14 := Aside0.mk H
  clear H
  go_enter Try.func6, Try.ntmps6
  go_upto_region 12 with (first | ((with_reducible refine gate_callee (f := 34) rfl ?_); refine goesL_ (some 74) rfl rfl Try.func34 (by kernel_rfl) rfl #[.slice A0 l0.length c0, .slice A1 l1.length c1] rfl (by (try simp only [List.map_toArray, List.map_cons, List.map_nil]); first | done | rfl | (simp only [List.length_drop, List.length_take]; rfl)) ?_; (with_reducible refine (laws_big.calls _ _ l0 _ _ l1 false _ ?side1 ?side2 ?side3 ?side4 A3.out).mono ?_); (case side1 => repeat (first | exact HR0.out | (with_reducible refine Kd.C_alloc ?_ _) | (with_reducible refine Kd.C_drewN ?_ _) | (with_reducible refine Kd.C_drew ?_))); (case side2 => exact HC0.out); (case side3 => repeat (first | exact HR1.out | (with_reducible refine Kd.C_alloc ?_ _) | (with_reducible refine Kd.C_drewN ?_ _) | (with_reducible refine Kd.C_drew ?_))); (case side4 => exact HC1.out); rintro e w' ⟨rfl, ⟨nd, rfl⟩⟩; refine ⟨_, rfl, ?_⟩) | ((with_reducible refine gate_callee (f := 35) rfl ?_); refine goesL_ (some 77) rfl rfl Try.func35 (by kernel_rfl) rfl #[.slice A0 l0.length c0] rfl (by (try simp only [List.map_toArray, List.map_cons, List.map_nil]); first | done | rfl | (simp only [List.length_drop, List.length_take]; rfl)) ?_; (with_reducible refine (spec_DrawIsLeapYear.calls _ _ l0 t283 t284 t285 t286 _ ?side1 ?side2 A5.out).mono ?_); (case side1 => repeat (first | exact HR0.out | (with_reducible refine Kd.C_alloc ?_ _) | (with_reducible refine Kd.C_drewN ?_ _) | (with_reducible refine Kd.C_drew ?_))); (case side2 => exact HC0.out); rintro e w15 ⟨rfl, hb⟩; refine ⟨_, rfl, ?_⟩; have n0_ := Aside0.mk (below_step (by repeat (first | (with_reducible first | exact HB.out | apply below_alloc | apply pw_below_drewN | apply below_drew1) | exact HB.out)) hb); clear HB; have HB := n0_; clear n0_; (try clear hb); (try clear hb2); (try clear hk); (try clear hi)) | ((with_reducible refine gate_dst (N := 5) rfl ?_); refine box_event ?hg (N := 5) ?hd (cs := #[.int .i64 0, .int .i64 0, .int .i64 0]) (t := 26) ?hr ?_; (case hd => rfl); (case hg => rfl); (case hr => first | (go_simp; done) | (go_simp; rfl)); intro gb287 hg w16 hbox hb; have n0_ := Aside0.mk (below_step (by repeat (first | (with_reducible first | exact HB.out | apply below_alloc | apply pw_below_drewN | apply below_drew1) | exact HB.out)) hb); have n1_ := Aside0.mk (hbox); have n2_ := Aside0.mk ((by rw [hg]; exact (below_size (by repeat (first | (with_reducible first | exact HB.out | apply below_alloc | apply pw_below_drewN | apply below_drew1) | exact HB.out))) : w.heap.size ≤ gb287)); have n3_ := Aside0.mk ((by rw [hg]; exact (below_size (by repeat (first | (with_reducible first | exact HB.out | apply below_alloc | apply pw_below_drewN | apply below_drew1) | exact HB.out))) : w.heap.size ≤ gb287)); clear HB; have HB := n0_; have BK287 := n1_; have GW287 := n2_; have GE287 := n3_; clear n0_ n1_ n2_ n3_; clear hb hbox hg; have hcz17_0 : w16.cell? ⟨gb287, 0, none⟩ = some (.int .i64 0) := (blk_cell BK287.out 0).trans rfl; have hcz17_1 : w16.cell? ⟨gb287, 1, none⟩ = some (.int .i64 0) := (blk_cell BK287.out 1).trans rfl; have hcz17_2 : w16.cell? ⟨gb287, 2, none⟩ = some (.int .i64 0) := (blk_cell BK287.out 2).trans rfl; have hfz17_0 := blk_frozen BK287.out 0; have hfz17_1 := blk_frozen BK287.out 1; have hfz17_2 := blk_frozen BK287.out 2) | ((with_reducible refine gate_callee (f := 16) rfl ?_); refine goesL_ (some 83) rfl rfl Try.func16 (by kernel_rfl) rfl #[.agg #[.int .i64 t283, .int .i64 t284, .int .i64 t285], .int .i64 t286] rfl (by (try simp only [List.map_toArray, List.map_cons, List.map_nil]); first | done | rfl | (simp only [List.length_drop, List.length_take]; rfl)) ?_; (with_reducible refine (impl_IsLeapYear.calls t283 t284 t285 t286 t288 t289 _ A6.out).mono ?_); rintro e w18 ⟨rfl, hb⟩; refine ⟨_, rfl, ?_⟩; have n0_ := Aside0.mk (blk_below (g := gb287) (o := .cells #[.int .i64 t283, .int .i64 t284, .int .i64 t285] 26 (0, 0)) (by (with_reducible repeat (first | refine blk_drewN ?_ _ | refine blk_drew ?_ | refine blk_alloc ?_ _)); refine blk_put (cs := #[.int .i64 t283, .int .i64 t284, .int .i64 0]) ?_ 2 _ rfl; (with_reducible repeat (first | refine blk_drewN ?_ _ | refine blk_drew ?_ | refine blk_alloc ?_ _)); refine blk_put (cs := #[.int .i64 t283, .int .i64 0, .int .i64 0]) ?_ 1 _ rfl; (with_reducible repeat (first | refine blk_drewN ?_ _ | refine blk_drew ?_ | refine blk_alloc ?_ _)); refine blk_put (cs := #[.int .i64 0, .int .i64 0, .int .i64 0]) ?_ 0 _ rfl; (with_reducible repeat (first | refine blk_drewN ?_ _ | refine blk_drew ?_ | refine blk_alloc ?_ _)); exact BK287.out) hb); have n1_ := Aside0.mk (below_step (by repeat (first | (with_reducible first | exact HB.out | apply below_alloc | apply pw_below_drewN | apply below_drew1 | refine below_set ?_ GE287.out) | exact HB.out)) hb); clear BK287; clear HB; have BK287 := n0_; have HB := n1_; clear n0_ n1_; (try clear hb); (try clear hb2); (try clear hk); (try clear hi); have hcz19_0 : w18.cell? ⟨gb287, 0, none⟩ = some (.int .i64 t283) := (blk_cell BK287.out 0).trans rfl; have hcz19_1 : w18.cell? ⟨gb287, 1, none⟩ = some (.int .i64 t284) := (blk_cell BK287.out 1).trans rfl; have hcz19_2 : w18.cell? ⟨gb287, 2, none⟩ = some (.int .i64 t285) := (blk_cell BK287.out 2).trans rfl; have hfz19_0 := blk_frozen BK287.out 0; have hfz19_1 := blk_frozen BK287.out 1; have hfz19_2 := blk_frozen BK287.out 2) | ((with_reducible refine gate_callee (f := 17) rfl ?_); refine goesL_ (some 89) rfl rfl Try.func17 (by kernel_rfl) rfl #[.agg #[.int .i64 t283, .int .i64 t284, .int .i64 t285], .int .i64 t286] rfl (by (try simp only [List.map_toArray, List.map_cons, List.map_nil]); first | done | rfl | (simp only [List.length_drop, List.length_take]; rfl)) ?_; (with_reducible refine (spec_IsLeapYear.calls k t283 t284 t285 t286 t290 t291 _ A7.out).mono ?_); rintro e w20 ⟨rfl, hb⟩; refine ⟨_, rfl, ?_⟩; have n0_ := Aside0.mk (blk_below (g := gb287) (by (with_reducible repeat (first | refine blk_drewN ?_ _ | refine blk_drew ?_ | refine blk_alloc ?_ _)); exact BK287.out) hb); have n1_ := Aside0.mk (below_step (by repeat (first | (with_reducible first | exact HB.out | apply below_alloc | apply pw_below_drewN | apply below_drew1 | refine below_set ?_ GE287.out) | exact HB.out)) hb); clear BK287; clear HB; have BK287 := n0_; have HB := n1_; clear n0_ n1_; (try clear hb); (try clear hb2); (try clear hk); (try clear hi); have hcz21_0 : w20.cell? ⟨gb287, 0, none⟩ = some (.int .i64 t283) := (blk_cell BK287.out 0).trans rfl; have hcz21_1 : w20.cell? ⟨gb287, 1, none⟩ = some (.int .i64 t284) := (blk_cell BK287.out 1).trans rfl; have hcz21_2 : w20.cell? ⟨gb287, 2, none⟩ = some (.int .i64 t285) := (blk_cell BK287.out 2).trans rfl; have hfz21_0 := blk_frozen BK287.out 0; have hfz21_1 := blk_frozen BK287.out 1; have hfz21_2 := blk_frozen BK287.out 2) | ((with_reducible refine gate_callee (f := 18) rfl ?_); refine goesL_ (some 95) rfl rfl Try.func18 (by kernel_rfl) rfl #[.agg #[.int .i64 t283, .int .i64 t284, .int .i64 t285], .int .i64 t286] rfl (by (try simp only [List.map_toArray, List.map_cons, List.map_nil]); first | done | rfl | (simp only [List.length_drop, List.length_take]; rfl)) ?_; (with_reducible refine (impl_DaysUpTo.calls t283 t284 t285 t286 t292 t293 _ A8.out).mono ?_); rintro e w22 ⟨rfl, hb⟩; refine ⟨_, rfl, ?_⟩; have n0_ := Aside0.mk (blk_below (g := gb287) (by (with_reducible repeat (first | refine blk_drewN ?_ _ | refine blk_drew ?_ | refine blk_alloc ?_ _)); exact BK287.out) hb); have n1_ := Aside0.mk (below_step (by repeat (first | (with_reducible first | exact HB.out | apply below_alloc | apply pw_below_drewN | apply below_drew1 | refine below_set ?_ GE287.out) | exact HB.out)) hb); clear BK287; clear HB; have BK287 := n0_; have HB := n1_; clear n0_ n1_; (try clear hb); (try clear hb2); (try clear hk); (try clear hi); have hcz23_0 : w22.cell? ⟨gb287, 0, none⟩ = some (.int .i64 t283) := (blk_cell BK287.out 0).trans rfl; have hcz23_1 : w22.cell? ⟨gb287, 1, none⟩ = some (.int .i64 t284) := (blk_cell BK287.out 1).trans rfl; have hcz23_2 : w22.cell? ⟨gb287, 2, none⟩ = some (.int .i64 t285) := (blk_cell BK287.out 2).trans rfl; have hfz23_0 := blk_frozen BK287.out 0; have hfz23_1 := blk_frozen BK287.out 1; have hfz23_2 := blk_frozen BK287.out 2) | ((with_reducible refine gate_callee (f := 19) rfl ?_); refine goesL_ (some 101) rfl rfl Try.func19 (by kernel_rfl) rfl #[.agg #[.int .i64 t283, .int .i64 t284, .int .i64 t285], .int .i64 t286] rfl (by (try simp only [List.map_toArray, List.map_cons, List.map_nil]); first | done | rfl | (simp only [List.length_drop, List.length_take]; rfl)) ?_; (with_reducible refine (spec_DaysUpTo.calls k t283 t284 t285 t286 t294 t295 _ A9.out).mono ?_); rintro e w24 ⟨rfl, hb⟩; refine ⟨_, rfl, ?_⟩; have n0_ := Aside0.mk (blk_below (g := gb287) (by (with_reducible repeat (first | refine blk_drewN ?_ _ | refine blk_drew ?_ | refine blk_alloc ?_ _)); exact BK287.out) hb); have n1_ := Aside0.mk (below_step (by repeat (first | (with_reducible first | exact HB.out | apply below_alloc | apply pw_below_drewN | apply below_drew1 | refine below_set ?_ GE287.out) | exact HB.out)) hb); clear BK287; clear HB; have BK287 := n0_; have HB := n1_; clear n0_ n1_; (try clear hb); (try clear hb2); (try clear hk); (try clear hi); have hcz25_0 : w24.cell? ⟨gb287, 0, none⟩ = some (.int .i64 t283) := (blk_cell BK287.out 0).trans rfl; have hcz25_1 : w24.cell? ⟨gb287, 1, none⟩ = some (.int .i64 t284) := (blk_cell BK287.out 1).trans rfl; have hcz25_2 : w24.cell? ⟨gb287, 2, none⟩ = some (.int .i64 t285) := (blk_cell BK287.out 2).trans rfl; have hfz25_0 := blk_frozen BK287.out 0; have hfz25_1 := blk_frozen BK287.out 1; have hfz25_2 := blk_frozen BK287.out 2) | ((with_reducible refine gate_callee (f := 20) rfl ?_); refine goesL_ (some 107) rfl rfl Try.func20 (by kernel_rfl) rfl #[.agg #[.int .i64 t283, .int .i64 t284, .int .i64 t285], .int .i64 t286] rfl (by (try simp only [List.map_toArray, List.map_cons, List.map_nil]); first | done | rfl | (simp only [List.length_drop, List.length_take]; rfl)) ?_; (with_reducible refine (impl_WeekdayOf.calls t283 t284 t285 t286 t296 t297 _ A10.out).mono ?_); rintro e w26 ⟨rfl, hb⟩; refine ⟨_, rfl, ?_⟩; have n0_ := Aside0.mk (blk_below (g := gb287) (by (with_reducible repeat (first | refine blk_drewN ?_ _ | refine blk_drew ?_ | refine blk_alloc ?_ _)); exact BK287.out) hb); have n1_ := Aside0.mk (below_step (by repeat (first | (with_reducible first | exact HB.out | apply below_alloc | apply pw_below_drewN | apply below_drew1 | refine below_set ?_ GE287.out) | exact HB.out)) hb); clear BK287; clear HB; have BK287 := n0_; have HB := n1_; clear n0_ n1_; (try clear hb); (try clear hb2); (try clear hk); (try clear hi); have hcz27_0 : w26.cell? ⟨gb287, 0, none⟩ = some (.int .i64 t283) := (blk_cell BK287.out 0).trans rfl; have hcz27_1 : w26.cell? ⟨gb287, 1, none⟩ = some (.int .i64 t284) := (blk_cell BK287.out 1).trans rfl; have hcz27_2 : w26.cell? ⟨gb287, 2, none⟩ = some (.int .i64 t285) := (blk_cell BK287.out 2).trans rfl; have hfz27_0 := blk_frozen BK287.out 0; have hfz27_1 := blk_frozen BK287.out 1; have hfz27_2 := blk_frozen BK287.out 2) | ((with_reducible refine gate_callee (f := 21) rfl ?_); refine goesL_ (some 113) rfl rfl Try.func21 (by kernel_rfl) rfl #[.agg #[.int .i64 t283, .int .i64 t284, .int .i64 t285], .int .i64 t286] rfl (by (try simp only [List.map_toArray, List.map_cons, List.map_nil]); first | done | rfl | (simp only [List.length_drop, List.length_take]; rfl)) ?_; (with_reducible refine (spec_WeekdayOf.calls k t283 t284 t285 t286 t298 t299 _ A11.out).mono ?_); rintro e w28 ⟨rfl, hb⟩; refine ⟨_, rfl, ?_⟩; have n0_ := Aside0.mk (blk_below (g := gb287) (by (with_reducible repeat (first | refine blk_drewN ?_ _ | refine blk_drew ?_ | refine blk_alloc ?_ _)); exact BK287.out) hb); have n1_ := Aside0.mk (below_step (by repeat (first | (with_reducible first | exact HB.out | apply below_alloc | apply pw_below_drewN | apply below_drew1 | refine below_set ?_ GE287.out) | exact HB.out)) hb); clear BK287; clear HB; have BK287 := n0_; have HB := n1_; clear n0_ n1_; (try clear hb); (try clear hb2); (try clear hk); (try clear hi); have hcz29_0 : w28.cell? ⟨gb287, 0, none⟩ = some (.int .i64 t283) := (blk_cell BK287.out 0).trans rfl; have hcz29_1 : w28.cell? ⟨gb287, 1, none⟩ = some (.int .i64 t284) := (blk_cell BK287.out 1).trans rfl; have hcz29_2 : w28.cell? ⟨gb287, 2, none⟩ = some (.int .i64 t285) := (blk_cell BK287.out 2).trans rfl; have hfz29_0 := blk_frozen BK287.out 0; have hfz29_1 := blk_frozen BK287.out 1; have hfz29_2 := blk_frozen BK287.out 2) | ((with_reducible refine gate_callee (f := 22) rfl ?_); refine goesL_ (some 119) rfl rfl Try.func22 (by kernel_rfl) rfl #[.agg #[.int .i64 t283, .int .i64 t284, .int .i64 t285], .int .i64 t286] rfl (by (try simp only [List.map_toArray, List.map_cons, List.map_nil]); first | done | rfl | (simp only [List.length_drop, List.length_take]; rfl)) ?_; (with_reducible refine (impl_NextLeap.calls k t283 t284 t285 t286 t300 t301 _ A12.out).mono ?_); rintro e w30 ⟨rfl, hb⟩; refine ⟨_, rfl, ?_⟩; have n0_ := Aside0.mk (blk_below (g := gb287) (by (with_reducible repeat (first | refine blk_drewN ?_ _ | refine blk_drew ?_ | refine blk_alloc ?_ _)); exact BK287.out) hb); have n1_ := Aside0.mk (below_step (by repeat (first | (with_reducible first | exact HB.out | apply below_alloc | apply pw_below_drewN | apply below_drew1 | refine below_set ?_ GE287.out) | exact HB.out)) hb); clear BK287; clear HB; have BK287 := n0_; have HB := n1_; clear n0_ n1_; (try clear hb); (try clear hb2); (try clear hk); (try clear hi); have hcz31_0 : w30.cell? ⟨gb287, 0, none⟩ = some (.int .i64 t283) := (blk_cell BK287.out 0).trans rfl; have hcz31_1 : w30.cell? ⟨gb287, 1, none⟩ = some (.int .i64 t284) := (blk_cell BK287.out 1).trans rfl; have hcz31_2 : w30.cell? ⟨gb287, 2, none⟩ = some (.int .i64 t285) := (blk_cell BK287.out 2).trans rfl; have hfz31_0 := blk_frozen BK287.out 0; have hfz31_1 := blk_frozen BK287.out 1; have hfz31_2 := blk_frozen BK287.out 2) | ((with_reducible refine gate_callee (f := 23) rfl ?_); refine goesL_ (some 125) rfl rfl Try.func23 (by kernel_rfl) rfl #[.agg #[.int .i64 t283, .int .i64 t284, .int .i64 t285], .int .i64 t286] rfl (by (try simp only [List.map_toArray, List.map_cons, List.map_nil]); first | done | rfl | (simp only [List.length_drop, List.length_take]; rfl)) ?_; (with_reducible refine (spec_NextLeap.calls k t283 t284 t285 t286 t302 t303 _ A13.out).mono ?_); rintro e w32 ⟨rfl, hb⟩; refine ⟨_, rfl, ?_⟩; have n0_ := Aside0.mk (blk_below (g := gb287) (by (with_reducible repeat (first | refine blk_drewN ?_ _ | refine blk_drew ?_ | refine blk_alloc ?_ _)); exact BK287.out) hb); have n1_ := Aside0.mk (below_step (by repeat (first | (with_reducible first | exact HB.out | apply below_alloc | apply pw_below_drewN | apply below_drew1 | refine below_set ?_ GE287.out) | exact HB.out)) hb); clear BK287; clear HB; have BK287 := n0_; have HB := n1_; clear n0_ n1_; (try clear hb); (try clear hb2); (try clear hk); (try clear hi)))
  (try simp only [Act.put, s1, s2, s3])
  go_cut [197] from 72 to 197 (fun v197 wc => ∃ (kq : Nat) (x197_13 : Bool), v197 = .bool x197_13 ∧ Aside0 (j0 kq l1 t286 t288 t289 t292 t296 t300 t301 x197_13 t283 t284 t285 = some r) ∧ Aside0 (kq ≤ k) ∧ Aside0 (wc.heap[gb287]? = some (.cells #[.int .i64 t283, .int .i64 t284, .int .i64 t285] 26 (0, 0))) ∧ Aside0 (Below w.heap.size w wc))
  case first => as_aux_lemma =>
   have H := HC14.out
   clear HC14
   by_cases c33 : (t289 != t291) = true
   ·
    rw [if_pos c33] at H
    exact absurd H (by simp)
   ·
    rw [if_neg c33] at H
    have c33b0 : (t289 != t291) = false := by simpa using c33
    (try (have c33b1 : decide (t289 = t291) = true := by simpa using c33))
    (try (have c33b2 : (t289 == t291) = true := by simpa using c33))
    clear c33
    (first | rw [c33b0] | (simp only [i64_w, i32_w]; rw [c33b0]) | skip)
    by_cases c34 : (t288 != t290) = true
    ·
     rw [if_pos c34] at H
     exact absurd H (by simp)
    ·
     rw [if_neg c34] at H
     have c34b0 : (t288 != t290) = false := by simpa using c34
     (try (have c34b1 : decide (t288 = t290) = true := by simpa using c34))
     (try (have c34b2 : (t288 == t290) = true := by simpa using c34))
     clear c34
     by_cases c35 : (t293 != t295) = true
     ·
      rw [if_pos c35] at H
      exact absurd H (by simp)
     ·
      rw [if_neg c35] at H
      have c35b0 : (t293 != t295) = false := by simpa using c35
      (try (have c35b1 : decide (t293 = t295) = true := by simpa using c35))
      (try (have c35b2 : (t293 == t295) = true := by simpa using c35))
      clear c35
      by_cases c36 : t292 = t294
      ·
       rw [if_pos c36] at H
       have c36b0 : (t292 == t294) = true := beq_iff_eq.mpr c36
       have c36b1 : (t292 != t294) = false := bne_eq_false_iff_eq.mpr c36
       clear c36
       by_cases c37 : (t297 != t299) = true
       ·
        rw [if_pos c37] at H
        exact absurd H (by simp)
       ·
        rw [if_neg c37] at H
        have c37b0 : (t297 != t299) = false := by simpa using c37
        (try (have c37b1 : decide (t297 = t299) = true := by simpa using c37))
        (try (have c37b2 : (t297 == t299) = true := by simpa using c37))
        clear c37
        by_cases c38 : t296 = t298
        ·
         rw [if_pos c38] at H
         have c38b0 : (t296 == t298) = true := beq_iff_eq.mpr c38
         have c38b1 : (t296 != t298) = false := bne_eq_false_iff_eq.mpr c38
         clear c38
         by_cases c39 : (t301 != t303) = true
         ·
          rw [if_pos c39] at H
          exact absurd H (by simp)
         ·
          rw [if_neg c39] at H
          have c39b0 : (t301 != t303) = false := by simpa using c39
          (try (have c39b1 : decide (t301 = t303) = true := by simpa using c39))
          (try (have c39b2 : (t301 == t303) = true := by simpa using c39))
          clear c39
          by_cases c40 : t300 = t302
          ·
           rw [if_pos c40] at H
           have c40b0 : (t300 == t302) = true := beq_iff_eq.mpr c40
           have c40b1 : (t300 != t302) = false := bne_eq_false_iff_eq.mpr c40
           clear c40
           by_cases c41 : (t293 != t289) = true
           ·
            rw [if_pos c41] at H
            exact absurd H (by simp)
           ·
            rw [if_neg c41] at H
            have c41b0 : (t293 != t289) = false := by simpa using c41
            (try (have c41b1 : decide (t293 = t289) = true := by simpa using c41))
            (try (have c41b2 : (t293 == t289) = true := by simpa using c41))
            clear c41
            by_cases c42 : (t297 != t289) = true
            ·
             rw [if_pos c42] at H
             exact absurd H (by simp)
            ·
             rw [if_neg c42] at H
             have c42b0 : (t297 != t289) = false := by simpa using c42
             (try (have c42b1 : decide (t297 = t289) = true := by simpa using c42))
             (try (have c42b2 : (t297 == t289) = true := by simpa using c42))
             clear c42
             by_cases c43 : t301 = true
             ·
              subst c43
              have H1 : (if t289 = true then ((impl_IsLeapRule.f t283 t284 t285).bind fun t304 => ((spec_IsLeapRule.f k t283 t284 t285).bind fun t305 => (if (t304 != t305) = true then (none) else ((impl_IsLeapRule.f t283 t284 t285).bind fun t306 => (j0 k l1 t286 t288 t289 t292 t296 t300 true (!t306) t283 t284 t285))))) else (none)) = some r := by rw [if_pos rfl] at H; exact H
              clear H
              have H := H1
              clear H1
              by_cases c44 : t289 = true
              ·
               subst c44
               have H1 : ((impl_IsLeapRule.f t283 t284 t285).bind fun t304 => ((spec_IsLeapRule.f k t283 t284 t285).bind fun t305 => (if (t304 != t305) = true then (none) else ((impl_IsLeapRule.f t283 t284 t285).bind fun t306 => (j0 k l1 t286 t288 true t292 t296 t300 true (!t306) t283 t284 t285))))) = some r := by rw [if_pos rfl] at H; exact H
               clear H
               have H := H1
               clear H1
               replace H := Option.bind_eq_some_iff.mp H
               obtain ⟨t304, A450, H⟩ := H
               try dsimp only at H
               have A45 := Aside0.mk A450
               clear A450
               replace H := Option.bind_eq_some_iff.mp H
               obtain ⟨t305, A460, H⟩ := H
               try dsimp only at H
               have A46 := Aside0.mk A460
               clear A460
               by_cases c47 : (t304 != t305) = true
               ·
                rw [if_pos c47] at H
                exact absurd H (by simp)
               ·
                rw [if_neg c47] at H
                have c47b0 : (t304 != t305) = false := by simpa using c47
                (try (have c47b1 : decide (t304 = t305) = true := by simpa using c47))
                (try (have c47b2 : (t304 == t305) = true := by simpa using c47))
                clear c47
                replace H := Option.bind_eq_some_iff.mp H
                obtain ⟨t306, A480, H⟩ := H
                try dsimp only at H
                have A48 := Aside0.mk A480
                clear A480
                as_aux_lemma =>
                 have H' := Aside0.mk H
                 clear H
                 try go_wp2
                 have n0_ := Aside0.mk (blk_drew BK287.out)
                 have n1_ := Aside0.mk (below_drew1 HB.out)
                 clear BK287
                 clear HB
                 have BK287 := n0_
                 have HB := n1_
                 clear n0_ n1_
                 refine start_ (n := 70) (S := fun w' => w'.cell? ⟨gb287, 0, none⟩ = some (.int .i64 t283) ∧ w'.cell? ⟨gb287, 1, none⟩ = some (.int .i64 t284) ∧ w'.cell? ⟨gb287, 2, none⟩ = some (.int .i64 t285)) (ds := []) (bl true [0, 70]) (by kernel_rfl) rfl rfl ⟨(blk_cell BK287.out 0).trans rfl, (blk_cell BK287.out 1).trans rfl, (blk_cell BK287.out 2).trans rfl⟩ (fun hHeld => ?_); refine with_tabW laws_FnLeapsCounted.tab12 laws_FnLeapsCounted.bits12 (fun HT_ HW_ => ?_)
                 generalize w32.drew = w49 at BK287 HB hHeld ⊢
                 refine pure_ (i := 0) (N := some 128) (v := ?_) (a' := ?_) (bl true [1, 69]) rfl rfl (any_of HT_.out (by kernel_rfl)) (fun _ _ _ h => h) (Or.inl ⟨by rfl, ?_⟩) ?_ ?_
                 rotate_left
                 ·
                  intro w'
                  go_simp
                  with_reducible rfl
                 rotate_left
                 ·
                  simp only [Act.put, s1, s2, s3, i64_w, i32_w]
                  rfl
                 refine pure_ (i := 1) (N := some 129) (v := ?_) (a' := ?_) (bl true [2, 68]) rfl rfl (any_of HT_.out (by kernel_rfl)) (fun _ _ _ h => h) (Or.inl ⟨by rfl, ?_⟩) ?_ ?_
                 rotate_left
                 ·
                  intro w'
                  go_simp
                  with_reducible rfl
                 rotate_left
                 ·
                  simp only [Act.put, s1, s2, s3, i64_w, i32_w]
                  rfl
                 refine pure_ (i := 2) (N := some 130) (v := ?_) (a' := ?_) (bl true [3, 67]) rfl rfl (any_of HT_.out (by kernel_rfl)) (fun _ _ _ h => h) (Or.inl ⟨by rfl, ?_⟩) ?_ ?_
                 rotate_left
                 ·
                  intro w'
                  go_simp
                  with_reducible rfl
                 rotate_left
                 ·
                  simp only [Act.put, s1, s2, s3, i64_w, i32_w]
                  rfl
                 refine pure_ (i := 3) (N := some 131) (v := ?_) (a' := ?_) (bl true [4, 66]) rfl rfl (any_of HT_.out (by kernel_rfl)) (fun _ _ _ h => h) (Or.inl ⟨by rfl, ?_⟩) ?_ ?_
                 rotate_left
                 ·
                  intro w'
                  go_simp
                  with_reducible rfl
                 rotate_left
                 ·
                  simp only [Act.put, s1, s2, s3, i64_w, i32_w]
                  rfl
                 refine pure_ (i := 4) (N := some 132) (v := ?_) (a' := ?_) (bl true [5, 65]) rfl rfl (any_of HT_.out (by kernel_rfl)) (fun _ _ _ h => h) (Or.inl ⟨by rfl, ?_⟩) ?_ ?_
                 rotate_left
                 ·
                  intro w'
                  go_simp
                  with_reducible rfl
                 rotate_left
                 ·
                  simp only [Act.put, s1, s2, s3, i64_w, i32_w]
                  rfl
                 refine pure_ (i := 5) (N := some 133) (v := ?_) (a' := ?_) (bl true [6, 64]) rfl rfl (any_of HT_.out (by kernel_rfl)) (fun _ _ _ h => h) (Or.inl ⟨by rfl, ?_⟩) ?_ ?_
                 rotate_left
                 ·
                  intro w'
                  go_simp
                  with_reducible rfl
                 rotate_left
                 ·
                  simp only [Act.put, s1, s2, s3, i64_w, i32_w]
                  rfl
                 refine pure_ (i := 6) (N := some 134) (v := ?_) (a' := ?_) (bl true [7, 63]) rfl rfl (any_of HT_.out (by kernel_rfl)) (fun _ _ _ h => h) (Or.inl ⟨by rfl, ?_⟩) ?_ ?_
                 rotate_left
                 ·
                  intro w'
                  go_simp
                  with_reducible rfl
                 rotate_left
                 ·
                  simp only [Act.put, s1, s2, s3, i64_w, i32_w]
                  rfl
                 refine pure_ (i := 7) (N := some 135) (v := ?_) (a' := ?_) (bl true [8, 62]) rfl rfl (any_of HT_.out (by kernel_rfl)) (fun _ _ _ h => h) (Or.inl ⟨by rfl, ?_⟩) ?_ ?_
                 rotate_left
                 ·
                  intro w'
                  go_simp
                  with_reducible rfl
                 rotate_left
                 ·
                  simp only [Act.put, s1, s2, s3, i64_w, i32_w]
                  rfl
                 refine pure_ (i := 8) (N := some 136) (v := ?_) (a' := ?_) (bl true [9, 61]) rfl rfl (any_of HT_.out (by kernel_rfl)) (fun _ _ _ h => h) (Or.inl ⟨by rfl, ?_⟩) ?_ ?_
                 rotate_left
                 ·
                  intro w'
                  go_simp
                  with_reducible rfl
                 rotate_left
                 ·
                  simp only [Act.put, s1, s2, s3, i64_w, i32_w]
                  rfl
                 refine pure_ (i := 9) (N := some 137) (v := ?_) (a' := ?_) (bl true [10, 60]) rfl rfl (any_of HT_.out (by kernel_rfl)) (fun _ _ _ h => h) (Or.inl ⟨by rfl, ?_⟩) ?_ ?_
                 rotate_left
                 ·
                  intro w'
                  go_simp
                  with_reducible rfl
                 rotate_left
                 ·
                  simp only [Act.put, s1, s2, s3, i64_w, i32_w]
                  rfl
                 refine pure_ (i := 10) (N := some 138) (v := ?_) (a' := ?_) (bl true [11, 59]) rfl rfl (any_of HT_.out (by kernel_rfl)) (fun _ _ _ h => h) (Or.inl ⟨by rfl, ?_⟩) ?_ ?_
                 rotate_left
                 ·
                  intro w'
                  go_simp
                  with_reducible rfl
                 rotate_left
                 ·
                  simp only [Act.put, s1, s2, s3, i64_w, i32_w]
                  rfl
                 refine pure_ (i := 11) (N := some 139) (v := ?_) (a' := ?_) (bl true [12, 58]) rfl rfl (any_of HT_.out (by kernel_rfl)) (fun _ _ _ h => h) (Or.inl ⟨by rfl, ?_⟩) ?_ ?_
                 rotate_left
                 ·
                  intro w'
                  go_simp
                  with_reducible rfl
                 rotate_left
                 ·
                  simp only [Act.put, s1, s2, s3, i64_w, i32_w]
                  rfl
                 refine pure_ (i := 12) (N := some 140) (v := ?_) (a' := ?_) (bl true [13, 57]) rfl rfl (any_of HT_.out (by kernel_rfl)) (fun _ _ _ h => h) (Or.inl ⟨by rfl, ?_⟩) ?_ ?_
                 rotate_left
                 ·
                  intro w'
                  go_simp
                  with_reducible rfl
                 rotate_left
                 ·
                  simp only [Act.put, s1, s2, s3, i64_w, i32_w]
                  rfl
                 refine pure_ (i := 13) (N := some 141) (v := ?_) (a' := ?_) (bl true [14, 56]) rfl rfl (any_of HT_.out (by kernel_rfl)) (fun _ _ _ h => h) (Or.inl ⟨by rfl, ?_⟩) ?_ ?_
                 rotate_left
                 ·
                  intro w'
                  go_simp
                  with_reducible rfl
                 rotate_left
                 ·
                  simp only [Act.put, s1, s2, s3, i64_w, i32_w]
                  rfl
                 refine pure_ (i := 14) (N := some 142) (v := ?_) (a' := ?_) (bl true [15, 55]) rfl rfl (any_of HT_.out (by kernel_rfl)) (fun _ _ _ h => h) (Or.inl ⟨by rfl, ?_⟩) ?_ ?_
                 rotate_left
                 ·
                  intro w'
                  go_simp
                  with_reducible rfl
                 rotate_left
                 ·
                  simp only [Act.put, s1, s2, s3, i64_w, i32_w]
                  rfl
                 refine pure_ (i := 15) (N := some 143) (v := ?_) (a' := ?_) (bl true [16, 54]) rfl rfl (any_of HT_.out (by kernel_rfl)) (fun _ _ _ h => h) (Or.inl ⟨by rfl, ?_⟩) ?_ ?_
                 rotate_left
                 ·
                  intro w'
                  go_simp
                  with_reducible rfl
                 rotate_left
                 ·
                  simp only [Act.put, s1, s2, s3, i64_w, i32_w]
                  rfl
                 refine pure_ (i := 16) (N := some 144) (v := ?_) (a' := ?_) (bl true [17, 53]) rfl rfl (any_of HT_.out (by kernel_rfl)) (fun _ _ _ h => h) (Or.inl ⟨by rfl, ?_⟩) ?_ ?_
                 rotate_left
                 ·
                  intro w'
                  go_simp
                  with_reducible rfl
                 rotate_left
                 ·
                  simp only [Act.put, s1, s2, s3, i64_w, i32_w]
                  rfl
                 refine pure_ (i := 17) (N := some 145) (v := ?_) (a' := ?_) (bl true [18, 52]) rfl rfl (any_of HT_.out (by kernel_rfl)) (fun _ _ _ h => h) (Or.inl ⟨by rfl, ?_⟩) ?_ ?_
                 rotate_left
                 ·
                  intro w'
                  go_simp
                  with_reducible rfl
                 rotate_left
                 ·
                  simp only [Act.put, s1, s2, s3, i64_w, i32_w]
                  rfl
                 refine pure_ (i := 18) (N := some 146) (v := ?_) (a' := ?_) (bl true [19, 51]) rfl rfl (any_of HT_.out (by kernel_rfl)) (fun _ _ _ h => h) (Or.inl ⟨by rfl, ?_⟩) ?_ ?_
                 rotate_left
                 ·
                  intro w'
                  go_simp
                  with_reducible rfl
                 rotate_left
                 ·
                  simp only [Act.put, s1, s2, s3, i64_w, i32_w]
                  rfl
                 refine pure_ (i := 19) (N := some 147) (v := ?_) (a' := ?_) (bl true [20, 50]) rfl rfl (any_of HT_.out (by kernel_rfl)) (fun _ _ _ h => h) (Or.inl ⟨by rfl, ?_⟩) ?_ ?_
                 rotate_left
                 ·
                  intro w'
                  go_simp
                  with_reducible rfl
                 rotate_left
                 ·
                  simp only [Act.put, s1, s2, s3, i64_w, i32_w]
                  rfl
                 refine pure_ (i := 20) (N := some 148) (v := ?_) (a' := ?_) (bl true [21, 49]) rfl rfl (any_of HT_.out (by kernel_rfl)) (fun _ _ _ h => h) (Or.inl ⟨by rfl, ?_⟩) ?_ ?_
                 rotate_left
                 ·
                  intro w'
                  go_simp
                  with_reducible rfl
                 rotate_left
                 ·
                  simp only [Act.put, s1, s2, s3, i64_w, i32_w]
                  rfl
                 refine pure_ (i := 21) (N := some 149) (v := ?_) (a' := ?_) (bl true [22, 48]) rfl rfl (any_of HT_.out (by kernel_rfl)) (fun _ _ _ h => h) (Or.inl ⟨by rfl, ?_⟩) ?_ ?_
                 rotate_left
                 ·
                  intro w'
                  go_simp
                  with_reducible rfl
                 rotate_left
                 ·
                  simp only [Act.put, s1, s2, s3, i64_w, i32_w]
                  rfl
                 refine pure_ (i := 22) (N := some 150) (v := ?_) (a' := ?_) (bl true [23, 47]) rfl rfl (any_of HT_.out (by kernel_rfl)) (fun _ _ _ h => h) (Or.inl ⟨by rfl, ?_⟩) ?_ ?_
                 rotate_left
                 ·
                  intro w'
                  go_simp
                  with_reducible rfl
                 rotate_left
                 ·
                  simp only [Act.put, s1, s2, s3, i64_w, i32_w]
                  rfl
                 refine pure_ (i := 23) (N := some 151) (v := ?_) (a' := ?_) (bl true [24, 46]) rfl rfl (any_of HT_.out (by kernel_rfl)) (fun _ _ _ h => h) (Or.inl ⟨by rfl, ?_⟩) ?_ ?_
                 rotate_left
                 ·
                  intro w'
                  go_simp
                  with_reducible rfl
                 rotate_left
                 ·
                  simp only [Act.put, s1, s2, s3, i64_w, i32_w]
                  rfl
                 refine pure_ (i := 24) (N := some 152) (v := ?_) (a' := ?_) (bl true [25, 45]) rfl rfl (any_of HT_.out (by kernel_rfl)) (fun _ _ _ h => h) (Or.inl ⟨by rfl, ?_⟩) ?_ ?_
                 rotate_left
                 ·
                  intro w'
                  go_simp
                  with_reducible rfl
                 rotate_left
                 ·
                  simp only [Act.put, s1, s2, s3, i64_w, i32_w]
                  rfl
                 refine pure_ (i := 25) (N := some 153) (v := ?_) (a' := ?_) (bl true [26, 44]) rfl rfl (any_of HT_.out (by kernel_rfl)) (fun _ _ _ h => h) (Or.inl ⟨by rfl, ?_⟩) ?_ ?_
                 rotate_left
                 ·
                  intro w'
                  go_simp
                  with_reducible rfl
                 rotate_left
                 ·
                  simp only [Act.put, s1, s2, s3, i64_w, i32_w]
                  rfl
                 refine pure_ (i := 26) (N := some 154) (v := ?_) (a' := ?_) (bl true [27, 43]) rfl rfl (any_of HT_.out (by kernel_rfl)) (fun _ _ _ h => h) (Or.inl ⟨by rfl, ?_⟩) ?_ ?_
                 rotate_left
                 ·
                  intro w'
                  go_simp
                  with_reducible rfl
                 rotate_left
                 ·
                  simp only [Act.put, s1, s2, s3, i64_w, i32_w]
                  rfl
                 refine pure_ (i := 27) (N := some 155) (v := ?_) (a' := ?_) (bl true [28, 42]) rfl rfl (any_of HT_.out (by kernel_rfl)) (fun _ _ _ h => h) (Or.inl ⟨by rfl, ?_⟩) ?_ ?_
                 rotate_left
                 ·
                  intro w'
                  go_simp
                  with_reducible rfl
                 rotate_left
                 ·
                  simp only [Act.put, s1, s2, s3, i64_w, i32_w]
                  rfl
                 refine pure_ (i := 28) (N := some 156) (v := ?_) (a' := ?_) (bl true [29, 41]) rfl rfl (any_of HT_.out (by kernel_rfl)) (fun _ _ _ h => h) (Or.inl ⟨by rfl, ?_⟩) ?_ ?_
                 rotate_left
                 ·
                  intro w'
                  go_simp
                  with_reducible rfl
                 rotate_left
                 ·
                  simp only [Act.put, s1, s2, s3, i64_w, i32_w]
                  rfl
                 refine pure_ (i := 29) (N := some 157) (v := ?_) (a' := ?_) (bl true [30, 40]) rfl rfl (any_of HT_.out (by kernel_rfl)) (fun _ _ _ h => h) (Or.inl ⟨by rfl, ?_⟩) ?_ ?_
                 rotate_left
                 ·
                  intro w'
                  go_simp
                  with_reducible rfl
                 rotate_left
                 ·
                  simp only [Act.put, s1, s2, s3, i64_w, i32_w]
                  rfl
                 refine pure_ (i := 30) (N := some 158) (v := ?_) (a' := ?_) (bl true [31, 39]) rfl rfl (any_of HT_.out (by kernel_rfl)) (fun _ _ _ h => h) (Or.inl ⟨by rfl, ?_⟩) ?_ ?_
                 rotate_left
                 ·
                  intro w'
                  go_simp
                  with_reducible rfl
                 rotate_left
                 ·
                  simp only [Act.put, s1, s2, s3, i64_w, i32_w]
                  rfl
                 refine pure_ (i := 31) (N := some 159) (v := ?_) (a' := ?_) (bl true [32, 38]) rfl rfl (any_of HT_.out (by kernel_rfl)) (fun _ _ _ h => h) (Or.inl ⟨by rfl, ?_⟩) ?_ ?_
                 rotate_left
                 ·
                  intro w'
                  go_simp
                  with_reducible rfl
                 rotate_left
                 ·
                  simp only [Act.put, s1, s2, s3, i64_w, i32_w]
                  rfl
                 refine pure_ (i := 32) (N := some 160) (v := ?_) (a' := ?_) (bl true [33, 37]) rfl rfl (any_of HT_.out (by kernel_rfl)) (fun _ _ _ h => h) (Or.inl ⟨by rfl, ?_⟩) ?_ ?_
                 rotate_left
                 ·
                  intro w'
                  go_simp
                  with_reducible rfl
                 rotate_left
                 ·
                  simp only [Act.put, s1, s2, s3, i64_w, i32_w]
                  rfl
                 refine pure_ (i := 33) (N := some 161) (v := ?_) (a' := ?_) (bl true [34, 36]) rfl rfl (any_of HT_.out (by kernel_rfl)) (fun _ _ _ h => h) (Or.inl ⟨by rfl, ?_⟩) ?_ ?_
                 rotate_left
                 ·
                  intro w'
                  go_simp
                  with_reducible rfl
                 rotate_left
                 ·
                  simp only [Act.put, s1, s2, s3, i64_w, i32_w]
                  rfl
                 refine pure_ (i := 34) (N := some 162) (v := ?_) (a' := ?_) (bl true [35, 35]) rfl rfl (any_of HT_.out (by kernel_rfl)) (fun _ _ _ h => h) (Or.inl ⟨by rfl, ?_⟩) ?_ ?_
                 rotate_left
                 ·
                  intro w'
                  go_simp
                  with_reducible rfl
                 rotate_left
                 ·
                  simp only [Act.put, s1, s2, s3, i64_w, i32_w]
                  rfl
                 refine pure_ (i := 35) (N := some 163) (v := ?_) (a' := ?_) (bl true [36, 34]) rfl rfl (any_of HT_.out (by kernel_rfl)) (fun _ _ _ h => h) (Or.inl ⟨by rfl, ?_⟩) ?_ ?_
                 rotate_left
                 ·
                  intro w'
                  go_simp
                  with_reducible rfl
                 rotate_left
                 ·
                  simp only [Act.put, s1, s2, s3, i64_w, i32_w]
                  rfl
                 refine pure_ (i := 36) (N := some 164) (v := ?_) (a' := ?_) (bl true [37, 33]) rfl rfl (any_of HT_.out (by kernel_rfl)) (fun _ _ _ h => h) (Or.inl ⟨by rfl, ?_⟩) ?_ ?_
                 rotate_left
                 ·
                  intro w'
                  go_simp
                  with_reducible rfl
                 rotate_left
                 ·
                  simp only [Act.put, s1, s2, s3, i64_w, i32_w]
                  rfl
                 refine pure_ (i := 37) (N := some 165) (v := ?_) (a' := ?_) (bl true [38, 32]) rfl rfl (any_of HT_.out (by kernel_rfl)) (fun _ _ _ h => h) (Or.inl ⟨by rfl, ?_⟩) ?_ ?_
                 rotate_left
                 ·
                  intro w'
                  go_simp
                  with_reducible rfl
                 rotate_left
                 ·
                  simp only [Act.put, s1, s2, s3, i64_w, i32_w]
                  rfl
                 refine pure_ (i := 38) (N := some 166) (v := ?_) (a' := ?_) (bl true [39, 31]) rfl rfl (any_of HT_.out (by kernel_rfl)) (fun _ _ _ h => h) (Or.inl ⟨by rfl, ?_⟩) ?_ ?_
                 rotate_left
                 ·
                  intro w'
                  go_simp
                  with_reducible rfl
                 rotate_left
                 ·
                  simp only [Act.put, s1, s2, s3, i64_w, i32_w]
                  rfl
                 refine pure_ (i := 39) (N := some 167) (v := ?_) (a' := ?_) (bl true [40, 30]) rfl rfl (any_of HT_.out (by kernel_rfl)) (fun _ _ _ h => h) (Or.inl ⟨by rfl, ?_⟩) ?_ ?_
                 rotate_left
                 ·
                  intro w'
                  go_simp
                  with_reducible rfl
                 rotate_left
                 ·
                  simp only [Act.put, s1, s2, s3, i64_w, i32_w]
                  rfl
                 refine pure_ (i := 40) (N := some 168) (v := ?_) (a' := ?_) (bl true [41, 29]) rfl rfl (any_of HT_.out (by kernel_rfl)) (fun _ _ _ h => h) (Or.inl ⟨by rfl, ?_⟩) ?_ ?_
                 rotate_left
                 ·
                  intro w'
                  go_simp
                  with_reducible rfl
                 rotate_left
                 ·
                  simp only [Act.put, s1, s2, s3, i64_w, i32_w]
                  rfl
                 refine pure_ (i := 41) (N := some 169) (v := ?_) (a' := ?_) (bl true [42, 28]) rfl rfl (any_of HT_.out (by kernel_rfl)) (fun _ _ _ h => h) (Or.inl ⟨by rfl, ?_⟩) ?_ ?_
                 rotate_left
                 ·
                  intro w'
                  go_simp
                  with_reducible rfl
                 rotate_left
                 ·
                  simp only [Act.put, s1, s2, s3, i64_w, i32_w]
                  rfl
                 refine pure_ (i := 42) (N := some 170) (v := ?_) (a' := ?_) (bl true [43, 27]) rfl rfl (any_of HT_.out (by kernel_rfl)) (fun _ _ _ h => h) (Or.inl ⟨by rfl, ?_⟩) ?_ ?_
                 rotate_left
                 ·
                  intro w'
                  go_simp
                  with_reducible rfl
                 rotate_left
                 ·
                  simp only [Act.put, s1, s2, s3, i64_w, i32_w]
                  rfl
                 refine pure_ (i := 43) (N := some 171) (v := ?_) (a' := ?_) (bl true [44, 26]) rfl rfl (any_of HT_.out (by kernel_rfl)) (fun _ _ _ h => h) (Or.inl ⟨by rfl, ?_⟩) ?_ ?_
                 rotate_left
                 ·
                  intro w'
                  go_simp
                  with_reducible rfl
                 rotate_left
                 ·
                  simp only [Act.put, s1, s2, s3, i64_w, i32_w]
                  rfl
                 refine pure_ (i := 44) (N := some 172) (v := ?_) (a' := ?_) (bl true [45, 25]) rfl rfl (any_of HT_.out (by kernel_rfl)) (fun _ _ _ h => h) (Or.inl ⟨by rfl, ?_⟩) ?_ ?_
                 rotate_left
                 ·
                  intro w'
                  go_simp
                  with_reducible rfl
                 rotate_left
                 ·
                  simp only [Act.put, s1, s2, s3, i64_w, i32_w]
                  rfl
                 refine pure_ (i := 45) (N := some 173) (v := ?_) (a' := ?_) (bl true [46, 24]) rfl rfl (any_of HT_.out (by kernel_rfl)) (fun _ _ _ h => h) (Or.inl ⟨by rfl, ?_⟩) ?_ ?_
                 rotate_left
                 ·
                  intro w'
                  go_simp
                  with_reducible rfl
                 rotate_left
                 ·
                  simp only [Act.put, s1, s2, s3, i64_w, i32_w]
                  rfl
                 refine pure_ (i := 46) (N := some 174) (v := ?_) (a' := ?_) (bl true [47, 23]) rfl rfl (any_of HT_.out (by kernel_rfl)) (fun _ _ _ h => h) (Or.inl ⟨by rfl, ?_⟩) ?_ ?_
                 rotate_left
                 ·
                  intro w'
                  go_simp
                  with_reducible rfl
                 rotate_left
                 ·
                  simp only [Act.put, s1, s2, s3, i64_w, i32_w]
                  rfl
                 refine pure_ (i := 47) (N := some 175) (v := ?_) (a' := ?_) (bl true [48, 22]) rfl rfl (any_of HT_.out (by kernel_rfl)) (fun _ _ _ h => h) (Or.inl ⟨by rfl, ?_⟩) ?_ ?_
                 rotate_left
                 ·
                  intro w'
                  go_simp
                  with_reducible rfl
                 rotate_left
                 ·
                  simp only [Act.put, s1, s2, s3, i64_w, i32_w]
                  rfl
                 refine pure_ (i := 48) (N := some 176) (v := ?_) (a' := ?_) (bl true [49, 21]) rfl rfl (any_of HT_.out (by kernel_rfl)) (fun _ _ _ h => h) (Or.inl ⟨by rfl, ?_⟩) ?_ ?_
                 rotate_left
                 ·
                  intro w'
                  go_simp
                  with_reducible rfl
                 rotate_left
                 ·
                  simp only [Act.put, s1, s2, s3, i64_w, i32_w]
                  rfl
                 refine pure_ (i := 49) (N := some 177) (v := ?_) (a' := ?_) (bl true [50, 20]) rfl rfl (any_of HT_.out (by kernel_rfl)) (fun _ _ _ h => h) (Or.inl ⟨by rfl, ?_⟩) ?_ ?_
                 rotate_left
                 ·
                  intro w'
                  go_simp
                  with_reducible rfl
                 rotate_left
                 ·
                  simp only [Act.put, s1, s2, s3, i64_w, i32_w]
                  rfl
                 refine pure_ (i := 50) (N := some 178) (v := ?_) (a' := ?_) (bl true [51, 19]) rfl rfl (any_of HT_.out (by kernel_rfl)) (fun _ _ _ h => h) (Or.inl ⟨by rfl, ?_⟩) ?_ ?_
                 rotate_left
                 ·
                  intro w'
                  go_simp
                  with_reducible rfl
                 rotate_left
                 ·
                  simp only [Act.put, s1, s2, s3, i64_w, i32_w]
                  rfl
                 refine pure_ (i := 51) (N := some 179) (v := ?_) (a' := ?_) (bl true [52, 18]) rfl rfl (any_of HT_.out (by kernel_rfl)) (fun _ _ _ h => h) (Or.inl ⟨by rfl, ?_⟩) ?_ ?_
                 rotate_left
                 ·
                  intro w'
                  go_simp
                  with_reducible rfl
                 rotate_left
                 ·
                  simp only [Act.put, s1, s2, s3, i64_w, i32_w]
                  rfl
                 refine pure_ (i := 52) (N := some 180) (v := ?_) (a' := ?_) (bl true [53, 17]) rfl rfl (any_of HT_.out (by kernel_rfl)) (fun _ _ _ h => h) (Or.inl ⟨by rfl, ?_⟩) ?_ ?_
                 rotate_left
                 ·
                  intro w'
                  go_simp
                  with_reducible rfl
                 rotate_left
                 ·
                  simp only [Act.put, s1, s2, s3, i64_w, i32_w]
                  rfl
                 refine pure_ (i := 53) (N := some 181) (v := ?_) (a' := ?_) (bl true [54, 16]) rfl rfl (any_of HT_.out (by kernel_rfl)) (fun _ _ _ h => h) (Or.inl ⟨by rfl, ?_⟩) ?_ ?_
                 rotate_left
                 ·
                  intro w'
                  go_simp
                  with_reducible rfl
                 rotate_left
                 ·
                  simp only [Act.put, s1, s2, s3, i64_w, i32_w]
                  rfl
                 refine pure_ (i := 54) (N := some 182) (v := ?_) (a' := ?_) (bl true [55, 15]) rfl rfl (any_of HT_.out (by kernel_rfl)) (fun _ _ _ h => h) (Or.inl ⟨by rfl, ?_⟩) ?_ ?_
                 rotate_left
                 ·
                  intro w'
                  go_simp
                  with_reducible rfl
                 rotate_left
                 ·
                  simp only [Act.put, s1, s2, s3, i64_w, i32_w]
                  rfl
                 refine pure_ (i := 55) (N := some 183) (v := ?_) (a' := ?_) (bl true [56, 14]) rfl rfl (any_of HT_.out (by kernel_rfl)) (fun _ _ _ h => h) (Or.inl ⟨by rfl, ?_⟩) ?_ ?_
                 rotate_left
                 ·
                  intro w'
                  go_simp
                  with_reducible rfl
                 rotate_left
                 ·
                  simp only [Act.put, s1, s2, s3, i64_w, i32_w]
                  rfl
                 refine take_ (i := 56) (N := some 184) (v := ?_) (a' := ?_) (bl true [57, 13]) rfl rfl (take_ofW HT_.out HW_.out (by kernel_rfl)) (fun _ _ _ h => h) (Or.inl ⟨by rfl, ?_⟩) hHeld ?_ ?_
                 rotate_left
                 ·
                  rintro w' ⟨s0, s1, s2⟩
                  go_simp
                  with_reducible rfl
                 rotate_left
                 ·
                  simp only [Act.put, s1, s2, s3, i64_w, i32_w]
                  rfl
                 refine take_ (i := 58) (N := some 186) (v := ?_) (a' := ?_) (bl true [57, 1, 1, 11]) rfl rfl (take_ofW HT_.out HW_.out (by kernel_rfl)) (fun _ _ _ h => h) (Or.inl ⟨by rfl, ?_⟩) hHeld ?_ ?_
                 rotate_left
                 ·
                  rintro w' ⟨s0, s1, s2⟩
                  go_simp
                  with_reducible rfl
                 rotate_left
                 ·
                  simp only [Act.put, s1, s2, s3, i64_w, i32_w]
                  rfl
                 refine one_ (i := 57) (N := some 185) (bl true [59, 11]) rfl rfl (one_of HT_.out (by kernel_rfl)) (by decide) (fun K hK => ?_)
                 refine goes_ Try.func24 (by kernel_rfl) rfl #[.agg #[.int .i64 t283, .int .i64 t284, .int .i64 t285]] (by rfl) rfl rfl (by (try simp only [List.map_toArray, List.map_cons, List.map_nil]); first | done | rfl | (simp only [List.length_drop, List.length_take]; rfl)) ?_
                 with_reducible refine (impl_IsLeapRule.calls t283 t284 t285 t304 _ A45.out).mono ?_
                 rintro e w50 ⟨rfl, hb⟩
                 refine ⟨_, rfl, ?_⟩
                 have n0_ := Aside0.mk (blk_below (g := gb287) (by (with_reducible repeat (first | refine blk_drewN ?_ _ | refine blk_drew ?_ | refine blk_alloc ?_ _)); exact BK287.out) hb)
                 have n1_ := Aside0.mk (below_step (by repeat (first | (with_reducible first | exact HB.out | apply below_alloc | apply pw_below_drewN | apply below_drew1 | refine below_set ?_ GE287.out) | exact HB.out)) hb)
                 clear BK287
                 clear HB
                 have BK287 := n0_
                 have HB := n1_
                 clear n0_ n1_
                 (try clear hb)
                 (try clear hb2)
                 (try clear hk)
                 (try clear hi)
                 refine hK.out _ _ ⟨(blk_cell BK287.out 0).trans rfl, (blk_cell BK287.out 1).trans rfl, (blk_cell BK287.out 2).trans rfl⟩ (fun hHeld => ?_)
                 clear hK K
                 refine norm_ (a' := ?_) ?_ ?_
                 rotate_left
                 ·
                  show Act.put _ (some 185) _ = _
                  simp only [Act.put, s1, s2, s3, i64_w, i32_w]
                  rfl
                 refine one_ (i := 59) (N := some 187) (bl true [60, 10]) rfl rfl (one_of HT_.out (by kernel_rfl)) (by decide) (fun K hK => ?_)
                 refine goes_ Try.func25 (by kernel_rfl) rfl #[.agg #[.int .i64 t283, .int .i64 t284, .int .i64 t285]] (by rfl) rfl rfl (by (try simp only [List.map_toArray, List.map_cons, List.map_nil]); first | done | rfl | (simp only [List.length_drop, List.length_take]; rfl)) ?_
                 with_reducible refine (spec_IsLeapRule.calls k t283 t284 t285 t305 _ A46.out).mono ?_
                 rintro e w51 ⟨rfl, hb⟩
                 refine ⟨_, rfl, ?_⟩
                 have n0_ := Aside0.mk (blk_below (g := gb287) (by (with_reducible repeat (first | refine blk_drewN ?_ _ | refine blk_drew ?_ | refine blk_alloc ?_ _)); exact BK287.out) hb)
                 have n1_ := Aside0.mk (below_step (by repeat (first | (with_reducible first | exact HB.out | apply below_alloc | apply pw_below_drewN | apply below_drew1 | refine below_set ?_ GE287.out) | exact HB.out)) hb)
                 clear BK287
                 clear HB
                 have BK287 := n0_
                 have HB := n1_
                 clear n0_ n1_
                 (try clear hb)
                 (try clear hb2)
                 (try clear hk)
                 (try clear hi)
                 refine hK.out _ _ ⟨(blk_cell BK287.out 0).trans rfl, (blk_cell BK287.out 1).trans rfl, (blk_cell BK287.out 2).trans rfl⟩ (fun hHeld => ?_)
                 clear hK K
                 refine norm_ (a' := ?_) ?_ ?_
                 rotate_left
                 ·
                  show Act.put _ (some 187) _ = _
                  simp only [Act.put, s1, s2, s3, i64_w, i32_w]
                  rfl
                 refine pure_ (i := 60) (N := some 188) (v := ?_) (a' := ?_) (bl true [61, 9]) rfl rfl (any_of HT_.out (by kernel_rfl)) (fun _ _ _ h => h) (Or.inl ⟨by rfl, ?_⟩) ?_ ?_
                 rotate_left
                 ·
                  intro w'
                  go_simp
                  with_reducible rfl
                 rotate_left
                 ·
                  simp only [Act.put, s1, s2, s3, i64_w, i32_w]
                  rfl
                 refine pure_ (i := 61) (N := some 189) (v := ?_) (a' := ?_) (bl true [62, 8]) rfl rfl (any_of HT_.out (by kernel_rfl)) (fun _ _ _ h => h) (Or.inl ⟨by rfl, ?_⟩) ?_ ?_
                 rotate_left
                 ·
                  intro w'
                  go_simp
                  with_reducible rfl
                 rotate_left
                 ·
                  simp only [Act.put, s1, s2, s3, i64_w, i32_w]
                  rfl
                 refine pure_ (i := 62) (N := some 190) (v := ?_) (a' := ?_) (bl true [63, 7]) rfl rfl (any_of HT_.out (by kernel_rfl)) (fun _ _ _ h => h) (Or.inl ⟨by rfl, ?_⟩) ?_ ?_
                 rotate_left
                 ·
                  intro w'
                  go_simp
                  with_reducible rfl
                 rotate_left
                 ·
                  simp only [Act.put, s1, s2, s3, i64_w, i32_w]
                  rfl
                 refine pure_ (i := 63) (N := some 191) (v := ?_) (a' := ?_) (bl true [64, 6]) rfl rfl (any_of HT_.out (by kernel_rfl)) (fun _ _ _ h => h) (Or.inl ⟨by rfl, ?_⟩) ?_ ?_
                 rotate_left
                 ·
                  intro w'
                  go_simp
                  with_reducible rfl
                 rotate_left
                 ·
                  simp only [Act.put, s1, s2, s3, i64_w, i32_w]
                  rfl
                 refine pure_ (i := 64) (N := some 192) (v := ?_) (a' := ?_) (bl true [65, 5]) rfl rfl (any_of HT_.out (by kernel_rfl)) (fun _ _ _ h => h) (Or.inl ⟨by rfl, ?_⟩) ?_ ?_
                 rotate_left
                 ·
                  intro w'
                  go_simp
                  with_reducible rfl
                 rotate_left
                 ·
                  simp only [Act.put, s1, s2, s3, i64_w, i32_w]
                  rfl
                 refine take_ (i := 65) (N := some 193) (v := ?_) (a' := ?_) (bl true [66, 4]) rfl rfl (take_ofW HT_.out HW_.out (by kernel_rfl)) (fun _ _ _ h => h) (Or.inl ⟨by rfl, ?_⟩) hHeld ?_ ?_
                 rotate_left
                 ·
                  rintro w' ⟨s0, s1, s2⟩
                  go_simp
                  with_reducible rfl
                 rotate_left
                 ·
                  simp only [Act.put, s1, s2, s3, i64_w, i32_w]
                  rfl
                 refine one_ (i := 66) (N := some 194) (bl true [67, 3]) rfl rfl (one_of HT_.out (by kernel_rfl)) (by decide) (fun K hK => ?_)
                 refine goes_ Try.func24 (by kernel_rfl) rfl #[.agg #[.int .i64 t283, .int .i64 t284, .int .i64 t285]] (by rfl) rfl rfl (by (try simp only [List.map_toArray, List.map_cons, List.map_nil]); first | done | rfl | (simp only [List.length_drop, List.length_take]; rfl)) ?_
                 with_reducible refine (impl_IsLeapRule.calls t283 t284 t285 t306 _ A48.out).mono ?_
                 rintro e w52 ⟨rfl, hb⟩
                 refine ⟨_, rfl, ?_⟩
                 have n0_ := Aside0.mk (blk_below (g := gb287) (by (with_reducible repeat (first | refine blk_drewN ?_ _ | refine blk_drew ?_ | refine blk_alloc ?_ _)); exact BK287.out) hb)
                 have n1_ := Aside0.mk (below_step (by repeat (first | (with_reducible first | exact HB.out | apply below_alloc | apply pw_below_drewN | apply below_drew1 | refine below_set ?_ GE287.out) | exact HB.out)) hb)
                 clear BK287
                 clear HB
                 have BK287 := n0_
                 have HB := n1_
                 clear n0_ n1_
                 (try clear hb)
                 (try clear hb2)
                 (try clear hk)
                 (try clear hi)
                 refine hK.out _ _ ⟨(blk_cell BK287.out 0).trans rfl, (blk_cell BK287.out 1).trans rfl, (blk_cell BK287.out 2).trans rfl⟩ (fun hHeld => ?_)
                 clear hK K
                 refine norm_ (a' := ?_) ?_ ?_
                 rotate_left
                 ·
                  show Act.put _ (some 194) _ = _
                  simp only [Act.put, s1, s2, s3, i64_w, i32_w]
                  rfl
                 refine pure_ (i := 67) (N := some 195) (v := ?_) (a' := ?_) (bl true [68, 2]) rfl rfl (any_of HT_.out (by kernel_rfl)) (fun _ _ _ h => h) (Or.inl ⟨by rfl, ?_⟩) ?_ ?_
                 rotate_left
                 ·
                  intro w'
                  go_simp
                  with_reducible rfl
                 rotate_left
                 ·
                  simp only [Act.put, s1, s2, s3, i64_w, i32_w]
                  rfl
                 refine pure_ (i := 68) (N := some 196) (v := ?_) (a' := ?_) (bl true [69, 1]) rfl rfl (any_of HT_.out (by kernel_rfl)) (fun _ _ _ h => h) (Or.inl ⟨by rfl, ?_⟩) ?_ ?_
                 rotate_left
                 ·
                  intro w'
                  go_simp
                  with_reducible rfl
                 rotate_left
                 ·
                  simp only [Act.put, s1, s2, s3, i64_w, i32_w]
                  rfl
                 refine pure_ (i := 69) (N := some 197) (v := ?_) (a' := ?_) (bl true [70]) rfl rfl (any_of HT_.out (by kernel_rfl)) (fun _ _ _ h => h) (Or.inl ⟨by rfl, ?_⟩) ?_ ?_
                 rotate_left
                 ·
                  intro w'
                  go_simp
                  with_reducible rfl
                 rotate_left
                 ·
                  simp only [Act.put, s1, s2, s3, i64_w, i32_w]
                  rfl
                 refine done_ (done_of HT_.out (by kernel_rfl)) ?_
                 try go_wp2
                 go_meet
                 case rel => exact ⟨_, (!t306), (by first | rfl | (simp; done) | (simp [*]; done)), H', ⟨by first | omega | exact Nat.le_refl _⟩, ⟨by (with_reducible repeat (first | refine blk_drewN ?_ _ | refine blk_drew ?_ | refine blk_alloc ?_ _)); exact BK287.out⟩, ⟨by repeat (first | (with_reducible first | exact HB.out | apply below_alloc | apply pw_below_drewN | apply below_drew1 | refine below_set ?_ GE287.out) | exact HB.out)⟩⟩
              ·
               replace c44 := Bool.eq_false_iff.mpr c44
               subst c44
               have H1 : (none) = some r := by rw [if_neg (show ¬ (false = true) by decide)] at H; exact H
               clear H
               have H := H1
               clear H1
               exact absurd H (by simp)
             ·
              replace c43 := Bool.eq_false_iff.mpr c43
              subst c43
              have H1 : ((impl_IsLeapRule.f t283 t284 t285).bind fun t307 => ((spec_IsLeapRule.f k t283 t284 t285).bind fun t308 => (if (t307 != t308) = true then (none) else (if t289 = true then ((impl_IsLeapRule.f t283 t284 t285).bind fun t309 => (j0 k l1 t286 t288 t289 t292 t296 t300 false (!t309) t283 t284 t285)) else (j0 k l1 t286 t288 t289 t292 t296 t300 false false t283 t284 t285))))) = some r := by rw [if_neg (show ¬ (false = true) by decide)] at H; exact H
              clear H
              have H := H1
              clear H1
              replace H := Option.bind_eq_some_iff.mp H
              obtain ⟨t307, A530, H⟩ := H
              try dsimp only at H
              have A53 := Aside0.mk A530
              clear A530
              replace H := Option.bind_eq_some_iff.mp H
              obtain ⟨t308, A540, H⟩ := H
              try dsimp only at H
              have A54 := Aside0.mk A540
              clear A540
              by_cases c55 : (t307 != t308) = true
              ·
               rw [if_pos c55] at H
               exact absurd H (by simp)
              ·
               rw [if_neg c55] at H
               have c55b0 : (t307 != t308) = false := by simpa using c55
               (try (have c55b1 : decide (t307 = t308) = true := by simpa using c55))
               (try (have c55b2 : (t307 == t308) = true := by simpa using c55))
               clear c55
               by_cases c56 : t289 = true
               ·
                subst c56
                have H1 : ((impl_IsLeapRule.f t283 t284 t285).bind fun t309 => (j0 k l1 t286 t288 true t292 t296 t300 false (!t309) t283 t284 t285)) = some r := by rw [if_pos rfl] at H; exact H
                clear H
                have H := H1
                clear H1
                replace H := Option.bind_eq_some_iff.mp H
                obtain ⟨t309, A570, H⟩ := H
                try dsimp only at H
                have A57 := Aside0.mk A570
                clear A570
                as_aux_lemma =>
                 have H' := Aside0.mk H
                 clear H
                 try go_wp2
                 have n0_ := Aside0.mk (blk_drew BK287.out)
                 have n1_ := Aside0.mk (below_drew1 HB.out)
                 clear BK287
                 clear HB
                 have BK287 := n0_
                 have HB := n1_
                 clear n0_ n1_
                 refine start_ (n := 70) (S := fun w' => w'.cell? ⟨gb287, 0, none⟩ = some (.int .i64 t283) ∧ w'.cell? ⟨gb287, 1, none⟩ = some (.int .i64 t284) ∧ w'.cell? ⟨gb287, 2, none⟩ = some (.int .i64 t285)) (ds := []) (bl true [0, 70]) (by kernel_rfl) rfl rfl ⟨(blk_cell BK287.out 0).trans rfl, (blk_cell BK287.out 1).trans rfl, (blk_cell BK287.out 2).trans rfl⟩ (fun hHeld => ?_); refine with_tabW laws_FnLeapsCounted.tab12 laws_FnLeapsCounted.bits12 (fun HT_ HW_ => ?_)
                 generalize w32.drew = w58 at BK287 HB hHeld ⊢
                 refine pure_ (i := 0) (N := some 128) (v := ?_) (a' := ?_) (bl true [1, 69]) rfl rfl (any_of HT_.out (by kernel_rfl)) (fun _ _ _ h => h) (Or.inl ⟨by rfl, ?_⟩) ?_ ?_
                 rotate_left
                 ·
                  intro w'
                  go_simp
                  with_reducible rfl
                 rotate_left
                 ·
                  simp only [Act.put, s1, s2, s3, i64_w, i32_w]
                  rfl
                 refine pure_ (i := 1) (N := some 129) (v := ?_) (a' := ?_) (bl true [2, 68]) rfl rfl (any_of HT_.out (by kernel_rfl)) (fun _ _ _ h => h) (Or.inl ⟨by rfl, ?_⟩) ?_ ?_
                 rotate_left
                 ·
                  intro w'
                  go_simp
                  with_reducible rfl
                 rotate_left
                 ·
                  simp only [Act.put, s1, s2, s3, i64_w, i32_w]
                  rfl
                 refine pure_ (i := 2) (N := some 130) (v := ?_) (a' := ?_) (bl true [3, 67]) rfl rfl (any_of HT_.out (by kernel_rfl)) (fun _ _ _ h => h) (Or.inl ⟨by rfl, ?_⟩) ?_ ?_
                 rotate_left
                 ·
                  intro w'
                  go_simp
                  with_reducible rfl
                 rotate_left
                 ·
                  simp only [Act.put, s1, s2, s3, i64_w, i32_w]
                  rfl
                 refine pure_ (i := 3) (N := some 131) (v := ?_) (a' := ?_) (bl true [4, 66]) rfl rfl (any_of HT_.out (by kernel_rfl)) (fun _ _ _ h => h) (Or.inl ⟨by rfl, ?_⟩) ?_ ?_
                 rotate_left
                 ·
                  intro w'
                  go_simp
                  with_reducible rfl
                 rotate_left
                 ·
                  simp only [Act.put, s1, s2, s3, i64_w, i32_w]
                  rfl
                 refine pure_ (i := 4) (N := some 132) (v := ?_) (a' := ?_) (bl true [5, 65]) rfl rfl (any_of HT_.out (by kernel_rfl)) (fun _ _ _ h => h) (Or.inl ⟨by rfl, ?_⟩) ?_ ?_
                 rotate_left
                 ·
                  intro w'
                  go_simp
                  with_reducible rfl
                 rotate_left
                 ·
                  simp only [Act.put, s1, s2, s3, i64_w, i32_w]
                  rfl
                 refine pure_ (i := 5) (N := some 133) (v := ?_) (a' := ?_) (bl true [6, 64]) rfl rfl (any_of HT_.out (by kernel_rfl)) (fun _ _ _ h => h) (Or.inl ⟨by rfl, ?_⟩) ?_ ?_
                 rotate_left
                 ·
                  intro w'
                  go_simp
                  with_reducible rfl
                 rotate_left
                 ·
                  simp only [Act.put, s1, s2, s3, i64_w, i32_w]
                  rfl
                 refine pure_ (i := 6) (N := some 134) (v := ?_) (a' := ?_) (bl true [7, 63]) rfl rfl (any_of HT_.out (by kernel_rfl)) (fun _ _ _ h => h) (Or.inl ⟨by rfl, ?_⟩) ?_ ?_
                 rotate_left
                 ·
                  intro w'
                  go_simp
                  with_reducible rfl
                 rotate_left
                 ·
                  simp only [Act.put, s1, s2, s3, i64_w, i32_w]
                  rfl
                 refine pure_ (i := 7) (N := some 135) (v := ?_) (a' := ?_) (bl true [8, 62]) rfl rfl (any_of HT_.out (by kernel_rfl)) (fun _ _ _ h => h) (Or.inl ⟨by rfl, ?_⟩) ?_ ?_
                 rotate_left
                 ·
                  intro w'
                  go_simp
                  with_reducible rfl
                 rotate_left
                 ·
                  simp only [Act.put, s1, s2, s3, i64_w, i32_w]
                  rfl
                 refine pure_ (i := 8) (N := some 136) (v := ?_) (a' := ?_) (bl true [9, 61]) rfl rfl (any_of HT_.out (by kernel_rfl)) (fun _ _ _ h => h) (Or.inl ⟨by rfl, ?_⟩) ?_ ?_
                 rotate_left
                 ·
                  intro w'
                  go_simp
                  with_reducible rfl
                 rotate_left
                 ·
                  simp only [Act.put, s1, s2, s3, i64_w, i32_w]
                  rfl
                 refine pure_ (i := 9) (N := some 137) (v := ?_) (a' := ?_) (bl true [10, 60]) rfl rfl (any_of HT_.out (by kernel_rfl)) (fun _ _ _ h => h) (Or.inl ⟨by rfl, ?_⟩) ?_ ?_
                 rotate_left
                 ·
                  intro w'
                  go_simp
                  with_reducible rfl
                 rotate_left
                 ·
                  simp only [Act.put, s1, s2, s3, i64_w, i32_w]
                  rfl
                 refine pure_ (i := 10) (N := some 138) (v := ?_) (a' := ?_) (bl true [11, 59]) rfl rfl (any_of HT_.out (by kernel_rfl)) (fun _ _ _ h => h) (Or.inl ⟨by rfl, ?_⟩) ?_ ?_
                 rotate_left
                 ·
                  intro w'
                  go_simp
                  with_reducible rfl
                 rotate_left
                 ·
                  simp only [Act.put, s1, s2, s3, i64_w, i32_w]
                  rfl
                 refine pure_ (i := 11) (N := some 139) (v := ?_) (a' := ?_) (bl true [12, 58]) rfl rfl (any_of HT_.out (by kernel_rfl)) (fun _ _ _ h => h) (Or.inl ⟨by rfl, ?_⟩) ?_ ?_
                 rotate_left
                 ·
                  intro w'
                  go_simp
                  with_reducible rfl
                 rotate_left
                 ·
                  simp only [Act.put, s1, s2, s3, i64_w, i32_w]
                  rfl
                 refine pure_ (i := 12) (N := some 140) (v := ?_) (a' := ?_) (bl true [13, 57]) rfl rfl (any_of HT_.out (by kernel_rfl)) (fun _ _ _ h => h) (Or.inl ⟨by rfl, ?_⟩) ?_ ?_
                 rotate_left
                 ·
                  intro w'
                  go_simp
                  with_reducible rfl
                 rotate_left
                 ·
                  simp only [Act.put, s1, s2, s3, i64_w, i32_w]
                  rfl
                 refine pure_ (i := 13) (N := some 141) (v := ?_) (a' := ?_) (bl true [14, 56]) rfl rfl (any_of HT_.out (by kernel_rfl)) (fun _ _ _ h => h) (Or.inl ⟨by rfl, ?_⟩) ?_ ?_
                 rotate_left
                 ·
                  intro w'
                  go_simp
                  with_reducible rfl
                 rotate_left
                 ·
                  simp only [Act.put, s1, s2, s3, i64_w, i32_w]
                  rfl
                 refine pure_ (i := 14) (N := some 142) (v := ?_) (a' := ?_) (bl true [15, 55]) rfl rfl (any_of HT_.out (by kernel_rfl)) (fun _ _ _ h => h) (Or.inl ⟨by rfl, ?_⟩) ?_ ?_
                 rotate_left
                 ·
                  intro w'
                  go_simp
                  with_reducible rfl
                 rotate_left
                 ·
                  simp only [Act.put, s1, s2, s3, i64_w, i32_w]
                  rfl
                 refine pure_ (i := 15) (N := some 143) (v := ?_) (a' := ?_) (bl true [16, 54]) rfl rfl (any_of HT_.out (by kernel_rfl)) (fun _ _ _ h => h) (Or.inl ⟨by rfl, ?_⟩) ?_ ?_
                 rotate_left
                 ·
                  intro w'
                  go_simp
                  with_reducible rfl
                 rotate_left
                 ·
                  simp only [Act.put, s1, s2, s3, i64_w, i32_w]
                  rfl
                 refine pure_ (i := 16) (N := some 144) (v := ?_) (a' := ?_) (bl true [17, 53]) rfl rfl (any_of HT_.out (by kernel_rfl)) (fun _ _ _ h => h) (Or.inl ⟨by rfl, ?_⟩) ?_ ?_
                 rotate_left
                 ·
                  intro w'
                  go_simp
                  with_reducible rfl
                 rotate_left
                 ·
                  simp only [Act.put, s1, s2, s3, i64_w, i32_w]
                  rfl
                 refine pure_ (i := 17) (N := some 145) (v := ?_) (a' := ?_) (bl true [18, 52]) rfl rfl (any_of HT_.out (by kernel_rfl)) (fun _ _ _ h => h) (Or.inl ⟨by rfl, ?_⟩) ?_ ?_
                 rotate_left
                 ·
                  intro w'
                  go_simp
                  with_reducible rfl
                 rotate_left
                 ·
                  simp only [Act.put, s1, s2, s3, i64_w, i32_w]
                  rfl
                 refine pure_ (i := 18) (N := some 146) (v := ?_) (a' := ?_) (bl true [19, 51]) rfl rfl (any_of HT_.out (by kernel_rfl)) (fun _ _ _ h => h) (Or.inl ⟨by rfl, ?_⟩) ?_ ?_
                 rotate_left
                 ·
                  intro w'
                  go_simp
                  with_reducible rfl
                 rotate_left
                 ·
                  simp only [Act.put, s1, s2, s3, i64_w, i32_w]
                  rfl
                 refine pure_ (i := 19) (N := some 147) (v := ?_) (a' := ?_) (bl true [20, 50]) rfl rfl (any_of HT_.out (by kernel_rfl)) (fun _ _ _ h => h) (Or.inl ⟨by rfl, ?_⟩) ?_ ?_
                 rotate_left
                 ·
                  intro w'
                  go_simp
                  with_reducible rfl
                 rotate_left
                 ·
                  simp only [Act.put, s1, s2, s3, i64_w, i32_w]
                  rfl
                 refine pure_ (i := 20) (N := some 148) (v := ?_) (a' := ?_) (bl true [21, 49]) rfl rfl (any_of HT_.out (by kernel_rfl)) (fun _ _ _ h => h) (Or.inl ⟨by rfl, ?_⟩) ?_ ?_
                 rotate_left
                 ·
                  intro w'
                  go_simp
                  with_reducible rfl
                 rotate_left
                 ·
                  simp only [Act.put, s1, s2, s3, i64_w, i32_w]
                  rfl
                 refine pure_ (i := 21) (N := some 149) (v := ?_) (a' := ?_) (bl true [22, 48]) rfl rfl (any_of HT_.out (by kernel_rfl)) (fun _ _ _ h => h) (Or.inl ⟨by rfl, ?_⟩) ?_ ?_
                 rotate_left
                 ·
                  intro w'
                  go_simp
                  with_reducible rfl
                 rotate_left
                 ·
                  simp only [Act.put, s1, s2, s3, i64_w, i32_w]
                  rfl
                 refine pure_ (i := 22) (N := some 150) (v := ?_) (a' := ?_) (bl true [23, 47]) rfl rfl (any_of HT_.out (by kernel_rfl)) (fun _ _ _ h => h) (Or.inl ⟨by rfl, ?_⟩) ?_ ?_
                 rotate_left
                 ·
                  intro w'
                  go_simp
                  with_reducible rfl
                 rotate_left
                 ·
                  simp only [Act.put, s1, s2, s3, i64_w, i32_w]
                  rfl
                 refine pure_ (i := 23) (N := some 151) (v := ?_) (a' := ?_) (bl true [24, 46]) rfl rfl (any_of HT_.out (by kernel_rfl)) (fun _ _ _ h => h) (Or.inl ⟨by rfl, ?_⟩) ?_ ?_
                 rotate_left
                 ·
                  intro w'
                  go_simp
                  with_reducible rfl
                 rotate_left
                 ·
                  simp only [Act.put, s1, s2, s3, i64_w, i32_w]
                  rfl
                 refine pure_ (i := 24) (N := some 152) (v := ?_) (a' := ?_) (bl true [25, 45]) rfl rfl (any_of HT_.out (by kernel_rfl)) (fun _ _ _ h => h) (Or.inl ⟨by rfl, ?_⟩) ?_ ?_
                 rotate_left
                 ·
                  intro w'
                  go_simp
                  with_reducible rfl
                 rotate_left
                 ·
                  simp only [Act.put, s1, s2, s3, i64_w, i32_w]
                  rfl
                 refine pure_ (i := 25) (N := some 153) (v := ?_) (a' := ?_) (bl true [26, 44]) rfl rfl (any_of HT_.out (by kernel_rfl)) (fun _ _ _ h => h) (Or.inl ⟨by rfl, ?_⟩) ?_ ?_
                 rotate_left
                 ·
                  intro w'
                  go_simp
                  with_reducible rfl
                 rotate_left
                 ·
                  simp only [Act.put, s1, s2, s3, i64_w, i32_w]
                  rfl
                 refine pure_ (i := 26) (N := some 154) (v := ?_) (a' := ?_) (bl true [27, 43]) rfl rfl (any_of HT_.out (by kernel_rfl)) (fun _ _ _ h => h) (Or.inl ⟨by rfl, ?_⟩) ?_ ?_
                 rotate_left
                 ·
                  intro w'
                  go_simp
                  with_reducible rfl
                 rotate_left
                 ·
                  simp only [Act.put, s1, s2, s3, i64_w, i32_w]
                  rfl
                 refine pure_ (i := 27) (N := some 155) (v := ?_) (a' := ?_) (bl true [28, 42]) rfl rfl (any_of HT_.out (by kernel_rfl)) (fun _ _ _ h => h) (Or.inl ⟨by rfl, ?_⟩) ?_ ?_
                 rotate_left
                 ·
                  intro w'
                  go_simp
                  with_reducible rfl
                 rotate_left
                 ·
                  simp only [Act.put, s1, s2, s3, i64_w, i32_w]
                  rfl
                 refine pure_ (i := 28) (N := some 156) (v := ?_) (a' := ?_) (bl true [29, 41]) rfl rfl (any_of HT_.out (by kernel_rfl)) (fun _ _ _ h => h) (Or.inl ⟨by rfl, ?_⟩) ?_ ?_
                 rotate_left
                 ·
                  intro w'
                  go_simp
                  with_reducible rfl
                 rotate_left
                 ·
                  simp only [Act.put, s1, s2, s3, i64_w, i32_w]
                  rfl
                 refine pure_ (i := 29) (N := some 157) (v := ?_) (a' := ?_) (bl true [30, 40]) rfl rfl (any_of HT_.out (by kernel_rfl)) (fun _ _ _ h => h) (Or.inl ⟨by rfl, ?_⟩) ?_ ?_
                 rotate_left
                 ·
                  intro w'
                  go_simp
                  with_reducible rfl
                 rotate_left
                 ·
                  simp only [Act.put, s1, s2, s3, i64_w, i32_w]
                  rfl
                 refine pure_ (i := 30) (N := some 158) (v := ?_) (a' := ?_) (bl true [31, 39]) rfl rfl (any_of HT_.out (by kernel_rfl)) (fun _ _ _ h => h) (Or.inl ⟨by rfl, ?_⟩) ?_ ?_
                 rotate_left
                 ·
                  intro w'
                  go_simp
                  with_reducible rfl
                 rotate_left
                 ·
                  simp only [Act.put, s1, s2, s3, i64_w, i32_w]
                  rfl
                 refine pure_ (i := 31) (N := some 159) (v := ?_) (a' := ?_) (bl true [32, 38]) rfl rfl (any_of HT_.out (by kernel_rfl)) (fun _ _ _ h => h) (Or.inl ⟨by rfl, ?_⟩) ?_ ?_
                 rotate_left
                 ·
                  intro w'
                  go_simp
                  with_reducible rfl
                 rotate_left
                 ·
                  simp only [Act.put, s1, s2, s3, i64_w, i32_w]
                  rfl
                 refine pure_ (i := 32) (N := some 160) (v := ?_) (a' := ?_) (bl true [33, 37]) rfl rfl (any_of HT_.out (by kernel_rfl)) (fun _ _ _ h => h) (Or.inl ⟨by rfl, ?_⟩) ?_ ?_
                 rotate_left
                 ·
                  intro w'
                  go_simp
                  with_reducible rfl
                 rotate_left
                 ·
                  simp only [Act.put, s1, s2, s3, i64_w, i32_w]
                  rfl
                 refine pure_ (i := 33) (N := some 161) (v := ?_) (a' := ?_) (bl true [34, 36]) rfl rfl (any_of HT_.out (by kernel_rfl)) (fun _ _ _ h => h) (Or.inl ⟨by rfl, ?_⟩) ?_ ?_
                 rotate_left
                 ·
                  intro w'
                  go_simp
                  with_reducible rfl
                 rotate_left
                 ·
                  simp only [Act.put, s1, s2, s3, i64_w, i32_w]
                  rfl
                 refine pure_ (i := 34) (N := some 162) (v := ?_) (a' := ?_) (bl true [35, 35]) rfl rfl (any_of HT_.out (by kernel_rfl)) (fun _ _ _ h => h) (Or.inl ⟨by rfl, ?_⟩) ?_ ?_
                 rotate_left
                 ·
                  intro w'
                  go_simp
                  with_reducible rfl
                 rotate_left
                 ·
                  simp only [Act.put, s1, s2, s3, i64_w, i32_w]
                  rfl
                 refine pure_ (i := 35) (N := some 163) (v := ?_) (a' := ?_) (bl true [36, 34]) rfl rfl (any_of HT_.out (by kernel_rfl)) (fun _ _ _ h => h) (Or.inl ⟨by rfl, ?_⟩) ?_ ?_
                 rotate_left
                 ·
                  intro w'
                  go_simp
                  with_reducible rfl
                 rotate_left
                 ·
                  simp only [Act.put, s1, s2, s3, i64_w, i32_w]
                  rfl
                 refine pure_ (i := 36) (N := some 164) (v := ?_) (a' := ?_) (bl true [37, 33]) rfl rfl (any_of HT_.out (by kernel_rfl)) (fun _ _ _ h => h) (Or.inl ⟨by rfl, ?_⟩) ?_ ?_
                 rotate_left
                 ·
                  intro w'
                  go_simp
                  with_reducible rfl
                 rotate_left
                 ·
                  simp only [Act.put, s1, s2, s3, i64_w, i32_w]
                  rfl
                 refine pure_ (i := 37) (N := some 165) (v := ?_) (a' := ?_) (bl true [38, 32]) rfl rfl (any_of HT_.out (by kernel_rfl)) (fun _ _ _ h => h) (Or.inl ⟨by rfl, ?_⟩) ?_ ?_
                 rotate_left
                 ·
                  intro w'
                  go_simp
                  with_reducible rfl
                 rotate_left
                 ·
                  simp only [Act.put, s1, s2, s3, i64_w, i32_w]
                  rfl
                 refine pure_ (i := 38) (N := some 166) (v := ?_) (a' := ?_) (bl true [39, 31]) rfl rfl (any_of HT_.out (by kernel_rfl)) (fun _ _ _ h => h) (Or.inl ⟨by rfl, ?_⟩) ?_ ?_
                 rotate_left
                 ·
                  intro w'
                  go_simp
                  with_reducible rfl
                 rotate_left
                 ·
                  simp only [Act.put, s1, s2, s3, i64_w, i32_w]
                  rfl
                 refine pure_ (i := 39) (N := some 167) (v := ?_) (a' := ?_) (bl true [40, 30]) rfl rfl (any_of HT_.out (by kernel_rfl)) (fun _ _ _ h => h) (Or.inl ⟨by rfl, ?_⟩) ?_ ?_
                 rotate_left
                 ·
                  intro w'
                  go_simp
                  with_reducible rfl
                 rotate_left
                 ·
                  simp only [Act.put, s1, s2, s3, i64_w, i32_w]
                  rfl
                 refine pure_ (i := 40) (N := some 168) (v := ?_) (a' := ?_) (bl true [41, 29]) rfl rfl (any_of HT_.out (by kernel_rfl)) (fun _ _ _ h => h) (Or.inl ⟨by rfl, ?_⟩) ?_ ?_
                 rotate_left
                 ·
                  intro w'
                  go_simp
                  with_reducible rfl
                 rotate_left
                 ·
                  simp only [Act.put, s1, s2, s3, i64_w, i32_w]
                  rfl
                 refine pure_ (i := 41) (N := some 169) (v := ?_) (a' := ?_) (bl true [42, 28]) rfl rfl (any_of HT_.out (by kernel_rfl)) (fun _ _ _ h => h) (Or.inl ⟨by rfl, ?_⟩) ?_ ?_
                 rotate_left
                 ·
                  intro w'
                  go_simp
                  with_reducible rfl
                 rotate_left
                 ·
                  simp only [Act.put, s1, s2, s3, i64_w, i32_w]
                  rfl
                 refine pure_ (i := 42) (N := some 170) (v := ?_) (a' := ?_) (bl true [43, 27]) rfl rfl (any_of HT_.out (by kernel_rfl)) (fun _ _ _ h => h) (Or.inl ⟨by rfl, ?_⟩) ?_ ?_
                 rotate_left
                 ·
                  intro w'
                  go_simp
                  with_reducible rfl
                 rotate_left
                 ·
                  simp only [Act.put, s1, s2, s3, i64_w, i32_w]
                  rfl
                 refine pure_ (i := 43) (N := some 171) (v := ?_) (a' := ?_) (bl true [44, 26]) rfl rfl (any_of HT_.out (by kernel_rfl)) (fun _ _ _ h => h) (Or.inl ⟨by rfl, ?_⟩) ?_ ?_
                 rotate_left
                 ·
                  intro w'
                  go_simp
                  with_reducible rfl
                 rotate_left
                 ·
                  simp only [Act.put, s1, s2, s3, i64_w, i32_w]
                  rfl
                 refine pure_ (i := 44) (N := some 172) (v := ?_) (a' := ?_) (bl true [45, 25]) rfl rfl (any_of HT_.out (by kernel_rfl)) (fun _ _ _ h => h) (Or.inl ⟨by rfl, ?_⟩) ?_ ?_
                 rotate_left
                 ·
                  intro w'
                  go_simp
                  with_reducible rfl
                 rotate_left
                 ·
                  simp only [Act.put, s1, s2, s3, i64_w, i32_w]
                  rfl
                 refine pure_ (i := 45) (N := some 173) (v := ?_) (a' := ?_) (bl true [46, 24]) rfl rfl (any_of HT_.out (by kernel_rfl)) (fun _ _ _ h => h) (Or.inl ⟨by rfl, ?_⟩) ?_ ?_
                 rotate_left
                 ·
                  intro w'
                  go_simp
                  with_reducible rfl
                 rotate_left
                 ·
                  simp only [Act.put, s1, s2, s3, i64_w, i32_w]
                  rfl
                 refine pure_ (i := 46) (N := some 174) (v := ?_) (a' := ?_) (bl true [47, 23]) rfl rfl (any_of HT_.out (by kernel_rfl)) (fun _ _ _ h => h) (Or.inl ⟨by rfl, ?_⟩) ?_ ?_
                 rotate_left
                 ·
                  intro w'
                  go_simp
                  with_reducible rfl
                 rotate_left
                 ·
                  simp only [Act.put, s1, s2, s3, i64_w, i32_w]
                  rfl
                 refine pure_ (i := 47) (N := some 175) (v := ?_) (a' := ?_) (bl true [48, 22]) rfl rfl (any_of HT_.out (by kernel_rfl)) (fun _ _ _ h => h) (Or.inl ⟨by rfl, ?_⟩) ?_ ?_
                 rotate_left
                 ·
                  intro w'
                  go_simp
                  with_reducible rfl
                 rotate_left
                 ·
                  simp only [Act.put, s1, s2, s3, i64_w, i32_w]
                  rfl
                 refine pure_ (i := 48) (N := some 176) (v := ?_) (a' := ?_) (bl true [49, 21]) rfl rfl (any_of HT_.out (by kernel_rfl)) (fun _ _ _ h => h) (Or.inl ⟨by rfl, ?_⟩) ?_ ?_
                 rotate_left
                 ·
                  intro w'
                  go_simp
                  with_reducible rfl
                 rotate_left
                 ·
                  simp only [Act.put, s1, s2, s3, i64_w, i32_w]
                  rfl
                 refine pure_ (i := 49) (N := some 177) (v := ?_) (a' := ?_) (bl true [50, 20]) rfl rfl (any_of HT_.out (by kernel_rfl)) (fun _ _ _ h => h) (Or.inl ⟨by rfl, ?_⟩) ?_ ?_
                 rotate_left
                 ·
                  intro w'
                  go_simp
                  with_reducible rfl
                 rotate_left
                 ·
                  simp only [Act.put, s1, s2, s3, i64_w, i32_w]
                  rfl
                 refine pure_ (i := 50) (N := some 178) (v := ?_) (a' := ?_) (bl true [51, 19]) rfl rfl (any_of HT_.out (by kernel_rfl)) (fun _ _ _ h => h) (Or.inl ⟨by rfl, ?_⟩) ?_ ?_
                 rotate_left
                 ·
                  intro w'
                  go_simp
                  with_reducible rfl
                 rotate_left
                 ·
                  simp only [Act.put, s1, s2, s3, i64_w, i32_w]
                  rfl
                 refine pure_ (i := 51) (N := some 179) (v := undef) (a' := ?_) (bl true [52, 18]) rfl rfl (any_of HT_.out (by kernel_rfl)) (fun _ _ _ h => h) (Or.inr ⟨by rfl, rfl⟩) ?_ ?_
                 rotate_left
                 ·
                  simp only [Act.put, s1, s2, s3, i64_w, i32_w]
                  rfl
                 refine pure_ (i := 52) (N := some 180) (v := undef) (a' := ?_) (bl true [53, 17]) rfl rfl (any_of HT_.out (by kernel_rfl)) (fun _ _ _ h => h) (Or.inr ⟨by rfl, rfl⟩) ?_ ?_
                 rotate_left
                 ·
                  simp only [Act.put, s1, s2, s3, i64_w, i32_w]
                  rfl
                 refine pure_ (i := 53) (N := some 181) (v := ?_) (a' := ?_) (bl true [54, 16]) rfl rfl (any_of HT_.out (by kernel_rfl)) (fun _ _ _ h => h) (Or.inl ⟨by rfl, ?_⟩) ?_ ?_
                 rotate_left
                 ·
                  intro w'
                  go_simp
                  with_reducible rfl
                 rotate_left
                 ·
                  simp only [Act.put, s1, s2, s3, i64_w, i32_w]
                  rfl
                 refine pure_ (i := 54) (N := some 182) (v := ?_) (a' := ?_) (bl true [55, 15]) rfl rfl (any_of HT_.out (by kernel_rfl)) (fun _ _ _ h => h) (Or.inl ⟨by rfl, ?_⟩) ?_ ?_
                 rotate_left
                 ·
                  intro w'
                  go_simp
                  with_reducible rfl
                 rotate_left
                 ·
                  simp only [Act.put, s1, s2, s3, i64_w, i32_w]
                  rfl
                 refine pure_ (i := 55) (N := some 183) (v := ?_) (a' := ?_) (bl true [56, 14]) rfl rfl (any_of HT_.out (by kernel_rfl)) (fun _ _ _ h => h) (Or.inl ⟨by rfl, ?_⟩) ?_ ?_
                 rotate_left
                 ·
                  intro w'
                  go_simp
                  with_reducible rfl
                 rotate_left
                 ·
                  simp only [Act.put, s1, s2, s3, i64_w, i32_w]
                  rfl
                 refine take_ (i := 56) (N := some 184) (v := ?_) (a' := ?_) (bl true [57, 13]) rfl rfl (take_ofW HT_.out HW_.out (by kernel_rfl)) (fun _ _ _ h => h) (Or.inl ⟨by rfl, ?_⟩) hHeld ?_ ?_
                 rotate_left
                 ·
                  rintro w' ⟨s0, s1, s2⟩
                  go_simp
                  with_reducible rfl
                 rotate_left
                 ·
                  simp only [Act.put, s1, s2, s3, i64_w, i32_w]
                  rfl
                 refine take_ (i := 58) (N := some 186) (v := ?_) (a' := ?_) (bl true [57, 1, 1, 11]) rfl rfl (take_ofW HT_.out HW_.out (by kernel_rfl)) (fun _ _ _ h => h) (Or.inl ⟨by rfl, ?_⟩) hHeld ?_ ?_
                 rotate_left
                 ·
                  rintro w' ⟨s0, s1, s2⟩
                  go_simp
                  with_reducible rfl
                 rotate_left
                 ·
                  simp only [Act.put, s1, s2, s3, i64_w, i32_w]
                  rfl
                 refine one_ (i := 57) (N := some 185) (bl true [59, 11]) rfl rfl (one_of HT_.out (by kernel_rfl)) (by decide) (fun K hK => ?_)
                 refine goes_ Try.func24 (by kernel_rfl) rfl #[.agg #[.int .i64 t283, .int .i64 t284, .int .i64 t285]] (by rfl) rfl rfl (by (try simp only [List.map_toArray, List.map_cons, List.map_nil]); first | done | rfl | (simp only [List.length_drop, List.length_take]; rfl)) ?_
                 with_reducible refine (impl_IsLeapRule.calls t283 t284 t285 t307 _ A53.out).mono ?_
                 rintro e w59 ⟨rfl, hb⟩
                 refine ⟨_, rfl, ?_⟩
                 have n0_ := Aside0.mk (blk_below (g := gb287) (by (with_reducible repeat (first | refine blk_drewN ?_ _ | refine blk_drew ?_ | refine blk_alloc ?_ _)); exact BK287.out) hb)
                 have n1_ := Aside0.mk (below_step (by repeat (first | (with_reducible first | exact HB.out | apply below_alloc | apply pw_below_drewN | apply below_drew1 | refine below_set ?_ GE287.out) | exact HB.out)) hb)
                 clear BK287
                 clear HB
                 have BK287 := n0_
                 have HB := n1_
                 clear n0_ n1_
                 (try clear hb)
                 (try clear hb2)
                 (try clear hk)
                 (try clear hi)
                 refine hK.out _ _ ⟨(blk_cell BK287.out 0).trans rfl, (blk_cell BK287.out 1).trans rfl, (blk_cell BK287.out 2).trans rfl⟩ (fun hHeld => ?_)
                 clear hK K
                 refine norm_ (a' := ?_) ?_ ?_
                 rotate_left
                 ·
                  show Act.put _ (some 185) _ = _
                  simp only [Act.put, s1, s2, s3, i64_w, i32_w]
                  rfl
                 refine one_ (i := 59) (N := some 187) (bl true [60, 10]) rfl rfl (one_of HT_.out (by kernel_rfl)) (by decide) (fun K hK => ?_)
                 refine goes_ Try.func25 (by kernel_rfl) rfl #[.agg #[.int .i64 t283, .int .i64 t284, .int .i64 t285]] (by rfl) rfl rfl (by (try simp only [List.map_toArray, List.map_cons, List.map_nil]); first | done | rfl | (simp only [List.length_drop, List.length_take]; rfl)) ?_
                 with_reducible refine (spec_IsLeapRule.calls k t283 t284 t285 t308 _ A54.out).mono ?_
                 rintro e w60 ⟨rfl, hb⟩
                 refine ⟨_, rfl, ?_⟩
                 have n0_ := Aside0.mk (blk_below (g := gb287) (by (with_reducible repeat (first | refine blk_drewN ?_ _ | refine blk_drew ?_ | refine blk_alloc ?_ _)); exact BK287.out) hb)
                 have n1_ := Aside0.mk (below_step (by repeat (first | (with_reducible first | exact HB.out | apply below_alloc | apply pw_below_drewN | apply below_drew1 | refine below_set ?_ GE287.out) | exact HB.out)) hb)
                 clear BK287
                 clear HB
                 have BK287 := n0_
                 have HB := n1_
                 clear n0_ n1_
                 (try clear hb)
                 (try clear hb2)
                 (try clear hk)
                 (try clear hi)
                 refine hK.out _ _ ⟨(blk_cell BK287.out 0).trans rfl, (blk_cell BK287.out 1).trans rfl, (blk_cell BK287.out 2).trans rfl⟩ (fun hHeld => ?_)
                 clear hK K
                 refine norm_ (a' := ?_) ?_ ?_
                 rotate_left
                 ·
                  show Act.put _ (some 187) _ = _
                  simp only [Act.put, s1, s2, s3, i64_w, i32_w]
                  rfl
                 refine pure_ (i := 60) (N := some 188) (v := ?_) (a' := ?_) (bl true [61, 9]) rfl rfl (any_of HT_.out (by kernel_rfl)) (fun _ _ _ h => h) (Or.inl ⟨by rfl, ?_⟩) ?_ ?_
                 rotate_left
                 ·
                  intro w'
                  go_simp
                  with_reducible rfl
                 rotate_left
                 ·
                  simp only [Act.put, s1, s2, s3, i64_w, i32_w]
                  rfl
                 refine pure_ (i := 61) (N := some 189) (v := ?_) (a' := ?_) (bl true [62, 8]) rfl rfl (any_of HT_.out (by kernel_rfl)) (fun _ _ _ h => h) (Or.inl ⟨by rfl, ?_⟩) ?_ ?_
                 rotate_left
                 ·
                  intro w'
                  go_simp
                  with_reducible rfl
                 rotate_left
                 ·
                  simp only [Act.put, s1, s2, s3, i64_w, i32_w]
                  rfl
                 refine pure_ (i := 62) (N := some 190) (v := ?_) (a' := ?_) (bl true [63, 7]) rfl rfl (any_of HT_.out (by kernel_rfl)) (fun _ _ _ h => h) (Or.inl ⟨by rfl, ?_⟩) ?_ ?_
                 rotate_left
                 ·
                  intro w'
                  go_simp
                  with_reducible rfl
                 rotate_left
                 ·
                  simp only [Act.put, s1, s2, s3, i64_w, i32_w]
                  rfl
                 refine pure_ (i := 63) (N := some 191) (v := ?_) (a' := ?_) (bl true [64, 6]) rfl rfl (any_of HT_.out (by kernel_rfl)) (fun _ _ _ h => h) (Or.inl ⟨by rfl, ?_⟩) ?_ ?_
                 rotate_left
                 ·
                  intro w'
                  go_simp
                  with_reducible rfl
                 rotate_left
                 ·
                  simp only [Act.put, s1, s2, s3, i64_w, i32_w]
                  rfl
                 refine pure_ (i := 64) (N := some 192) (v := ?_) (a' := ?_) (bl true [65, 5]) rfl rfl (any_of HT_.out (by kernel_rfl)) (fun _ _ _ h => h) (Or.inl ⟨by rfl, ?_⟩) ?_ ?_
                 rotate_left
                 ·
                  intro w'
                  go_simp
                  with_reducible rfl
                 rotate_left
                 ·
                  simp only [Act.put, s1, s2, s3, i64_w, i32_w]
                  rfl
                 refine take_ (i := 65) (N := some 193) (v := ?_) (a' := ?_) (bl true [66, 4]) rfl rfl (take_ofW HT_.out HW_.out (by kernel_rfl)) (fun _ _ _ h => h) (Or.inl ⟨by rfl, ?_⟩) hHeld ?_ ?_
                 rotate_left
                 ·
                  rintro w' ⟨s0, s1, s2⟩
                  go_simp
                  with_reducible rfl
                 rotate_left
                 ·
                  simp only [Act.put, s1, s2, s3, i64_w, i32_w]
                  rfl
                 refine one_ (i := 66) (N := some 194) (bl true [67, 3]) rfl rfl (one_of HT_.out (by kernel_rfl)) (by decide) (fun K hK => ?_)
                 refine goes_ Try.func24 (by kernel_rfl) rfl #[.agg #[.int .i64 t283, .int .i64 t284, .int .i64 t285]] (by rfl) rfl rfl (by (try simp only [List.map_toArray, List.map_cons, List.map_nil]); first | done | rfl | (simp only [List.length_drop, List.length_take]; rfl)) ?_
                 with_reducible refine (impl_IsLeapRule.calls t283 t284 t285 t309 _ A57.out).mono ?_
                 rintro e w61 ⟨rfl, hb⟩
                 refine ⟨_, rfl, ?_⟩
                 have n0_ := Aside0.mk (blk_below (g := gb287) (by (with_reducible repeat (first | refine blk_drewN ?_ _ | refine blk_drew ?_ | refine blk_alloc ?_ _)); exact BK287.out) hb)
                 have n1_ := Aside0.mk (below_step (by repeat (first | (with_reducible first | exact HB.out | apply below_alloc | apply pw_below_drewN | apply below_drew1 | refine below_set ?_ GE287.out) | exact HB.out)) hb)
                 clear BK287
                 clear HB
                 have BK287 := n0_
                 have HB := n1_
                 clear n0_ n1_
                 (try clear hb)
                 (try clear hb2)
                 (try clear hk)
                 (try clear hi)
                 refine hK.out _ _ ⟨(blk_cell BK287.out 0).trans rfl, (blk_cell BK287.out 1).trans rfl, (blk_cell BK287.out 2).trans rfl⟩ (fun hHeld => ?_)
                 clear hK K
                 refine norm_ (a' := ?_) ?_ ?_
                 rotate_left
                 ·
                  show Act.put _ (some 194) _ = _
                  simp only [Act.put, s1, s2, s3, i64_w, i32_w]
                  rfl
                 refine pure_ (i := 67) (N := some 195) (v := ?_) (a' := ?_) (bl true [68, 2]) rfl rfl (any_of HT_.out (by kernel_rfl)) (fun _ _ _ h => h) (Or.inl ⟨by rfl, ?_⟩) ?_ ?_
                 rotate_left
                 ·
                  intro w'
                  go_simp
                  with_reducible rfl
                 rotate_left
                 ·
                  simp only [Act.put, s1, s2, s3, i64_w, i32_w]
                  rfl
                 refine pure_ (i := 68) (N := some 196) (v := ?_) (a' := ?_) (bl true [69, 1]) rfl rfl (any_of HT_.out (by kernel_rfl)) (fun _ _ _ h => h) (Or.inl ⟨by rfl, ?_⟩) ?_ ?_
                 rotate_left
                 ·
                  intro w'
                  go_simp
                  with_reducible rfl
                 rotate_left
                 ·
                  simp only [Act.put, s1, s2, s3, i64_w, i32_w]
                  rfl
                 refine pure_ (i := 69) (N := some 197) (v := ?_) (a' := ?_) (bl true [70]) rfl rfl (any_of HT_.out (by kernel_rfl)) (fun _ _ _ h => h) (Or.inl ⟨by rfl, ?_⟩) ?_ ?_
                 rotate_left
                 ·
                  intro w'
                  go_simp
                  with_reducible rfl
                 rotate_left
                 ·
                  simp only [Act.put, s1, s2, s3, i64_w, i32_w]
                  rfl
                 refine done_ (done_of HT_.out (by kernel_rfl)) ?_
                 try go_wp2
                 go_meet
                 case rel => exact ⟨_, (!t309), (by first | rfl | (simp; done) | (simp [*]; done)), H', ⟨by first | omega | exact Nat.le_refl _⟩, ⟨by (with_reducible repeat (first | refine blk_drewN ?_ _ | refine blk_drew ?_ | refine blk_alloc ?_ _)); exact BK287.out⟩, ⟨by repeat (first | (with_reducible first | exact HB.out | apply below_alloc | apply pw_below_drewN | apply below_drew1 | refine below_set ?_ GE287.out) | exact HB.out)⟩⟩
               ·
                replace c56 := Bool.eq_false_iff.mpr c56
                subst c56
                have H1 : (j0 k l1 t286 t288 false t292 t296 t300 false false t283 t284 t285) = some r := by rw [if_neg (show ¬ (false = true) by decide)] at H; exact H
                clear H
                have H := H1
                clear H1
                as_aux_lemma =>
                 have H' := Aside0.mk H
                 clear H
                 try go_wp2
                 have n0_ := Aside0.mk (blk_drew BK287.out)
                 have n1_ := Aside0.mk (below_drew1 HB.out)
                 clear BK287
                 clear HB
                 have BK287 := n0_
                 have HB := n1_
                 clear n0_ n1_
                 refine start_ (n := 70) (S := fun w' => w'.cell? ⟨gb287, 0, none⟩ = some (.int .i64 t283) ∧ w'.cell? ⟨gb287, 1, none⟩ = some (.int .i64 t284) ∧ w'.cell? ⟨gb287, 2, none⟩ = some (.int .i64 t285)) (ds := []) (bl true [0, 70]) (by kernel_rfl) rfl rfl ⟨(blk_cell BK287.out 0).trans rfl, (blk_cell BK287.out 1).trans rfl, (blk_cell BK287.out 2).trans rfl⟩ (fun hHeld => ?_); refine with_tabW laws_FnLeapsCounted.tab12 laws_FnLeapsCounted.bits12 (fun HT_ HW_ => ?_)
                 generalize w32.drew = w62 at BK287 HB hHeld ⊢
                 refine pure_ (i := 0) (N := some 128) (v := ?_) (a' := ?_) (bl true [1, 69]) rfl rfl (any_of HT_.out (by kernel_rfl)) (fun _ _ _ h => h) (Or.inl ⟨by rfl, ?_⟩) ?_ ?_
                 rotate_left
                 ·
                  intro w'
                  go_simp
                  with_reducible rfl
                 rotate_left
                 ·
                  simp only [Act.put, s1, s2, s3, i64_w, i32_w]
                  rfl
                 refine pure_ (i := 1) (N := some 129) (v := ?_) (a' := ?_) (bl true [2, 68]) rfl rfl (any_of HT_.out (by kernel_rfl)) (fun _ _ _ h => h) (Or.inl ⟨by rfl, ?_⟩) ?_ ?_
                 rotate_left
                 ·
                  intro w'
                  go_simp
                  with_reducible rfl
                 rotate_left
                 ·
                  simp only [Act.put, s1, s2, s3, i64_w, i32_w]
                  rfl
                 refine pure_ (i := 2) (N := some 130) (v := ?_) (a' := ?_) (bl true [3, 67]) rfl rfl (any_of HT_.out (by kernel_rfl)) (fun _ _ _ h => h) (Or.inl ⟨by rfl, ?_⟩) ?_ ?_
                 rotate_left
                 ·
                  intro w'
                  go_simp
                  with_reducible rfl
                 rotate_left
                 ·
                  simp only [Act.put, s1, s2, s3, i64_w, i32_w]
                  rfl
                 refine pure_ (i := 3) (N := some 131) (v := ?_) (a' := ?_) (bl true [4, 66]) rfl rfl (any_of HT_.out (by kernel_rfl)) (fun _ _ _ h => h) (Or.inl ⟨by rfl, ?_⟩) ?_ ?_
                 rotate_left
                 ·
                  intro w'
                  go_simp
                  with_reducible rfl
                 rotate_left
                 ·
                  simp only [Act.put, s1, s2, s3, i64_w, i32_w]
                  rfl
                 refine pure_ (i := 4) (N := some 132) (v := ?_) (a' := ?_) (bl true [5, 65]) rfl rfl (any_of HT_.out (by kernel_rfl)) (fun _ _ _ h => h) (Or.inl ⟨by rfl, ?_⟩) ?_ ?_
                 rotate_left
                 ·
                  intro w'
                  go_simp
                  with_reducible rfl
                 rotate_left
                 ·
                  simp only [Act.put, s1, s2, s3, i64_w, i32_w]
                  rfl
                 refine pure_ (i := 5) (N := some 133) (v := ?_) (a' := ?_) (bl true [6, 64]) rfl rfl (any_of HT_.out (by kernel_rfl)) (fun _ _ _ h => h) (Or.inl ⟨by rfl, ?_⟩) ?_ ?_
                 rotate_left
                 ·
                  intro w'
                  go_simp
                  with_reducible rfl
                 rotate_left
                 ·
                  simp only [Act.put, s1, s2, s3, i64_w, i32_w]
                  rfl
                 refine pure_ (i := 6) (N := some 134) (v := ?_) (a' := ?_) (bl true [7, 63]) rfl rfl (any_of HT_.out (by kernel_rfl)) (fun _ _ _ h => h) (Or.inl ⟨by rfl, ?_⟩) ?_ ?_
                 rotate_left
                 ·
                  intro w'
                  go_simp
                  with_reducible rfl
                 rotate_left
                 ·
                  simp only [Act.put, s1, s2, s3, i64_w, i32_w]
                  rfl
                 refine pure_ (i := 7) (N := some 135) (v := ?_) (a' := ?_) (bl true [8, 62]) rfl rfl (any_of HT_.out (by kernel_rfl)) (fun _ _ _ h => h) (Or.inl ⟨by rfl, ?_⟩) ?_ ?_
                 rotate_left
                 ·
                  intro w'
                  go_simp
                  with_reducible rfl
                 rotate_left
                 ·
                  simp only [Act.put, s1, s2, s3, i64_w, i32_w]
                  rfl
                 refine pure_ (i := 8) (N := some 136) (v := ?_) (a' := ?_) (bl true [9, 61]) rfl rfl (any_of HT_.out (by kernel_rfl)) (fun _ _ _ h => h) (Or.inl ⟨by rfl, ?_⟩) ?_ ?_
                 rotate_left
                 ·
                  intro w'
                  go_simp
                  with_reducible rfl
                 rotate_left
                 ·
                  simp only [Act.put, s1, s2, s3, i64_w, i32_w]
                  rfl
                 refine pure_ (i := 9) (N := some 137) (v := ?_) (a' := ?_) (bl true [10, 60]) rfl rfl (any_of HT_.out (by kernel_rfl)) (fun _ _ _ h => h) (Or.inl ⟨by rfl, ?_⟩) ?_ ?_
                 rotate_left
                 ·
                  intro w'
                  go_simp
                  with_reducible rfl
                 rotate_left
                 ·
                  simp only [Act.put, s1, s2, s3, i64_w, i32_w]
                  rfl
                 refine pure_ (i := 10) (N := some 138) (v := ?_) (a' := ?_) (bl true [11, 59]) rfl rfl (any_of HT_.out (by kernel_rfl)) (fun _ _ _ h => h) (Or.inl ⟨by rfl, ?_⟩) ?_ ?_
                 rotate_left
                 ·
                  intro w'
                  go_simp
                  with_reducible rfl
                 rotate_left
                 ·
                  simp only [Act.put, s1, s2, s3, i64_w, i32_w]
                  rfl
                 refine pure_ (i := 11) (N := some 139) (v := ?_) (a' := ?_) (bl true [12, 58]) rfl rfl (any_of HT_.out (by kernel_rfl)) (fun _ _ _ h => h) (Or.inl ⟨by rfl, ?_⟩) ?_ ?_
                 rotate_left
                 ·
                  intro w'
                  go_simp
                  with_reducible rfl
                 rotate_left
                 ·
                  simp only [Act.put, s1, s2, s3, i64_w, i32_w]
                  rfl
                 refine pure_ (i := 12) (N := some 140) (v := ?_) (a' := ?_) (bl true [13, 57]) rfl rfl (any_of HT_.out (by kernel_rfl)) (fun _ _ _ h => h) (Or.inl ⟨by rfl, ?_⟩) ?_ ?_
                 rotate_left
                 ·
                  intro w'
                  go_simp
                  with_reducible rfl
                 rotate_left
                 ·
                  simp only [Act.put, s1, s2, s3, i64_w, i32_w]
                  rfl
                 refine pure_ (i := 13) (N := some 141) (v := ?_) (a' := ?_) (bl true [14, 56]) rfl rfl (any_of HT_.out (by kernel_rfl)) (fun _ _ _ h => h) (Or.inl ⟨by rfl, ?_⟩) ?_ ?_
                 rotate_left
                 ·
                  intro w'
                  go_simp
                  with_reducible rfl
                 rotate_left
                 ·
                  simp only [Act.put, s1, s2, s3, i64_w, i32_w]
                  rfl
                 refine pure_ (i := 14) (N := some 142) (v := ?_) (a' := ?_) (bl true [15, 55]) rfl rfl (any_of HT_.out (by kernel_rfl)) (fun _ _ _ h => h) (Or.inl ⟨by rfl, ?_⟩) ?_ ?_
                 rotate_left
                 ·
                  intro w'
                  go_simp
                  with_reducible rfl
                 rotate_left
                 ·
                  simp only [Act.put, s1, s2, s3, i64_w, i32_w]
                  rfl
                 refine pure_ (i := 15) (N := some 143) (v := ?_) (a' := ?_) (bl true [16, 54]) rfl rfl (any_of HT_.out (by kernel_rfl)) (fun _ _ _ h => h) (Or.inl ⟨by rfl, ?_⟩) ?_ ?_
                 rotate_left
                 ·
                  intro w'
                  go_simp
                  with_reducible rfl
                 rotate_left
                 ·
                  simp only [Act.put, s1, s2, s3, i64_w, i32_w]
                  rfl
                 refine pure_ (i := 16) (N := some 144) (v := ?_) (a' := ?_) (bl true [17, 53]) rfl rfl (any_of HT_.out (by kernel_rfl)) (fun _ _ _ h => h) (Or.inl ⟨by rfl, ?_⟩) ?_ ?_
                 rotate_left
                 ·
                  intro w'
                  go_simp
                  with_reducible rfl
                 rotate_left
                 ·
                  simp only [Act.put, s1, s2, s3, i64_w, i32_w]
                  rfl
                 refine pure_ (i := 17) (N := some 145) (v := ?_) (a' := ?_) (bl true [18, 52]) rfl rfl (any_of HT_.out (by kernel_rfl)) (fun _ _ _ h => h) (Or.inl ⟨by rfl, ?_⟩) ?_ ?_
                 rotate_left
                 ·
                  intro w'
                  go_simp
                  with_reducible rfl
                 rotate_left
                 ·
                  simp only [Act.put, s1, s2, s3, i64_w, i32_w]
                  rfl
                 refine pure_ (i := 18) (N := some 146) (v := ?_) (a' := ?_) (bl true [19, 51]) rfl rfl (any_of HT_.out (by kernel_rfl)) (fun _ _ _ h => h) (Or.inl ⟨by rfl, ?_⟩) ?_ ?_
                 rotate_left
                 ·
                  intro w'
                  go_simp
                  with_reducible rfl
                 rotate_left
                 ·
                  simp only [Act.put, s1, s2, s3, i64_w, i32_w]
                  rfl
                 refine pure_ (i := 19) (N := some 147) (v := ?_) (a' := ?_) (bl true [20, 50]) rfl rfl (any_of HT_.out (by kernel_rfl)) (fun _ _ _ h => h) (Or.inl ⟨by rfl, ?_⟩) ?_ ?_
                 rotate_left
                 ·
                  intro w'
                  go_simp
                  with_reducible rfl
                 rotate_left
                 ·
                  simp only [Act.put, s1, s2, s3, i64_w, i32_w]
                  rfl
                 refine pure_ (i := 20) (N := some 148) (v := ?_) (a' := ?_) (bl true [21, 49]) rfl rfl (any_of HT_.out (by kernel_rfl)) (fun _ _ _ h => h) (Or.inl ⟨by rfl, ?_⟩) ?_ ?_
                 rotate_left
                 ·
                  intro w'
                  go_simp
                  with_reducible rfl
                 rotate_left
                 ·
                  simp only [Act.put, s1, s2, s3, i64_w, i32_w]
                  rfl
                 refine pure_ (i := 21) (N := some 149) (v := ?_) (a' := ?_) (bl true [22, 48]) rfl rfl (any_of HT_.out (by kernel_rfl)) (fun _ _ _ h => h) (Or.inl ⟨by rfl, ?_⟩) ?_ ?_
                 rotate_left
                 ·
                  intro w'
                  go_simp
                  with_reducible rfl
                 rotate_left
                 ·
                  simp only [Act.put, s1, s2, s3, i64_w, i32_w]
                  rfl
                 refine pure_ (i := 22) (N := some 150) (v := ?_) (a' := ?_) (bl true [23, 47]) rfl rfl (any_of HT_.out (by kernel_rfl)) (fun _ _ _ h => h) (Or.inl ⟨by rfl, ?_⟩) ?_ ?_
                 rotate_left
                 ·
                  intro w'
                  go_simp
                  with_reducible rfl
                 rotate_left
                 ·
                  simp only [Act.put, s1, s2, s3, i64_w, i32_w]
                  rfl
                 refine pure_ (i := 23) (N := some 151) (v := ?_) (a' := ?_) (bl true [24, 46]) rfl rfl (any_of HT_.out (by kernel_rfl)) (fun _ _ _ h => h) (Or.inl ⟨by rfl, ?_⟩) ?_ ?_
                 rotate_left
                 ·
                  intro w'
                  go_simp
                  with_reducible rfl
                 rotate_left
                 ·
                  simp only [Act.put, s1, s2, s3, i64_w, i32_w]
                  rfl
                 refine pure_ (i := 24) (N := some 152) (v := ?_) (a' := ?_) (bl true [25, 45]) rfl rfl (any_of HT_.out (by kernel_rfl)) (fun _ _ _ h => h) (Or.inl ⟨by rfl, ?_⟩) ?_ ?_
                 rotate_left
                 ·
                  intro w'
                  go_simp
                  with_reducible rfl
                 rotate_left
                 ·
                  simp only [Act.put, s1, s2, s3, i64_w, i32_w]
                  rfl
                 refine pure_ (i := 25) (N := some 153) (v := ?_) (a' := ?_) (bl true [26, 44]) rfl rfl (any_of HT_.out (by kernel_rfl)) (fun _ _ _ h => h) (Or.inl ⟨by rfl, ?_⟩) ?_ ?_
                 rotate_left
                 ·
                  intro w'
                  go_simp
                  with_reducible rfl
                 rotate_left
                 ·
                  simp only [Act.put, s1, s2, s3, i64_w, i32_w]
                  rfl
                 refine pure_ (i := 26) (N := some 154) (v := ?_) (a' := ?_) (bl true [27, 43]) rfl rfl (any_of HT_.out (by kernel_rfl)) (fun _ _ _ h => h) (Or.inl ⟨by rfl, ?_⟩) ?_ ?_
                 rotate_left
                 ·
                  intro w'
                  go_simp
                  with_reducible rfl
                 rotate_left
                 ·
                  simp only [Act.put, s1, s2, s3, i64_w, i32_w]
                  rfl
                 refine pure_ (i := 27) (N := some 155) (v := ?_) (a' := ?_) (bl true [28, 42]) rfl rfl (any_of HT_.out (by kernel_rfl)) (fun _ _ _ h => h) (Or.inl ⟨by rfl, ?_⟩) ?_ ?_
                 rotate_left
                 ·
                  intro w'
                  go_simp
                  with_reducible rfl
                 rotate_left
                 ·
                  simp only [Act.put, s1, s2, s3, i64_w, i32_w]
                  rfl
                 refine pure_ (i := 28) (N := some 156) (v := ?_) (a' := ?_) (bl true [29, 41]) rfl rfl (any_of HT_.out (by kernel_rfl)) (fun _ _ _ h => h) (Or.inl ⟨by rfl, ?_⟩) ?_ ?_
                 rotate_left
                 ·
                  intro w'
                  go_simp
                  with_reducible rfl
                 rotate_left
                 ·
                  simp only [Act.put, s1, s2, s3, i64_w, i32_w]
                  rfl
                 refine pure_ (i := 29) (N := some 157) (v := ?_) (a' := ?_) (bl true [30, 40]) rfl rfl (any_of HT_.out (by kernel_rfl)) (fun _ _ _ h => h) (Or.inl ⟨by rfl, ?_⟩) ?_ ?_
                 rotate_left
                 ·
                  intro w'
                  go_simp
                  with_reducible rfl
                 rotate_left
                 ·
                  simp only [Act.put, s1, s2, s3, i64_w, i32_w]
                  rfl
                 refine pure_ (i := 30) (N := some 158) (v := ?_) (a' := ?_) (bl true [31, 39]) rfl rfl (any_of HT_.out (by kernel_rfl)) (fun _ _ _ h => h) (Or.inl ⟨by rfl, ?_⟩) ?_ ?_
                 rotate_left
                 ·
                  intro w'
                  go_simp
                  with_reducible rfl
                 rotate_left
                 ·
                  simp only [Act.put, s1, s2, s3, i64_w, i32_w]
                  rfl
                 refine pure_ (i := 31) (N := some 159) (v := ?_) (a' := ?_) (bl true [32, 38]) rfl rfl (any_of HT_.out (by kernel_rfl)) (fun _ _ _ h => h) (Or.inl ⟨by rfl, ?_⟩) ?_ ?_
                 rotate_left
                 ·
                  intro w'
                  go_simp
                  with_reducible rfl
                 rotate_left
                 ·
                  simp only [Act.put, s1, s2, s3, i64_w, i32_w]
                  rfl
                 refine pure_ (i := 32) (N := some 160) (v := ?_) (a' := ?_) (bl true [33, 37]) rfl rfl (any_of HT_.out (by kernel_rfl)) (fun _ _ _ h => h) (Or.inl ⟨by rfl, ?_⟩) ?_ ?_
                 rotate_left
                 ·
                  intro w'
                  go_simp
                  with_reducible rfl
                 rotate_left
                 ·
                  simp only [Act.put, s1, s2, s3, i64_w, i32_w]
                  rfl
                 refine pure_ (i := 33) (N := some 161) (v := ?_) (a' := ?_) (bl true [34, 36]) rfl rfl (any_of HT_.out (by kernel_rfl)) (fun _ _ _ h => h) (Or.inl ⟨by rfl, ?_⟩) ?_ ?_
                 rotate_left
                 ·
                  intro w'
                  go_simp
                  with_reducible rfl
                 rotate_left
                 ·
                  simp only [Act.put, s1, s2, s3, i64_w, i32_w]
                  rfl
                 refine pure_ (i := 34) (N := some 162) (v := ?_) (a' := ?_) (bl true [35, 35]) rfl rfl (any_of HT_.out (by kernel_rfl)) (fun _ _ _ h => h) (Or.inl ⟨by rfl, ?_⟩) ?_ ?_
                 rotate_left
                 ·
                  intro w'
                  go_simp
                  with_reducible rfl
                 rotate_left
                 ·
                  simp only [Act.put, s1, s2, s3, i64_w, i32_w]
                  rfl
                 refine pure_ (i := 35) (N := some 163) (v := ?_) (a' := ?_) (bl true [36, 34]) rfl rfl (any_of HT_.out (by kernel_rfl)) (fun _ _ _ h => h) (Or.inl ⟨by rfl, ?_⟩) ?_ ?_
                 rotate_left
                 ·
                  intro w'
                  go_simp
                  with_reducible rfl
                 rotate_left
                 ·
                  simp only [Act.put, s1, s2, s3, i64_w, i32_w]
                  rfl
                 refine pure_ (i := 36) (N := some 164) (v := ?_) (a' := ?_) (bl true [37, 33]) rfl rfl (any_of HT_.out (by kernel_rfl)) (fun _ _ _ h => h) (Or.inl ⟨by rfl, ?_⟩) ?_ ?_
                 rotate_left
                 ·
                  intro w'
                  go_simp
                  with_reducible rfl
                 rotate_left
                 ·
                  simp only [Act.put, s1, s2, s3, i64_w, i32_w]
                  rfl
                 refine pure_ (i := 37) (N := some 165) (v := ?_) (a' := ?_) (bl true [38, 32]) rfl rfl (any_of HT_.out (by kernel_rfl)) (fun _ _ _ h => h) (Or.inl ⟨by rfl, ?_⟩) ?_ ?_
                 rotate_left
                 ·
                  intro w'
                  go_simp
                  with_reducible rfl
                 rotate_left
                 ·
                  simp only [Act.put, s1, s2, s3, i64_w, i32_w]
                  rfl
                 refine pure_ (i := 38) (N := some 166) (v := ?_) (a' := ?_) (bl true [39, 31]) rfl rfl (any_of HT_.out (by kernel_rfl)) (fun _ _ _ h => h) (Or.inl ⟨by rfl, ?_⟩) ?_ ?_
                 rotate_left
                 ·
                  intro w'
                  go_simp
                  with_reducible rfl
                 rotate_left
                 ·
                  simp only [Act.put, s1, s2, s3, i64_w, i32_w]
                  rfl
                 refine pure_ (i := 39) (N := some 167) (v := ?_) (a' := ?_) (bl true [40, 30]) rfl rfl (any_of HT_.out (by kernel_rfl)) (fun _ _ _ h => h) (Or.inl ⟨by rfl, ?_⟩) ?_ ?_
                 rotate_left
                 ·
                  intro w'
                  go_simp
                  with_reducible rfl
                 rotate_left
                 ·
                  simp only [Act.put, s1, s2, s3, i64_w, i32_w]
                  rfl
                 refine pure_ (i := 40) (N := some 168) (v := ?_) (a' := ?_) (bl true [41, 29]) rfl rfl (any_of HT_.out (by kernel_rfl)) (fun _ _ _ h => h) (Or.inl ⟨by rfl, ?_⟩) ?_ ?_
                 rotate_left
                 ·
                  intro w'
                  go_simp
                  with_reducible rfl
                 rotate_left
                 ·
                  simp only [Act.put, s1, s2, s3, i64_w, i32_w]
                  rfl
                 refine pure_ (i := 41) (N := some 169) (v := ?_) (a' := ?_) (bl true [42, 28]) rfl rfl (any_of HT_.out (by kernel_rfl)) (fun _ _ _ h => h) (Or.inl ⟨by rfl, ?_⟩) ?_ ?_
                 rotate_left
                 ·
                  intro w'
                  go_simp
                  with_reducible rfl
                 rotate_left
                 ·
                  simp only [Act.put, s1, s2, s3, i64_w, i32_w]
                  rfl
                 refine pure_ (i := 42) (N := some 170) (v := ?_) (a' := ?_) (bl true [43, 27]) rfl rfl (any_of HT_.out (by kernel_rfl)) (fun _ _ _ h => h) (Or.inl ⟨by rfl, ?_⟩) ?_ ?_
                 rotate_left
                 ·
                  intro w'
                  go_simp
                  with_reducible rfl
                 rotate_left
                 ·
                  simp only [Act.put, s1, s2, s3, i64_w, i32_w]
                  rfl
                 refine pure_ (i := 43) (N := some 171) (v := ?_) (a' := ?_) (bl true [44, 26]) rfl rfl (any_of HT_.out (by kernel_rfl)) (fun _ _ _ h => h) (Or.inl ⟨by rfl, ?_⟩) ?_ ?_
                 rotate_left
                 ·
                  intro w'
                  go_simp
                  with_reducible rfl
                 rotate_left
                 ·
                  simp only [Act.put, s1, s2, s3, i64_w, i32_w]
                  rfl
                 refine pure_ (i := 44) (N := some 172) (v := ?_) (a' := ?_) (bl true [45, 25]) rfl rfl (any_of HT_.out (by kernel_rfl)) (fun _ _ _ h => h) (Or.inl ⟨by rfl, ?_⟩) ?_ ?_
                 rotate_left
                 ·
                  intro w'
                  go_simp
                  with_reducible rfl
                 rotate_left
                 ·
                  simp only [Act.put, s1, s2, s3, i64_w, i32_w]
                  rfl
                 refine pure_ (i := 45) (N := some 173) (v := ?_) (a' := ?_) (bl true [46, 24]) rfl rfl (any_of HT_.out (by kernel_rfl)) (fun _ _ _ h => h) (Or.inl ⟨by rfl, ?_⟩) ?_ ?_
                 rotate_left
                 ·
                  intro w'
                  go_simp
                  with_reducible rfl
                 rotate_left
                 ·
                  simp only [Act.put, s1, s2, s3, i64_w, i32_w]
                  rfl
                 refine pure_ (i := 46) (N := some 174) (v := ?_) (a' := ?_) (bl true [47, 23]) rfl rfl (any_of HT_.out (by kernel_rfl)) (fun _ _ _ h => h) (Or.inl ⟨by rfl, ?_⟩) ?_ ?_
                 rotate_left
                 ·
                  intro w'
                  go_simp
                  with_reducible rfl
                 rotate_left
                 ·
                  simp only [Act.put, s1, s2, s3, i64_w, i32_w]
                  rfl
                 refine pure_ (i := 47) (N := some 175) (v := ?_) (a' := ?_) (bl true [48, 22]) rfl rfl (any_of HT_.out (by kernel_rfl)) (fun _ _ _ h => h) (Or.inl ⟨by rfl, ?_⟩) ?_ ?_
                 rotate_left
                 ·
                  intro w'
                  go_simp
                  with_reducible rfl
                 rotate_left
                 ·
                  simp only [Act.put, s1, s2, s3, i64_w, i32_w]
                  rfl
                 refine pure_ (i := 48) (N := some 176) (v := ?_) (a' := ?_) (bl true [49, 21]) rfl rfl (any_of HT_.out (by kernel_rfl)) (fun _ _ _ h => h) (Or.inl ⟨by rfl, ?_⟩) ?_ ?_
                 rotate_left
                 ·
                  intro w'
                  go_simp
                  with_reducible rfl
                 rotate_left
                 ·
                  simp only [Act.put, s1, s2, s3, i64_w, i32_w]
                  rfl
                 refine pure_ (i := 49) (N := some 177) (v := ?_) (a' := ?_) (bl true [50, 20]) rfl rfl (any_of HT_.out (by kernel_rfl)) (fun _ _ _ h => h) (Or.inl ⟨by rfl, ?_⟩) ?_ ?_
                 rotate_left
                 ·
                  intro w'
                  go_simp
                  with_reducible rfl
                 rotate_left
                 ·
                  simp only [Act.put, s1, s2, s3, i64_w, i32_w]
                  rfl
                 refine pure_ (i := 50) (N := some 178) (v := ?_) (a' := ?_) (bl true [51, 19]) rfl rfl (any_of HT_.out (by kernel_rfl)) (fun _ _ _ h => h) (Or.inl ⟨by rfl, ?_⟩) ?_ ?_
                 rotate_left
                 ·
                  intro w'
                  go_simp
                  with_reducible rfl
                 rotate_left
                 ·
                  simp only [Act.put, s1, s2, s3, i64_w, i32_w]
                  rfl
                 refine pure_ (i := 51) (N := some 179) (v := undef) (a' := ?_) (bl true [52, 18]) rfl rfl (any_of HT_.out (by kernel_rfl)) (fun _ _ _ h => h) (Or.inr ⟨by rfl, rfl⟩) ?_ ?_
                 rotate_left
                 ·
                  simp only [Act.put, s1, s2, s3, i64_w, i32_w]
                  rfl
                 refine pure_ (i := 52) (N := some 180) (v := undef) (a' := ?_) (bl true [53, 17]) rfl rfl (any_of HT_.out (by kernel_rfl)) (fun _ _ _ h => h) (Or.inr ⟨by rfl, rfl⟩) ?_ ?_
                 rotate_left
                 ·
                  simp only [Act.put, s1, s2, s3, i64_w, i32_w]
                  rfl
                 refine pure_ (i := 53) (N := some 181) (v := ?_) (a' := ?_) (bl true [54, 16]) rfl rfl (any_of HT_.out (by kernel_rfl)) (fun _ _ _ h => h) (Or.inl ⟨by rfl, ?_⟩) ?_ ?_
                 rotate_left
                 ·
                  intro w'
                  go_simp
                  with_reducible rfl
                 rotate_left
                 ·
                  simp only [Act.put, s1, s2, s3, i64_w, i32_w]
                  rfl
                 refine pure_ (i := 54) (N := some 182) (v := ?_) (a' := ?_) (bl true [55, 15]) rfl rfl (any_of HT_.out (by kernel_rfl)) (fun _ _ _ h => h) (Or.inl ⟨by rfl, ?_⟩) ?_ ?_
                 rotate_left
                 ·
                  intro w'
                  go_simp
                  with_reducible rfl
                 rotate_left
                 ·
                  simp only [Act.put, s1, s2, s3, i64_w, i32_w]
                  rfl
                 refine pure_ (i := 55) (N := some 183) (v := ?_) (a' := ?_) (bl true [56, 14]) rfl rfl (any_of HT_.out (by kernel_rfl)) (fun _ _ _ h => h) (Or.inl ⟨by rfl, ?_⟩) ?_ ?_
                 rotate_left
                 ·
                  intro w'
                  go_simp
                  with_reducible rfl
                 rotate_left
                 ·
                  simp only [Act.put, s1, s2, s3, i64_w, i32_w]
                  rfl
                 refine take_ (i := 56) (N := some 184) (v := ?_) (a' := ?_) (bl true [57, 13]) rfl rfl (take_ofW HT_.out HW_.out (by kernel_rfl)) (fun _ _ _ h => h) (Or.inl ⟨by rfl, ?_⟩) hHeld ?_ ?_
                 rotate_left
                 ·
                  rintro w' ⟨s0, s1, s2⟩
                  go_simp
                  with_reducible rfl
                 rotate_left
                 ·
                  simp only [Act.put, s1, s2, s3, i64_w, i32_w]
                  rfl
                 refine take_ (i := 58) (N := some 186) (v := ?_) (a' := ?_) (bl true [57, 1, 1, 11]) rfl rfl (take_ofW HT_.out HW_.out (by kernel_rfl)) (fun _ _ _ h => h) (Or.inl ⟨by rfl, ?_⟩) hHeld ?_ ?_
                 rotate_left
                 ·
                  rintro w' ⟨s0, s1, s2⟩
                  go_simp
                  with_reducible rfl
                 rotate_left
                 ·
                  simp only [Act.put, s1, s2, s3, i64_w, i32_w]
                  rfl
                 refine one_ (i := 57) (N := some 185) (bl true [59, 11]) rfl rfl (one_of HT_.out (by kernel_rfl)) (by decide) (fun K hK => ?_)
                 refine goes_ Try.func24 (by kernel_rfl) rfl #[.agg #[.int .i64 t283, .int .i64 t284, .int .i64 t285]] (by rfl) rfl rfl (by (try simp only [List.map_toArray, List.map_cons, List.map_nil]); first | done | rfl | (simp only [List.length_drop, List.length_take]; rfl)) ?_
                 with_reducible refine (impl_IsLeapRule.calls t283 t284 t285 t307 _ A53.out).mono ?_
                 rintro e w63 ⟨rfl, hb⟩
                 refine ⟨_, rfl, ?_⟩
                 have n0_ := Aside0.mk (blk_below (g := gb287) (by (with_reducible repeat (first | refine blk_drewN ?_ _ | refine blk_drew ?_ | refine blk_alloc ?_ _)); exact BK287.out) hb)
                 have n1_ := Aside0.mk (below_step (by repeat (first | (with_reducible first | exact HB.out | apply below_alloc | apply pw_below_drewN | apply below_drew1 | refine below_set ?_ GE287.out) | exact HB.out)) hb)
                 clear BK287
                 clear HB
                 have BK287 := n0_
                 have HB := n1_
                 clear n0_ n1_
                 (try clear hb)
                 (try clear hb2)
                 (try clear hk)
                 (try clear hi)
                 refine hK.out _ _ ⟨(blk_cell BK287.out 0).trans rfl, (blk_cell BK287.out 1).trans rfl, (blk_cell BK287.out 2).trans rfl⟩ (fun hHeld => ?_)
                 clear hK K
                 refine norm_ (a' := ?_) ?_ ?_
                 rotate_left
                 ·
                  show Act.put _ (some 185) _ = _
                  simp only [Act.put, s1, s2, s3, i64_w, i32_w]
                  rfl
                 refine one_ (i := 59) (N := some 187) (bl true [60, 10]) rfl rfl (one_of HT_.out (by kernel_rfl)) (by decide) (fun K hK => ?_)
                 refine goes_ Try.func25 (by kernel_rfl) rfl #[.agg #[.int .i64 t283, .int .i64 t284, .int .i64 t285]] (by rfl) rfl rfl (by (try simp only [List.map_toArray, List.map_cons, List.map_nil]); first | done | rfl | (simp only [List.length_drop, List.length_take]; rfl)) ?_
                 with_reducible refine (spec_IsLeapRule.calls k t283 t284 t285 t308 _ A54.out).mono ?_
                 rintro e w64 ⟨rfl, hb⟩
                 refine ⟨_, rfl, ?_⟩
                 have n0_ := Aside0.mk (blk_below (g := gb287) (by (with_reducible repeat (first | refine blk_drewN ?_ _ | refine blk_drew ?_ | refine blk_alloc ?_ _)); exact BK287.out) hb)
                 have n1_ := Aside0.mk (below_step (by repeat (first | (with_reducible first | exact HB.out | apply below_alloc | apply pw_below_drewN | apply below_drew1 | refine below_set ?_ GE287.out) | exact HB.out)) hb)
                 clear BK287
                 clear HB
                 have BK287 := n0_
                 have HB := n1_
                 clear n0_ n1_
                 (try clear hb)
                 (try clear hb2)
                 (try clear hk)
                 (try clear hi)
                 refine hK.out _ _ ⟨(blk_cell BK287.out 0).trans rfl, (blk_cell BK287.out 1).trans rfl, (blk_cell BK287.out 2).trans rfl⟩ (fun hHeld => ?_)
                 clear hK K
                 refine norm_ (a' := ?_) ?_ ?_
                 rotate_left
                 ·
                  show Act.put _ (some 187) _ = _
                  simp only [Act.put, s1, s2, s3, i64_w, i32_w]
                  rfl
                 refine pure_ (i := 60) (N := some 188) (v := ?_) (a' := ?_) (bl true [61, 9]) rfl rfl (any_of HT_.out (by kernel_rfl)) (fun _ _ _ h => h) (Or.inl ⟨by rfl, ?_⟩) ?_ ?_
                 rotate_left
                 ·
                  intro w'
                  go_simp
                  with_reducible rfl
                 rotate_left
                 ·
                  simp only [Act.put, s1, s2, s3, i64_w, i32_w]
                  rfl
                 refine pure_ (i := 61) (N := some 189) (v := ?_) (a' := ?_) (bl true [62, 8]) rfl rfl (any_of HT_.out (by kernel_rfl)) (fun _ _ _ h => h) (Or.inl ⟨by rfl, ?_⟩) ?_ ?_
                 rotate_left
                 ·
                  intro w'
                  go_simp
                  with_reducible rfl
                 rotate_left
                 ·
                  simp only [Act.put, s1, s2, s3, i64_w, i32_w]
                  rfl
                 refine pure_ (i := 62) (N := some 190) (v := ?_) (a' := ?_) (bl true [63, 7]) rfl rfl (any_of HT_.out (by kernel_rfl)) (fun _ _ _ h => h) (Or.inl ⟨by rfl, ?_⟩) ?_ ?_
                 rotate_left
                 ·
                  intro w'
                  go_simp
                  with_reducible rfl
                 rotate_left
                 ·
                  simp only [Act.put, s1, s2, s3, i64_w, i32_w]
                  rfl
                 refine pure_ (i := 63) (N := some 191) (v := ?_) (a' := ?_) (bl true [64, 6]) rfl rfl (any_of HT_.out (by kernel_rfl)) (fun _ _ _ h => h) (Or.inl ⟨by rfl, ?_⟩) ?_ ?_
                 rotate_left
                 ·
                  intro w'
                  go_simp
                  with_reducible rfl
                 rotate_left
                 ·
                  simp only [Act.put, s1, s2, s3, i64_w, i32_w]
                  rfl
                 refine pure_ (i := 64) (N := some 192) (v := ?_) (a' := ?_) (bl true [65, 5]) rfl rfl (any_of HT_.out (by kernel_rfl)) (fun _ _ _ h => h) (Or.inl ⟨by rfl, ?_⟩) ?_ ?_
                 rotate_left
                 ·
                  intro w'
                  go_simp
                  with_reducible rfl
                 rotate_left
                 ·
                  simp only [Act.put, s1, s2, s3, i64_w, i32_w]
                  rfl
                 refine pure_ (i := 65) (N := some 193) (v := undef) (a' := ?_) (bl true [66, 4]) rfl rfl (any_of HT_.out (by kernel_rfl)) (fun _ _ _ h => h) (Or.inr ⟨by rfl, rfl⟩) ?_ ?_
                 rotate_left
                 ·
                  simp only [Act.put, s1, s2, s3, i64_w, i32_w]
                  rfl
                 refine pure_ (i := 66) (N := some 194) (v := undef) (a' := ?_) (bl true [67, 3]) rfl rfl (any_of HT_.out (by kernel_rfl)) (fun _ _ _ h => h) (Or.inr ⟨by rfl, rfl⟩) ?_ ?_
                 rotate_left
                 ·
                  simp only [Act.put, s1, s2, s3, i64_w, i32_w]
                  rfl
                 refine pure_ (i := 67) (N := some 195) (v := undef) (a' := ?_) (bl true [68, 2]) rfl rfl (any_of HT_.out (by kernel_rfl)) (fun _ _ _ h => h) (Or.inr ⟨by rfl, rfl⟩) ?_ ?_
                 rotate_left
                 ·
                  simp only [Act.put, s1, s2, s3, i64_w, i32_w]
                  rfl
                 refine pure_ (i := 68) (N := some 196) (v := ?_) (a' := ?_) (bl true [69, 1]) rfl rfl (any_of HT_.out (by kernel_rfl)) (fun _ _ _ h => h) (Or.inl ⟨by rfl, ?_⟩) ?_ ?_
                 rotate_left
                 ·
                  intro w'
                  go_simp
                  with_reducible rfl
                 rotate_left
                 ·
                  simp only [Act.put, s1, s2, s3, i64_w, i32_w]
                  rfl
                 refine pure_ (i := 69) (N := some 197) (v := ?_) (a' := ?_) (bl true [70]) rfl rfl (any_of HT_.out (by kernel_rfl)) (fun _ _ _ h => h) (Or.inl ⟨by rfl, ?_⟩) ?_ ?_
                 rotate_left
                 ·
                  intro w'
                  go_simp
                  with_reducible rfl
                 rotate_left
                 ·
                  simp only [Act.put, s1, s2, s3, i64_w, i32_w]
                  rfl
                 refine done_ (done_of HT_.out (by kernel_rfl)) ?_
                 try go_wp2
                 go_meet
                 case rel => exact ⟨_, (false), (by first | rfl | (simp; done) | (simp [*]; done)), H', ⟨by first | omega | exact Nat.le_refl _⟩, ⟨by (with_reducible repeat (first | refine blk_drewN ?_ _ | refine blk_drew ?_ | refine blk_alloc ?_ _)); exact BK287.out⟩, ⟨by repeat (first | (with_reducible first | exact HB.out | apply below_alloc | apply pw_below_drewN | apply below_drew1 | refine below_set ?_ GE287.out) | exact HB.out)⟩⟩
          ·
           rw [if_neg c40] at H
           exact absurd H (by simp)
        ·
         rw [if_neg c38] at H
         exact absurd H (by simp)
      ·
       rw [if_neg c36] at H
       exact absurd H (by simp)
  case rest => as_aux_lemma =>
   clear HC14
   try clear c4
   obtain ⟨kq, x197_13, rfl, HA, HJ13, BK287, HB⟩ := hcut
   cases kq with
   | zero => exact absurd HA.out (by simp [j0])
   | succ kj13 =>
    have H := HA.out
    clear HA
    simp only [j0] at H
    by_cases c65 : x197_13 = true
    ·
     subst c65
     have H1 : (none) = some r := by rw [if_pos rfl] at H; exact H
     clear H
     have H := H1
     clear H1
     exact absurd H (by simp)
    ·
     replace c65 := Bool.eq_false_iff.mpr c65
     subst c65
     have H1 : (if t289 = true then (if t296 = (Int.tmod t292 7) then ((impl_YearOfDay.f kj13 t283 t284 t285 t292).bind fun bt310 => (if t292 ≤ 365000000 then (if bt310.2.2 = true then (if bt310.1 = t286 then (j1 kj13 l1 t286 t288 t292 t300 t301 (bt310.2.1 != 0) t283 t284 t285) else (none)) else (none)) else (j1 kj13 l1 t286 t288 t292 t300 t301 false t283 t284 t285))) else (none)) else (j3 kj13 l1)) = some r := by rw [if_neg (show ¬ (false = true) by decide)] at H; exact H
     clear H
     have H := H1
     clear H1
     have HC66 := Aside0.mk H
     clear H
     go_upto_if 198 with (fail)
     go_cut [] from 198 to 394 (fun wc => ∃ (kq : Nat), Aside0 (j3 kq l1 = some r) ∧ Aside0 (kq ≤ kj13) ∧ Aside0 (wc.heap[gb287]? = some (.cells #[.int .i64 t283, .int .i64 t284, .int .i64 t285] 26 (0, 0))) ∧ Aside0 (Below w.heap.size w wc))
     case first => as_aux_lemma =>
      have H := HC66.out
      clear HC66
      by_cases c67 : t289 = true
      ·
       subst c67
       have H1 : (if t296 = (Int.tmod t292 7) then ((impl_YearOfDay.f kj13 t283 t284 t285 t292).bind fun bt310 => (if t292 ≤ 365000000 then (if bt310.2.2 = true then (if bt310.1 = t286 then (j1 kj13 l1 t286 t288 t292 t300 t301 (bt310.2.1 != 0) t283 t284 t285) else (none)) else (none)) else (j1 kj13 l1 t286 t288 t292 t300 t301 false t283 t284 t285))) else (none)) = some r := by rw [if_pos rfl] at H; exact H
       clear H
       have H := H1
       clear H1
       by_cases c68 : t296 = (Int.tmod t292 7)
       ·
        rw [if_pos c68] at H
        have c68b0 : (t296 == (Int.tmod t292 7)) = true := beq_iff_eq.mpr c68
        have c68b1 : (t296 != (Int.tmod t292 7)) = false := bne_eq_false_iff_eq.mpr c68
        clear c68
        (first | rw [c68b0] | (simp only [i64_w, i32_w]; rw [c68b0]) | skip)
        replace H := Option.bind_eq_some_iff.mp H
        obtain ⟨⟨t310, t311, t312⟩, A690, H⟩ := H
        try dsimp only at H
        have A69 := Aside0.mk A690
        clear A690
        have HC70 := Aside0.mk H
        clear H
        have hcz71_0 : wc.cell? ⟨gb287, 0, none⟩ = some (.int .i64 t283) := (blk_cell BK287.out 0).trans rfl
        have hcz71_1 : wc.cell? ⟨gb287, 1, none⟩ = some (.int .i64 t284) := (blk_cell BK287.out 1).trans rfl
        have hcz71_2 : wc.cell? ⟨gb287, 2, none⟩ = some (.int .i64 t285) := (blk_cell BK287.out 2).trans rfl
        have hfz71_0 := blk_frozen BK287.out 0
        have hfz71_1 := blk_frozen BK287.out 1
        have hfz71_2 := blk_frozen BK287.out 2
        go_upto_region 18 with (first | ((with_reducible refine gate_callee (f := 26) rfl ?_); refine goesL_ (some 206) rfl rfl Try.func26 (by kernel_rfl) rfl #[.agg #[.int .i64 t283, .int .i64 t284, .int .i64 t285], .int .i64 t292] rfl (by (try simp only [List.map_toArray, List.map_cons, List.map_nil]); first | done | rfl | (simp only [List.length_drop, List.length_take]; rfl)) ?_; (with_reducible refine (impl_YearOfDay.calls kj13 t283 t284 t285 t292 t310 t311 t312 _ A69.out).mono ?_); rintro e w72 ⟨rfl, hb⟩; refine ⟨_, rfl, ?_⟩; have n0_ := Aside0.mk (blk_below (g := gb287) (by (with_reducible repeat (first | refine blk_drewN ?_ _ | refine blk_drew ?_ | refine blk_alloc ?_ _)); exact BK287.out) hb); have n1_ := Aside0.mk (below_step (by repeat (first | (with_reducible first | exact HB.out | apply below_alloc | apply pw_below_drewN | apply below_drew1 | refine below_set ?_ GE287.out) | exact HB.out)) hb); clear BK287; clear HB; have BK287 := n0_; have HB := n1_; clear n0_ n1_; (try clear hb); (try clear hb2); (try clear hk); (try clear hi)))
        (try simp only [Act.put, s1, s2, s3])
        go_cut [224] from 198 to 224 (fun v224 wc => ∃ (kq : Nat) (x224_69 : Bool), v224 = .bool x224_69 ∧ Aside0 (j1 kq l1 t286 t288 t292 t300 t301 x224_69 t283 t284 t285 = some r) ∧ Aside0 (kq ≤ kj13) ∧ Aside0 (wc.heap[gb287]? = some (.cells #[.int .i64 t283, .int .i64 t284, .int .i64 t285] 26 (0, 0))) ∧ Aside0 (Below w.heap.size w wc))
        case first => as_aux_lemma =>
         have H := HC70.out
         clear HC70
         by_cases c73 : t292 ≤ 365000000
         ·
          rw [if_pos c73] at H
          have c73b0 : decide (t292 ≤ 365000000) = true := decide_eq_true c73
          clear c73
          (first | rw [c73b0] | (simp only [i64_w, i32_w]; rw [c73b0]) | skip)
          by_cases c74 : t312 = true
          ·
           subst c74
           have H1 : (if t310 = t286 then (j1 kj13 l1 t286 t288 t292 t300 t301 (t311 != 0) t283 t284 t285) else (none)) = some r := by rw [if_pos rfl] at H; exact H
           clear H
           have H := H1
           clear H1
           by_cases c75 : t310 = t286
           ·
            rw [if_pos c75] at H
            have c75b0 : (t310 == t286) = true := beq_iff_eq.mpr c75
            have c75b1 : (t310 != t286) = false := bne_eq_false_iff_eq.mpr c75
            clear c75
            as_aux_lemma =>
             have H' := Aside0.mk H
             clear H
             go_wp2
             go_meet
             case rel => exact ⟨_, ((t311 != 0)), (by first | rfl | (simp; done) | (simp [*]; done)), H', ⟨by have := HJ13.out; first | omega | exact Nat.le_refl _⟩, ⟨by (with_reducible repeat (first | refine blk_drewN ?_ _ | refine blk_drew ?_ | refine blk_alloc ?_ _)); exact BK287.out⟩, ⟨by repeat (first | (with_reducible first | exact HB.out | apply below_alloc | apply pw_below_drewN | apply below_drew1 | refine below_set ?_ GE287.out) | exact HB.out)⟩⟩
           ·
            rw [if_neg c75] at H
            exact absurd H (by simp)
          ·
           replace c74 := Bool.eq_false_iff.mpr c74
           subst c74
           have H1 : (none) = some r := by rw [if_neg (show ¬ (false = true) by decide)] at H; exact H
           clear H
           have H := H1
           clear H1
           exact absurd H (by simp)
         ·
          rw [if_neg c73] at H
          have c73b0 : decide (t292 ≤ 365000000) = false := decide_eq_false c73
          clear c73
          (first | rw [c73b0] | (simp only [i64_w, i32_w]; rw [c73b0]) | skip)
          as_aux_lemma =>
           have H' := Aside0.mk H
           clear H
           go_wp2
           go_meet
           case rel => exact ⟨_, (false), (by first | rfl | (simp; done) | (simp [*]; done)), H', ⟨by have := HJ13.out; first | omega | exact Nat.le_refl _⟩, ⟨by (with_reducible repeat (first | refine blk_drewN ?_ _ | refine blk_drew ?_ | refine blk_alloc ?_ _)); exact BK287.out⟩, ⟨by repeat (first | (with_reducible first | exact HB.out | apply below_alloc | apply pw_below_drewN | apply below_drew1 | refine below_set ?_ GE287.out) | exact HB.out)⟩⟩
        case rest => as_aux_lemma =>
         clear HC70
         try clear c4
         try clear c65
         try clear c67
         try clear c68
         try clear c68b0
         try clear c68b1
         try clear hcz71_0
         try clear hcz71_1
         try clear hcz71_2
         try clear hfz71_0
         try clear hfz71_1
         try clear hfz71_2
         obtain ⟨kq, x224_69, rfl, HA, HJ69, BK287, HB⟩ := hcut
         cases kq with
         | zero => exact absurd HA.out (by simp [j1])
         | succ kj69 =>
          have H := HA.out
          clear HA
          simp only [j1] at H
          by_cases c76 : x224_69 = true
          ·
           subst c76
           have H1 : (none) = some r := by rw [if_pos rfl] at H; exact H
           clear H
           have H := H1
           clear H1
           exact absurd H (by simp)
          ·
           replace c76 := Bool.eq_false_iff.mpr c76
           subst c76
           have H1 : (if t286 < 1000000 then ((impl_DaysUpTo.f t283 t284 t285 (wrap64 (t286 + 1))).bind fun bt313 => (if t288 = true then (if bt313.2 = true then (if (wrap64 (bt313.1 - t292)) = 366 then (j2 kj69 l1 t286 t288 t300 t301 t283 t284 t285) else (none)) else (none)) else (if bt313.2 = true then (if (wrap64 (bt313.1 - t292)) = 365 then (j2 kj69 l1 t286 t288 t300 t301 t283 t284 t285) else (none)) else (none)))) else (j2 kj69 l1 t286 t288 t300 t301 t283 t284 t285)) = some r := by rw [if_neg (show ¬ (false = true) by decide)] at H; exact H
           clear H
           have H := H1
           clear H1
           have HC77 := Aside0.mk H
           clear H
           go_upto_if 226 with (fail)
           go_cut [] from 225 to 394 (fun wc => ∃ (kq : Nat), Aside0 (j2 kq l1 t286 t288 t300 t301 t283 t284 t285 = some r) ∧ Aside0 (kq ≤ kj69) ∧ Aside0 (wc.heap[gb287]? = some (.cells #[.int .i64 t283, .int .i64 t284, .int .i64 t285] 26 (0, 0))) ∧ Aside0 (Below w.heap.size w wc))
           case first => as_aux_lemma =>
            have H := HC77.out
            clear HC77
            by_cases c78 : t286 < 1000000
            ·
             rw [if_pos c78] at H
             have c78b0 : decide (t286 < 1000000) = true := decide_eq_true c78
             clear c78
             (first | rw [c78b0] | (simp only [i64_w, i32_w]; rw [c78b0]) | skip)
             replace H := Option.bind_eq_some_iff.mp H
             obtain ⟨⟨t313, t314⟩, A790, H⟩ := H
             try dsimp only at H
             have A79 := Aside0.mk A790
             clear A790
             by_cases c80 : t288 = true
             ·
              subst c80
              have H1 : (if t314 = true then (if (wrap64 (t313 - t292)) = 366 then (j2 kj69 l1 t286 true t300 t301 t283 t284 t285) else (none)) else (none)) = some r := by rw [if_pos rfl] at H; exact H
              clear H
              have H := H1
              clear H1
              by_cases c81 : t314 = true
              ·
               subst c81
               have H1 : (if (wrap64 (t313 - t292)) = 366 then (j2 kj69 l1 t286 true t300 t301 t283 t284 t285) else (none)) = some r := by rw [if_pos rfl] at H; exact H
               clear H
               have H := H1
               clear H1
               by_cases c82 : (wrap64 (t313 - t292)) = 366
               ·
                rw [if_pos c82] at H
                have c82b0 : ((wrap64 (t313 - t292)) == 366) = true := beq_iff_eq.mpr c82
                have c82b1 : ((wrap64 (t313 - t292)) != 366) = false := bne_eq_false_iff_eq.mpr c82
                clear c82
                as_aux_lemma =>
                 have H' := Aside0.mk H
                 clear H
                 have hcz83_0 : wc.cell? ⟨gb287, 0, none⟩ = some (.int .i64 t283) := (blk_cell BK287.out 0).trans rfl
                 have hcz83_1 : wc.cell? ⟨gb287, 1, none⟩ = some (.int .i64 t284) := (blk_cell BK287.out 1).trans rfl
                 have hcz83_2 : wc.cell? ⟨gb287, 2, none⟩ = some (.int .i64 t285) := (blk_cell BK287.out 2).trans rfl
                 have hfz83_0 := blk_frozen BK287.out 0
                 have hfz83_1 := blk_frozen BK287.out 1
                 have hfz83_2 := blk_frozen BK287.out 2
                 go_wp2_with (first | ((with_reducible refine gate_callee (f := 18) rfl ?_); refine goesL_ (some 231) rfl rfl Try.func18 (by kernel_rfl) rfl #[.agg #[.int .i64 t283, .int .i64 t284, .int .i64 t285], .int .i64 (wrap64 (t286 + 1))] rfl (by (try simp only [List.map_toArray, List.map_cons, List.map_nil]); first | done | rfl | (simp only [List.length_drop, List.length_take]; rfl)) ?_; (with_reducible refine (impl_DaysUpTo.calls t283 t284 t285 (wrap64 (t286 + 1)) t313 true _ A79.out).mono ?_); rintro e w84 ⟨rfl, hb⟩; refine ⟨_, rfl, ?_⟩; have n0_ := Aside0.mk (blk_below (g := gb287) (by (with_reducible repeat (first | refine blk_drewN ?_ _ | refine blk_drew ?_ | refine blk_alloc ?_ _)); exact BK287.out) hb); have n1_ := Aside0.mk (below_step (by repeat (first | (with_reducible first | exact HB.out | apply below_alloc | apply pw_below_drewN | apply below_drew1 | refine below_set ?_ GE287.out) | exact HB.out)) hb); clear BK287; clear HB; have BK287 := n0_; have HB := n1_; clear n0_ n1_; (try clear hb); (try clear hb2); (try clear hk); (try clear hi)))
                 go_meet
                 case rel => exact ⟨_, H', ⟨by have := HJ13.out; have := HJ69.out; first | omega | exact Nat.le_refl _⟩, ⟨by (with_reducible repeat (first | refine blk_drewN ?_ _ | refine blk_drew ?_ | refine blk_alloc ?_ _)); exact BK287.out⟩, ⟨by repeat (first | (with_reducible first | exact HB.out | apply below_alloc | apply pw_below_drewN | apply below_drew1 | refine below_set ?_ GE287.out) | exact HB.out)⟩⟩
               ·
                rw [if_neg c82] at H
                exact absurd H (by simp)
              ·
               replace c81 := Bool.eq_false_iff.mpr c81
               subst c81
               have H1 : (none) = some r := by rw [if_neg (show ¬ (false = true) by decide)] at H; exact H
               clear H
               have H := H1
               clear H1
               exact absurd H (by simp)
             ·
              replace c80 := Bool.eq_false_iff.mpr c80
              subst c80
              have H1 : (if t314 = true then (if (wrap64 (t313 - t292)) = 365 then (j2 kj69 l1 t286 false t300 t301 t283 t284 t285) else (none)) else (none)) = some r := by rw [if_neg (show ¬ (false = true) by decide)] at H; exact H
              clear H
              have H := H1
              clear H1
              by_cases c85 : t314 = true
              ·
               subst c85
               have H1 : (if (wrap64 (t313 - t292)) = 365 then (j2 kj69 l1 t286 false t300 t301 t283 t284 t285) else (none)) = some r := by rw [if_pos rfl] at H; exact H
               clear H
               have H := H1
               clear H1
               by_cases c86 : (wrap64 (t313 - t292)) = 365
               ·
                rw [if_pos c86] at H
                have c86b0 : ((wrap64 (t313 - t292)) == 365) = true := beq_iff_eq.mpr c86
                have c86b1 : ((wrap64 (t313 - t292)) != 365) = false := bne_eq_false_iff_eq.mpr c86
                clear c86
                as_aux_lemma =>
                 have H' := Aside0.mk H
                 clear H
                 have hcz87_0 : wc.cell? ⟨gb287, 0, none⟩ = some (.int .i64 t283) := (blk_cell BK287.out 0).trans rfl
                 have hcz87_1 : wc.cell? ⟨gb287, 1, none⟩ = some (.int .i64 t284) := (blk_cell BK287.out 1).trans rfl
                 have hcz87_2 : wc.cell? ⟨gb287, 2, none⟩ = some (.int .i64 t285) := (blk_cell BK287.out 2).trans rfl
                 have hfz87_0 := blk_frozen BK287.out 0
                 have hfz87_1 := blk_frozen BK287.out 1
                 have hfz87_2 := blk_frozen BK287.out 2
                 go_wp2_with (first | ((with_reducible refine gate_callee (f := 18) rfl ?_); refine goesL_ (some 231) rfl rfl Try.func18 (by kernel_rfl) rfl #[.agg #[.int .i64 t283, .int .i64 t284, .int .i64 t285], .int .i64 (wrap64 (t286 + 1))] rfl (by (try simp only [List.map_toArray, List.map_cons, List.map_nil]); first | done | rfl | (simp only [List.length_drop, List.length_take]; rfl)) ?_; (with_reducible refine (impl_DaysUpTo.calls t283 t284 t285 (wrap64 (t286 + 1)) t313 true _ A79.out).mono ?_); rintro e w88 ⟨rfl, hb⟩; refine ⟨_, rfl, ?_⟩; have n0_ := Aside0.mk (blk_below (g := gb287) (by (with_reducible repeat (first | refine blk_drewN ?_ _ | refine blk_drew ?_ | refine blk_alloc ?_ _)); exact BK287.out) hb); have n1_ := Aside0.mk (below_step (by repeat (first | (with_reducible first | exact HB.out | apply below_alloc | apply pw_below_drewN | apply below_drew1 | refine below_set ?_ GE287.out) | exact HB.out)) hb); clear BK287; clear HB; have BK287 := n0_; have HB := n1_; clear n0_ n1_; (try clear hb); (try clear hb2); (try clear hk); (try clear hi)))
                 go_meet
                 case rel => exact ⟨_, H', ⟨by have := HJ13.out; have := HJ69.out; first | omega | exact Nat.le_refl _⟩, ⟨by (with_reducible repeat (first | refine blk_drewN ?_ _ | refine blk_drew ?_ | refine blk_alloc ?_ _)); exact BK287.out⟩, ⟨by repeat (first | (with_reducible first | exact HB.out | apply below_alloc | apply pw_below_drewN | apply below_drew1 | refine below_set ?_ GE287.out) | exact HB.out)⟩⟩
               ·
                rw [if_neg c86] at H
                exact absurd H (by simp)
              ·
               replace c85 := Bool.eq_false_iff.mpr c85
               subst c85
               have H1 : (none) = some r := by rw [if_neg (show ¬ (false = true) by decide)] at H; exact H
               clear H
               have H := H1
               clear H1
               exact absurd H (by simp)
            ·
             rw [if_neg c78] at H
             have c78b0 : decide (t286 < 1000000) = false := decide_eq_false c78
             clear c78
             (first | rw [c78b0] | (simp only [i64_w, i32_w]; rw [c78b0]) | skip)
             as_aux_lemma =>
              have H' := Aside0.mk H
              clear H
              go_wp2
              go_meet
              case rel => exact ⟨_, H', ⟨by have := HJ13.out; have := HJ69.out; first | omega | exact Nat.le_refl _⟩, ⟨by (with_reducible repeat (first | refine blk_drewN ?_ _ | refine blk_drew ?_ | refine blk_alloc ?_ _)); exact BK287.out⟩, ⟨by repeat (first | (with_reducible first | exact HB.out | apply below_alloc | apply pw_below_drewN | apply below_drew1 | refine below_set ?_ GE287.out) | exact HB.out)⟩⟩
           case rest => as_aux_lemma =>
            clear HC77
            try clear c1
            try clear c4
            try clear c65
            try clear c67
            try clear c68
            try clear c68b0
            try clear c68b1
            try clear c76
            try clear hcz71_0
            try clear hcz71_1
            try clear hcz71_2
            try clear hfz71_0
            try clear hfz71_1
            try clear hfz71_2
            obtain ⟨kq, HA, HJ76, BK287, HB⟩ := hcut
            cases kq with
            | zero => exact absurd HA.out (by simp [j2])
            | succ kj76 =>
             have H := HA.out
             clear HA
             simp only [j2] at H
             by_cases c89 : t301 = true
             ·
              subst c89
              have H1 : ((impl_IsLeapYear.f t283 t284 t285 t300).bind fun bt315 => ((impl_CountLeaps.f kj76 t283 t284 t285 t286 t300).bind fun bt317 => (if t288 = true then (if bt315.2 = true then (if bt315.1 = true then (if t300 ≤ t286 then (none) else (if bt317.2 = true then (if bt317.1 = 2 then (j3 kj76 l1) else (none)) else (none))) else (none)) else (none)) else (if bt315.2 = true then (if bt315.1 = true then (if t300 ≤ t286 then (none) else (if bt317.2 = true then (if bt317.1 = 1 then (j3 kj76 l1) else (none)) else (none))) else (none)) else (none))))) = some r := by rw [if_pos rfl] at H; exact H
              clear H
              have H := H1
              clear H1
              replace H := Option.bind_eq_some_iff.mp H
              obtain ⟨⟨t315, t316⟩, A900, H⟩ := H
              try dsimp only at H
              have A90 := Aside0.mk A900
              clear A900
              replace H := Option.bind_eq_some_iff.mp H
              obtain ⟨⟨t317, t318⟩, A910, H⟩ := H
              try dsimp only at H
              have A91 := Aside0.mk A910
              clear A910
              by_cases c92 : t288 = true
              ·
               subst c92
               have H1 : (if t316 = true then (if t315 = true then (if t300 ≤ t286 then (none) else (if t318 = true then (if t317 = 2 then (j3 kj76 l1) else (none)) else (none))) else (none)) else (none)) = some r := by rw [if_pos rfl] at H; exact H
               clear H
               have H := H1
               clear H1
               by_cases c93 : t316 = true
               ·
                subst c93
                have H1 : (if t315 = true then (if t300 ≤ t286 then (none) else (if t318 = true then (if t317 = 2 then (j3 kj76 l1) else (none)) else (none))) else (none)) = some r := by rw [if_pos rfl] at H; exact H
                clear H
                have H := H1
                clear H1
                by_cases c94 : t315 = true
                ·
                 subst c94
                 have H1 : (if t300 ≤ t286 then (none) else (if t318 = true then (if t317 = 2 then (j3 kj76 l1) else (none)) else (none))) = some r := by rw [if_pos rfl] at H; exact H
                 clear H
                 have H := H1
                 clear H1
                 by_cases c95 : t300 ≤ t286
                 ·
                  rw [if_pos c95] at H
                  exact absurd H (by simp)
                 ·
                  rw [if_neg c95] at H
                  have c95b0 : decide (t300 ≤ t286) = false := decide_eq_false c95
                  clear c95
                  by_cases c96 : t318 = true
                  ·
                   subst c96
                   have H1 : (if t317 = 2 then (j3 kj76 l1) else (none)) = some r := by rw [if_pos rfl] at H; exact H
                   clear H
                   have H := H1
                   clear H1
                   by_cases c97 : t317 = 2
                   ·
                    rw [if_pos c97] at H
                    have c97b0 : (t317 == 2) = true := beq_iff_eq.mpr c97
                    have c97b1 : (t317 != 2) = false := bne_eq_false_iff_eq.mpr c97
                    clear c97
                    as_aux_lemma =>
                     have H' := Aside0.mk H
                     clear H
                     have hcz98_0 : wc.cell? ⟨gb287, 0, none⟩ = some (.int .i64 t283) := (blk_cell BK287.out 0).trans rfl
                     have hcz98_1 : wc.cell? ⟨gb287, 1, none⟩ = some (.int .i64 t284) := (blk_cell BK287.out 1).trans rfl
                     have hcz98_2 : wc.cell? ⟨gb287, 2, none⟩ = some (.int .i64 t285) := (blk_cell BK287.out 2).trans rfl
                     have hfz98_0 := blk_frozen BK287.out 0
                     have hfz98_1 := blk_frozen BK287.out 1
                     have hfz98_2 := blk_frozen BK287.out 2
                     go_wp2_with (first | ((with_reducible refine gate_callee (f := 16) rfl ?_); refine goesL_ (some 248) rfl rfl Try.func16 (by kernel_rfl) rfl #[.agg #[.int .i64 t283, .int .i64 t284, .int .i64 t285], .int .i64 t300] rfl (by (try simp only [List.map_toArray, List.map_cons, List.map_nil]); first | done | rfl | (simp only [List.length_drop, List.length_take]; rfl)) ?_; (with_reducible refine (impl_IsLeapYear.calls t283 t284 t285 t300 true true _ A90.out).mono ?_); rintro e w99 ⟨rfl, hb⟩; refine ⟨_, rfl, ?_⟩; have n0_ := Aside0.mk (blk_below (g := gb287) (by (with_reducible repeat (first | refine blk_drewN ?_ _ | refine blk_drew ?_ | refine blk_alloc ?_ _)); exact BK287.out) hb); have n1_ := Aside0.mk (below_step (by repeat (first | (with_reducible first | exact HB.out | apply below_alloc | apply pw_below_drewN | apply below_drew1 | refine below_set ?_ GE287.out) | exact HB.out)) hb); clear BK287; clear HB; have BK287 := n0_; have HB := n1_; clear n0_ n1_; (try clear hb); (try clear hb2); (try clear hk); (try clear hi); have hcz100_0 : w99.cell? ⟨gb287, 0, none⟩ = some (.int .i64 t283) := (blk_cell BK287.out 0).trans rfl; have hcz100_1 : w99.cell? ⟨gb287, 1, none⟩ = some (.int .i64 t284) := (blk_cell BK287.out 1).trans rfl; have hcz100_2 : w99.cell? ⟨gb287, 2, none⟩ = some (.int .i64 t285) := (blk_cell BK287.out 2).trans rfl; have hfz100_0 := blk_frozen BK287.out 0; have hfz100_1 := blk_frozen BK287.out 1; have hfz100_2 := blk_frozen BK287.out 2) | ((with_reducible refine gate_callee (f := 27) rfl ?_); refine goesL_ (some 255) rfl rfl Try.func27 (by kernel_rfl) rfl #[.agg #[.int .i64 t283, .int .i64 t284, .int .i64 t285], .int .i64 t286, .int .i64 t300] rfl (by (try simp only [List.map_toArray, List.map_cons, List.map_nil]); first | done | rfl | (simp only [List.length_drop, List.length_take]; rfl)) ?_; (with_reducible refine (impl_CountLeaps.calls kj76 t283 t284 t285 t286 t300 t317 true _ A91.out).mono ?_); rintro e w101 ⟨rfl, hb⟩; refine ⟨_, rfl, ?_⟩; have n0_ := Aside0.mk (blk_below (g := gb287) (by (with_reducible repeat (first | refine blk_drewN ?_ _ | refine blk_drew ?_ | refine blk_alloc ?_ _)); exact BK287.out) hb); have n1_ := Aside0.mk (below_step (by repeat (first | (with_reducible first | exact HB.out | apply below_alloc | apply pw_below_drewN | apply below_drew1 | refine below_set ?_ GE287.out) | exact HB.out)) hb); clear BK287; clear HB; have BK287 := n0_; have HB := n1_; clear n0_ n1_; (try clear hb); (try clear hb2); (try clear hk); (try clear hi)))
                     go_meet
                     case rel => exact ⟨_, H', ⟨by have := HJ13.out; have := HJ69.out; have := HJ76.out; first | omega | exact Nat.le_refl _⟩, ⟨by (with_reducible repeat (first | refine blk_drewN ?_ _ | refine blk_drew ?_ | refine blk_alloc ?_ _)); exact BK287.out⟩, ⟨by repeat (first | (with_reducible first | exact HB.out | apply below_alloc | apply pw_below_drewN | apply below_drew1 | refine below_set ?_ GE287.out) | exact HB.out)⟩⟩
                   ·
                    rw [if_neg c97] at H
                    exact absurd H (by simp)
                  ·
                   replace c96 := Bool.eq_false_iff.mpr c96
                   subst c96
                   have H1 : (none) = some r := by rw [if_neg (show ¬ (false = true) by decide)] at H; exact H
                   clear H
                   have H := H1
                   clear H1
                   exact absurd H (by simp)
                ·
                 replace c94 := Bool.eq_false_iff.mpr c94
                 subst c94
                 have H1 : (none) = some r := by rw [if_neg (show ¬ (false = true) by decide)] at H; exact H
                 clear H
                 have H := H1
                 clear H1
                 exact absurd H (by simp)
               ·
                replace c93 := Bool.eq_false_iff.mpr c93
                subst c93
                have H1 : (none) = some r := by rw [if_neg (show ¬ (false = true) by decide)] at H; exact H
                clear H
                have H := H1
                clear H1
                exact absurd H (by simp)
              ·
               replace c92 := Bool.eq_false_iff.mpr c92
               subst c92
               have H1 : (if t316 = true then (if t315 = true then (if t300 ≤ t286 then (none) else (if t318 = true then (if t317 = 1 then (j3 kj76 l1) else (none)) else (none))) else (none)) else (none)) = some r := by rw [if_neg (show ¬ (false = true) by decide)] at H; exact H
               clear H
               have H := H1
               clear H1
               by_cases c102 : t316 = true
               ·
                subst c102
                have H1 : (if t315 = true then (if t300 ≤ t286 then (none) else (if t318 = true then (if t317 = 1 then (j3 kj76 l1) else (none)) else (none))) else (none)) = some r := by rw [if_pos rfl] at H; exact H
                clear H
                have H := H1
                clear H1
                by_cases c103 : t315 = true
                ·
                 subst c103
                 have H1 : (if t300 ≤ t286 then (none) else (if t318 = true then (if t317 = 1 then (j3 kj76 l1) else (none)) else (none))) = some r := by rw [if_pos rfl] at H; exact H
                 clear H
                 have H := H1
                 clear H1
                 by_cases c104 : t300 ≤ t286
                 ·
                  rw [if_pos c104] at H
                  exact absurd H (by simp)
                 ·
                  rw [if_neg c104] at H
                  have c104b0 : decide (t300 ≤ t286) = false := decide_eq_false c104
                  clear c104
                  by_cases c105 : t318 = true
                  ·
                   subst c105
                   have H1 : (if t317 = 1 then (j3 kj76 l1) else (none)) = some r := by rw [if_pos rfl] at H; exact H
                   clear H
                   have H := H1
                   clear H1
                   by_cases c106 : t317 = 1
                   ·
                    rw [if_pos c106] at H
                    have c106b0 : (t317 == 1) = true := beq_iff_eq.mpr c106
                    have c106b1 : (t317 != 1) = false := bne_eq_false_iff_eq.mpr c106
                    clear c106
                    as_aux_lemma =>
                     have H' := Aside0.mk H
                     clear H
                     have hcz107_0 : wc.cell? ⟨gb287, 0, none⟩ = some (.int .i64 t283) := (blk_cell BK287.out 0).trans rfl
                     have hcz107_1 : wc.cell? ⟨gb287, 1, none⟩ = some (.int .i64 t284) := (blk_cell BK287.out 1).trans rfl
                     have hcz107_2 : wc.cell? ⟨gb287, 2, none⟩ = some (.int .i64 t285) := (blk_cell BK287.out 2).trans rfl
                     have hfz107_0 := blk_frozen BK287.out 0
                     have hfz107_1 := blk_frozen BK287.out 1
                     have hfz107_2 := blk_frozen BK287.out 2
                     go_wp2_with (first | ((with_reducible refine gate_callee (f := 16) rfl ?_); refine goesL_ (some 248) rfl rfl Try.func16 (by kernel_rfl) rfl #[.agg #[.int .i64 t283, .int .i64 t284, .int .i64 t285], .int .i64 t300] rfl (by (try simp only [List.map_toArray, List.map_cons, List.map_nil]); first | done | rfl | (simp only [List.length_drop, List.length_take]; rfl)) ?_; (with_reducible refine (impl_IsLeapYear.calls t283 t284 t285 t300 true true _ A90.out).mono ?_); rintro e w108 ⟨rfl, hb⟩; refine ⟨_, rfl, ?_⟩; have n0_ := Aside0.mk (blk_below (g := gb287) (by (with_reducible repeat (first | refine blk_drewN ?_ _ | refine blk_drew ?_ | refine blk_alloc ?_ _)); exact BK287.out) hb); have n1_ := Aside0.mk (below_step (by repeat (first | (with_reducible first | exact HB.out | apply below_alloc | apply pw_below_drewN | apply below_drew1 | refine below_set ?_ GE287.out) | exact HB.out)) hb); clear BK287; clear HB; have BK287 := n0_; have HB := n1_; clear n0_ n1_; (try clear hb); (try clear hb2); (try clear hk); (try clear hi); have hcz109_0 : w108.cell? ⟨gb287, 0, none⟩ = some (.int .i64 t283) := (blk_cell BK287.out 0).trans rfl; have hcz109_1 : w108.cell? ⟨gb287, 1, none⟩ = some (.int .i64 t284) := (blk_cell BK287.out 1).trans rfl; have hcz109_2 : w108.cell? ⟨gb287, 2, none⟩ = some (.int .i64 t285) := (blk_cell BK287.out 2).trans rfl; have hfz109_0 := blk_frozen BK287.out 0; have hfz109_1 := blk_frozen BK287.out 1; have hfz109_2 := blk_frozen BK287.out 2) | ((with_reducible refine gate_callee (f := 27) rfl ?_); refine goesL_ (some 255) rfl rfl Try.func27 (by kernel_rfl) rfl #[.agg #[.int .i64 t283, .int .i64 t284, .int .i64 t285], .int .i64 t286, .int .i64 t300] rfl (by (try simp only [List.map_toArray, List.map_cons, List.map_nil]); first | done | rfl | (simp only [List.length_drop, List.length_take]; rfl)) ?_; (with_reducible refine (impl_CountLeaps.calls kj76 t283 t284 t285 t286 t300 t317 true _ A91.out).mono ?_); rintro e w110 ⟨rfl, hb⟩; refine ⟨_, rfl, ?_⟩; have n0_ := Aside0.mk (blk_below (g := gb287) (by (with_reducible repeat (first | refine blk_drewN ?_ _ | refine blk_drew ?_ | refine blk_alloc ?_ _)); exact BK287.out) hb); have n1_ := Aside0.mk (below_step (by repeat (first | (with_reducible first | exact HB.out | apply below_alloc | apply pw_below_drewN | apply below_drew1 | refine below_set ?_ GE287.out) | exact HB.out)) hb); clear BK287; clear HB; have BK287 := n0_; have HB := n1_; clear n0_ n1_; (try clear hb); (try clear hb2); (try clear hk); (try clear hi)))
                     go_meet
                     case rel => exact ⟨_, H', ⟨by have := HJ13.out; have := HJ69.out; have := HJ76.out; first | omega | exact Nat.le_refl _⟩, ⟨by (with_reducible repeat (first | refine blk_drewN ?_ _ | refine blk_drew ?_ | refine blk_alloc ?_ _)); exact BK287.out⟩, ⟨by repeat (first | (with_reducible first | exact HB.out | apply below_alloc | apply pw_below_drewN | apply below_drew1 | refine below_set ?_ GE287.out) | exact HB.out)⟩⟩
                   ·
                    rw [if_neg c106] at H
                    exact absurd H (by simp)
                  ·
                   replace c105 := Bool.eq_false_iff.mpr c105
                   subst c105
                   have H1 : (none) = some r := by rw [if_neg (show ¬ (false = true) by decide)] at H; exact H
                   clear H
                   have H := H1
                   clear H1
                   exact absurd H (by simp)
                ·
                 replace c103 := Bool.eq_false_iff.mpr c103
                 subst c103
                 have H1 : (none) = some r := by rw [if_neg (show ¬ (false = true) by decide)] at H; exact H
                 clear H
                 have H := H1
                 clear H1
                 exact absurd H (by simp)
               ·
                replace c102 := Bool.eq_false_iff.mpr c102
                subst c102
                have H1 : (none) = some r := by rw [if_neg (show ¬ (false = true) by decide)] at H; exact H
                clear H
                have H := H1
                clear H1
                exact absurd H (by simp)
             ·
              replace c89 := Bool.eq_false_iff.mpr c89
              subst c89
              have H1 : (j3 kj76 l1) = some r := by rw [if_neg (show ¬ (false = true) by decide)] at H; exact H
              clear H
              have H := H1
              clear H1
              as_aux_lemma =>
               have H' := Aside0.mk H
               clear H
               go_wp2
               go_meet
               case rel => exact ⟨_, H', ⟨by have := HJ13.out; have := HJ69.out; have := HJ76.out; first | omega | exact Nat.le_refl _⟩, ⟨by (with_reducible repeat (first | refine blk_drewN ?_ _ | refine blk_drew ?_ | refine blk_alloc ?_ _)); exact BK287.out⟩, ⟨by repeat (first | (with_reducible first | exact HB.out | apply below_alloc | apply pw_below_drewN | apply below_drew1 | refine below_set ?_ GE287.out) | exact HB.out)⟩⟩
       ·
        rw [if_neg c68] at H
        exact absurd H (by simp)
      ·
       replace c67 := Bool.eq_false_iff.mpr c67
       subst c67
       have H1 : (j3 kj13 l1) = some r := by rw [if_neg (show ¬ (false = true) by decide)] at H; exact H
       clear H
       have H := H1
       clear H1
       as_aux_lemma =>
        have H' := Aside0.mk H
        clear H
        go_wp2
        go_meet
        case rel => exact ⟨_, H', ⟨by have := HJ13.out; first | omega | exact Nat.le_refl _⟩, ⟨by (with_reducible repeat (first | refine blk_drewN ?_ _ | refine blk_drew ?_ | refine blk_alloc ?_ _)); exact BK287.out⟩, ⟨by repeat (first | (with_reducible first | exact HB.out | apply below_alloc | apply pw_below_drewN | apply below_drew1 | refine below_set ?_ GE287.out) | exact HB.out)⟩⟩
     case rest => as_aux_lemma =>
      clear HC66
      try clear c1
      try clear c4
      try clear c65
      obtain ⟨kq, HA, HJ65, BK287, HB⟩ := hcut
      cases kq with
      | zero => exact absurd HA.out (by simp [j3])
      | succ kj65 =>
       have H := HA.out
       clear HA
       simp only [j3] at H
       replace H := Option.bind_eq_some_iff.mp H
       obtain ⟨⟨t319, t320, t321, t322, t323⟩, A1110, H⟩ := H
       try dsimp only at H
       have A111 := Aside0.mk A1110
       clear A1110
       replace H := Option.bind_eq_some_iff.mp H
       obtain ⟨⟨t325, t326⟩, A1120, H⟩ := H
       try dsimp only at H
       have A112 := Aside0.mk A1120
       clear A1120
       replace H := Option.bind_eq_some_iff.mp H
       obtain ⟨⟨t327, t328⟩, A1130, H⟩ := H
       try dsimp only at H
       have A113 := Aside0.mk A1130
       clear A1130
       replace H := Option.bind_eq_some_iff.mp H
       obtain ⟨⟨t329, t330, t331, t332⟩, A1140, H⟩ := H
       try dsimp only at H
       have A114 := Aside0.mk A1140
       clear A1140
       replace H := Option.bind_eq_some_iff.mp H
       obtain ⟨⟨t334, t335, t336⟩, A1150, H⟩ := H
       try dsimp only at H
       have A115 := Aside0.mk A1150
       clear A1150
       replace H := Option.bind_eq_some_iff.mp H
       obtain ⟨⟨t337, t338, t339⟩, A1160, H⟩ := H
       try dsimp only at H
       have A116 := Aside0.mk A1160
       clear A1160
       replace H := Option.bind_eq_some_iff.mp H
       obtain ⟨⟨t340, t341, t342⟩, A1170, H⟩ := H
       try dsimp only at H
       have A117 := Aside0.mk A1170
       clear A1170
       replace H := Option.bind_eq_some_iff.mp H
       obtain ⟨⟨t344, t345, t346⟩, A1180, H⟩ := H
       try dsimp only at H
       have A118 := Aside0.mk A1180
       clear A1180
       replace H := Option.bind_eq_some_iff.mp H
       obtain ⟨⟨t347, t348, t349⟩, A1190, H⟩ := H
       try dsimp only at H
       have A119 := Aside0.mk A1190
       clear A1190
       replace H := Option.bind_eq_some_iff.mp H
       obtain ⟨⟨t350, t351⟩, A1200, H⟩ := H
       try dsimp only at H
       have A120 := Aside0.mk A1200
       clear A1200
       replace H := Option.bind_eq_some_iff.mp H
       obtain ⟨⟨t352, t353⟩, A1210, H⟩ := H
       try dsimp only at H
       have A121 := Aside0.mk A1210
       clear A1210
       have HC122 := Aside0.mk H
       clear H
       go_upto_region 46 with (first | ((with_reducible refine gate_callee (f := 36) rfl ?_); refine goesL_ (some 281) rfl rfl Try.func36 (by kernel_rfl) rfl #[.slice A1 l1.length c1] rfl (by (try simp only [List.map_toArray, List.map_cons, List.map_nil]); first | done | rfl | (simp only [List.length_drop, List.length_take]; rfl)) ?_; (with_reducible refine (spec_DrawCountLeaps.calls _ _ l1 t319 t320 t321 t322 t323 _ ?side1 ?side2 A111.out).mono ?_); (case side1 => repeat (first | exact (Kd.C_below HR1.out HB.out) | (with_reducible refine Kd.C_alloc ?_ _) | (with_reducible refine Kd.C_drewN ?_ _) | (with_reducible refine Kd.C_drew ?_))); (case side2 => exact HC1.out); rintro e w123 ⟨rfl, hb⟩; refine ⟨_, rfl, ?_⟩; have n0_ := Aside0.mk (blk_below (g := gb287) (by (with_reducible repeat (first | refine blk_drewN ?_ _ | refine blk_drew ?_ | refine blk_alloc ?_ _)); exact BK287.out) hb); have n1_ := Aside0.mk (below_step (by repeat (first | (with_reducible first | exact HB.out | apply below_alloc | apply pw_below_drewN | apply below_drew1 | refine below_set ?_ GE287.out) | exact HB.out)) hb); clear BK287; clear HB; have BK287 := n0_; have HB := n1_; clear n0_ n1_; (try clear hb); (try clear hb2); (try clear hk); (try clear hi)) | ((with_reducible refine gate_dst (N := 34) rfl ?_); refine box_event ?hg (N := 34) ?hd (cs := #[.int .i64 0, .int .i64 0, .int .i64 0]) (t := 26) ?hr ?_; (case hd => rfl); (case hg => rfl); (case hr => first | (go_simp; done) | (go_simp; rfl)); intro gb324 hg w124 hbox hb; have n0_ := Aside0.mk (blk_below (g := gb287) (by (with_reducible repeat (first | refine blk_drewN ?_ _ | refine blk_drew ?_ | refine blk_alloc ?_ _)); exact BK287.out) hb); have n1_ := Aside0.mk (below_step (by repeat (first | (with_reducible first | exact HB.out | apply below_alloc | apply pw_below_drewN | apply below_drew1 | refine below_set ?_ GE287.out) | exact HB.out)) hb); have n2_ := Aside0.mk (hbox); have n3_ := Aside0.mk ((by rw [hg]; exact (below_size (by repeat (first | (with_reducible first | exact HB.out | apply below_alloc | apply pw_below_drewN | apply below_drew1 | refine below_set ?_ GE287.out) | exact HB.out))) : w.heap.size ≤ gb324)); have n4_ := Aside0.mk ((by rw [hg]; exact (below_size (by repeat (first | (with_reducible first | exact HB.out | apply below_alloc | apply pw_below_drewN | apply below_drew1 | refine below_set ?_ GE287.out) | exact HB.out))) : w.heap.size ≤ gb324)); have n5_ := Aside0.mk ((by rw [hg]; exact Nat.ne_of_lt (blk_lt (g := gb287) (o := .cells #[.int .i64 t283, .int .i64 t284, .int .i64 t285] 26 (0, 0)) (by (with_reducible repeat (first | refine blk_drewN ?_ _ | refine blk_drew ?_ | refine blk_alloc ?_ _)); exact BK287.out)) : gb287 ≠ gb324)); have n6_ := Aside0.mk ((by rw [hg]; exact Nat.ne_of_gt (blk_lt (g := gb287) (o := .cells #[.int .i64 t283, .int .i64 t284, .int .i64 t285] 26 (0, 0)) (by (with_reducible repeat (first | refine blk_drewN ?_ _ | refine blk_drew ?_ | refine blk_alloc ?_ _)); exact BK287.out)) : gb324 ≠ gb287)); clear BK287; clear HB; have BK287 := n0_; have HB := n1_; have BK324 := n2_; have GW324 := n3_; have GE324 := n4_; have NB287_324 := n5_; have NB324_287 := n6_; clear n0_ n1_ n2_ n3_ n4_ n5_ n6_; clear hb hbox hg; have hnb125 := NB324_287.out; have hnc125 := NB287_324.out; have hcz126_0 : w124.cell? ⟨gb324, 0, none⟩ = some (.int .i64 0) := (blk_cell BK324.out 0).trans rfl; have hcz126_1 : w124.cell? ⟨gb324, 1, none⟩ = some (.int .i64 0) := (blk_cell BK324.out 1).trans rfl; have hcz126_2 : w124.cell? ⟨gb324, 2, none⟩ = some (.int .i64 0) := (blk_cell BK324.out 2).trans rfl; have hfz126_0 := blk_frozen BK324.out 0; have hfz126_1 := blk_frozen BK324.out 1; have hfz126_2 := blk_frozen BK324.out 2) | ((with_reducible refine gate_callee (f := 27) rfl ?_); refine goesL_ (some 289) rfl rfl Try.func27 (by kernel_rfl) rfl #[.agg #[.int .i64 t319, .int .i64 t320, .int .i64 t321], .int .i64 t322, .int .i64 t323] rfl (by (try simp only [List.map_toArray, List.map_cons, List.map_nil]); first | done | rfl | (simp only [List.length_drop, List.length_take]; rfl)) ?_; (with_reducible refine (impl_CountLeaps.calls kj65 t319 t320 t321 t322 t323 t325 t326 _ A112.out).mono ?_); rintro e w127 ⟨rfl, hb⟩; refine ⟨_, rfl, ?_⟩; have n0_ := Aside0.mk (blk_below (g := gb287) (o := .cells #[.int .i64 t283, .int .i64 t284, .int .i64 t285] 26 (0, 0)) (by (with_reducible repeat (first | refine blk_drewN ?_ _ | refine blk_drew ?_ | refine blk_alloc ?_ _)); refine blk_far ?_ NB287_324.out _; (with_reducible repeat (first | refine blk_drewN ?_ _ | refine blk_drew ?_ | refine blk_alloc ?_ _)); refine blk_far ?_ NB287_324.out _; (with_reducible repeat (first | refine blk_drewN ?_ _ | refine blk_drew ?_ | refine blk_alloc ?_ _)); refine blk_far ?_ NB287_324.out _; (with_reducible repeat (first | refine blk_drewN ?_ _ | refine blk_drew ?_ | refine blk_alloc ?_ _)); exact BK287.out) hb); have n1_ := Aside0.mk (blk_below (g := gb324) (o := .cells #[.int .i64 t319, .int .i64 t320, .int .i64 t321] 26 (0, 0)) (by (with_reducible repeat (first | refine blk_drewN ?_ _ | refine blk_drew ?_ | refine blk_alloc ?_ _)); refine blk_put (cs := #[.int .i64 t319, .int .i64 t320, .int .i64 0]) ?_ 2 _ rfl; (with_reducible repeat (first | refine blk_drewN ?_ _ | refine blk_drew ?_ | refine blk_alloc ?_ _)); refine blk_put (cs := #[.int .i64 t319, .int .i64 0, .int .i64 0]) ?_ 1 _ rfl; (with_reducible repeat (first | refine blk_drewN ?_ _ | refine blk_drew ?_ | refine blk_alloc ?_ _)); refine blk_put (cs := #[.int .i64 0, .int .i64 0, .int .i64 0]) ?_ 0 _ rfl; (with_reducible repeat (first | refine blk_drewN ?_ _ | refine blk_drew ?_ | refine blk_alloc ?_ _)); exact BK324.out) hb); have n2_ := Aside0.mk (below_step (by repeat (first | (with_reducible first | exact HB.out | apply below_alloc | apply pw_below_drewN | apply below_drew1 | refine below_set ?_ GE287.out | refine below_set ?_ GE324.out) | exact HB.out)) hb); clear BK287; clear BK324; clear HB; have BK287 := n0_; have BK324 := n1_; have HB := n2_; clear n0_ n1_ n2_; (try clear hb); (try clear hb2); (try clear hk); (try clear hi); have hcz128_0 : w127.cell? ⟨gb324, 0, none⟩ = some (.int .i64 t319) := (blk_cell BK324.out 0).trans rfl; have hcz128_1 : w127.cell? ⟨gb324, 1, none⟩ = some (.int .i64 t320) := (blk_cell BK324.out 1).trans rfl; have hcz128_2 : w127.cell? ⟨gb324, 2, none⟩ = some (.int .i64 t321) := (blk_cell BK324.out 2).trans rfl; have hfz128_0 := blk_frozen BK324.out 0; have hfz128_1 := blk_frozen BK324.out 1; have hfz128_2 := blk_frozen BK324.out 2) | ((with_reducible refine gate_callee (f := 28) rfl ?_); refine goesL_ (some 296) rfl rfl Try.func28 (by kernel_rfl) rfl #[.agg #[.int .i64 t319, .int .i64 t320, .int .i64 t321], .int .i64 t322, .int .i64 t323] rfl (by (try simp only [List.map_toArray, List.map_cons, List.map_nil]); first | done | rfl | (simp only [List.length_drop, List.length_take]; rfl)) ?_; (with_reducible refine (spec_CountLeaps.calls kj65 t319 t320 t321 t322 t323 t327 t328 _ A113.out).mono ?_); rintro e w129 ⟨rfl, hb⟩; refine ⟨_, rfl, ?_⟩; have n0_ := Aside0.mk (blk_below (g := gb287) (by (with_reducible repeat (first | refine blk_drewN ?_ _ | refine blk_drew ?_ | refine blk_alloc ?_ _)); exact BK287.out) hb); have n1_ := Aside0.mk (blk_below (g := gb324) (by (with_reducible repeat (first | refine blk_drewN ?_ _ | refine blk_drew ?_ | refine blk_alloc ?_ _)); exact BK324.out) hb); have n2_ := Aside0.mk (below_step (by repeat (first | (with_reducible first | exact HB.out | apply below_alloc | apply pw_below_drewN | apply below_drew1 | refine below_set ?_ GE287.out | refine below_set ?_ GE324.out) | exact HB.out)) hb); clear BK287; clear BK324; clear HB; have BK287 := n0_; have BK324 := n1_; have HB := n2_; clear n0_ n1_ n2_; (try clear hb); (try clear hb2); (try clear hk); (try clear hi)) | ((with_reducible refine gate_callee (f := 37) rfl ?_); refine goesL_ (some 301) rfl rfl Try.func37 (by kernel_rfl) rfl #[.slice A1 l1.length c1] rfl (by (try simp only [List.map_toArray, List.map_cons, List.map_nil]); first | done | rfl | (simp only [List.length_drop, List.length_take]; rfl)) ?_; (with_reducible refine (spec_DrawYearOfDay.calls _ _ l1 t329 t330 t331 t332 _ ?side1 ?side2 A114.out).mono ?_); (case side1 => repeat (first | exact (Kd.C_below HR1.out HB.out) | (with_reducible refine Kd.C_alloc ?_ _) | (with_reducible refine Kd.C_drewN ?_ _) | (with_reducible refine Kd.C_drew ?_))); (case side2 => exact HC1.out); rintro e w130 ⟨rfl, hb⟩; refine ⟨_, rfl, ?_⟩; have n0_ := Aside0.mk (blk_below (g := gb287) (by (with_reducible repeat (first | refine blk_drewN ?_ _ | refine blk_drew ?_ | refine blk_alloc ?_ _)); exact BK287.out) hb); have n1_ := Aside0.mk (blk_below (g := gb324) (by (with_reducible repeat (first | refine blk_drewN ?_ _ | refine blk_drew ?_ | refine blk_alloc ?_ _)); exact BK324.out) hb); have n2_ := Aside0.mk (below_step (by repeat (first | (with_reducible first | exact HB.out | apply below_alloc | apply pw_below_drewN | apply below_drew1 | refine below_set ?_ GE287.out | refine below_set ?_ GE324.out) | exact HB.out)) hb); clear BK287; clear BK324; clear HB; have BK287 := n0_; have BK324 := n1_; have HB := n2_; clear n0_ n1_ n2_; (try clear hb); (try clear hb2); (try clear hk); (try clear hi)) | ((with_reducible refine gate_dst (N := 41) rfl ?_); refine box_event ?hg (N := 41) ?hd (cs := #[.int .i64 0, .int .i64 0, .int .i64 0]) (t := 26) ?hr ?_; (case hd => rfl); (case hg => rfl); (case hr => first | (go_simp; done) | (go_simp; rfl)); intro gb333 hg w131 hbox hb; have n0_ := Aside0.mk (blk_below (g := gb287) (by (with_reducible repeat (first | refine blk_drewN ?_ _ | refine blk_drew ?_ | refine blk_alloc ?_ _)); exact BK287.out) hb); have n1_ := Aside0.mk (blk_below (g := gb324) (by (with_reducible repeat (first | refine blk_drewN ?_ _ | refine blk_drew ?_ | refine blk_alloc ?_ _)); exact BK324.out) hb); have n2_ := Aside0.mk (below_step (by repeat (first | (with_reducible first | exact HB.out | apply below_alloc | apply pw_below_drewN | apply below_drew1 | refine below_set ?_ GE287.out | refine below_set ?_ GE324.out) | exact HB.out)) hb); have n3_ := Aside0.mk (hbox); have n4_ := Aside0.mk ((by rw [hg]; exact (below_size (by repeat (first | (with_reducible first | exact HB.out | apply below_alloc | apply pw_below_drewN | apply below_drew1 | refine below_set ?_ GE287.out | refine below_set ?_ GE324.out) | exact HB.out))) : w.heap.size ≤ gb333)); have n5_ := Aside0.mk ((by rw [hg]; exact (below_size (by repeat (first | (with_reducible first | exact HB.out | apply below_alloc | apply pw_below_drewN | apply below_drew1 | refine below_set ?_ GE287.out | refine below_set ?_ GE324.out) | exact HB.out))) : w.heap.size ≤ gb333)); have n6_ := Aside0.mk ((by rw [hg]; exact Nat.ne_of_lt (blk_lt (g := gb287) (o := .cells #[.int .i64 t283, .int .i64 t284, .int .i64 t285] 26 (0, 0)) (by (with_reducible repeat (first | refine blk_drewN ?_ _ | refine blk_drew ?_ | refine blk_alloc ?_ _)); exact BK287.out)) : gb287 ≠ gb333)); have n7_ := Aside0.mk ((by rw [hg]; exact Nat.ne_of_gt (blk_lt (g := gb287) (o := .cells #[.int .i64 t283, .int .i64 t284, .int .i64 t285] 26 (0, 0)) (by (with_reducible repeat (first | refine blk_drewN ?_ _ | refine blk_drew ?_ | refine blk_alloc ?_ _)); exact BK287.out)) : gb333 ≠ gb287)); have n8_ := Aside0.mk ((by rw [hg]; exact Nat.ne_of_lt (blk_lt (g := gb324) (o := .cells #[.int .i64 t319, .int .i64 t320, .int .i64 t321] 26 (0, 0)) (by (with_reducible repeat (first | refine blk_drewN ?_ _ | refine blk_drew ?_ | refine blk_alloc ?_ _)); exact BK324.out)) : gb324 ≠ gb333)); have n9_ := Aside0.mk ((by rw [hg]; exact Nat.ne_of_gt (blk_lt (g := gb324) (o := .cells #[.int .i64 t319, .int .i64 t320, .int .i64 t321] 26 (0, 0)) (by (with_reducible repeat (first | refine blk_drewN ?_ _ | refine blk_drew ?_ | refine blk_alloc ?_ _)); exact BK324.out)) : gb333 ≠ gb324)); clear BK287; clear BK324; clear HB; have BK287 := n0_; have BK324 := n1_; have HB := n2_; have BK333 := n3_; have GW333 := n4_; have GE333 := n5_; have NB287_333 := n6_; have NB333_287 := n7_; have NB324_333 := n8_; have NB333_324 := n9_; clear n0_ n1_ n2_ n3_ n4_ n5_ n6_ n7_ n8_ n9_; clear hb hbox hg; have hnb132 := NB333_287.out; have hnc132 := NB287_333.out; have hnb133 := NB333_324.out; have hnc133 := NB324_333.out; have hcz134_0 : w131.cell? ⟨gb333, 0, none⟩ = some (.int .i64 0) := (blk_cell BK333.out 0).trans rfl; have hcz134_1 : w131.cell? ⟨gb333, 1, none⟩ = some (.int .i64 0) := (blk_cell BK333.out 1).trans rfl; have hcz134_2 : w131.cell? ⟨gb333, 2, none⟩ = some (.int .i64 0) := (blk_cell BK333.out 2).trans rfl; have hfz134_0 := blk_frozen BK333.out 0; have hfz134_1 := blk_frozen BK333.out 1; have hfz134_2 := blk_frozen BK333.out 2) | ((with_reducible refine gate_callee (f := 26) rfl ?_); refine goesL_ (some 307) rfl rfl Try.func26 (by kernel_rfl) rfl #[.agg #[.int .i64 t329, .int .i64 t330, .int .i64 t331], .int .i64 t332] rfl (by (try simp only [List.map_toArray, List.map_cons, List.map_nil]); first | done | rfl | (simp only [List.length_drop, List.length_take]; rfl)) ?_; (with_reducible refine (impl_YearOfDay.calls kj65 t329 t330 t331 t332 t334 t335 t336 _ A115.out).mono ?_); rintro e w135 ⟨rfl, hb⟩; refine ⟨_, rfl, ?_⟩; have n0_ := Aside0.mk (blk_below (g := gb287) (o := .cells #[.int .i64 t283, .int .i64 t284, .int .i64 t285] 26 (0, 0)) (by (with_reducible repeat (first | refine blk_drewN ?_ _ | refine blk_drew ?_ | refine blk_alloc ?_ _)); refine blk_far ?_ NB287_333.out _; (with_reducible repeat (first | refine blk_drewN ?_ _ | refine blk_drew ?_ | refine blk_alloc ?_ _)); refine blk_far ?_ NB287_333.out _; (with_reducible repeat (first | refine blk_drewN ?_ _ | refine blk_drew ?_ | refine blk_alloc ?_ _)); refine blk_far ?_ NB287_333.out _; (with_reducible repeat (first | refine blk_drewN ?_ _ | refine blk_drew ?_ | refine blk_alloc ?_ _)); exact BK287.out) hb); have n1_ := Aside0.mk (blk_below (g := gb324) (o := .cells #[.int .i64 t319, .int .i64 t320, .int .i64 t321] 26 (0, 0)) (by (with_reducible repeat (first | refine blk_drewN ?_ _ | refine blk_drew ?_ | refine blk_alloc ?_ _)); refine blk_far ?_ NB324_333.out _; (with_reducible repeat (first | refine blk_drewN ?_ _ | refine blk_drew ?_ | refine blk_alloc ?_ _)); refine blk_far ?_ NB324_333.out _; (with_reducible repeat (first | refine blk_drewN ?_ _ | refine blk_drew ?_ | refine blk_alloc ?_ _)); refine blk_far ?_ NB324_333.out _; (with_reducible repeat (first | refine blk_drewN ?_ _ | refine blk_drew ?_ | refine blk_alloc ?_ _)); exact BK324.out) hb); have n2_ := Aside0.mk (blk_below (g := gb333) (o := .cells #[.int .i64 t329, .int .i64 t330, .int .i64 t331] 26 (0, 0)) (by (with_reducible repeat (first | refine blk_drewN ?_ _ | refine blk_drew ?_ | refine blk_alloc ?_ _)); refine blk_put (cs := #[.int .i64 t329, .int .i64 t330, .int .i64 0]) ?_ 2 _ rfl; (with_reducible repeat (first | refine blk_drewN ?_ _ | refine blk_drew ?_ | refine blk_alloc ?_ _)); refine blk_put (cs := #[.int .i64 t329, .int .i64 0, .int .i64 0]) ?_ 1 _ rfl; (with_reducible repeat (first | refine blk_drewN ?_ _ | refine blk_drew ?_ | refine blk_alloc ?_ _)); refine blk_put (cs := #[.int .i64 0, .int .i64 0, .int .i64 0]) ?_ 0 _ rfl; (with_reducible repeat (first | refine blk_drewN ?_ _ | refine blk_drew ?_ | refine blk_alloc ?_ _)); exact BK333.out) hb); have n3_ := Aside0.mk (below_step (by repeat (first | (with_reducible first | exact HB.out | apply below_alloc | apply pw_below_drewN | apply below_drew1 | refine below_set ?_ GE287.out | refine below_set ?_ GE324.out | refine below_set ?_ GE333.out) | exact HB.out)) hb); clear BK287; clear BK324; clear BK333; clear HB; have BK287 := n0_; have BK324 := n1_; have BK333 := n2_; have HB := n3_; clear n0_ n1_ n2_ n3_; (try clear hb); (try clear hb2); (try clear hk); (try clear hi); have hcz136_0 : w135.cell? ⟨gb333, 0, none⟩ = some (.int .i64 t329) := (blk_cell BK333.out 0).trans rfl; have hcz136_1 : w135.cell? ⟨gb333, 1, none⟩ = some (.int .i64 t330) := (blk_cell BK333.out 1).trans rfl; have hcz136_2 : w135.cell? ⟨gb333, 2, none⟩ = some (.int .i64 t331) := (blk_cell BK333.out 2).trans rfl; have hfz136_0 := blk_frozen BK333.out 0; have hfz136_1 := blk_frozen BK333.out 1; have hfz136_2 := blk_frozen BK333.out 2) | ((with_reducible refine gate_callee (f := 29) rfl ?_); refine goesL_ (some 314) rfl rfl Try.func29 (by kernel_rfl) rfl #[.agg #[.int .i64 t329, .int .i64 t330, .int .i64 t331], .int .i64 t332] rfl (by (try simp only [List.map_toArray, List.map_cons, List.map_nil]); first | done | rfl | (simp only [List.length_drop, List.length_take]; rfl)) ?_; (with_reducible refine (spec_YearOfDay.calls kj65 t329 t330 t331 t332 t337 t338 t339 _ A116.out).mono ?_); rintro e w137 ⟨rfl, hb⟩; refine ⟨_, rfl, ?_⟩; have n0_ := Aside0.mk (blk_below (g := gb287) (by (with_reducible repeat (first | refine blk_drewN ?_ _ | refine blk_drew ?_ | refine blk_alloc ?_ _)); exact BK287.out) hb); have n1_ := Aside0.mk (blk_below (g := gb324) (by (with_reducible repeat (first | refine blk_drewN ?_ _ | refine blk_drew ?_ | refine blk_alloc ?_ _)); exact BK324.out) hb); have n2_ := Aside0.mk (blk_below (g := gb333) (by (with_reducible repeat (first | refine blk_drewN ?_ _ | refine blk_drew ?_ | refine blk_alloc ?_ _)); exact BK333.out) hb); have n3_ := Aside0.mk (below_step (by repeat (first | (with_reducible first | exact HB.out | apply below_alloc | apply pw_below_drewN | apply below_drew1 | refine below_set ?_ GE287.out | refine below_set ?_ GE324.out | refine below_set ?_ GE333.out) | exact HB.out)) hb); clear BK287; clear BK324; clear BK333; clear HB; have BK287 := n0_; have BK324 := n1_; have BK333 := n2_; have HB := n3_; clear n0_ n1_ n2_ n3_; (try clear hb); (try clear hb2); (try clear hk); (try clear hi)) | ((with_reducible refine gate_callee (f := 38) rfl ?_); refine goesL_ (some 319) rfl rfl Try.func38 (by kernel_rfl) rfl #[.slice A1 l1.length c1] rfl (by (try simp only [List.map_toArray, List.map_cons, List.map_nil]); first | done | rfl | (simp only [List.length_drop, List.length_take]; rfl)) ?_; (with_reducible refine (spec_DrawLeapsOfCycle.calls _ _ l1 t340 t341 t342 _ ?side1 ?side2 A117.out).mono ?_); (case side1 => repeat (first | exact (Kd.C_below HR1.out HB.out) | (with_reducible refine Kd.C_alloc ?_ _) | (with_reducible refine Kd.C_drewN ?_ _) | (with_reducible refine Kd.C_drew ?_))); (case side2 => exact HC1.out); rintro e w138 ⟨rfl, hb⟩; refine ⟨_, rfl, ?_⟩; have n0_ := Aside0.mk (blk_below (g := gb287) (by (with_reducible repeat (first | refine blk_drewN ?_ _ | refine blk_drew ?_ | refine blk_alloc ?_ _)); exact BK287.out) hb); have n1_ := Aside0.mk (blk_below (g := gb324) (by (with_reducible repeat (first | refine blk_drewN ?_ _ | refine blk_drew ?_ | refine blk_alloc ?_ _)); exact BK324.out) hb); have n2_ := Aside0.mk (blk_below (g := gb333) (by (with_reducible repeat (first | refine blk_drewN ?_ _ | refine blk_drew ?_ | refine blk_alloc ?_ _)); exact BK333.out) hb); have n3_ := Aside0.mk (below_step (by repeat (first | (with_reducible first | exact HB.out | apply below_alloc | apply pw_below_drewN | apply below_drew1 | refine below_set ?_ GE287.out | refine below_set ?_ GE324.out | refine below_set ?_ GE333.out) | exact HB.out)) hb); clear BK287; clear BK324; clear BK333; clear HB; have BK287 := n0_; have BK324 := n1_; have BK333 := n2_; have HB := n3_; clear n0_ n1_ n2_ n3_; (try clear hb); (try clear hb2); (try clear hk); (try clear hi)) | ((with_reducible refine gate_dst (N := 49) rfl ?_); refine box_event ?hg (N := 49) ?hd (cs := #[.int .i64 0, .int .i64 0, .int .i64 0]) (t := 26) ?hr ?_; (case hd => rfl); (case hg => rfl); (case hr => first | (go_simp; done) | (go_simp; rfl)); intro gb343 hg w139 hbox hb; have n0_ := Aside0.mk (blk_below (g := gb287) (by (with_reducible repeat (first | refine blk_drewN ?_ _ | refine blk_drew ?_ | refine blk_alloc ?_ _)); exact BK287.out) hb); have n1_ := Aside0.mk (blk_below (g := gb324) (by (with_reducible repeat (first | refine blk_drewN ?_ _ | refine blk_drew ?_ | refine blk_alloc ?_ _)); exact BK324.out) hb); have n2_ := Aside0.mk (blk_below (g := gb333) (by (with_reducible repeat (first | refine blk_drewN ?_ _ | refine blk_drew ?_ | refine blk_alloc ?_ _)); exact BK333.out) hb); have n3_ := Aside0.mk (below_step (by repeat (first | (with_reducible first | exact HB.out | apply below_alloc | apply pw_below_drewN | apply below_drew1 | refine below_set ?_ GE287.out | refine below_set ?_ GE324.out | refine below_set ?_ GE333.out) | exact HB.out)) hb); have n4_ := Aside0.mk (hbox); have n5_ := Aside0.mk ((by rw [hg]; exact (below_size (by repeat (first | (with_reducible first | exact HB.out | apply below_alloc | apply pw_below_drewN | apply below_drew1 | refine below_set ?_ GE287.out | refine below_set ?_ GE324.out | refine below_set ?_ GE333.out) | exact HB.out))) : w.heap.size ≤ gb343)); have n6_ := Aside0.mk ((by rw [hg]; exact (below_size (by repeat (first | (with_reducible first | exact HB.out | apply below_alloc | apply pw_below_drewN | apply below_drew1 | refine below_set ?_ GE287.out | refine below_set ?_ GE324.out | refine below_set ?_ GE333.out) | exact HB.out))) : w.heap.size ≤ gb343)); have n7_ := Aside0.mk ((by rw [hg]; exact Nat.ne_of_lt (blk_lt (g := gb287) (o := .cells #[.int .i64 t283, .int .i64 t284, .int .i64 t285] 26 (0, 0)) (by (with_reducible repeat (first | refine blk_drewN ?_ _ | refine blk_drew ?_ | refine blk_alloc ?_ _)); exact BK287.out)) : gb287 ≠ gb343)); have n8_ := Aside0.mk ((by rw [hg]; exact Nat.ne_of_gt (blk_lt (g := gb287) (o := .cells #[.int .i64 t283, .int .i64 t284, .int .i64 t285] 26 (0, 0)) (by (with_reducible repeat (first | refine blk_drewN ?_ _ | refine blk_drew ?_ | refine blk_alloc ?_ _)); exact BK287.out)) : gb343 ≠ gb287)); have n9_ := Aside0.mk ((by rw [hg]; exact Nat.ne_of_lt (blk_lt (g := gb324) (o := .cells #[.int .i64 t319, .int .i64 t320, .int .i64 t321] 26 (0, 0)) (by (with_reducible repeat (first | refine blk_drewN ?_ _ | refine blk_drew ?_ | refine blk_alloc ?_ _)); exact BK324.out)) : gb324 ≠ gb343)); have n10_ := Aside0.mk ((by rw [hg]; exact Nat.ne_of_gt (blk_lt (g := gb324) (o := .cells #[.int .i64 t319, .int .i64 t320, .int .i64 t321] 26 (0, 0)) (by (with_reducible repeat (first | refine blk_drewN ?_ _ | refine blk_drew ?_ | refine blk_alloc ?_ _)); exact BK324.out)) : gb343 ≠ gb324)); have n11_ := Aside0.mk ((by rw [hg]; exact Nat.ne_of_lt (blk_lt (g := gb333) (o := .cells #[.int .i64 t329, .int .i64 t330, .int .i64 t331] 26 (0, 0)) (by (with_reducible repeat (first | refine blk_drewN ?_ _ | refine blk_drew ?_ | refine blk_alloc ?_ _)); exact BK333.out)) : gb333 ≠ gb343)); have n12_ := Aside0.mk ((by rw [hg]; exact Nat.ne_of_gt (blk_lt (g := gb333) (o := .cells #[.int .i64 t329, .int .i64 t330, .int .i64 t331] 26 (0, 0)) (by (with_reducible repeat (first | refine blk_drewN ?_ _ | refine blk_drew ?_ | refine blk_alloc ?_ _)); exact BK333.out)) : gb343 ≠ gb333)); clear BK287; clear BK324; clear BK333; clear HB; have BK287 := n0_; have BK324 := n1_; have BK333 := n2_; have HB := n3_; have BK343 := n4_; have GW343 := n5_; have GE343 := n6_; have NB287_343 := n7_; have NB343_287 := n8_; have NB324_343 := n9_; have NB343_324 := n10_; have NB333_343 := n11_; have NB343_333 := n12_; clear n0_ n1_ n2_ n3_ n4_ n5_ n6_ n7_ n8_ n9_ n10_ n11_ n12_; clear hb hbox hg; have hnb140 := NB343_287.out; have hnc140 := NB287_343.out; have hnb141 := NB343_324.out; have hnc141 := NB324_343.out; have hnb142 := NB343_333.out; have hnc142 := NB333_343.out; have hcz143_0 : w139.cell? ⟨gb343, 0, none⟩ = some (.int .i64 0) := (blk_cell BK343.out 0).trans rfl; have hcz143_1 : w139.cell? ⟨gb343, 1, none⟩ = some (.int .i64 0) := (blk_cell BK343.out 1).trans rfl; have hcz143_2 : w139.cell? ⟨gb343, 2, none⟩ = some (.int .i64 0) := (blk_cell BK343.out 2).trans rfl; have hfz143_0 := blk_frozen BK343.out 0; have hfz143_1 := blk_frozen BK343.out 1; have hfz143_2 := blk_frozen BK343.out 2) | ((with_reducible refine gate_callee (f := 30) rfl ?_); refine goesL_ (some 322) rfl rfl Try.func30 (by kernel_rfl) rfl #[.agg #[.int .i64 t340, .int .i64 t341, .int .i64 t342]] rfl (by (try simp only [List.map_toArray, List.map_cons, List.map_nil]); first | done | rfl | (simp only [List.length_drop, List.length_take]; rfl)) ?_; (with_reducible refine (impl_LeapsOfCycle.calls t340 t341 t342 t344 t345 t346 _ A118.out).mono ?_); rintro e w144 ⟨rfl, hb⟩; refine ⟨_, rfl, ?_⟩; have n0_ := Aside0.mk (blk_below (g := gb287) (o := .cells #[.int .i64 t283, .int .i64 t284, .int .i64 t285] 26 (0, 0)) (by (with_reducible repeat (first | refine blk_drewN ?_ _ | refine blk_drew ?_ | refine blk_alloc ?_ _)); refine blk_far ?_ NB287_343.out _; (with_reducible repeat (first | refine blk_drewN ?_ _ | refine blk_drew ?_ | refine blk_alloc ?_ _)); refine blk_far ?_ NB287_343.out _; (with_reducible repeat (first | refine blk_drewN ?_ _ | refine blk_drew ?_ | refine blk_alloc ?_ _)); refine blk_far ?_ NB287_343.out _; (with_reducible repeat (first | refine blk_drewN ?_ _ | refine blk_drew ?_ | refine blk_alloc ?_ _)); exact BK287.out) hb); have n1_ := Aside0.mk (blk_below (g := gb324) (o := .cells #[.int .i64 t319, .int .i64 t320, .int .i64 t321] 26 (0, 0)) (by (with_reducible repeat (first | refine blk_drewN ?_ _ | refine blk_drew ?_ | refine blk_alloc ?_ _)); refine blk_far ?_ NB324_343.out _; (with_reducible repeat (first | refine blk_drewN ?_ _ | refine blk_drew ?_ | refine blk_alloc ?_ _)); refine blk_far ?_ NB324_343.out _; (with_reducible repeat (first | refine blk_drewN ?_ _ | refine blk_drew ?_ | refine blk_alloc ?_ _)); refine blk_far ?_ NB324_343.out _; (with_reducible repeat (first | refine blk_drewN ?_ _ | refine blk_drew ?_ | refine blk_alloc ?_ _)); exact BK324.out) hb); have n2_ := Aside0.mk (blk_below (g := gb333) (o := .cells #[.int .i64 t329, .int .i64 t330, .int .i64 t331] 26 (0, 0)) (by (with_reducible repeat (first | refine blk_drewN ?_ _ | refine blk_drew ?_ | refine blk_alloc ?_ _)); refine blk_far ?_ NB333_343.out _; (with_reducible repeat (first | refine blk_drewN ?_ _ | refine blk_drew ?_ | refine blk_alloc ?_ _)); refine blk_far ?_ NB333_343.out _; (with_reducible repeat (first | refine blk_drewN ?_ _ | refine blk_drew ?_ | refine blk_alloc ?_ _)); refine blk_far ?_ NB333_343.out _; (with_reducible repeat (first | refine blk_drewN ?_ _ | refine blk_drew ?_ | refine blk_alloc ?_ _)); exact BK333.out) hb); have n3_ := Aside0.mk (blk_below (g := gb343) (o := .cells #[.int .i64 t340, .int .i64 t341, .int .i64 t342] 26 (0, 0)) (by (with_reducible repeat (first | refine blk_drewN ?_ _ | refine blk_drew ?_ | refine blk_alloc ?_ _)); refine blk_put (cs := #[.int .i64 t340, .int .i64 t341, .int .i64 0]) ?_ 2 _ rfl; (with_reducible repeat (first | refine blk_drewN ?_ _ | refine blk_drew ?_ | refine blk_alloc ?_ _)); refine blk_put (cs := #[.int .i64 t340, .int .i64 0, .int .i64 0]) ?_ 1 _ rfl; (with_reducible repeat (first | refine blk_drewN ?_ _ | refine blk_drew ?_ | refine blk_alloc ?_ _)); refine blk_put (cs := #[.int .i64 0, .int .i64 0, .int .i64 0]) ?_ 0 _ rfl; (with_reducible repeat (first | refine blk_drewN ?_ _ | refine blk_drew ?_ | refine blk_alloc ?_ _)); exact BK343.out) hb); have n4_ := Aside0.mk (below_step (by repeat (first | (with_reducible first | exact HB.out | apply below_alloc | apply pw_below_drewN | apply below_drew1 | refine below_set ?_ GE287.out | refine below_set ?_ GE324.out | refine below_set ?_ GE333.out | refine below_set ?_ GE343.out) | exact HB.out)) hb); clear BK287; clear BK324; clear BK333; clear BK343; clear HB; have BK287 := n0_; have BK324 := n1_; have BK333 := n2_; have BK343 := n3_; have HB := n4_; clear n0_ n1_ n2_ n3_ n4_; (try clear hb); (try clear hb2); (try clear hk); (try clear hi); have hcz145_0 : w144.cell? ⟨gb343, 0, none⟩ = some (.int .i64 t340) := (blk_cell BK343.out 0).trans rfl; have hcz145_1 : w144.cell? ⟨gb343, 1, none⟩ = some (.int .i64 t341) := (blk_cell BK343.out 1).trans rfl; have hcz145_2 : w144.cell? ⟨gb343, 2, none⟩ = some (.int .i64 t342) := (blk_cell BK343.out 2).trans rfl; have hfz145_0 := blk_frozen BK343.out 0; have hfz145_1 := blk_frozen BK343.out 1; have hfz145_2 := blk_frozen BK343.out 2) | ((with_reducible refine gate_callee (f := 31) rfl ?_); refine goesL_ (some 328) rfl rfl Try.func31 (by kernel_rfl) rfl #[.agg #[.int .i64 t340, .int .i64 t341, .int .i64 t342]] rfl (by (try simp only [List.map_toArray, List.map_cons, List.map_nil]); first | done | rfl | (simp only [List.length_drop, List.length_take]; rfl)) ?_; (with_reducible refine (spec_LeapsOfCycle.calls kj65 t340 t341 t342 t347 t348 t349 _ A119.out).mono ?_); rintro e w146 ⟨rfl, hb⟩; refine ⟨_, rfl, ?_⟩; have n0_ := Aside0.mk (blk_below (g := gb287) (by (with_reducible repeat (first | refine blk_drewN ?_ _ | refine blk_drew ?_ | refine blk_alloc ?_ _)); exact BK287.out) hb); have n1_ := Aside0.mk (blk_below (g := gb324) (by (with_reducible repeat (first | refine blk_drewN ?_ _ | refine blk_drew ?_ | refine blk_alloc ?_ _)); exact BK324.out) hb); have n2_ := Aside0.mk (blk_below (g := gb333) (by (with_reducible repeat (first | refine blk_drewN ?_ _ | refine blk_drew ?_ | refine blk_alloc ?_ _)); exact BK333.out) hb); have n3_ := Aside0.mk (blk_below (g := gb343) (by (with_reducible repeat (first | refine blk_drewN ?_ _ | refine blk_drew ?_ | refine blk_alloc ?_ _)); exact BK343.out) hb); have n4_ := Aside0.mk (below_step (by repeat (first | (with_reducible first | exact HB.out | apply below_alloc | apply pw_below_drewN | apply below_drew1 | refine below_set ?_ GE287.out | refine below_set ?_ GE324.out | refine below_set ?_ GE333.out | refine below_set ?_ GE343.out) | exact HB.out)) hb); clear BK287; clear BK324; clear BK333; clear BK343; clear HB; have BK287 := n0_; have BK324 := n1_; have BK333 := n2_; have BK343 := n3_; have HB := n4_; clear n0_ n1_ n2_ n3_ n4_; (try clear hb); (try clear hb2); (try clear hk); (try clear hi); have hcz147_0 : w146.cell? ⟨gb343, 0, none⟩ = some (.int .i64 t340) := (blk_cell BK343.out 0).trans rfl; have hcz147_1 : w146.cell? ⟨gb343, 1, none⟩ = some (.int .i64 t341) := (blk_cell BK343.out 1).trans rfl; have hcz147_2 : w146.cell? ⟨gb343, 2, none⟩ = some (.int .i64 t342) := (blk_cell BK343.out 2).trans rfl; have hfz147_0 := blk_frozen BK343.out 0; have hfz147_1 := blk_frozen BK343.out 1; have hfz147_2 := blk_frozen BK343.out 2) | ((with_reducible refine gate_callee (f := 32) rfl ?_); refine goesL_ (some 334) rfl rfl Try.func32 (by kernel_rfl) rfl #[.agg #[.int .i64 t340, .int .i64 t341, .int .i64 t342]] rfl (by (try simp only [List.map_toArray, List.map_cons, List.map_nil]); first | done | rfl | (simp only [List.length_drop, List.length_take]; rfl)) ?_; (with_reducible refine (impl_WeekCycle.calls t340 t341 t342 t350 t351 _ A120.out).mono ?_); rintro e w148 ⟨rfl, hb⟩; refine ⟨_, rfl, ?_⟩; have n0_ := Aside0.mk (blk_below (g := gb287) (by (with_reducible repeat (first | refine blk_drewN ?_ _ | refine blk_drew ?_ | refine blk_alloc ?_ _)); exact BK287.out) hb); have n1_ := Aside0.mk (blk_below (g := gb324) (by (with_reducible repeat (first | refine blk_drewN ?_ _ | refine blk_drew ?_ | refine blk_alloc ?_ _)); exact BK324.out) hb); have n2_ := Aside0.mk (blk_below (g := gb333) (by (with_reducible repeat (first | refine blk_drewN ?_ _ | refine blk_drew ?_ | refine blk_alloc ?_ _)); exact BK333.out) hb); have n3_ := Aside0.mk (blk_below (g := gb343) (by (with_reducible repeat (first | refine blk_drewN ?_ _ | refine blk_drew ?_ | refine blk_alloc ?_ _)); exact BK343.out) hb); have n4_ := Aside0.mk (below_step (by repeat (first | (with_reducible first | exact HB.out | apply below_alloc | apply pw_below_drewN | apply below_drew1 | refine below_set ?_ GE287.out | refine below_set ?_ GE324.out | refine below_set ?_ GE333.out | refine below_set ?_ GE343.out) | exact HB.out)) hb); clear BK287; clear BK324; clear BK333; clear BK343; clear HB; have BK287 := n0_; have BK324 := n1_; have BK333 := n2_; have BK343 := n3_; have HB := n4_; clear n0_ n1_ n2_ n3_ n4_; (try clear hb); (try clear hb2); (try clear hk); (try clear hi); have hcz149_0 : w148.cell? ⟨gb343, 0, none⟩ = some (.int .i64 t340) := (blk_cell BK343.out 0).trans rfl; have hcz149_1 : w148.cell? ⟨gb343, 1, none⟩ = some (.int .i64 t341) := (blk_cell BK343.out 1).trans rfl; have hcz149_2 : w148.cell? ⟨gb343, 2, none⟩ = some (.int .i64 t342) := (blk_cell BK343.out 2).trans rfl; have hfz149_0 := blk_frozen BK343.out 0; have hfz149_1 := blk_frozen BK343.out 1; have hfz149_2 := blk_frozen BK343.out 2) | ((with_reducible refine gate_callee (f := 33) rfl ?_); refine goesL_ (some 339) rfl rfl Try.func33 (by kernel_rfl) rfl #[.agg #[.int .i64 t340, .int .i64 t341, .int .i64 t342]] rfl (by (try simp only [List.map_toArray, List.map_cons, List.map_nil]); first | done | rfl | (simp only [List.length_drop, List.length_take]; rfl)) ?_; (with_reducible refine (spec_WeekCycle.calls kj65 t340 t341 t342 t352 t353 _ A121.out).mono ?_); rintro e w150 ⟨rfl, hb⟩; refine ⟨_, rfl, ?_⟩; have n0_ := Aside0.mk (blk_below (g := gb287) (by (with_reducible repeat (first | refine blk_drewN ?_ _ | refine blk_drew ?_ | refine blk_alloc ?_ _)); exact BK287.out) hb); have n1_ := Aside0.mk (blk_below (g := gb324) (by (with_reducible repeat (first | refine blk_drewN ?_ _ | refine blk_drew ?_ | refine blk_alloc ?_ _)); exact BK324.out) hb); have n2_ := Aside0.mk (blk_below (g := gb333) (by (with_reducible repeat (first | refine blk_drewN ?_ _ | refine blk_drew ?_ | refine blk_alloc ?_ _)); exact BK333.out) hb); have n3_ := Aside0.mk (blk_below (g := gb343) (by (with_reducible repeat (first | refine blk_drewN ?_ _ | refine blk_drew ?_ | refine blk_alloc ?_ _)); exact BK343.out) hb); have n4_ := Aside0.mk (below_step (by repeat (first | (with_reducible first | exact HB.out | apply below_alloc | apply pw_below_drewN | apply below_drew1 | refine below_set ?_ GE287.out | refine below_set ?_ GE324.out | refine below_set ?_ GE333.out | refine below_set ?_ GE343.out) | exact HB.out)) hb); clear BK287; clear BK324; clear BK333; clear BK343; clear HB; have BK287 := n0_; have BK324 := n1_; have BK333 := n2_; have BK343 := n3_; have HB := n4_; clear n0_ n1_ n2_ n3_ n4_; (try clear hb); (try clear hb2); (try clear hk); (try clear hi)))
       (try simp only [Act.put, s1, s2, s3])
       go_cut [394] from 225 to 394 (fun v394 wc => ∃ (kq : Nat) (x394_121 : Bool), v394 = .bool x394_121 ∧ Aside0 (j4 kq t322 t323 t325 t326 t332 t334 t335 t336 t344 t345 t346 t350 x394_121 t319 t320 t321 t329 t330 t331 t340 t341 t342 = some r) ∧ Aside0 (kq ≤ kj65) ∧ Aside0 (wc.heap[gb287]? = some (.cells #[.int .i64 t283, .int .i64 t284, .int .i64 t285] 26 (0, 0))) ∧ Aside0 (wc.heap[gb324]? = some (.cells #[.int .i64 t319, .int .i64 t320, .int .i64 t321] 26 (0, 0))) ∧ Aside0 (wc.heap[gb333]? = some (.cells #[.int .i64 t329, .int .i64 t330, .int .i64 t331] 26 (0, 0))) ∧ Aside0 (wc.heap[gb343]? = some (.cells #[.int .i64 t340, .int .i64 t341, .int .i64 t342] 26 (0, 0))) ∧ Aside0 (Below w.heap.size w wc))
       case first => as_aux_lemma =>
        have H := HC122.out
        clear HC122
        by_cases c151 : (t326 != t328) = true
        ·
         rw [if_pos c151] at H
         exact absurd H (by simp)
        ·
         rw [if_neg c151] at H
         have c151b0 : (t326 != t328) = false := by simpa using c151
         (try (have c151b1 : decide (t326 = t328) = true := by simpa using c151))
         (try (have c151b2 : (t326 == t328) = true := by simpa using c151))
         clear c151
         (first | rw [c151b0] | (simp only [i64_w, i32_w]; rw [c151b0]) | skip)
         by_cases c152 : t325 = t327
         ·
          rw [if_pos c152] at H
          have c152b0 : (t325 == t327) = true := beq_iff_eq.mpr c152
          have c152b1 : (t325 != t327) = false := bne_eq_false_iff_eq.mpr c152
          clear c152
          by_cases c153 : (t336 != t339) = true
          ·
           rw [if_pos c153] at H
           exact absurd H (by simp)
          ·
           rw [if_neg c153] at H
           have c153b0 : (t336 != t339) = false := by simpa using c153
           (try (have c153b1 : decide (t336 = t339) = true := by simpa using c153))
           (try (have c153b2 : (t336 == t339) = true := by simpa using c153))
           clear c153
           by_cases c154 : t334 = t337
           ·
            rw [if_pos c154] at H
            have c154b0 : (t334 == t337) = true := beq_iff_eq.mpr c154
            have c154b1 : (t334 != t337) = false := bne_eq_false_iff_eq.mpr c154
            clear c154
            by_cases c155 : t335 = t338
            ·
             rw [if_pos c155] at H
             have c155b0 : (t335 == t338) = true := beq_iff_eq.mpr c155
             have c155b1 : (t335 != t338) = false := bne_eq_false_iff_eq.mpr c155
             clear c155
             by_cases c156 : (t346 != t349) = true
             ·
              rw [if_pos c156] at H
              exact absurd H (by simp)
             ·
              rw [if_neg c156] at H
              have c156b0 : (t346 != t349) = false := by simpa using c156
              (try (have c156b1 : decide (t346 = t349) = true := by simpa using c156))
              (try (have c156b2 : (t346 == t349) = true := by simpa using c156))
              clear c156
              by_cases c157 : t344 = t347
              ·
               rw [if_pos c157] at H
               have c157b0 : (t344 == t347) = true := beq_iff_eq.mpr c157
               have c157b1 : (t344 != t347) = false := bne_eq_false_iff_eq.mpr c157
               clear c157
               by_cases c158 : t345 = t348
               ·
                rw [if_pos c158] at H
                have c158b0 : (t345 == t348) = true := beq_iff_eq.mpr c158
                have c158b1 : (t345 != t348) = false := bne_eq_false_iff_eq.mpr c158
                clear c158
                by_cases c159 : (t351 != t353) = true
                ·
                 rw [if_pos c159] at H
                 exact absurd H (by simp)
                ·
                 rw [if_neg c159] at H
                 have c159b0 : (t351 != t353) = false := by simpa using c159
                 (try (have c159b1 : decide (t351 = t353) = true := by simpa using c159))
                 (try (have c159b2 : (t351 == t353) = true := by simpa using c159))
                 clear c159
                 by_cases c160 : t350 = t352
                 ·
                  rw [if_pos c160] at H
                  have c160b0 : (t350 == t352) = true := beq_iff_eq.mpr c160
                  have c160b1 : (t350 != t352) = false := bne_eq_false_iff_eq.mpr c160
                  clear c160
                  as_aux_lemma =>
                   have H' := Aside0.mk H
                   clear H
                   go_wp2
                   go_meet
                   case rel => exact ⟨_, ((t351 != t346)), (by first | rfl | (simp; done) | (simp [*]; done)), H', ⟨by have := HJ13.out; have := HJ65.out; first | omega | exact Nat.le_refl _⟩, ⟨by (with_reducible repeat (first | refine blk_drewN ?_ _ | refine blk_drew ?_ | refine blk_alloc ?_ _)); exact BK287.out⟩, ⟨by (with_reducible repeat (first | refine blk_drewN ?_ _ | refine blk_drew ?_ | refine blk_alloc ?_ _)); exact BK324.out⟩, ⟨by (with_reducible repeat (first | refine blk_drewN ?_ _ | refine blk_drew ?_ | refine blk_alloc ?_ _)); exact BK333.out⟩, ⟨by (with_reducible repeat (first | refine blk_drewN ?_ _ | refine blk_drew ?_ | refine blk_alloc ?_ _)); exact BK343.out⟩, ⟨by repeat (first | (with_reducible first | exact HB.out | apply below_alloc | apply pw_below_drewN | apply below_drew1 | refine below_set ?_ GE287.out | refine below_set ?_ GE324.out | refine below_set ?_ GE333.out | refine below_set ?_ GE343.out) | exact HB.out)⟩⟩
                 ·
                  rw [if_neg c160] at H
                  exact absurd H (by simp)
               ·
                rw [if_neg c158] at H
                exact absurd H (by simp)
              ·
               rw [if_neg c157] at H
               exact absurd H (by simp)
            ·
             rw [if_neg c155] at H
             exact absurd H (by simp)
           ·
            rw [if_neg c154] at H
            exact absurd H (by simp)
         ·
          rw [if_neg c152] at H
          exact absurd H (by simp)
       case rest => as_aux_lemma =>
        clear HC122
        try clear c1
        try clear c4
        try clear c65
        obtain ⟨kq, x394_121, rfl, HA, HJ121, BK287, BK324, BK333, BK343, HB⟩ := hcut
        cases kq with
        | zero => exact absurd HA.out (by simp [j4])
        | succ kj121 =>
         have H := HA.out
         clear HA
         simp only [j4] at H
         by_cases c161 : x394_121 = true
         ·
          subst c161
          have H1 : (none) = some r := by rw [if_pos rfl] at H; exact H
          clear H
          have H := H1
          clear H1
          exact absurd H (by simp)
         ·
          replace c161 := Bool.eq_false_iff.mpr c161
          subst c161
          have H1 : (if t326 = true then (if t323 ≥ t322 then (j5 kj121 t322 t323 t325 t332 t334 t335 t336 t344 t345 t346 t350 (decide ((wrap64 (t323 - t322)) ≤ 300)) t319 t320 t321 t329 t330 t331 t340 t341 t342) else (j5 kj121 t322 t323 t325 t332 t334 t335 t336 t344 t345 t346 t350 false t319 t320 t321 t329 t330 t331 t340 t341 t342)) else (j5 kj121 t322 t323 t325 t332 t334 t335 t336 t344 t345 t346 t350 false t319 t320 t321 t329 t330 t331 t340 t341 t342)) = some r := by rw [if_neg (show ¬ (false = true) by decide)] at H; exact H
          clear H
          have H := H1
          clear H1
          have HC162 := Aside0.mk H
          clear H
          go_upto_region 48 with (fail)
          go_cut [406] from 395 to 406 (fun v406 wc => ∃ (kq : Nat) (x406_161 : Bool), v406 = .bool x406_161 ∧ Aside0 (j5 kq t322 t323 t325 t332 t334 t335 t336 t344 t345 t346 t350 x406_161 t319 t320 t321 t329 t330 t331 t340 t341 t342 = some r) ∧ Aside0 (kq ≤ kj121) ∧ Aside0 (wc.heap[gb287]? = some (.cells #[.int .i64 t283, .int .i64 t284, .int .i64 t285] 26 (0, 0))) ∧ Aside0 (wc.heap[gb324]? = some (.cells #[.int .i64 t319, .int .i64 t320, .int .i64 t321] 26 (0, 0))) ∧ Aside0 (wc.heap[gb333]? = some (.cells #[.int .i64 t329, .int .i64 t330, .int .i64 t331] 26 (0, 0))) ∧ Aside0 (wc.heap[gb343]? = some (.cells #[.int .i64 t340, .int .i64 t341, .int .i64 t342] 26 (0, 0))) ∧ Aside0 (Below w.heap.size w wc))
          case first => as_aux_lemma =>
           have H := HC162.out
           clear HC162
           by_cases c163 : t326 = true
           ·
            subst c163
            have H1 : (if t323 ≥ t322 then (j5 kj121 t322 t323 t325 t332 t334 t335 t336 t344 t345 t346 t350 (decide ((wrap64 (t323 - t322)) ≤ 300)) t319 t320 t321 t329 t330 t331 t340 t341 t342) else (j5 kj121 t322 t323 t325 t332 t334 t335 t336 t344 t345 t346 t350 false t319 t320 t321 t329 t330 t331 t340 t341 t342)) = some r := by rw [if_pos rfl] at H; exact H
            clear H
            have H := H1
            clear H1
            by_cases c164 : t323 ≥ t322
            ·
             rw [if_pos c164] at H
             have c164b0 : decide (t322 ≤ t323) = true := decide_eq_true c164
             clear c164
             (first | rw [c164b0] | (simp only [i64_w, i32_w]; rw [c164b0]) | skip)
             as_aux_lemma =>
              have H' := Aside0.mk H
              clear H
              go_wp2
              go_meet
              case rel => exact ⟨_, (decide ((wrap64 (t323 - t322)) ≤ 300)), (by first | rfl | (simp; done) | (simp [*]; done)), H', ⟨by have := HJ13.out; have := HJ65.out; have := HJ121.out; first | omega | exact Nat.le_refl _⟩, ⟨by (with_reducible repeat (first | refine blk_drewN ?_ _ | refine blk_drew ?_ | refine blk_alloc ?_ _)); exact BK287.out⟩, ⟨by (with_reducible repeat (first | refine blk_drewN ?_ _ | refine blk_drew ?_ | refine blk_alloc ?_ _)); exact BK324.out⟩, ⟨by (with_reducible repeat (first | refine blk_drewN ?_ _ | refine blk_drew ?_ | refine blk_alloc ?_ _)); exact BK333.out⟩, ⟨by (with_reducible repeat (first | refine blk_drewN ?_ _ | refine blk_drew ?_ | refine blk_alloc ?_ _)); exact BK343.out⟩, ⟨by repeat (first | (with_reducible first | exact HB.out | apply below_alloc | apply pw_below_drewN | apply below_drew1 | refine below_set ?_ GE287.out | refine below_set ?_ GE324.out | refine below_set ?_ GE333.out | refine below_set ?_ GE343.out) | exact HB.out)⟩⟩
            ·
             rw [if_neg c164] at H
             have c164b0 : decide (t322 ≤ t323) = false := decide_eq_false c164
             clear c164
             (first | rw [c164b0] | (simp only [i64_w, i32_w]; rw [c164b0]) | skip)
             as_aux_lemma =>
              have H' := Aside0.mk H
              clear H
              go_wp2
              go_meet
              case rel => exact ⟨_, (false), (by first | rfl | (simp; done) | (simp [*]; done)), H', ⟨by have := HJ13.out; have := HJ65.out; have := HJ121.out; first | omega | exact Nat.le_refl _⟩, ⟨by (with_reducible repeat (first | refine blk_drewN ?_ _ | refine blk_drew ?_ | refine blk_alloc ?_ _)); exact BK287.out⟩, ⟨by (with_reducible repeat (first | refine blk_drewN ?_ _ | refine blk_drew ?_ | refine blk_alloc ?_ _)); exact BK324.out⟩, ⟨by (with_reducible repeat (first | refine blk_drewN ?_ _ | refine blk_drew ?_ | refine blk_alloc ?_ _)); exact BK333.out⟩, ⟨by (with_reducible repeat (first | refine blk_drewN ?_ _ | refine blk_drew ?_ | refine blk_alloc ?_ _)); exact BK343.out⟩, ⟨by repeat (first | (with_reducible first | exact HB.out | apply below_alloc | apply pw_below_drewN | apply below_drew1 | refine below_set ?_ GE287.out | refine below_set ?_ GE324.out | refine below_set ?_ GE333.out | refine below_set ?_ GE343.out) | exact HB.out)⟩⟩
           ·
            replace c163 := Bool.eq_false_iff.mpr c163
            subst c163
            have H1 : (j5 kj121 t322 t323 t325 t332 t334 t335 t336 t344 t345 t346 t350 false t319 t320 t321 t329 t330 t331 t340 t341 t342) = some r := by rw [if_neg (show ¬ (false = true) by decide)] at H; exact H
            clear H
            have H := H1
            clear H1
            as_aux_lemma =>
             have H' := Aside0.mk H
             clear H
             go_wp2
             go_meet
             case rel => exact ⟨_, (false), (by first | rfl | (simp; done) | (simp [*]; done)), H', ⟨by have := HJ13.out; have := HJ65.out; have := HJ121.out; first | omega | exact Nat.le_refl _⟩, ⟨by (with_reducible repeat (first | refine blk_drewN ?_ _ | refine blk_drew ?_ | refine blk_alloc ?_ _)); exact BK287.out⟩, ⟨by (with_reducible repeat (first | refine blk_drewN ?_ _ | refine blk_drew ?_ | refine blk_alloc ?_ _)); exact BK324.out⟩, ⟨by (with_reducible repeat (first | refine blk_drewN ?_ _ | refine blk_drew ?_ | refine blk_alloc ?_ _)); exact BK333.out⟩, ⟨by (with_reducible repeat (first | refine blk_drewN ?_ _ | refine blk_drew ?_ | refine blk_alloc ?_ _)); exact BK343.out⟩, ⟨by repeat (first | (with_reducible first | exact HB.out | apply below_alloc | apply pw_below_drewN | apply below_drew1 | refine below_set ?_ GE287.out | refine below_set ?_ GE324.out | refine below_set ?_ GE333.out | refine below_set ?_ GE343.out) | exact HB.out)⟩⟩
          case rest => as_aux_lemma =>
           clear HC162
           try clear c1
           try clear c4
           try clear c65
           try clear c161
           obtain ⟨kq, x406_161, rfl, HA, HJ161, BK287, BK324, BK333, BK343, HB⟩ := hcut
           cases kq with
           | zero => exact absurd HA.out (by simp [j5])
           | succ kj161 =>
            have H := HA.out
            clear HA
            simp only [j5] at H
            have HC165 := Aside0.mk H
            clear H
            go_upto_if 406 with (fail)
            go_cut [] from 407 to 511 (fun wc => ∃ (kq : Nat), Aside0 (j7 kq t332 t334 t335 t336 t344 t345 t346 t350 t329 t330 t331 t340 t341 t342 = some r) ∧ Aside0 (kq ≤ kj161) ∧ Aside0 (wc.heap[gb287]? = some (.cells #[.int .i64 t283, .int .i64 t284, .int .i64 t285] 26 (0, 0))) ∧ Aside0 (wc.heap[gb324]? = some (.cells #[.int .i64 t319, .int .i64 t320, .int .i64 t321] 26 (0, 0))) ∧ Aside0 (wc.heap[gb333]? = some (.cells #[.int .i64 t329, .int .i64 t330, .int .i64 t331] 26 (0, 0))) ∧ Aside0 (wc.heap[gb343]? = some (.cells #[.int .i64 t340, .int .i64 t341, .int .i64 t342] 26 (0, 0))) ∧ Aside0 (Below w.heap.size w wc))
            case first => as_aux_lemma =>
             have H := HC165.out
             clear HC165
             by_cases c166 : x406_161 = true
             ·
              subst c166
              have H1 : (laws_FnLeapsCounted.l0 kj161 t323 t325 t332 t334 t335 t336 t344 t345 t346 t350 0 t322 t319 t320 t321 t329 t330 t331 t340 t341 t342) = some r := by rw [if_pos rfl] at H; exact H
              clear H
              have H := H1
              clear H1
              have H' := Aside0.mk H
              clear H
              go_wp2
              go_loopg [60, 61] kj161 (fun kq v60 v61 w' => ∃ (x60_5 : Int) (x61_5 : Int), v60 = .int .i64 x60_5 ∧ v61 = .int .i64 x61_5 ∧ Aside0 (laws_FnLeapsCounted.l0 kq t323 t325 t332 t334 t335 t336 t344 t345 t346 t350 x60_5 x61_5 t319 t320 t321 t329 t330 t331 t340 t341 t342 = some r) ∧ Aside0 (kq ≤ kj161) ∧ Aside0 (w'.heap[gb287]? = some (.cells #[.int .i64 t283, .int .i64 t284, .int .i64 t285] 26 (0, 0))) ∧ Aside0 (w'.heap[gb324]? = some (.cells #[.int .i64 t319, .int .i64 t320, .int .i64 t321] 26 (0, 0))) ∧ Aside0 (w'.heap[gb333]? = some (.cells #[.int .i64 t329, .int .i64 t330, .int .i64 t331] 26 (0, 0))) ∧ Aside0 (w'.heap[gb343]? = some (.cells #[.int .i64 t340, .int .i64 t341, .int .i64 t342] 26 (0, 0))) ∧ Aside0 (Below w.heap.size w w'))
              case atStart => exact ⟨(0), (t322), (by first | rfl | (simp; done) | (simp [*]; done)), (by first | rfl | (simp; done) | (simp [*]; done)), H', ⟨Nat.le_refl _⟩, ⟨by (with_reducible repeat (first | refine blk_drewN ?_ _ | refine blk_drew ?_ | refine blk_alloc ?_ _)); exact BK287.out⟩, ⟨by (with_reducible repeat (first | refine blk_drewN ?_ _ | refine blk_drew ?_ | refine blk_alloc ?_ _)); exact BK324.out⟩, ⟨by (with_reducible repeat (first | refine blk_drewN ?_ _ | refine blk_drew ?_ | refine blk_alloc ?_ _)); exact BK333.out⟩, ⟨by (with_reducible repeat (first | refine blk_drewN ?_ _ | refine blk_drew ?_ | refine blk_alloc ?_ _)); exact BK343.out⟩, ⟨by repeat (first | (with_reducible first | exact HB.out | apply below_alloc | apply pw_below_drewN | apply below_drew1 | refine below_set ?_ GE287.out | refine below_set ?_ GE324.out | refine below_set ?_ GE333.out | refine below_set ?_ GE343.out) | exact HB.out)⟩⟩
              case round => as_aux_lemma =>
               clear H'
               try clear c1
               try clear c4
               try clear c65
               try clear c161
               try clear c166
               obtain ⟨x60_5, x61_5, rfl, rfl, HA, HK5, BK287, BK324, BK333, BK343, HB⟩ := hrel
               cases gk with
               | zero => exact absurd HA.out (by simp [laws_FnLeapsCounted.l0])
               | succ k5 =>
                have H := HA.out
                clear HA
                simp only [laws_FnLeapsCounted.l0] at H
                by_cases c167 : x61_5 ≤ t323
                ·
                 rw [if_pos c167] at H
                 have c167b0 : decide (x61_5 ≤ t323) = true := decide_eq_true c167
                 clear c167
                 (first | rw [c167b0] | (simp only [i64_w, i32_w]; rw [c167b0]) | skip)
                 replace H := Option.bind_eq_some_iff.mp H
                 obtain ⟨⟨t354, t355⟩, A1680, H⟩ := H
                 try dsimp only at H
                 have A168 := Aside0.mk A1680
                 clear A1680
                 by_cases c169 : t355 = true
                 ·
                  subst c169
                  have H1 : (if t354 = true then (laws_FnLeapsCounted.l0 k5 t323 t325 t332 t334 t335 t336 t344 t345 t346 t350 (wrap64 (x60_5 + 1)) (wrap64 (x61_5 + 1)) t319 t320 t321 t329 t330 t331 t340 t341 t342) else (laws_FnLeapsCounted.l0 k5 t323 t325 t332 t334 t335 t336 t344 t345 t346 t350 x60_5 (wrap64 (x61_5 + 1)) t319 t320 t321 t329 t330 t331 t340 t341 t342)) = some r := by rw [if_pos rfl] at H; exact H
                  clear H
                  have H := H1
                  clear H1
                  by_cases c170 : t354 = true
                  ·
                   subst c170
                   have H1 : (laws_FnLeapsCounted.l0 k5 t323 t325 t332 t334 t335 t336 t344 t345 t346 t350 (wrap64 (x60_5 + 1)) (wrap64 (x61_5 + 1)) t319 t320 t321 t329 t330 t331 t340 t341 t342) = some r := by rw [if_pos rfl] at H; exact H
                   clear H
                   have H := H1
                   clear H1
                   as_aux_lemma =>
                    have H' := Aside0.mk H
                    clear H
                    have hnb171 := NB324_287.out
                    have hnc171 := NB287_324.out
                    have hnb172 := NB324_333.out
                    have hnc172 := NB333_324.out
                    have hnb173 := NB324_343.out
                    have hnc173 := NB343_324.out
                    have hcz174_0 : wr.cell? ⟨gb324, 0, none⟩ = some (.int .i64 t319) := (blk_cell BK324.out 0).trans rfl
                    have hcz174_1 : wr.cell? ⟨gb324, 1, none⟩ = some (.int .i64 t320) := (blk_cell BK324.out 1).trans rfl
                    have hcz174_2 : wr.cell? ⟨gb324, 2, none⟩ = some (.int .i64 t321) := (blk_cell BK324.out 2).trans rfl
                    have hfz174_0 := blk_frozen BK324.out 0
                    have hfz174_1 := blk_frozen BK324.out 1
                    have hfz174_2 := blk_frozen BK324.out 2
                    go_wp2_with (first | ((with_reducible refine gate_callee (f := 16) rfl ?_); refine goesL_ (some 416) rfl rfl Try.func16 (by kernel_rfl) rfl #[.agg #[.int .i64 t319, .int .i64 t320, .int .i64 t321], .int .i64 x61_5] rfl (by (try simp only [List.map_toArray, List.map_cons, List.map_nil]); first | done | rfl | (simp only [List.length_drop, List.length_take]; rfl)) ?_; (with_reducible refine (impl_IsLeapYear.calls t319 t320 t321 x61_5 true true _ A168.out).mono ?_); rintro e w175 ⟨rfl, hb⟩; refine ⟨_, rfl, ?_⟩; have n0_ := Aside0.mk (blk_below (g := gb287) (by (with_reducible repeat (first | refine blk_drewN ?_ _ | refine blk_drew ?_ | refine blk_alloc ?_ _)); exact BK287.out) hb); have n1_ := Aside0.mk (blk_below (g := gb324) (by (with_reducible repeat (first | refine blk_drewN ?_ _ | refine blk_drew ?_ | refine blk_alloc ?_ _)); exact BK324.out) hb); have n2_ := Aside0.mk (blk_below (g := gb333) (by (with_reducible repeat (first | refine blk_drewN ?_ _ | refine blk_drew ?_ | refine blk_alloc ?_ _)); exact BK333.out) hb); have n3_ := Aside0.mk (blk_below (g := gb343) (by (with_reducible repeat (first | refine blk_drewN ?_ _ | refine blk_drew ?_ | refine blk_alloc ?_ _)); exact BK343.out) hb); have n4_ := Aside0.mk (below_step (by repeat (first | (with_reducible first | exact HB.out | apply below_alloc | apply pw_below_drewN | apply below_drew1 | refine below_set ?_ GE287.out | refine below_set ?_ GE324.out | refine below_set ?_ GE333.out | refine below_set ?_ GE343.out) | exact HB.out)) hb); clear BK287; clear BK324; clear BK333; clear BK343; clear HB; have BK287 := n0_; have BK324 := n1_; have BK333 := n2_; have BK343 := n3_; have HB := n4_; clear n0_ n1_ n2_ n3_ n4_; (try clear hb); (try clear hb2); (try clear hk); (try clear hi)))
                    go_roundg k5
                    case measure => have := HJ13.out; have := HJ65.out; have := HJ121.out; have := HJ161.out; have := HK5.out; omega
                    case rel => exact ⟨(wrap64 (x60_5 + 1)), (wrap64 (x61_5 + 1)), (by first | rfl | (simp; done) | (simp [*]; done)), (by first | rfl | (simp; done) | (simp [*]; done)), H', ⟨by have := HJ13.out; have := HJ65.out; have := HJ121.out; have := HJ161.out; have := HK5.out; omega⟩, ⟨by (with_reducible repeat (first | refine blk_drewN ?_ _ | refine blk_drew ?_ | refine blk_alloc ?_ _)); exact BK287.out⟩, ⟨by (with_reducible repeat (first | refine blk_drewN ?_ _ | refine blk_drew ?_ | refine blk_alloc ?_ _)); exact BK324.out⟩, ⟨by (with_reducible repeat (first | refine blk_drewN ?_ _ | refine blk_drew ?_ | refine blk_alloc ?_ _)); exact BK333.out⟩, ⟨by (with_reducible repeat (first | refine blk_drewN ?_ _ | refine blk_drew ?_ | refine blk_alloc ?_ _)); exact BK343.out⟩, ⟨by repeat (first | (with_reducible first | exact HB.out | apply below_alloc | apply pw_below_drewN | apply below_drew1 | refine below_set ?_ GE287.out | refine below_set ?_ GE324.out | refine below_set ?_ GE333.out | refine below_set ?_ GE343.out) | exact HB.out)⟩⟩
                  ·
                   replace c170 := Bool.eq_false_iff.mpr c170
                   subst c170
                   have H1 : (laws_FnLeapsCounted.l0 k5 t323 t325 t332 t334 t335 t336 t344 t345 t346 t350 x60_5 (wrap64 (x61_5 + 1)) t319 t320 t321 t329 t330 t331 t340 t341 t342) = some r := by rw [if_neg (show ¬ (false = true) by decide)] at H; exact H
                   clear H
                   have H := H1
                   clear H1
                   as_aux_lemma =>
                    have H' := Aside0.mk H
                    clear H
                    have hnb176 := NB324_287.out
                    have hnc176 := NB287_324.out
                    have hnb177 := NB324_333.out
                    have hnc177 := NB333_324.out
                    have hnb178 := NB324_343.out
                    have hnc178 := NB343_324.out
                    have hcz179_0 : wr.cell? ⟨gb324, 0, none⟩ = some (.int .i64 t319) := (blk_cell BK324.out 0).trans rfl
                    have hcz179_1 : wr.cell? ⟨gb324, 1, none⟩ = some (.int .i64 t320) := (blk_cell BK324.out 1).trans rfl
                    have hcz179_2 : wr.cell? ⟨gb324, 2, none⟩ = some (.int .i64 t321) := (blk_cell BK324.out 2).trans rfl
                    have hfz179_0 := blk_frozen BK324.out 0
                    have hfz179_1 := blk_frozen BK324.out 1
                    have hfz179_2 := blk_frozen BK324.out 2
                    go_wp2_with (first | ((with_reducible refine gate_callee (f := 16) rfl ?_); refine goesL_ (some 416) rfl rfl Try.func16 (by kernel_rfl) rfl #[.agg #[.int .i64 t319, .int .i64 t320, .int .i64 t321], .int .i64 x61_5] rfl (by (try simp only [List.map_toArray, List.map_cons, List.map_nil]); first | done | rfl | (simp only [List.length_drop, List.length_take]; rfl)) ?_; (with_reducible refine (impl_IsLeapYear.calls t319 t320 t321 x61_5 false true _ A168.out).mono ?_); rintro e w180 ⟨rfl, hb⟩; refine ⟨_, rfl, ?_⟩; have n0_ := Aside0.mk (blk_below (g := gb287) (by (with_reducible repeat (first | refine blk_drewN ?_ _ | refine blk_drew ?_ | refine blk_alloc ?_ _)); exact BK287.out) hb); have n1_ := Aside0.mk (blk_below (g := gb324) (by (with_reducible repeat (first | refine blk_drewN ?_ _ | refine blk_drew ?_ | refine blk_alloc ?_ _)); exact BK324.out) hb); have n2_ := Aside0.mk (blk_below (g := gb333) (by (with_reducible repeat (first | refine blk_drewN ?_ _ | refine blk_drew ?_ | refine blk_alloc ?_ _)); exact BK333.out) hb); have n3_ := Aside0.mk (blk_below (g := gb343) (by (with_reducible repeat (first | refine blk_drewN ?_ _ | refine blk_drew ?_ | refine blk_alloc ?_ _)); exact BK343.out) hb); have n4_ := Aside0.mk (below_step (by repeat (first | (with_reducible first | exact HB.out | apply below_alloc | apply pw_below_drewN | apply below_drew1 | refine below_set ?_ GE287.out | refine below_set ?_ GE324.out | refine below_set ?_ GE333.out | refine below_set ?_ GE343.out) | exact HB.out)) hb); clear BK287; clear BK324; clear BK333; clear BK343; clear HB; have BK287 := n0_; have BK324 := n1_; have BK333 := n2_; have BK343 := n3_; have HB := n4_; clear n0_ n1_ n2_ n3_ n4_; (try clear hb); (try clear hb2); (try clear hk); (try clear hi)))
                    go_roundg k5
                    case measure => have := HJ13.out; have := HJ65.out; have := HJ121.out; have := HJ161.out; have := HK5.out; omega
                    case rel => exact ⟨(x60_5), (wrap64 (x61_5 + 1)), (by first | rfl | (simp; done) | (simp [*]; done)), (by first | rfl | (simp; done) | (simp [*]; done)), H', ⟨by have := HJ13.out; have := HJ65.out; have := HJ121.out; have := HJ161.out; have := HK5.out; omega⟩, ⟨by (with_reducible repeat (first | refine blk_drewN ?_ _ | refine blk_drew ?_ | refine blk_alloc ?_ _)); exact BK287.out⟩, ⟨by (with_reducible repeat (first | refine blk_drewN ?_ _ | refine blk_drew ?_ | refine blk_alloc ?_ _)); exact BK324.out⟩, ⟨by (with_reducible repeat (first | refine blk_drewN ?_ _ | refine blk_drew ?_ | refine blk_alloc ?_ _)); exact BK333.out⟩, ⟨by (with_reducible repeat (first | refine blk_drewN ?_ _ | refine blk_drew ?_ | refine blk_alloc ?_ _)); exact BK343.out⟩, ⟨by repeat (first | (with_reducible first | exact HB.out | apply below_alloc | apply pw_below_drewN | apply below_drew1 | refine below_set ?_ GE287.out | refine below_set ?_ GE324.out | refine below_set ?_ GE333.out | refine below_set ?_ GE343.out) | exact HB.out)⟩⟩
                 ·
                  replace c169 := Bool.eq_false_iff.mpr c169
                  subst c169
                  have H1 : (none) = some r := by rw [if_neg (show ¬ (false = true) by decide)] at H; exact H
                  clear H
                  have H := H1
                  clear H1
                  exact absurd H (by simp)
                ·
                 rw [if_neg c167] at H
                 have c167b0 : decide (x61_5 ≤ t323) = false := decide_eq_false c167
                 clear c167
                 (first | rw [c167b0] | (simp only [i64_w, i32_w]; rw [c167b0]) | skip)
                 by_cases c181 : x60_5 = t325
                 ·
                  rw [if_pos c181] at H
                  have c181b0 : (x60_5 == t325) = true := beq_iff_eq.mpr c181
                  have c181b1 : (x60_5 != t325) = false := bne_eq_false_iff_eq.mpr c181
                  clear c181
                  as_aux_lemma =>
                   have H' := Aside0.mk H
                   clear H
                   go_wp2
                   go_meet
                   case rel => exact ⟨_, H', ⟨by have := HJ13.out; have := HJ65.out; have := HJ121.out; have := HJ161.out; have := HK5.out; first | omega | exact Nat.le_refl _⟩, ⟨by (with_reducible repeat (first | refine blk_drewN ?_ _ | refine blk_drew ?_ | refine blk_alloc ?_ _)); exact BK287.out⟩, ⟨by (with_reducible repeat (first | refine blk_drewN ?_ _ | refine blk_drew ?_ | refine blk_alloc ?_ _)); exact BK324.out⟩, ⟨by (with_reducible repeat (first | refine blk_drewN ?_ _ | refine blk_drew ?_ | refine blk_alloc ?_ _)); exact BK333.out⟩, ⟨by (with_reducible repeat (first | refine blk_drewN ?_ _ | refine blk_drew ?_ | refine blk_alloc ?_ _)); exact BK343.out⟩, ⟨by repeat (first | (with_reducible first | exact HB.out | apply below_alloc | apply pw_below_drewN | apply below_drew1 | refine below_set ?_ GE287.out | refine below_set ?_ GE324.out | refine below_set ?_ GE333.out | refine below_set ?_ GE343.out) | exact HB.out)⟩⟩
                 ·
                  rw [if_neg c181] at H
                  exact absurd H (by simp)
             ·
              replace c166 := Bool.eq_false_iff.mpr c166
              subst c166
              have H1 : (j7 kj161 t332 t334 t335 t336 t344 t345 t346 t350 t329 t330 t331 t340 t341 t342) = some r := by rw [if_neg (show ¬ (false = true) by decide)] at H; exact H
              clear H
              have H := H1
              clear H1
              as_aux_lemma =>
               have H' := Aside0.mk H
               clear H
               go_wp2
               go_meet
               case rel => exact ⟨_, H', ⟨by have := HJ13.out; have := HJ65.out; have := HJ121.out; have := HJ161.out; first | omega | exact Nat.le_refl _⟩, ⟨by (with_reducible repeat (first | refine blk_drewN ?_ _ | refine blk_drew ?_ | refine blk_alloc ?_ _)); exact BK287.out⟩, ⟨by (with_reducible repeat (first | refine blk_drewN ?_ _ | refine blk_drew ?_ | refine blk_alloc ?_ _)); exact BK324.out⟩, ⟨by (with_reducible repeat (first | refine blk_drewN ?_ _ | refine blk_drew ?_ | refine blk_alloc ?_ _)); exact BK333.out⟩, ⟨by (with_reducible repeat (first | refine blk_drewN ?_ _ | refine blk_drew ?_ | refine blk_alloc ?_ _)); exact BK343.out⟩, ⟨by repeat (first | (with_reducible first | exact HB.out | apply below_alloc | apply pw_below_drewN | apply below_drew1 | refine below_set ?_ GE287.out | refine below_set ?_ GE324.out | refine below_set ?_ GE333.out | refine below_set ?_ GE343.out) | exact HB.out)⟩⟩
            case rest => as_aux_lemma =>
             clear HC165
             try clear c1
             try clear c4
             try clear c65
             try clear c161
             obtain ⟨kq, HA, HJ164, BK287, BK324, BK333, BK343, HB⟩ := hcut
             cases kq with
             | zero => exact absurd HA.out (by simp [j7])
             | succ kj164 =>
              have H := HA.out
              clear HA
              simp only [j7] at H
              have HC182 := Aside0.mk H
              clear H
              go_upto_if 427 with (fail)
              go_cut [] from 407 to 511 (fun wc => ∃ (kq : Nat), Aside0 (j8 kq t344 t345 t346 t350 t340 t341 t342 = some r) ∧ Aside0 (kq ≤ kj164) ∧ Aside0 (wc.heap[gb287]? = some (.cells #[.int .i64 t283, .int .i64 t284, .int .i64 t285] 26 (0, 0))) ∧ Aside0 (wc.heap[gb324]? = some (.cells #[.int .i64 t319, .int .i64 t320, .int .i64 t321] 26 (0, 0))) ∧ Aside0 (wc.heap[gb333]? = some (.cells #[.int .i64 t329, .int .i64 t330, .int .i64 t331] 26 (0, 0))) ∧ Aside0 (wc.heap[gb343]? = some (.cells #[.int .i64 t340, .int .i64 t341, .int .i64 t342] 26 (0, 0))) ∧ Aside0 (Below w.heap.size w wc))
              case first => as_aux_lemma =>
               have H := HC182.out
               clear HC182
               by_cases c183 : t336 = true
               ·
                subst c183
                have H1 : ((impl_DaysUpTo.f t329 t330 t331 t334).bind fun bt356 => ((impl_IsLeapYear.f t329 t330 t331 t334).bind fun bt358 => (if bt356.2 = true then (if (wrap64 (bt356.1 + t335)) = t332 then (if bt358.2 = true then (if t335 < 0 then (none) else (if t335 > 365 then (none) else (if t335 = 365 then (if bt358.1 = true then (j8 kj164 t344 t345 t346 t350 t340 t341 t342) else (none)) else (j8 kj164 t344 t345 t346 t350 t340 t341 t342)))) else (none)) else (none)) else (none)))) = some r := by rw [if_pos rfl] at H; exact H
                clear H
                have H := H1
                clear H1
                replace H := Option.bind_eq_some_iff.mp H
                obtain ⟨⟨t356, t357⟩, A1840, H⟩ := H
                try dsimp only at H
                have A184 := Aside0.mk A1840
                clear A1840
                replace H := Option.bind_eq_some_iff.mp H
                obtain ⟨⟨t358, t359⟩, A1850, H⟩ := H
                try dsimp only at H
                have A185 := Aside0.mk A1850
                clear A1850
                by_cases c186 : t357 = true
                ·
                 subst c186
                 have H1 : (if (wrap64 (t356 + t335)) = t332 then (if t359 = true then (if t335 < 0 then (none) else (if t335 > 365 then (none) else (if t335 = 365 then (if t358 = true then (j8 kj164 t344 t345 t346 t350 t340 t341 t342) else (none)) else (j8 kj164 t344 t345 t346 t350 t340 t341 t342)))) else (none)) else (none)) = some r := by rw [if_pos rfl] at H; exact H
                 clear H
                 have H := H1
                 clear H1
                 by_cases c187 : (wrap64 (t356 + t335)) = t332
                 ·
                  rw [if_pos c187] at H
                  have c187b0 : ((wrap64 (t356 + t335)) == t332) = true := beq_iff_eq.mpr c187
                  have c187b1 : ((wrap64 (t356 + t335)) != t332) = false := bne_eq_false_iff_eq.mpr c187
                  clear c187
                  (first | rw [c187b0] | (simp only [i64_w, i32_w]; rw [c187b0]) | skip)
                  by_cases c188 : t359 = true
                  ·
                   subst c188
                   have H1 : (if t335 < 0 then (none) else (if t335 > 365 then (none) else (if t335 = 365 then (if t358 = true then (j8 kj164 t344 t345 t346 t350 t340 t341 t342) else (none)) else (j8 kj164 t344 t345 t346 t350 t340 t341 t342)))) = some r := by rw [if_pos rfl] at H; exact H
                   clear H
                   have H := H1
                   clear H1
                   by_cases c189 : t335 < 0
                   ·
                    rw [if_pos c189] at H
                    exact absurd H (by simp)
                   ·
                    rw [if_neg c189] at H
                    have c189b0 : decide (t335 < 0) = false := decide_eq_false c189
                    clear c189
                    by_cases c190 : t335 > 365
                    ·
                     rw [if_pos c190] at H
                     exact absurd H (by simp)
                    ·
                     rw [if_neg c190] at H
                     have c190b0 : decide (365 < t335) = false := decide_eq_false c190
                     clear c190
                     by_cases c191 : t335 = 365
                     ·
                      rw [if_pos c191] at H
                      have c191b0 : (t335 == 365) = true := beq_iff_eq.mpr c191
                      have c191b1 : (t335 != 365) = false := bne_eq_false_iff_eq.mpr c191
                      clear c191
                      by_cases c192 : t358 = true
                      ·
                       subst c192
                       have H1 : (j8 kj164 t344 t345 t346 t350 t340 t341 t342) = some r := by rw [if_pos rfl] at H; exact H
                       clear H
                       have H := H1
                       clear H1
                       as_aux_lemma =>
                        have H' := Aside0.mk H
                        clear H
                        have hnb193 := NB333_287.out
                        have hnc193 := NB287_333.out
                        have hnb194 := NB333_324.out
                        have hnc194 := NB324_333.out
                        have hnb195 := NB333_343.out
                        have hnc195 := NB343_333.out
                        have hcz196_0 : wc.cell? ⟨gb333, 0, none⟩ = some (.int .i64 t329) := (blk_cell BK333.out 0).trans rfl
                        have hcz196_1 : wc.cell? ⟨gb333, 1, none⟩ = some (.int .i64 t330) := (blk_cell BK333.out 1).trans rfl
                        have hcz196_2 : wc.cell? ⟨gb333, 2, none⟩ = some (.int .i64 t331) := (blk_cell BK333.out 2).trans rfl
                        have hfz196_0 := blk_frozen BK333.out 0
                        have hfz196_1 := blk_frozen BK333.out 1
                        have hfz196_2 := blk_frozen BK333.out 2
                        go_wp2_with (first | ((with_reducible refine gate_callee (f := 18) rfl ?_); refine goesL_ (some 431) rfl rfl Try.func18 (by kernel_rfl) rfl #[.agg #[.int .i64 t329, .int .i64 t330, .int .i64 t331], .int .i64 t334] rfl (by (try simp only [List.map_toArray, List.map_cons, List.map_nil]); first | done | rfl | (simp only [List.length_drop, List.length_take]; rfl)) ?_; (with_reducible refine (impl_DaysUpTo.calls t329 t330 t331 t334 t356 true _ A184.out).mono ?_); rintro e w197 ⟨rfl, hb⟩; refine ⟨_, rfl, ?_⟩; have n0_ := Aside0.mk (blk_below (g := gb287) (by (with_reducible repeat (first | refine blk_drewN ?_ _ | refine blk_drew ?_ | refine blk_alloc ?_ _)); exact BK287.out) hb); have n1_ := Aside0.mk (blk_below (g := gb324) (by (with_reducible repeat (first | refine blk_drewN ?_ _ | refine blk_drew ?_ | refine blk_alloc ?_ _)); exact BK324.out) hb); have n2_ := Aside0.mk (blk_below (g := gb333) (by (with_reducible repeat (first | refine blk_drewN ?_ _ | refine blk_drew ?_ | refine blk_alloc ?_ _)); exact BK333.out) hb); have n3_ := Aside0.mk (blk_below (g := gb343) (by (with_reducible repeat (first | refine blk_drewN ?_ _ | refine blk_drew ?_ | refine blk_alloc ?_ _)); exact BK343.out) hb); have n4_ := Aside0.mk (below_step (by repeat (first | (with_reducible first | exact HB.out | apply below_alloc | apply pw_below_drewN | apply below_drew1 | refine below_set ?_ GE287.out | refine below_set ?_ GE324.out | refine below_set ?_ GE333.out | refine below_set ?_ GE343.out) | exact HB.out)) hb); clear BK287; clear BK324; clear BK333; clear BK343; clear HB; have BK287 := n0_; have BK324 := n1_; have BK333 := n2_; have BK343 := n3_; have HB := n4_; clear n0_ n1_ n2_ n3_ n4_; (try clear hb); (try clear hb2); (try clear hk); (try clear hi); have hcz198_0 : w197.cell? ⟨gb333, 0, none⟩ = some (.int .i64 t329) := (blk_cell BK333.out 0).trans rfl; have hcz198_1 : w197.cell? ⟨gb333, 1, none⟩ = some (.int .i64 t330) := (blk_cell BK333.out 1).trans rfl; have hcz198_2 : w197.cell? ⟨gb333, 2, none⟩ = some (.int .i64 t331) := (blk_cell BK333.out 2).trans rfl; have hfz198_0 := blk_frozen BK333.out 0; have hfz198_1 := blk_frozen BK333.out 1; have hfz198_2 := blk_frozen BK333.out 2) | ((with_reducible refine gate_callee (f := 16) rfl ?_); refine goesL_ (some 437) rfl rfl Try.func16 (by kernel_rfl) rfl #[.agg #[.int .i64 t329, .int .i64 t330, .int .i64 t331], .int .i64 t334] rfl (by (try simp only [List.map_toArray, List.map_cons, List.map_nil]); first | done | rfl | (simp only [List.length_drop, List.length_take]; rfl)) ?_; (with_reducible refine (impl_IsLeapYear.calls t329 t330 t331 t334 true true _ A185.out).mono ?_); rintro e w199 ⟨rfl, hb⟩; refine ⟨_, rfl, ?_⟩; have n0_ := Aside0.mk (blk_below (g := gb287) (by (with_reducible repeat (first | refine blk_drewN ?_ _ | refine blk_drew ?_ | refine blk_alloc ?_ _)); exact BK287.out) hb); have n1_ := Aside0.mk (blk_below (g := gb324) (by (with_reducible repeat (first | refine blk_drewN ?_ _ | refine blk_drew ?_ | refine blk_alloc ?_ _)); exact BK324.out) hb); have n2_ := Aside0.mk (blk_below (g := gb333) (by (with_reducible repeat (first | refine blk_drewN ?_ _ | refine blk_drew ?_ | refine blk_alloc ?_ _)); exact BK333.out) hb); have n3_ := Aside0.mk (blk_below (g := gb343) (by (with_reducible repeat (first | refine blk_drewN ?_ _ | refine blk_drew ?_ | refine blk_alloc ?_ _)); exact BK343.out) hb); have n4_ := Aside0.mk (below_step (by repeat (first | (with_reducible first | exact HB.out | apply below_alloc | apply pw_below_drewN | apply below_drew1 | refine below_set ?_ GE287.out | refine below_set ?_ GE324.out | refine below_set ?_ GE333.out | refine below_set ?_ GE343.out) | exact HB.out)) hb); clear BK287; clear BK324; clear BK333; clear BK343; clear HB; have BK287 := n0_; have BK324 := n1_; have BK333 := n2_; have BK343 := n3_; have HB := n4_; clear n0_ n1_ n2_ n3_ n4_; (try clear hb); (try clear hb2); (try clear hk); (try clear hi)))
                        go_meet
                        case rel => exact ⟨_, H', ⟨by have := HJ13.out; have := HJ65.out; have := HJ121.out; have := HJ161.out; have := HJ164.out; first | omega | exact Nat.le_refl _⟩, ⟨by (with_reducible repeat (first | refine blk_drewN ?_ _ | refine blk_drew ?_ | refine blk_alloc ?_ _)); exact BK287.out⟩, ⟨by (with_reducible repeat (first | refine blk_drewN ?_ _ | refine blk_drew ?_ | refine blk_alloc ?_ _)); exact BK324.out⟩, ⟨by (with_reducible repeat (first | refine blk_drewN ?_ _ | refine blk_drew ?_ | refine blk_alloc ?_ _)); exact BK333.out⟩, ⟨by (with_reducible repeat (first | refine blk_drewN ?_ _ | refine blk_drew ?_ | refine blk_alloc ?_ _)); exact BK343.out⟩, ⟨by repeat (first | (with_reducible first | exact HB.out | apply below_alloc | apply pw_below_drewN | apply below_drew1 | refine below_set ?_ GE287.out | refine below_set ?_ GE324.out | refine below_set ?_ GE333.out | refine below_set ?_ GE343.out) | exact HB.out)⟩⟩
                      ·
                       replace c192 := Bool.eq_false_iff.mpr c192
                       subst c192
                       have H1 : (none) = some r := by rw [if_neg (show ¬ (false = true) by decide)] at H; exact H
                       clear H
                       have H := H1
                       clear H1
                       exact absurd H (by simp)
                     ·
                      rw [if_neg c191] at H
                      have c191b0 : (t335 == 365) = false := beq_eq_false_iff_ne.mpr c191
                      have c191b1 : (t335 != 365) = true := bne_iff_ne.mpr c191
                      as_aux_lemma =>
                       have H' := Aside0.mk H
                       clear H
                       have hnb200 := NB333_287.out
                       have hnc200 := NB287_333.out
                       have hnb201 := NB333_324.out
                       have hnc201 := NB324_333.out
                       have hnb202 := NB333_343.out
                       have hnc202 := NB343_333.out
                       have hcz203_0 : wc.cell? ⟨gb333, 0, none⟩ = some (.int .i64 t329) := (blk_cell BK333.out 0).trans rfl
                       have hcz203_1 : wc.cell? ⟨gb333, 1, none⟩ = some (.int .i64 t330) := (blk_cell BK333.out 1).trans rfl
                       have hcz203_2 : wc.cell? ⟨gb333, 2, none⟩ = some (.int .i64 t331) := (blk_cell BK333.out 2).trans rfl
                       have hfz203_0 := blk_frozen BK333.out 0
                       have hfz203_1 := blk_frozen BK333.out 1
                       have hfz203_2 := blk_frozen BK333.out 2
                       go_wp2_with (first | ((with_reducible refine gate_callee (f := 18) rfl ?_); refine goesL_ (some 431) rfl rfl Try.func18 (by kernel_rfl) rfl #[.agg #[.int .i64 t329, .int .i64 t330, .int .i64 t331], .int .i64 t334] rfl (by (try simp only [List.map_toArray, List.map_cons, List.map_nil]); first | done | rfl | (simp only [List.length_drop, List.length_take]; rfl)) ?_; (with_reducible refine (impl_DaysUpTo.calls t329 t330 t331 t334 t356 true _ A184.out).mono ?_); rintro e w204 ⟨rfl, hb⟩; refine ⟨_, rfl, ?_⟩; have n0_ := Aside0.mk (blk_below (g := gb287) (by (with_reducible repeat (first | refine blk_drewN ?_ _ | refine blk_drew ?_ | refine blk_alloc ?_ _)); exact BK287.out) hb); have n1_ := Aside0.mk (blk_below (g := gb324) (by (with_reducible repeat (first | refine blk_drewN ?_ _ | refine blk_drew ?_ | refine blk_alloc ?_ _)); exact BK324.out) hb); have n2_ := Aside0.mk (blk_below (g := gb333) (by (with_reducible repeat (first | refine blk_drewN ?_ _ | refine blk_drew ?_ | refine blk_alloc ?_ _)); exact BK333.out) hb); have n3_ := Aside0.mk (blk_below (g := gb343) (by (with_reducible repeat (first | refine blk_drewN ?_ _ | refine blk_drew ?_ | refine blk_alloc ?_ _)); exact BK343.out) hb); have n4_ := Aside0.mk (below_step (by repeat (first | (with_reducible first | exact HB.out | apply below_alloc | apply pw_below_drewN | apply below_drew1 | refine below_set ?_ GE287.out | refine below_set ?_ GE324.out | refine below_set ?_ GE333.out | refine below_set ?_ GE343.out) | exact HB.out)) hb); clear BK287; clear BK324; clear BK333; clear BK343; clear HB; have BK287 := n0_; have BK324 := n1_; have BK333 := n2_; have BK343 := n3_; have HB := n4_; clear n0_ n1_ n2_ n3_ n4_; (try clear hb); (try clear hb2); (try clear hk); (try clear hi); have hcz205_0 : w204.cell? ⟨gb333, 0, none⟩ = some (.int .i64 t329) := (blk_cell BK333.out 0).trans rfl; have hcz205_1 : w204.cell? ⟨gb333, 1, none⟩ = some (.int .i64 t330) := (blk_cell BK333.out 1).trans rfl; have hcz205_2 : w204.cell? ⟨gb333, 2, none⟩ = some (.int .i64 t331) := (blk_cell BK333.out 2).trans rfl; have hfz205_0 := blk_frozen BK333.out 0; have hfz205_1 := blk_frozen BK333.out 1; have hfz205_2 := blk_frozen BK333.out 2) | ((with_reducible refine gate_callee (f := 16) rfl ?_); refine goesL_ (some 437) rfl rfl Try.func16 (by kernel_rfl) rfl #[.agg #[.int .i64 t329, .int .i64 t330, .int .i64 t331], .int .i64 t334] rfl (by (try simp only [List.map_toArray, List.map_cons, List.map_nil]); first | done | rfl | (simp only [List.length_drop, List.length_take]; rfl)) ?_; (with_reducible refine (impl_IsLeapYear.calls t329 t330 t331 t334 t358 true _ A185.out).mono ?_); rintro e w206 ⟨rfl, hb⟩; refine ⟨_, rfl, ?_⟩; have n0_ := Aside0.mk (blk_below (g := gb287) (by (with_reducible repeat (first | refine blk_drewN ?_ _ | refine blk_drew ?_ | refine blk_alloc ?_ _)); exact BK287.out) hb); have n1_ := Aside0.mk (blk_below (g := gb324) (by (with_reducible repeat (first | refine blk_drewN ?_ _ | refine blk_drew ?_ | refine blk_alloc ?_ _)); exact BK324.out) hb); have n2_ := Aside0.mk (blk_below (g := gb333) (by (with_reducible repeat (first | refine blk_drewN ?_ _ | refine blk_drew ?_ | refine blk_alloc ?_ _)); exact BK333.out) hb); have n3_ := Aside0.mk (blk_below (g := gb343) (by (with_reducible repeat (first | refine blk_drewN ?_ _ | refine blk_drew ?_ | refine blk_alloc ?_ _)); exact BK343.out) hb); have n4_ := Aside0.mk (below_step (by repeat (first | (with_reducible first | exact HB.out | apply below_alloc | apply pw_below_drewN | apply below_drew1 | refine below_set ?_ GE287.out | refine below_set ?_ GE324.out | refine below_set ?_ GE333.out | refine below_set ?_ GE343.out) | exact HB.out)) hb); clear BK287; clear BK324; clear BK333; clear BK343; clear HB; have BK287 := n0_; have BK324 := n1_; have BK333 := n2_; have BK343 := n3_; have HB := n4_; clear n0_ n1_ n2_ n3_ n4_; (try clear hb); (try clear hb2); (try clear hk); (try clear hi)))
                       go_meet
                       case rel => exact ⟨_, H', ⟨by have := HJ13.out; have := HJ65.out; have := HJ121.out; have := HJ161.out; have := HJ164.out; first | omega | exact Nat.le_refl _⟩, ⟨by (with_reducible repeat (first | refine blk_drewN ?_ _ | refine blk_drew ?_ | refine blk_alloc ?_ _)); exact BK287.out⟩, ⟨by (with_reducible repeat (first | refine blk_drewN ?_ _ | refine blk_drew ?_ | refine blk_alloc ?_ _)); exact BK324.out⟩, ⟨by (with_reducible repeat (first | refine blk_drewN ?_ _ | refine blk_drew ?_ | refine blk_alloc ?_ _)); exact BK333.out⟩, ⟨by (with_reducible repeat (first | refine blk_drewN ?_ _ | refine blk_drew ?_ | refine blk_alloc ?_ _)); exact BK343.out⟩, ⟨by repeat (first | (with_reducible first | exact HB.out | apply below_alloc | apply pw_below_drewN | apply below_drew1 | refine below_set ?_ GE287.out | refine below_set ?_ GE324.out | refine below_set ?_ GE333.out | refine below_set ?_ GE343.out) | exact HB.out)⟩⟩
                  ·
                   replace c188 := Bool.eq_false_iff.mpr c188
                   subst c188
                   have H1 : (none) = some r := by rw [if_neg (show ¬ (false = true) by decide)] at H; exact H
                   clear H
                   have H := H1
                   clear H1
                   exact absurd H (by simp)
                 ·
                  rw [if_neg c187] at H
                  exact absurd H (by simp)
                ·
                 replace c186 := Bool.eq_false_iff.mpr c186
                 subst c186
                 have H1 : (none) = some r := by rw [if_neg (show ¬ (false = true) by decide)] at H; exact H
                 clear H
                 have H := H1
                 clear H1
                 exact absurd H (by simp)
               ·
                replace c183 := Bool.eq_false_iff.mpr c183
                subst c183
                have H1 : (j8 kj164 t344 t345 t346 t350 t340 t341 t342) = some r := by rw [if_neg (show ¬ (false = true) by decide)] at H; exact H
                clear H
                have H := H1
                clear H1
                as_aux_lemma =>
                 have H' := Aside0.mk H
                 clear H
                 go_wp2
                 go_meet
                 case rel => exact ⟨_, H', ⟨by have := HJ13.out; have := HJ65.out; have := HJ121.out; have := HJ161.out; have := HJ164.out; first | omega | exact Nat.le_refl _⟩, ⟨by (with_reducible repeat (first | refine blk_drewN ?_ _ | refine blk_drew ?_ | refine blk_alloc ?_ _)); exact BK287.out⟩, ⟨by (with_reducible repeat (first | refine blk_drewN ?_ _ | refine blk_drew ?_ | refine blk_alloc ?_ _)); exact BK324.out⟩, ⟨by (with_reducible repeat (first | refine blk_drewN ?_ _ | refine blk_drew ?_ | refine blk_alloc ?_ _)); exact BK333.out⟩, ⟨by (with_reducible repeat (first | refine blk_drewN ?_ _ | refine blk_drew ?_ | refine blk_alloc ?_ _)); exact BK343.out⟩, ⟨by repeat (first | (with_reducible first | exact HB.out | apply below_alloc | apply pw_below_drewN | apply below_drew1 | refine below_set ?_ GE287.out | refine below_set ?_ GE324.out | refine below_set ?_ GE333.out | refine below_set ?_ GE343.out) | exact HB.out)⟩⟩
              case rest => as_aux_lemma =>
               clear HC182
               try clear c1
               try clear c4
               try clear c65
               try clear c161
               obtain ⟨kq, HA, HJ181, BK287, BK324, BK333, BK343, HB⟩ := hcut
               cases kq with
               | zero => exact absurd HA.out (by simp [j8])
               | succ kj181 =>
                have H := HA.out
                clear HA
                simp only [j8] at H
                by_cases c207 : t346 = true
                ·
                 subst c207
                 have H1 : ((impl_CountLeaps.f kj181 t340 t341 t342 1 t344).bind fun bt360 => (if bt360.2 = true then (if bt360.1 = t345 then (if t344 = 0 then (none) else (if (Int.tmod t350 t344) = 0 then (if (Int.tmod (wrap64 ((wrap64 (365 * t350)) + (wrap64 (t345 * (wrap64 (Int.tdiv t350 t344)))))) 7) = 0 then (if t350 = t344 then (j9 kj181 t350 false t340 t341 t342) else (j9 kj181 t350 (t350 != (wrap64 (7 * t344))) t340 t341 t342)) else (none)) else (none))) else (none)) else (none))) = some r := by rw [if_pos rfl] at H; exact H
                 clear H
                 have H := H1
                 clear H1
                 replace H := Option.bind_eq_some_iff.mp H
                 obtain ⟨⟨t360, t361⟩, A2080, H⟩ := H
                 try dsimp only at H
                 have A208 := Aside0.mk A2080
                 clear A2080
                 have HC209 := Aside0.mk H
                 clear H
                 have hnb210 := NB343_287.out
                 have hnc210 := NB287_343.out
                 have hnb211 := NB343_324.out
                 have hnc211 := NB324_343.out
                 have hnb212 := NB343_333.out
                 have hnc212 := NB333_343.out
                 have hcz213_0 : wc.cell? ⟨gb343, 0, none⟩ = some (.int .i64 t340) := (blk_cell BK343.out 0).trans rfl
                 have hcz213_1 : wc.cell? ⟨gb343, 1, none⟩ = some (.int .i64 t341) := (blk_cell BK343.out 1).trans rfl
                 have hcz213_2 : wc.cell? ⟨gb343, 2, none⟩ = some (.int .i64 t342) := (blk_cell BK343.out 2).trans rfl
                 have hfz213_0 := blk_frozen BK343.out 0
                 have hfz213_1 := blk_frozen BK343.out 1
                 have hfz213_2 := blk_frozen BK343.out 2
                 go_upto_region 67 with (first | ((with_reducible refine gate_callee (f := 27) rfl ?_); refine goesL_ (some 473) rfl rfl Try.func27 (by kernel_rfl) rfl #[.agg #[.int .i64 t340, .int .i64 t341, .int .i64 t342], .int .i64 1, .int .i64 t344] rfl (by (try simp only [List.map_toArray, List.map_cons, List.map_nil]); first | done | rfl | (simp only [List.length_drop, List.length_take]; rfl)) ?_; (with_reducible refine (impl_CountLeaps.calls kj181 t340 t341 t342 1 t344 t360 t361 _ A208.out).mono ?_); rintro e w214 ⟨rfl, hb⟩; refine ⟨_, rfl, ?_⟩; have n0_ := Aside0.mk (blk_below (g := gb287) (by (with_reducible repeat (first | refine blk_drewN ?_ _ | refine blk_drew ?_ | refine blk_alloc ?_ _)); exact BK287.out) hb); have n1_ := Aside0.mk (blk_below (g := gb324) (by (with_reducible repeat (first | refine blk_drewN ?_ _ | refine blk_drew ?_ | refine blk_alloc ?_ _)); exact BK324.out) hb); have n2_ := Aside0.mk (blk_below (g := gb333) (by (with_reducible repeat (first | refine blk_drewN ?_ _ | refine blk_drew ?_ | refine blk_alloc ?_ _)); exact BK333.out) hb); have n3_ := Aside0.mk (blk_below (g := gb343) (by (with_reducible repeat (first | refine blk_drewN ?_ _ | refine blk_drew ?_ | refine blk_alloc ?_ _)); exact BK343.out) hb); have n4_ := Aside0.mk (below_step (by repeat (first | (with_reducible first | exact HB.out | apply below_alloc | apply pw_below_drewN | apply below_drew1 | refine below_set ?_ GE287.out | refine below_set ?_ GE324.out | refine below_set ?_ GE333.out | refine below_set ?_ GE343.out) | exact HB.out)) hb); clear BK287; clear BK324; clear BK333; clear BK343; clear HB; have BK287 := n0_; have BK324 := n1_; have BK333 := n2_; have BK343 := n3_; have HB := n4_; clear n0_ n1_ n2_ n3_ n4_; (try clear hb); (try clear hb2); (try clear hk); (try clear hi)))
                 (try simp only [Act.put, s1, s2, s3])
                 go_cut [511] from 407 to 511 (fun v511 wc => ∃ (kq : Nat) (x511_208 : Bool), v511 = .bool x511_208 ∧ Aside0 (j9 kq t350 x511_208 t340 t341 t342 = some r) ∧ Aside0 (kq ≤ kj181) ∧ Aside0 (wc.heap[gb287]? = some (.cells #[.int .i64 t283, .int .i64 t284, .int .i64 t285] 26 (0, 0))) ∧ Aside0 (wc.heap[gb324]? = some (.cells #[.int .i64 t319, .int .i64 t320, .int .i64 t321] 26 (0, 0))) ∧ Aside0 (wc.heap[gb333]? = some (.cells #[.int .i64 t329, .int .i64 t330, .int .i64 t331] 26 (0, 0))) ∧ Aside0 (wc.heap[gb343]? = some (.cells #[.int .i64 t340, .int .i64 t341, .int .i64 t342] 26 (0, 0))) ∧ Aside0 (Below w.heap.size w wc))
                 case first => as_aux_lemma =>
                  have H := HC209.out
                  clear HC209
                  by_cases c215 : t361 = true
                  ·
                   subst c215
                   have H1 : (if t360 = t345 then (if t344 = 0 then (none) else (if (Int.tmod t350 t344) = 0 then (if (Int.tmod (wrap64 ((wrap64 (365 * t350)) + (wrap64 (t345 * (wrap64 (Int.tdiv t350 t344)))))) 7) = 0 then (if t350 = t344 then (j9 kj181 t350 false t340 t341 t342) else (j9 kj181 t350 (t350 != (wrap64 (7 * t344))) t340 t341 t342)) else (none)) else (none))) else (none)) = some r := by rw [if_pos rfl] at H; exact H
                   clear H
                   have H := H1
                   clear H1
                   by_cases c216 : t360 = t345
                   ·
                    rw [if_pos c216] at H
                    have c216b0 : (t360 == t345) = true := beq_iff_eq.mpr c216
                    have c216b1 : (t360 != t345) = false := bne_eq_false_iff_eq.mpr c216
                    clear c216
                    (first | rw [c216b0] | (simp only [i64_w, i32_w]; rw [c216b0]) | skip)
                    by_cases c217 : t344 = 0
                    ·
                     rw [if_pos c217] at H
                     exact absurd H (by simp)
                    ·
                     rw [if_neg c217] at H
                     have c217b0 : (t344 == 0) = false := beq_eq_false_iff_ne.mpr c217
                     have c217b1 : (t344 != 0) = true := bne_iff_ne.mpr c217
                     by_cases c218 : (Int.tmod t350 t344) = 0
                     ·
                      rw [if_pos c218] at H
                      have c218b0 : ((Int.tmod t350 t344) == 0) = true := beq_iff_eq.mpr c218
                      have c218b1 : ((Int.tmod t350 t344) != 0) = false := bne_eq_false_iff_eq.mpr c218
                      clear c218
                      by_cases c219 : (Int.tmod (wrap64 ((wrap64 (365 * t350)) + (wrap64 (t345 * (wrap64 (Int.tdiv t350 t344)))))) 7) = 0
                      ·
                       rw [if_pos c219] at H
                       have c219b0 : ((Int.tmod (wrap64 ((wrap64 (365 * t350)) + (wrap64 (t345 * (wrap64 (Int.tdiv t350 t344)))))) 7) == 0) = true := beq_iff_eq.mpr c219
                       have c219b1 : ((Int.tmod (wrap64 ((wrap64 (365 * t350)) + (wrap64 (t345 * (wrap64 (Int.tdiv t350 t344)))))) 7) != 0) = false := bne_eq_false_iff_eq.mpr c219
                       clear c219
                       by_cases c220 : t350 = t344
                       ·
                        rw [if_pos c220] at H
                        have c220b0 : (t350 == t344) = true := beq_iff_eq.mpr c220
                        have c220b1 : (t350 != t344) = false := bne_eq_false_iff_eq.mpr c220
                        clear c220
                        as_aux_lemma =>
                         have H' := Aside0.mk H
                         clear H
                         go_wp2
                         go_meet
                         case rel => exact ⟨_, (false), (by first | rfl | (simp; done) | (simp [*]; done)), H', ⟨by have := HJ13.out; have := HJ65.out; have := HJ121.out; have := HJ161.out; have := HJ164.out; have := HJ181.out; first | omega | exact Nat.le_refl _⟩, ⟨by (with_reducible repeat (first | refine blk_drewN ?_ _ | refine blk_drew ?_ | refine blk_alloc ?_ _)); exact BK287.out⟩, ⟨by (with_reducible repeat (first | refine blk_drewN ?_ _ | refine blk_drew ?_ | refine blk_alloc ?_ _)); exact BK324.out⟩, ⟨by (with_reducible repeat (first | refine blk_drewN ?_ _ | refine blk_drew ?_ | refine blk_alloc ?_ _)); exact BK333.out⟩, ⟨by (with_reducible repeat (first | refine blk_drewN ?_ _ | refine blk_drew ?_ | refine blk_alloc ?_ _)); exact BK343.out⟩, ⟨by repeat (first | (with_reducible first | exact HB.out | apply below_alloc | apply pw_below_drewN | apply below_drew1 | refine below_set ?_ GE287.out | refine below_set ?_ GE324.out | refine below_set ?_ GE333.out | refine below_set ?_ GE343.out) | exact HB.out)⟩⟩
                       ·
                        rw [if_neg c220] at H
                        have c220b0 : (t350 == t344) = false := beq_eq_false_iff_ne.mpr c220
                        have c220b1 : (t350 != t344) = true := bne_iff_ne.mpr c220
                        as_aux_lemma =>
                         have H' := Aside0.mk H
                         clear H
                         go_wp2
                         go_meet
                         case rel => exact ⟨_, ((t350 != (wrap64 (7 * t344)))), (by first | rfl | (simp; done) | (simp [*]; done)), H', ⟨by have := HJ13.out; have := HJ65.out; have := HJ121.out; have := HJ161.out; have := HJ164.out; have := HJ181.out; first | omega | exact Nat.le_refl _⟩, ⟨by (with_reducible repeat (first | refine blk_drewN ?_ _ | refine blk_drew ?_ | refine blk_alloc ?_ _)); exact BK287.out⟩, ⟨by (with_reducible repeat (first | refine blk_drewN ?_ _ | refine blk_drew ?_ | refine blk_alloc ?_ _)); exact BK324.out⟩, ⟨by (with_reducible repeat (first | refine blk_drewN ?_ _ | refine blk_drew ?_ | refine blk_alloc ?_ _)); exact BK333.out⟩, ⟨by (with_reducible repeat (first | refine blk_drewN ?_ _ | refine blk_drew ?_ | refine blk_alloc ?_ _)); exact BK343.out⟩, ⟨by repeat (first | (with_reducible first | exact HB.out | apply below_alloc | apply pw_below_drewN | apply below_drew1 | refine below_set ?_ GE287.out | refine below_set ?_ GE324.out | refine below_set ?_ GE333.out | refine below_set ?_ GE343.out) | exact HB.out)⟩⟩
                      ·
                       rw [if_neg c219] at H
                       exact absurd H (by simp)
                     ·
                      rw [if_neg c218] at H
                      exact absurd H (by simp)
                   ·
                    rw [if_neg c216] at H
                    exact absurd H (by simp)
                  ·
                   replace c215 := Bool.eq_false_iff.mpr c215
                   subst c215
                   have H1 : (none) = some r := by rw [if_neg (show ¬ (false = true) by decide)] at H; exact H
                   clear H
                   have H := H1
                   clear H1
                   exact absurd H (by simp)
                 case rest => as_aux_lemma =>
                  clear HC209
                  try clear c1
                  try clear c4
                  try clear c65
                  try clear c161
                  try clear c207
                  try clear hcz213_0
                  try clear hcz213_1
                  try clear hcz213_2
                  try clear hfz213_0
                  try clear hfz213_1
                  try clear hfz213_2
                  obtain ⟨kq, x511_208, rfl, HA, HJ208, BK287, BK324, BK333, BK343, HB⟩ := hcut
                  cases kq with
                  | zero => exact absurd HA.out (by simp [j9])
                  | succ kj208 =>
                   have H := HA.out
                   clear HA
                   simp only [j9] at H
                   by_cases c221 : x511_208 = true
                   ·
                    subst c221
                    have H1 : (none) = some r := by rw [if_pos rfl] at H; exact H
                    clear H
                    have H := H1
                    clear H1
                    exact absurd H (by simp)
                   ·
                    replace c221 := Bool.eq_false_iff.mpr c221
                    subst c221
                    have H1 : (if t350 < 1000000 then ((impl_WeekdayOf.f t340 t341 t342 (wrap64 (t350 + 1))).bind fun bt362 => (if bt362.2 = true then (if bt362.1 = 0 then (some true) else (none)) else (none))) else (some true)) = some r := by rw [if_neg (show ¬ (false = true) by decide)] at H; exact H
                    clear H
                    have H := H1
                    clear H1
                    by_cases c222 : t350 < 1000000
                    ·
                     rw [if_pos c222] at H
                     have c222b0 : decide (t350 < 1000000) = true := decide_eq_true c222
                     clear c222
                     replace H := Option.bind_eq_some_iff.mp H
                     obtain ⟨⟨t362, t363⟩, A2230, H⟩ := H
                     try dsimp only at H
                     have A223 := Aside0.mk A2230
                     clear A2230
                     by_cases c224 : t363 = true
                     ·
                      subst c224
                      have H1 : (if t362 = 0 then (some true) else (none)) = some r := by rw [if_pos rfl] at H; exact H
                      clear H
                      have H := H1
                      clear H1
                      by_cases c225 : t362 = 0
                      ·
                       rw [if_pos c225] at H
                       have c225b0 : (t362 == 0) = true := beq_iff_eq.mpr c225
                       have c225b1 : (t362 != 0) = false := bne_eq_false_iff_eq.mpr c225
                       clear c225
                       as_aux_lemma =>
                        obtain rfl := Option.some.inj H
                        have hnb226 := NB343_287.out
                        have hnc226 := NB287_343.out
                        have hnb227 := NB343_324.out
                        have hnc227 := NB324_343.out
                        have hnb228 := NB343_333.out
                        have hnc228 := NB333_343.out
                        have hcz229_0 : wc.cell? ⟨gb343, 0, none⟩ = some (.int .i64 t340) := (blk_cell BK343.out 0).trans rfl
                        have hcz229_1 : wc.cell? ⟨gb343, 1, none⟩ = some (.int .i64 t341) := (blk_cell BK343.out 1).trans rfl
                        have hcz229_2 : wc.cell? ⟨gb343, 2, none⟩ = some (.int .i64 t342) := (blk_cell BK343.out 2).trans rfl
                        have hfz229_0 := blk_frozen BK343.out 0
                        have hfz229_1 := blk_frozen BK343.out 1
                        have hfz229_2 := blk_frozen BK343.out 2
                        go_wp2_with (first | ((with_reducible refine gate_callee (f := 20) rfl ?_); refine goesL_ (some 518) rfl rfl Try.func20 (by kernel_rfl) rfl #[.agg #[.int .i64 t340, .int .i64 t341, .int .i64 t342], .int .i64 (wrap64 (t350 + 1))] rfl (by (try simp only [List.map_toArray, List.map_cons, List.map_nil]); first | done | rfl | (simp only [List.length_drop, List.length_take]; rfl)) ?_; (with_reducible refine (impl_WeekdayOf.calls t340 t341 t342 (wrap64 (t350 + 1)) t362 true _ A223.out).mono ?_); rintro e w230 ⟨rfl, hb⟩; refine ⟨_, rfl, ?_⟩; have n0_ := Aside0.mk (blk_below (g := gb287) (by (with_reducible repeat (first | refine blk_drewN ?_ _ | refine blk_drew ?_ | refine blk_alloc ?_ _)); exact BK287.out) hb); have n1_ := Aside0.mk (blk_below (g := gb324) (by (with_reducible repeat (first | refine blk_drewN ?_ _ | refine blk_drew ?_ | refine blk_alloc ?_ _)); exact BK324.out) hb); have n2_ := Aside0.mk (blk_below (g := gb333) (by (with_reducible repeat (first | refine blk_drewN ?_ _ | refine blk_drew ?_ | refine blk_alloc ?_ _)); exact BK333.out) hb); have n3_ := Aside0.mk (blk_below (g := gb343) (by (with_reducible repeat (first | refine blk_drewN ?_ _ | refine blk_drew ?_ | refine blk_alloc ?_ _)); exact BK343.out) hb); have n4_ := Aside0.mk (below_step (by repeat (first | (with_reducible first | exact HB.out | apply below_alloc | apply pw_below_drewN | apply below_drew1 | refine below_set ?_ GE287.out | refine below_set ?_ GE324.out | refine below_set ?_ GE333.out | refine below_set ?_ GE343.out) | exact HB.out)) hb); clear BK287; clear BK324; clear BK333; clear BK343; clear HB; have BK287 := n0_; have BK324 := n1_; have BK333 := n2_; have BK343 := n3_; have HB := n4_; clear n0_ n1_ n2_ n3_ n4_; (try clear hb); (try clear hb2); (try clear hk); (try clear hi)))
                        go_ret
                        exact ⟨by first | rfl | (simp [errW_none, errW_some] <;> rfl) | (simp [*, errW_none, errW_some] <;> rfl), by repeat (first | (with_reducible first | exact HB.out | apply below_alloc | apply pw_below_drewN | apply below_drew1 | refine below_set ?_ GE287.out | refine below_set ?_ GE324.out | refine below_set ?_ GE333.out | refine below_set ?_ GE343.out) | exact HB.out)⟩
                      ·
                       rw [if_neg c225] at H
                       exact absurd H (by simp)
                     ·
                      replace c224 := Bool.eq_false_iff.mpr c224
                      subst c224
                      have H1 : (none) = some r := by rw [if_neg (show ¬ (false = true) by decide)] at H; exact H
                      clear H
                      have H := H1
                      clear H1
                      exact absurd H (by simp)
                    ·
                     rw [if_neg c222] at H
                     have c222b0 : decide (t350 < 1000000) = false := decide_eq_false c222
                     clear c222
                     as_aux_lemma =>
                      obtain rfl := Option.some.inj H
                      go_wp2
                      go_ret
                      exact ⟨by first | rfl | (simp [errW_none, errW_some] <;> rfl) | (simp [*, errW_none, errW_some] <;> rfl), by repeat (first | (with_reducible first | exact HB.out | apply below_alloc | apply pw_below_drewN | apply below_drew1 | refine below_set ?_ GE287.out | refine below_set ?_ GE324.out | refine below_set ?_ GE333.out | refine below_set ?_ GE343.out) | exact HB.out)⟩
                ·
                 replace c207 := Bool.eq_false_iff.mpr c207
                 subst c207
                 have H1 : (some true) = some r := by rw [if_neg (show ¬ (false = true) by decide)] at H; exact H
                 clear H
                 have H := H1
                 clear H1
                 as_aux_lemma =>
                  obtain rfl := Option.some.inj H
                  go_wp2
                  go_ret
                  exact ⟨by first | rfl | (simp [errW_none, errW_some] <;> rfl) | (simp [*, errW_none, errW_some] <;> rfl), by repeat (first | (with_reducible first | exact HB.out | apply below_alloc | apply pw_below_drewN | apply below_drew1 | refine below_set ?_ GE287.out | refine below_set ?_ GE324.out | refine below_set ?_ GE333.out | refine below_set ?_ GE343.out) | exact HB.out)⟩

/-- THE ONE PURE STATEMENT of laws_FnLeapsCounted: yours. -/
def laws_FnLeapsCounted.Pure : Prop := ∀ (l0 : List Int) (l1 : List Int), l0.length ≤ maxLen → l0.length * 1 ≤ 140737488351232 → (∀ x ∈ l0, (Lit.int .u8 x).wf = true) → l1.length ≤ maxLen → l1.length * 1 ≤ 140737488351232 → (∀ x ∈ l1, (Lit.int .u8 x).wf = true) → ∃ k, laws_FnLeapsCounted.f k l0 l1 = some true
theorem laws_FnLeapsCounted.walk (P : laws_FnLeapsCounted.Pure) (a0 : Option Addr) (len0 cap0 : Nat) (z0 : List Int) (a1 : Option Addr) (len1 cap1 : Nat) (z1 : List Int) (w : World) (w0 : (a0 = none ∧ len0 = 0 ∧ cap0 = 0 ∧ z0 = []) ∨ ∃ x, a0 = some x ∧ len0 ≤ cap0 ∧ cap0 ≤ maxLen ∧ z0.length = cap0 ∧ (∀ i, i < z0.length → w.cell? (x.add i) = some (.int .u8 (z0.getD i 0))) ∧ ∀ n ∈ z0, (Lit.int .u8 n).wf = true) (y0 : len0 * 1 ≤ 140737488351232) (w1 : (a1 = none ∧ len1 = 0 ∧ cap1 = 0 ∧ z1 = []) ∨ ∃ x, a1 = some x ∧ len1 ≤ cap1 ∧ cap1 ≤ maxLen ∧ z1.length = cap1 ∧ (∀ i, i < z1.length → w.cell? (x.add i) = some (.int .u8 (z1.getD i 0))) ∧ ∀ n ∈ z1, (Lit.int .u8 n).wf = true) (y1 : len1 * 1 ≤ 140737488351232) :
  Calls Try.prog 6 #[.slice a0 len0 cap0, .slice a1 len1 cap1] w fun e w' => e = .returned (.bool true) ∧ Below w.heap.size w w' := by
 obtain ⟨l0, rfl, hr0, hm0, hw0, hc0⟩ := ReadsInt.ofRowC w0
 obtain ⟨l1, rfl, hr1, hm1, hw1, hc1⟩ := ReadsInt.ofRowC w1
 obtain ⟨k, h⟩ := P l0 l1 hm0 y0 hw0 hm1 y1 hw1
 refine (laws_FnLeapsCounted.calls k _ _ l0 _ _ l1 true w (Kd.C_of_reads (d := (0 : Int)) (h1 := fun _ => rfl) hr0) hc0 (Kd.C_of_reads (d := (0 : Int)) (h1 := fun _ => rfl) hr1) hc1 h).mono ?_
 rintro e w' ⟨rfl, hd⟩
 exact ⟨rfl, hd⟩

end Go.Proofs.Ytkmakbjkapohlaa.GFnLeapsCounted
