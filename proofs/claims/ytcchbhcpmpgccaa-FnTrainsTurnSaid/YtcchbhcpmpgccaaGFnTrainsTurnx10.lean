import Derived.Test.YtcchbhcpmpgccaaGFnTrainsTurnx9
namespace Go.Proofs.Ytcchbhcpmpgccaa.GFnTrainsTurn
open Go.RowKit Go.Proofs.YtcchbhcpmpgccaaW.PrintWords Go.Proofs.YtcchbhcpmpgccaaW.PrintLast Go.Proofs.YtcchbhcpmpgccaaW.PrintMore
attribute [local go_sem] max2_int min2_int max_two min_two max_three min_three max_four min_four   -- for this text's walks alone
set_option linter.unusedVariables false
set_option linter.unusedSimpArgs false

open laws_FnTrainsTurn
set_option maxHeartbeats 8000000 in
set_option maxRecDepth 100000 in
theorem laws_FnTrainsTurn.calls (k : Nat) (A0 : Option Addr) (c0 : Nat) (l0 : List Int) (A1 : Option Addr) (c1 : Nat) (l1 : List Int) (r : Bool) (w : World) (hr0 : Kd.C (Kd.int .u8) w A0 l0.length l0) (hc0 : l0.length ≤ c0) (hr1 : Kd.C (Kd.int .u8) w A1 l1.length l1) (hc1 : l1.length ≤ c1) (h : laws_FnTrainsTurn.f k l0 l1 = some r) :
  Calls Try.prog 12 #[.slice A0 l0.length c0, .slice A1 l1.length c1] w fun e w' => e = .returned (.bool r) ∧ Below w.heap.size w w' := by
 have hu41 := Try.underlying41
 have HR0 := Aside0.mk hr0
 have HC0 := Aside0.mk hc0
 clear hr0 hc0
 have HR1 := Aside0.mk hr1
 have HC1 := Aside0.mk hc1
 clear hr1 hc1
 have HB := Aside0.mk (Below.refl w.heap.size w)
 have H : ((laws_big.f l0 l1).bind fun t345 => (if t345 = true then (some true) else ((spec_DrawRatioOf.f k l0).bind fun t346 => ((impl_RatioOf.f k t346).bind fun bt349 => ((spec_RatioOf.f k t346).bind fun bt352 => ((impl_DirectionOf.f k t346).bind fun bt355 => ((spec_DirectionOf.f k t346).bind fun bt357 => ((impl_BackTrain.f k t346).bind fun bt359 => ((spec_BackTrain.f k t346).bind fun bt363 => ((impl_TurnsUntilSame.f k t346).bind fun bt367 => ((spec_TurnsUntilSame.f k t346).bind fun bt369 => ((impl_TeethOf.f k t346).bind fun bt371 => ((spec_TeethOf.f k t346).bind fun bt373 => (if (bt349.2.2 != bt352.2.2) = true then (none) else (if bt349.1 = bt352.1 then (if bt349.2.1 = bt352.2.1 then (if (bt355.2 != bt357.2) = true then (none) else (if bt355.1 = bt357.1 then (if (bt359.2 != bt363.2) = true then (none) else ((laws_kPairs.f k bt359.1 bt363.1).bind fun t375 => (if t375 = true then (if (bt367.2 != bt369.2) = true then (none) else (if bt367.1 = bt369.1 then (if (bt371.2 != bt373.2) = true then (none) else (if bt371.1 = bt373.1 then ((impl_IsTrain.f k t346).bind fun t376 => (if (bt349.2.2 != t376) = true then (none) else ((impl_IsTrain.f k t346).bind fun t377 => ((spec_IsTrain.f k t346).bind fun t378 => (if (t377 != t378) = true then (none) else (if (bt355.2 != bt349.2.2) = true then (none) else (if (bt359.2 != bt349.2.2) = true then (none) else (if (bt367.2 != bt349.2.2) = true then (none) else (j0 k l1 t346 bt349.1 bt349.2.1 bt349.2.2 bt355.1 bt359.1 bt367.1 bt371.1 (bt371.2 != bt349.2.2)))))))))) else (none))) else (none))) else (none)))) else (none))) else (none)) else (none)))))))))))))))) = some r := h
 clear h
 replace H := Option.bind_eq_some_iff.mp H
 obtain ⟨t345, A30, H⟩ := H
 try dsimp only at H
 have A3 := Aside0.mk A30
 clear A30
 by_cases c4 : t345 = true
 ·
  subst c4
  have H1 : (some true) = some r := by rw [if_pos rfl] at H; exact H
  clear H
  have H := H1
  clear H1
  as_aux_lemma =>
   obtain rfl := Option.some.inj H
   go_enter Try.func12, Try.ntmps12
   go_wp2_with (first | ((with_reducible refine gate_callee (f := 39) rfl ?_); refine goesL_ (some 78) rfl rfl Try.func39 (by kernel_rfl) rfl #[.slice A0 l0.length c0, .slice A1 l1.length c1] rfl (by (try simp only [List.map_toArray, List.map_cons, List.map_nil]); first | done | rfl | (simp only [List.length_drop, List.length_take]; rfl)) ?_; (with_reducible refine (laws_big.calls _ _ l0 _ _ l1 true _ ?side1 ?side2 ?side3 ?side4 A3.out).mono ?_); (case side1 => repeat (first | exact HR0.out | (with_reducible refine Kd.C_alloc ?_ _) | (with_reducible refine Kd.C_drewN ?_ _) | (with_reducible refine Kd.C_drew ?_))); (case side2 => exact HC0.out); (case side3 => repeat (first | exact HR1.out | (with_reducible refine Kd.C_alloc ?_ _) | (with_reducible refine Kd.C_drewN ?_ _) | (with_reducible refine Kd.C_drew ?_))); (case side4 => exact HC1.out); rintro e w' ⟨rfl, ⟨nd, rfl⟩⟩; refine ⟨_, rfl, ?_⟩))
   go_ret
   exact ⟨by first | rfl | (simp [errW_none, errW_some] <;> rfl) | (simp [*, errW_none, errW_some] <;> rfl), by repeat (first | (with_reducible first | exact HB.out | apply below_alloc | apply pw_below_drewN | apply below_drew1) | exact HB.out)⟩
 ·
  replace c4 := Bool.eq_false_iff.mpr c4
  subst c4
  have H1 : ((spec_DrawRatioOf.f k l0).bind fun t346 => ((impl_RatioOf.f k t346).bind fun bt349 => ((spec_RatioOf.f k t346).bind fun bt352 => ((impl_DirectionOf.f k t346).bind fun bt355 => ((spec_DirectionOf.f k t346).bind fun bt357 => ((impl_BackTrain.f k t346).bind fun bt359 => ((spec_BackTrain.f k t346).bind fun bt363 => ((impl_TurnsUntilSame.f k t346).bind fun bt367 => ((spec_TurnsUntilSame.f k t346).bind fun bt369 => ((impl_TeethOf.f k t346).bind fun bt371 => ((spec_TeethOf.f k t346).bind fun bt373 => (if (bt349.2.2 != bt352.2.2) = true then (none) else (if bt349.1 = bt352.1 then (if bt349.2.1 = bt352.2.1 then (if (bt355.2 != bt357.2) = true then (none) else (if bt355.1 = bt357.1 then (if (bt359.2 != bt363.2) = true then (none) else ((laws_kPairs.f k bt359.1 bt363.1).bind fun t375 => (if t375 = true then (if (bt367.2 != bt369.2) = true then (none) else (if bt367.1 = bt369.1 then (if (bt371.2 != bt373.2) = true then (none) else (if bt371.1 = bt373.1 then ((impl_IsTrain.f k t346).bind fun t376 => (if (bt349.2.2 != t376) = true then (none) else ((impl_IsTrain.f k t346).bind fun t377 => ((spec_IsTrain.f k t346).bind fun t378 => (if (t377 != t378) = true then (none) else (if (bt355.2 != bt349.2.2) = true then (none) else (if (bt359.2 != bt349.2.2) = true then (none) else (if (bt367.2 != bt349.2.2) = true then (none) else (j0 k l1 t346 bt349.1 bt349.2.1 bt349.2.2 bt355.1 bt359.1 bt367.1 bt371.1 (bt371.2 != bt349.2.2)))))))))) else (none))) else (none))) else (none)))) else (none))) else (none)) else (none)))))))))))))) = some r := by rw [if_neg (show ¬ (false = true) by decide)] at H; exact H
  clear H
  have H := H1
  clear H1
  replace H := Option.bind_eq_some_iff.mp H
  obtain ⟨t346, A50, H⟩ := H
  try dsimp only at H
  have A5 := Aside0.mk A50
  clear A50
  replace H := Option.bind_eq_some_iff.mp H
  obtain ⟨⟨t349, t350, t351⟩, A60, H⟩ := H
  try dsimp only at H
  have A6 := Aside0.mk A60
  clear A60
  replace H := Option.bind_eq_some_iff.mp H
  obtain ⟨⟨t352, t353, t354⟩, A70, H⟩ := H
  try dsimp only at H
  have A7 := Aside0.mk A70
  clear A70
  replace H := Option.bind_eq_some_iff.mp H
  obtain ⟨⟨t355, t356⟩, A80, H⟩ := H
  try dsimp only at H
  have A8 := Aside0.mk A80
  clear A80
  replace H := Option.bind_eq_some_iff.mp H
  obtain ⟨⟨t357, t358⟩, A90, H⟩ := H
  try dsimp only at H
  have A9 := Aside0.mk A90
  clear A90
  replace H := Option.bind_eq_some_iff.mp H
  obtain ⟨⟨t359, t360⟩, A100, H⟩ := H
  try dsimp only at H
  have A10 := Aside0.mk A100
  clear A100
  replace H := Option.bind_eq_some_iff.mp H
  obtain ⟨⟨t363, t364⟩, A110, H⟩ := H
  try dsimp only at H
  have A11 := Aside0.mk A110
  clear A110
  replace H := Option.bind_eq_some_iff.mp H
  obtain ⟨⟨t367, t368⟩, A120, H⟩ := H
  try dsimp only at H
  have A12 := Aside0.mk A120
  clear A120
  replace H := Option.bind_eq_some_iff.mp H
  obtain ⟨⟨t369, t370⟩, A130, H⟩ := H
  try dsimp only at H
  have A13 := Aside0.mk A130
  clear A130
  replace H := Option.bind_eq_some_iff.mp H
  obtain ⟨⟨t371, t372⟩, A140, H⟩ := H
  try dsimp only at H
  have A14 := Aside0.mk A140
  clear A140
  replace H := Option.bind_eq_some_iff.mp H
  obtain ⟨⟨t373, t374⟩, A150, H⟩ := H
  try dsimp only at H
  have A15 := Aside0.mk A150
  clear A150
  have HC16 := Aside0.mk H
  clear H
  go_enter Try.func12, Try.ntmps12
  go_upto_region 14 with (first | ((with_reducible refine gate_callee (f := 39) rfl ?_); refine goesL_ (some 78) rfl rfl Try.func39 (by kernel_rfl) rfl #[.slice A0 l0.length c0, .slice A1 l1.length c1] rfl (by (try simp only [List.map_toArray, List.map_cons, List.map_nil]); first | done | rfl | (simp only [List.length_drop, List.length_take]; rfl)) ?_; (with_reducible refine (laws_big.calls _ _ l0 _ _ l1 false _ ?side1 ?side2 ?side3 ?side4 A3.out).mono ?_); (case side1 => repeat (first | exact HR0.out | (with_reducible refine Kd.C_alloc ?_ _) | (with_reducible refine Kd.C_drewN ?_ _) | (with_reducible refine Kd.C_drew ?_))); (case side2 => exact HC0.out); (case side3 => repeat (first | exact HR1.out | (with_reducible refine Kd.C_alloc ?_ _) | (with_reducible refine Kd.C_drewN ?_ _) | (with_reducible refine Kd.C_drew ?_))); (case side4 => exact HC1.out); rintro e w' ⟨rfl, ⟨nd, rfl⟩⟩; refine ⟨_, rfl, ?_⟩) | ((with_reducible refine gate_callee (f := 40) rfl ?_); refine goesL_ (some 80) rfl rfl Try.func40 (by kernel_rfl) rfl #[.slice A0 l0.length c0] rfl (by (try simp only [List.map_toArray, List.map_cons, List.map_nil]); first | done | rfl | (simp only [List.length_drop, List.length_take]; rfl)) ?_; (with_reducible refine (spec_DrawRatioOf.calls k _ _ l0 t346 _ ?side1 ?side2 A5.out).mono ?_); (case side1 => repeat (first | exact HR0.out | (with_reducible refine Kd.C_alloc ?_ _) | (with_reducible refine Kd.C_drewN ?_ _) | (with_reducible refine Kd.C_drew ?_))); (case side2 => exact HC0.out); rintro e w17 ⟨v347, rfl, ho0, hb⟩; refine ⟨_, rfl, ?_⟩; have n0_ := Aside0.mk (Kd.R_lower ho0 (below_size (by repeat (first | (with_reducible first | exact HB.out | apply below_alloc | apply pw_below_drewN | apply below_drew1) | exact HB.out)))); have n1_ := Aside0.mk (below_step (by repeat (first | (with_reducible first | exact HB.out | apply below_alloc | apply pw_below_drewN | apply below_drew1) | exact HB.out)) hb); clear HB; have HO348 := n0_; have HB := n1_; clear n0_ n1_; (try clear hb); (try clear hb2); (try clear hk); (try clear hi); (try clear ho0); obtain ⟨Ao18, co18, eo18⟩ := Kd.R_slice HO348.out; subst eo18) | ((with_reducible refine gate_callee (f := 23) rfl ?_); refine goesL_ (some 83) rfl rfl Try.func23 (by kernel_rfl) rfl #[.slice Ao18 t346.length co18] rfl (by (try simp only [List.map_toArray, List.map_cons, List.map_nil]); first | done | rfl | (simp only [List.length_drop, List.length_take]; rfl)) ?_; (with_reducible refine (impl_RatioOf.calls k _ _ t346 t349 t350 t351 _ ?side1 ?side2 A6.out).mono ?_); (case side1 => repeat (first | exact (Kd.R_reads' HO348.out).2.2 | (with_reducible refine Kd.C_alloc ?_ _) | (with_reducible refine Kd.C_drewN ?_ _) | (with_reducible refine Kd.C_drew ?_))); (case side2 => exact (Kd.R_reads' HO348.out).2.1); rintro e w19 ⟨rfl, hb⟩; refine ⟨_, rfl, ?_⟩; have n0_ := Aside0.mk (Kd.R_below (by (with_reducible repeat (first | apply Kd.R_alloc | apply Kd.R_drewN | apply Kd.R_drew)); exact HO348.out) hb); have n1_ := Aside0.mk (below_step (by repeat (first | (with_reducible first | exact HB.out | apply below_alloc | apply pw_below_drewN | apply below_drew1) | exact HB.out)) hb); clear HO348; clear HB; have HO348 := n0_; have HB := n1_; clear n0_ n1_; (try clear hb); (try clear hb2); (try clear hk); (try clear hi)) | ((with_reducible refine gate_callee (f := 22) rfl ?_); refine goesL_ (some 89) rfl rfl Try.func22 (by kernel_rfl) rfl #[.slice Ao18 t346.length co18] rfl (by (try simp only [List.map_toArray, List.map_cons, List.map_nil]); first | done | rfl | (simp only [List.length_drop, List.length_take]; rfl)) ?_; (with_reducible refine (spec_RatioOf.calls k _ _ t346 t352 t353 t354 _ ?side1 ?side2 A7.out).mono ?_); (case side1 => repeat (first | exact (Kd.R_reads' HO348.out).2.2 | (with_reducible refine Kd.C_alloc ?_ _) | (with_reducible refine Kd.C_drewN ?_ _) | (with_reducible refine Kd.C_drew ?_))); (case side2 => exact (Kd.R_reads' HO348.out).2.1); rintro e w20 ⟨rfl, hb⟩; refine ⟨_, rfl, ?_⟩; have n0_ := Aside0.mk (Kd.R_below (by (with_reducible repeat (first | apply Kd.R_alloc | apply Kd.R_drewN | apply Kd.R_drew)); exact HO348.out) hb); have n1_ := Aside0.mk (below_step (by repeat (first | (with_reducible first | exact HB.out | apply below_alloc | apply pw_below_drewN | apply below_drew1) | exact HB.out)) hb); clear HO348; clear HB; have HO348 := n0_; have HB := n1_; clear n0_ n1_; (try clear hb); (try clear hb2); (try clear hk); (try clear hi)) | ((with_reducible refine gate_callee (f := 19) rfl ?_); refine goesL_ (some 95) rfl rfl Try.func19 (by kernel_rfl) rfl #[.slice Ao18 t346.length co18] rfl (by (try simp only [List.map_toArray, List.map_cons, List.map_nil]); first | done | rfl | (simp only [List.length_drop, List.length_take]; rfl)) ?_; (with_reducible refine (impl_DirectionOf.calls k _ _ t346 t355 t356 _ ?side1 ?side2 A8.out).mono ?_); (case side1 => repeat (first | exact (Kd.R_reads' HO348.out).2.2 | (with_reducible refine Kd.C_alloc ?_ _) | (with_reducible refine Kd.C_drewN ?_ _) | (with_reducible refine Kd.C_drew ?_))); (case side2 => exact (Kd.R_reads' HO348.out).2.1); rintro e w21 ⟨rfl, hb⟩; refine ⟨_, rfl, ?_⟩; have n0_ := Aside0.mk (Kd.R_below (by (with_reducible repeat (first | apply Kd.R_alloc | apply Kd.R_drewN | apply Kd.R_drew)); exact HO348.out) hb); have n1_ := Aside0.mk (below_step (by repeat (first | (with_reducible first | exact HB.out | apply below_alloc | apply pw_below_drewN | apply below_drew1) | exact HB.out)) hb); clear HO348; clear HB; have HO348 := n0_; have HB := n1_; clear n0_ n1_; (try clear hb); (try clear hb2); (try clear hk); (try clear hi)) | ((with_reducible refine gate_callee (f := 18) rfl ?_); refine goesL_ (some 100) rfl rfl Try.func18 (by kernel_rfl) rfl #[.slice Ao18 t346.length co18] rfl (by (try simp only [List.map_toArray, List.map_cons, List.map_nil]); first | done | rfl | (simp only [List.length_drop, List.length_take]; rfl)) ?_; (with_reducible refine (spec_DirectionOf.calls k _ _ t346 t357 t358 _ ?side1 ?side2 A9.out).mono ?_); (case side1 => repeat (first | exact (Kd.R_reads' HO348.out).2.2 | (with_reducible refine Kd.C_alloc ?_ _) | (with_reducible refine Kd.C_drewN ?_ _) | (with_reducible refine Kd.C_drew ?_))); (case side2 => exact (Kd.R_reads' HO348.out).2.1); rintro e w22 ⟨rfl, hb⟩; refine ⟨_, rfl, ?_⟩; have n0_ := Aside0.mk (Kd.R_below (by (with_reducible repeat (first | apply Kd.R_alloc | apply Kd.R_drewN | apply Kd.R_drew)); exact HO348.out) hb); have n1_ := Aside0.mk (below_step (by repeat (first | (with_reducible first | exact HB.out | apply below_alloc | apply pw_below_drewN | apply below_drew1) | exact HB.out)) hb); clear HO348; clear HB; have HO348 := n0_; have HB := n1_; clear n0_ n1_; (try clear hb); (try clear hb2); (try clear hk); (try clear hi)) | ((with_reducible refine gate_callee (f := 25) rfl ?_); refine goesL_ (some 105) rfl rfl Try.func25 (by kernel_rfl) rfl #[.slice Ao18 t346.length co18] rfl (by (try simp only [List.map_toArray, List.map_cons, List.map_nil]); first | done | rfl | (simp only [List.length_drop, List.length_take]; rfl)) ?_; (with_reducible refine (impl_BackTrain.calls k _ _ t346 t359 t360 _ ?side1 ?side2 A10.out).mono ?_); (case side1 => repeat (first | exact (Kd.R_reads' HO348.out).2.2 | (with_reducible refine Kd.C_alloc ?_ _) | (with_reducible refine Kd.C_drewN ?_ _) | (with_reducible refine Kd.C_drew ?_))); (case side2 => exact (Kd.R_reads' HO348.out).2.1); rintro e w23 ⟨v361, rfl, ho0, hb⟩; refine ⟨_, rfl, ?_⟩; have n0_ := Aside0.mk (Kd.R_elder' (by (with_reducible repeat (first | apply Kd.R_alloc | apply Kd.R_drewN | apply Kd.R_drew)); exact HO348.out) (Kd.R_base ho0) hb); have n1_ := Aside0.mk (Kd.R_lower (Kd.R_new' ho0 (Kd.R_lt (by (with_reducible repeat (first | apply Kd.R_alloc | apply Kd.R_drewN | apply Kd.R_drew)); exact HO348.out))) (below_size (by repeat (first | (with_reducible first | exact HB.out | apply below_alloc | apply pw_below_drewN | apply below_drew1) | exact HB.out)))); have n2_ := Aside0.mk (below_step (by repeat (first | (with_reducible first | exact HB.out | apply below_alloc | apply pw_below_drewN | apply below_drew1) | exact HB.out)) hb); clear HO348; clear HB; have HO348 := n0_; have HO362 := n1_; have HB := n2_; clear n0_ n1_ n2_; (try clear hb); (try clear hb2); (try clear hk); (try clear hi); (try clear ho0)) | ((with_reducible refine gate_callee (f := 24) rfl ?_); refine goesL_ (some 110) rfl rfl Try.func24 (by kernel_rfl) rfl #[.slice Ao18 t346.length co18] rfl (by (try simp only [List.map_toArray, List.map_cons, List.map_nil]); first | done | rfl | (simp only [List.length_drop, List.length_take]; rfl)) ?_; (with_reducible refine (spec_BackTrain.calls k _ _ t346 t363 t364 _ ?side1 ?side2 A11.out).mono ?_); (case side1 => repeat (first | exact (Kd.R_reads' HO348.out).2.2 | (with_reducible refine Kd.C_alloc ?_ _) | (with_reducible refine Kd.C_drewN ?_ _) | (with_reducible refine Kd.C_drew ?_))); (case side2 => exact (Kd.R_reads' HO348.out).2.1); rintro e w24 ⟨v365, rfl, ho0, hb⟩; refine ⟨_, rfl, ?_⟩; have n0_ := Aside0.mk (Kd.R_elder' (by (with_reducible repeat (first | apply Kd.R_alloc | apply Kd.R_drewN | apply Kd.R_drew)); exact HO348.out) (Kd.R_base ho0) hb); have n1_ := Aside0.mk (Kd.R_elder' (by (with_reducible repeat (first | apply Kd.R_alloc | apply Kd.R_drewN | apply Kd.R_drew)); exact HO362.out) (Kd.R_base ho0) hb); have n2_ := Aside0.mk (Kd.R_lower (Kd.R_new' (Kd.R_new' ho0 (Kd.R_lt (by (with_reducible repeat (first | apply Kd.R_alloc | apply Kd.R_drewN | apply Kd.R_drew)); exact HO348.out))) (Kd.R_lt (by (with_reducible repeat (first | apply Kd.R_alloc | apply Kd.R_drewN | apply Kd.R_drew)); exact HO362.out))) (below_size (by repeat (first | (with_reducible first | exact HB.out | apply below_alloc | apply pw_below_drewN | apply below_drew1) | exact HB.out)))); have n3_ := Aside0.mk (below_step (by repeat (first | (with_reducible first | exact HB.out | apply below_alloc | apply pw_below_drewN | apply below_drew1) | exact HB.out)) hb); clear HO348; clear HO362; clear HB; have HO348 := n0_; have HO362 := n1_; have HO366 := n2_; have HB := n3_; clear n0_ n1_ n2_ n3_; (try clear hb); (try clear hb2); (try clear hk); (try clear hi); (try clear ho0)) | ((with_reducible refine gate_callee (f := 29) rfl ?_); refine goesL_ (some 115) rfl rfl Try.func29 (by kernel_rfl) rfl #[.slice Ao18 t346.length co18] rfl (by (try simp only [List.map_toArray, List.map_cons, List.map_nil]); first | done | rfl | (simp only [List.length_drop, List.length_take]; rfl)) ?_; (with_reducible refine (impl_TurnsUntilSame.calls k _ _ t346 t367 t368 _ ?side1 ?side2 A12.out).mono ?_); (case side1 => repeat (first | exact (Kd.R_reads' HO348.out).2.2 | (with_reducible refine Kd.C_alloc ?_ _) | (with_reducible refine Kd.C_drewN ?_ _) | (with_reducible refine Kd.C_drew ?_))); (case side2 => exact (Kd.R_reads' HO348.out).2.1); rintro e w25 ⟨rfl, hb⟩; refine ⟨_, rfl, ?_⟩; have n0_ := Aside0.mk (Kd.R_below (by (with_reducible repeat (first | apply Kd.R_alloc | apply Kd.R_drewN | apply Kd.R_drew)); exact HO348.out) hb); have n1_ := Aside0.mk (Kd.R_below (by (with_reducible repeat (first | apply Kd.R_alloc | apply Kd.R_drewN | apply Kd.R_drew)); exact HO362.out) hb); have n2_ := Aside0.mk (Kd.R_below (by (with_reducible repeat (first | apply Kd.R_alloc | apply Kd.R_drewN | apply Kd.R_drew)); exact HO366.out) hb); have n3_ := Aside0.mk (below_step (by repeat (first | (with_reducible first | exact HB.out | apply below_alloc | apply pw_below_drewN | apply below_drew1) | exact HB.out)) hb); clear HO348; clear HO362; clear HO366; clear HB; have HO348 := n0_; have HO362 := n1_; have HO366 := n2_; have HB := n3_; clear n0_ n1_ n2_ n3_; (try clear hb); (try clear hb2); (try clear hk); (try clear hi)) | ((with_reducible refine gate_callee (f := 28) rfl ?_); refine goesL_ (some 120) rfl rfl Try.func28 (by kernel_rfl) rfl #[.slice Ao18 t346.length co18] rfl (by (try simp only [List.map_toArray, List.map_cons, List.map_nil]); first | done | rfl | (simp only [List.length_drop, List.length_take]; rfl)) ?_; (with_reducible refine (spec_TurnsUntilSame.calls k _ _ t346 t369 t370 _ ?side1 ?side2 A13.out).mono ?_); (case side1 => repeat (first | exact (Kd.R_reads' HO348.out).2.2 | (with_reducible refine Kd.C_alloc ?_ _) | (with_reducible refine Kd.C_drewN ?_ _) | (with_reducible refine Kd.C_drew ?_))); (case side2 => exact (Kd.R_reads' HO348.out).2.1); rintro e w26 ⟨rfl, hb⟩; refine ⟨_, rfl, ?_⟩; have n0_ := Aside0.mk (Kd.R_below (by (with_reducible repeat (first | apply Kd.R_alloc | apply Kd.R_drewN | apply Kd.R_drew)); exact HO348.out) hb); have n1_ := Aside0.mk (Kd.R_below (by (with_reducible repeat (first | apply Kd.R_alloc | apply Kd.R_drewN | apply Kd.R_drew)); exact HO362.out) hb); have n2_ := Aside0.mk (Kd.R_below (by (with_reducible repeat (first | apply Kd.R_alloc | apply Kd.R_drewN | apply Kd.R_drew)); exact HO366.out) hb); have n3_ := Aside0.mk (below_step (by repeat (first | (with_reducible first | exact HB.out | apply below_alloc | apply pw_below_drewN | apply below_drew1) | exact HB.out)) hb); clear HO348; clear HO362; clear HO366; clear HB; have HO348 := n0_; have HO362 := n1_; have HO366 := n2_; have HB := n3_; clear n0_ n1_ n2_ n3_; (try clear hb); (try clear hb2); (try clear hk); (try clear hi)) | ((with_reducible refine gate_callee (f := 21) rfl ?_); refine goesL_ (some 125) rfl rfl Try.func21 (by kernel_rfl) rfl #[.slice Ao18 t346.length co18] rfl (by (try simp only [List.map_toArray, List.map_cons, List.map_nil]); first | done | rfl | (simp only [List.length_drop, List.length_take]; rfl)) ?_; (with_reducible refine (impl_TeethOf.calls k _ _ t346 t371 t372 _ ?side1 ?side2 A14.out).mono ?_); (case side1 => repeat (first | exact (Kd.R_reads' HO348.out).2.2 | (with_reducible refine Kd.C_alloc ?_ _) | (with_reducible refine Kd.C_drewN ?_ _) | (with_reducible refine Kd.C_drew ?_))); (case side2 => exact (Kd.R_reads' HO348.out).2.1); rintro e w27 ⟨rfl, hb⟩; refine ⟨_, rfl, ?_⟩; have n0_ := Aside0.mk (Kd.R_below (by (with_reducible repeat (first | apply Kd.R_alloc | apply Kd.R_drewN | apply Kd.R_drew)); exact HO348.out) hb); have n1_ := Aside0.mk (Kd.R_below (by (with_reducible repeat (first | apply Kd.R_alloc | apply Kd.R_drewN | apply Kd.R_drew)); exact HO362.out) hb); have n2_ := Aside0.mk (Kd.R_below (by (with_reducible repeat (first | apply Kd.R_alloc | apply Kd.R_drewN | apply Kd.R_drew)); exact HO366.out) hb); have n3_ := Aside0.mk (below_step (by repeat (first | (with_reducible first | exact HB.out | apply below_alloc | apply pw_below_drewN | apply below_drew1) | exact HB.out)) hb); clear HO348; clear HO362; clear HO366; clear HB; have HO348 := n0_; have HO362 := n1_; have HO366 := n2_; have HB := n3_; clear n0_ n1_ n2_ n3_; (try clear hb); (try clear hb2); (try clear hk); (try clear hi)) | ((with_reducible refine gate_callee (f := 20) rfl ?_); refine goesL_ (some 130) rfl rfl Try.func20 (by kernel_rfl) rfl #[.slice Ao18 t346.length co18] rfl (by (try simp only [List.map_toArray, List.map_cons, List.map_nil]); first | done | rfl | (simp only [List.length_drop, List.length_take]; rfl)) ?_; (with_reducible refine (spec_TeethOf.calls k _ _ t346 t373 t374 _ ?side1 ?side2 A15.out).mono ?_); (case side1 => repeat (first | exact (Kd.R_reads' HO348.out).2.2 | (with_reducible refine Kd.C_alloc ?_ _) | (with_reducible refine Kd.C_drewN ?_ _) | (with_reducible refine Kd.C_drew ?_))); (case side2 => exact (Kd.R_reads' HO348.out).2.1); rintro e w28 ⟨rfl, hb⟩; refine ⟨_, rfl, ?_⟩; have n0_ := Aside0.mk (Kd.R_below (by (with_reducible repeat (first | apply Kd.R_alloc | apply Kd.R_drewN | apply Kd.R_drew)); exact HO348.out) hb); have n1_ := Aside0.mk (Kd.R_below (by (with_reducible repeat (first | apply Kd.R_alloc | apply Kd.R_drewN | apply Kd.R_drew)); exact HO362.out) hb); have n2_ := Aside0.mk (Kd.R_below (by (with_reducible repeat (first | apply Kd.R_alloc | apply Kd.R_drewN | apply Kd.R_drew)); exact HO366.out) hb); have n3_ := Aside0.mk (below_step (by repeat (first | (with_reducible first | exact HB.out | apply below_alloc | apply pw_below_drewN | apply below_drew1) | exact HB.out)) hb); clear HO348; clear HO362; clear HO366; clear HB; have HO348 := n0_; have HO362 := n1_; have HO366 := n2_; have HB := n3_; clear n0_ n1_ n2_ n3_; (try clear hb); (try clear hb2); (try clear hk); (try clear hi)))
  (try simp only [Act.put, s1, s2, s3])
  go_cut [219] from 76 to 219 (fun v219 wc => ∃ (kq : Nat) (x219_15 : Bool), v219 = .bool x219_15 ∧ Aside0 (j0 kq l1 t346 t349 t350 t351 t355 t359 t367 t371 x219_15 = some r) ∧ Aside0 (kq ≤ k) ∧ Aside0 (Kd.R k41 41 wc w.heap.size (fun k_ => some k_ ≠ (v361 : Value).ownBlock) (.slice Ao18 t346.length co18) t346) ∧ Aside0 (Kd.R k41 41 wc w.heap.size (fun k_ => some k_ ≠ ((.slice Ao18 t346.length co18) : Value).ownBlock) v361 t359) ∧ Aside0 (Below w.heap.size w wc))
  case first => as_aux_lemma =>
   have H := HC16.out
   clear HC16
   by_cases c29 : (t351 != t354) = true
   ·
    rw [if_pos c29] at H
    exact absurd H (by simp)
   ·
    rw [if_neg c29] at H
    have c29b0 : (t351 != t354) = false := by simpa using c29
    (try (have c29b1 : decide (t351 = t354) = true := by simpa using c29))
    (try (have c29b2 : (t351 == t354) = true := by simpa using c29))
    clear c29
    (first | rw [c29b0] | (simp only [i64_w, i32_w]; rw [c29b0]) | skip)
    by_cases c30 : t349 = t352
    ·
     rw [if_pos c30] at H
     have c30b0 : (t349 == t352) = true := beq_iff_eq.mpr c30
     have c30b1 : (t349 != t352) = false := bne_eq_false_iff_eq.mpr c30
     clear c30
     by_cases c31 : t350 = t353
     ·
      rw [if_pos c31] at H
      have c31b0 : (t350 == t353) = true := beq_iff_eq.mpr c31
      have c31b1 : (t350 != t353) = false := bne_eq_false_iff_eq.mpr c31
      clear c31
      by_cases c32 : (t356 != t358) = true
      ·
       rw [if_pos c32] at H
       exact absurd H (by simp)
      ·
       rw [if_neg c32] at H
       have c32b0 : (t356 != t358) = false := by simpa using c32
       (try (have c32b1 : decide (t356 = t358) = true := by simpa using c32))
       (try (have c32b2 : (t356 == t358) = true := by simpa using c32))
       clear c32
       by_cases c33 : t355 = t357
       ·
        rw [if_pos c33] at H
        have c33b0 : (t355 == t357) = true := beq_iff_eq.mpr c33
        have c33b1 : (t355 != t357) = false := bne_eq_false_iff_eq.mpr c33
        clear c33
        by_cases c34 : (t360 != t364) = true
        ·
         rw [if_pos c34] at H
         exact absurd H (by simp)
        ·
         rw [if_neg c34] at H
         have c34b0 : (t360 != t364) = false := by simpa using c34
         (try (have c34b1 : decide (t360 = t364) = true := by simpa using c34))
         (try (have c34b2 : (t360 == t364) = true := by simpa using c34))
         clear c34
         replace H := Option.bind_eq_some_iff.mp H
         obtain ⟨t375, A350, H⟩ := H
         try dsimp only at H
         have A35 := Aside0.mk A350
         clear A350
         by_cases c36 : t375 = true
         ·
          subst c36
          have H1 : (if (t368 != t370) = true then (none) else (if t367 = t369 then (if (t372 != t374) = true then (none) else (if t371 = t373 then ((impl_IsTrain.f k t346).bind fun t376 => (if (t351 != t376) = true then (none) else ((impl_IsTrain.f k t346).bind fun t377 => ((spec_IsTrain.f k t346).bind fun t378 => (if (t377 != t378) = true then (none) else (if (t356 != t351) = true then (none) else (if (t360 != t351) = true then (none) else (if (t368 != t351) = true then (none) else (j0 k l1 t346 t349 t350 t351 t355 t359 t367 t371 (t372 != t351)))))))))) else (none))) else (none))) = some r := by rw [if_pos rfl] at H; exact H
          clear H
          have H := H1
          clear H1
          by_cases c37 : (t368 != t370) = true
          ·
           rw [if_pos c37] at H
           exact absurd H (by simp)
          ·
           rw [if_neg c37] at H
           have c37b0 : (t368 != t370) = false := by simpa using c37
           (try (have c37b1 : decide (t368 = t370) = true := by simpa using c37))
           (try (have c37b2 : (t368 == t370) = true := by simpa using c37))
           clear c37
           by_cases c38 : t367 = t369
           ·
            rw [if_pos c38] at H
            have c38b0 : (t367 == t369) = true := beq_iff_eq.mpr c38
            have c38b1 : (t367 != t369) = false := bne_eq_false_iff_eq.mpr c38
            clear c38
            by_cases c39 : (t372 != t374) = true
            ·
             rw [if_pos c39] at H
             exact absurd H (by simp)
            ·
             rw [if_neg c39] at H
             have c39b0 : (t372 != t374) = false := by simpa using c39
             (try (have c39b1 : decide (t372 = t374) = true := by simpa using c39))
             (try (have c39b2 : (t372 == t374) = true := by simpa using c39))
             clear c39
             by_cases c40 : t371 = t373
             ·
              rw [if_pos c40] at H
              have c40b0 : (t371 == t373) = true := beq_iff_eq.mpr c40
              have c40b1 : (t371 != t373) = false := bne_eq_false_iff_eq.mpr c40
              clear c40
              replace H := Option.bind_eq_some_iff.mp H
              obtain ⟨t376, A410, H⟩ := H
              try dsimp only at H
              have A41 := Aside0.mk A410
              clear A410
              by_cases c42 : (t351 != t376) = true
              ·
               rw [if_pos c42] at H
               exact absurd H (by simp)
              ·
               rw [if_neg c42] at H
               have c42b0 : (t351 != t376) = false := by simpa using c42
               (try (have c42b1 : decide (t351 = t376) = true := by simpa using c42))
               (try (have c42b2 : (t351 == t376) = true := by simpa using c42))
               clear c42
               replace H := Option.bind_eq_some_iff.mp H
               obtain ⟨t377, A430, H⟩ := H
               try dsimp only at H
               have A43 := Aside0.mk A430
               clear A430
               replace H := Option.bind_eq_some_iff.mp H
               obtain ⟨t378, A440, H⟩ := H
               try dsimp only at H
               have A44 := Aside0.mk A440
               clear A440
               by_cases c45 : (t377 != t378) = true
               ·
                rw [if_pos c45] at H
                exact absurd H (by simp)
               ·
                rw [if_neg c45] at H
                have c45b0 : (t377 != t378) = false := by simpa using c45
                have z_ : t376 = t377 := Option.some.inj (A41.out.symm.trans A43.out)
                have c45b7 : (t376 != t378) = false := by rw [z_]; exact c45b0
                (try (have c45b8 : decide (t376 = t378) = true := by rw [z_]; simpa using c45))
                (try (have c45b9 : (t376 == t378) = true := by rw [z_]; simpa using c45))
                clear z_
                (try (have c45b1 : decide (t377 = t378) = true := by simpa using c45))
                (try (have c45b2 : (t377 == t378) = true := by simpa using c45))
                clear c45
                by_cases c46 : (t356 != t351) = true
                ·
                 rw [if_pos c46] at H
                 exact absurd H (by simp)
                ·
                 rw [if_neg c46] at H
                 have c46b0 : (t356 != t351) = false := by simpa using c46
                 (try (have c46b1 : decide (t356 = t351) = true := by simpa using c46))
                 (try (have c46b2 : (t356 == t351) = true := by simpa using c46))
                 clear c46
                 by_cases c47 : (t360 != t351) = true
                 ·
                  rw [if_pos c47] at H
                  exact absurd H (by simp)
                 ·
                  rw [if_neg c47] at H
                  have c47b0 : (t360 != t351) = false := by simpa using c47
                  (try (have c47b1 : decide (t360 = t351) = true := by simpa using c47))
                  (try (have c47b2 : (t360 == t351) = true := by simpa using c47))
                  clear c47
                  by_cases c48 : (t368 != t351) = true
                  ·
                   rw [if_pos c48] at H
                   exact absurd H (by simp)
                  ·
                   rw [if_neg c48] at H
                   have c48b0 : (t368 != t351) = false := by simpa using c48
                   (try (have c48b1 : decide (t368 = t351) = true := by simpa using c48))
                   (try (have c48b2 : (t368 == t351) = true := by simpa using c48))
                   clear c48
                   as_aux_lemma =>
                    have H' := Aside0.mk H
                    clear H
                    obtain ⟨Ao49, co49, eo49⟩ := Kd.R_slice HO362.out
                    subst eo49
                    obtain ⟨Ao50, co50, eo50⟩ := Kd.R_slice HO366.out
                    subst eo50
                    go_wp2_with (first | (go_at_call 34; refine calls_of_args (args' := #[.slice Ao49 t359.length co49, .slice Ao50 t363.length co50]) (by first | rfl) ?_; (with_reducible refine (laws_kPairs.calls k _ _ t359 _ _ t363 true _ ?side1 ?side2 ?side3 ?side4 A35.out).mono ?_); (case side1 => repeat (first | exact (Kd.R_reads' HO362.out).2.2 | (with_reducible refine Kd.C_alloc ?_ _) | (with_reducible refine Kd.C_drewN ?_ _) | (with_reducible refine Kd.C_drew ?_))); (case side2 => exact (Kd.R_reads' HO362.out).2.1); (case side3 => repeat (first | exact (Kd.R_reads' HO366.out).2.2 | (with_reducible refine Kd.C_alloc ?_ _) | (with_reducible refine Kd.C_drewN ?_ _) | (with_reducible refine Kd.C_drew ?_))); (case side4 => exact (Kd.R_reads' HO366.out).2.1); rintro e w' ⟨rfl, ⟨nd, rfl⟩⟩) | (go_at_call 16; refine calls_of_args (args' := #[.slice Ao18 t346.length co18]) (by first | rfl) ?_; (with_reducible refine (impl_IsTrain.calls k _ _ t346 t376 _ ?side1 ?side2 A41.out).mono ?_); (case side1 => repeat (first | exact (Kd.R_reads' HO348.out).2.2 | (with_reducible refine Kd.C_alloc ?_ _) | (with_reducible refine Kd.C_drewN ?_ _) | (with_reducible refine Kd.C_drew ?_))); (case side2 => exact (Kd.R_reads' HO348.out).2.1); rintro e w51 ⟨rfl, hb⟩; have n0_ := Aside0.mk (Kd.R_below (by (with_reducible repeat (first | apply Kd.R_alloc | apply Kd.R_drewN | apply Kd.R_drew)); exact HO348.out) hb); have n1_ := Aside0.mk (Kd.R_below (by (with_reducible repeat (first | apply Kd.R_alloc | apply Kd.R_drewN | apply Kd.R_drew)); exact HO362.out) hb); have n2_ := Aside0.mk (Kd.R_below (by (with_reducible repeat (first | apply Kd.R_alloc | apply Kd.R_drewN | apply Kd.R_drew)); exact HO366.out) hb); have n3_ := Aside0.mk (below_step (by repeat (first | (with_reducible first | exact HB.out | apply below_alloc | apply pw_below_drewN | apply below_drew1) | exact HB.out)) hb); clear HO348; clear HO362; clear HO366; clear HB; have HO348 := n0_; have HO362 := n1_; have HO366 := n2_; have HB := n3_; clear n0_ n1_ n2_ n3_; (try clear hb); (try clear hb2); (try clear hk); (try clear hi)) | (go_at_call 16; refine calls_of_args (args' := #[.slice Ao18 t346.length co18]) (by first | rfl) ?_; (with_reducible refine (impl_IsTrain.calls k _ _ t346 t377 _ ?side1 ?side2 A43.out).mono ?_); (case side1 => repeat (first | exact (Kd.R_reads' HO348.out).2.2 | (with_reducible refine Kd.C_alloc ?_ _) | (with_reducible refine Kd.C_drewN ?_ _) | (with_reducible refine Kd.C_drew ?_))); (case side2 => exact (Kd.R_reads' HO348.out).2.1); rintro e w52 ⟨rfl, hb⟩; have n0_ := Aside0.mk (Kd.R_below (by (with_reducible repeat (first | apply Kd.R_alloc | apply Kd.R_drewN | apply Kd.R_drew)); exact HO348.out) hb); have n1_ := Aside0.mk (Kd.R_below (by (with_reducible repeat (first | apply Kd.R_alloc | apply Kd.R_drewN | apply Kd.R_drew)); exact HO362.out) hb); have n2_ := Aside0.mk (Kd.R_below (by (with_reducible repeat (first | apply Kd.R_alloc | apply Kd.R_drewN | apply Kd.R_drew)); exact HO366.out) hb); have n3_ := Aside0.mk (below_step (by repeat (first | (with_reducible first | exact HB.out | apply below_alloc | apply pw_below_drewN | apply below_drew1) | exact HB.out)) hb); clear HO348; clear HO362; clear HO366; clear HB; have HO348 := n0_; have HO362 := n1_; have HO366 := n2_; have HB := n3_; clear n0_ n1_ n2_ n3_; (try clear hb); (try clear hb2); (try clear hk); (try clear hi)) | (go_at_call 14; refine calls_of_args (args' := #[.slice Ao18 t346.length co18]) (by first | rfl) ?_; (with_reducible refine (spec_IsTrain.calls k _ _ t346 t378 _ ?side1 ?side2 A44.out).mono ?_); (case side1 => repeat (first | exact (Kd.R_reads' HO348.out).2.2 | (with_reducible refine Kd.C_alloc ?_ _) | (with_reducible refine Kd.C_drewN ?_ _) | (with_reducible refine Kd.C_drew ?_))); (case side2 => exact (Kd.R_reads' HO348.out).2.1); rintro e w53 ⟨rfl, hb⟩; have n0_ := Aside0.mk (Kd.R_below (by (with_reducible repeat (first | apply Kd.R_alloc | apply Kd.R_drewN | apply Kd.R_drew)); exact HO348.out) hb); have n1_ := Aside0.mk (Kd.R_below (by (with_reducible repeat (first | apply Kd.R_alloc | apply Kd.R_drewN | apply Kd.R_drew)); exact HO362.out) hb); have n2_ := Aside0.mk (Kd.R_below (by (with_reducible repeat (first | apply Kd.R_alloc | apply Kd.R_drewN | apply Kd.R_drew)); exact HO366.out) hb); have n3_ := Aside0.mk (below_step (by repeat (first | (with_reducible first | exact HB.out | apply below_alloc | apply pw_below_drewN | apply below_drew1) | exact HB.out)) hb); clear HO348; clear HO362; clear HO366; clear HB; have HO348 := n0_; have HO362 := n1_; have HO366 := n2_; have HB := n3_; clear n0_ n1_ n2_ n3_; (try clear hb); (try clear hb2); (try clear hk); (try clear hi)))
                    go_meet
                    case rel => exact ⟨_, ((t372 != t351)), (by first | rfl | (simp; done) | (simp [*]; done)), H', ⟨by first | omega | exact Nat.le_refl _⟩, ⟨by (with_reducible repeat (first | apply Kd.R_alloc | apply Kd.R_drewN | apply Kd.R_drew)); exact Kd.R_mono HO348.out (fun _ hk => hk.1.2)⟩, ⟨by (with_reducible repeat (first | apply Kd.R_alloc | apply Kd.R_drewN | apply Kd.R_drew)); exact Kd.R_mono HO362.out (fun _ hk => hk.1.2)⟩, ⟨by repeat (first | (with_reducible first | exact HB.out | apply below_alloc | apply pw_below_drewN | apply below_drew1) | exact HB.out)⟩⟩
             ·
              rw [if_neg c40] at H
              exact absurd H (by simp)
           ·
            rw [if_neg c38] at H
            exact absurd H (by simp)
         ·
          replace c36 := Bool.eq_false_iff.mpr c36
          subst c36
          have H1 : (none) = some r := by rw [if_neg (show ¬ (false = true) by decide)] at H; exact H
          clear H
          have H := H1
          clear H1
          exact absurd H (by simp)
       ·
        rw [if_neg c33] at H
        exact absurd H (by simp)
     ·
      rw [if_neg c31] at H
      exact absurd H (by simp)
    ·
     rw [if_neg c30] at H
     exact absurd H (by simp)
  case rest => as_aux_lemma =>
   clear HC16
   try clear c1
   try clear c4
   obtain ⟨kq, x219_15, rfl, HA, HJ15, HO_5, HO_16, HB⟩ := hcut
   cases kq with
   | zero => exact absurd HA.out (by simp [j0])
   | succ kj15 =>
    have H := HA.out
    clear HA
    simp only [j0] at H
    by_cases c54 : x219_15 = true
    ·
     subst c54
     have H1 : (none) = some r := by rw [if_pos rfl] at H; exact H
     clear H
     have H := H1
     clear H1
     exact absurd H (by simp)
    ·
     replace c54 := Bool.eq_false_iff.mpr c54
     subst c54
     have H1 : (if t351 = true then (laws_FnTrainsTurn.l0 kj15 l1 t346 t349 t350 t355 t359 t367 t371 1 1 0 t346 (t346.length : Int) 0) else (j4 kj15 l1)) = some r := by rw [if_neg (show ¬ (false = true) by decide)] at H; exact H
     clear H
     have H := H1
     clear H1
     have HC55 := Aside0.mk H
     clear H
     go_upto_if 220 with (fail)
     go_cut [] from 220 to 321 (fun wc => ∃ (kq : Nat), Aside0 (j4 kq l1 = some r) ∧ Aside0 (kq ≤ kj15) ∧ Aside0 (Below w.heap.size w wc))
     case first => as_aux_lemma =>
      have H := HC55.out
      clear HC55
      by_cases c56 : t351 = true
      ·
       subst c56
       have H1 : (laws_FnTrainsTurn.l0 kj15 l1 t346 t349 t350 t355 t359 t367 t371 1 1 0 t346 (t346.length : Int) 0) = some r := by rw [if_pos rfl] at H; exact H
       clear H
       have H := H1
       clear H1
       have H' := Aside0.mk H
       clear H
       go_wp2
       go_loopg [28, 29, 30, 223] kj15 (fun kq v28 v29 v30 v223 w' => ∃ (x28_2 : Int) (x29_2 : Int) (x30_2 : Int) (x223_2 : Int), v28 = .int .i64 x28_2 ∧ v29 = .int .i64 x29_2 ∧ v30 = .int .i64 x30_2 ∧ v223 = .int .i64 x223_2 ∧ Aside0 (laws_FnTrainsTurn.l0 kq l1 t346 t349 t350 t355 t359 t367 t371 x28_2 x29_2 x30_2 t346 (t346.length : Int) x223_2 = some r) ∧ Aside0 (kq ≤ kj15) ∧ Aside0 (Kd.R k41 41 w' w.heap.size (fun k_ => some k_ ≠ (v361 : Value).ownBlock) (.slice Ao18 t346.length co18) t346) ∧ Aside0 (Kd.R k41 41 w' w.heap.size (fun k_ => some k_ ≠ ((.slice Ao18 t346.length co18) : Value).ownBlock ∧ some k_ ≠ ((.slice Ao18 t346.length co18) : Value).ownBlock) v361 t359) ∧ Aside0 (Kd.R k41 41 w' w.heap.size (fun k_ => some k_ ≠ (v361 : Value).ownBlock) (.slice Ao18 t346.length co18) t346) ∧ Aside0 (Below w.heap.size w w'))
       case atStart => exact ⟨(1), (1), (0), (0), (by first | rfl | (simp; done) | (simp [*]; done)), (by first | rfl | (simp; done) | (simp [*]; done)), (by first | rfl | (simp; done) | (simp [*]; done)), (by first | rfl | (simp; done) | (simp [*]; done)), H', ⟨Nat.le_refl _⟩, ⟨by (with_reducible repeat (first | apply Kd.R_alloc | apply Kd.R_drewN | apply Kd.R_drew)); exact HO_5.out⟩, ⟨by (with_reducible repeat (first | apply Kd.R_alloc | apply Kd.R_drewN | apply Kd.R_drew)); exact Kd.R_mono HO_16.out (fun _ hk => ⟨hk, hk⟩)⟩, ⟨by (with_reducible repeat (first | apply Kd.R_alloc | apply Kd.R_drewN | apply Kd.R_drew)); exact HO_5.out⟩, ⟨by repeat (first | (with_reducible first | exact HB.out | apply below_alloc | apply pw_below_drewN | apply below_drew1) | exact HB.out)⟩⟩
       case round => as_aux_lemma =>
        clear H'
        try clear c1
        try clear c4
        try clear c54
        try clear c56
        obtain ⟨x28_2, x29_2, x30_2, x223_2, rfl, rfl, rfl, rfl, HA, HK2, HO_5, HO_16, HO_221, HB⟩ := hrel
        cases gk with
        | zero => exact absurd HA.out (by simp [laws_FnTrainsTurn.l0])
        | succ k2 =>
         have H := HA.out
         clear HA
         simp only [laws_FnTrainsTurn.l0] at H
         by_cases c57 : x223_2 < (t346.length : Int)
         ·
          rw [if_pos c57] at H
          have c57b0 : decide (x223_2 < (t346.length : Int)) = true := decide_eq_true c57
          clear c57
          (first | rw [c57b0] | (simp only [i64_w, i32_w]; rw [c57b0]) | skip)
          by_cases c58 : 0 ≤ x223_2
          ·
           rw [if_pos c58] at H
           have c58b0 : decide (0 ≤ x223_2) = true := decide_eq_true c58
           clear c58
           by_cases c59 : x223_2 < (t346.length : Int)
           ·
            rw [if_pos c59] at H
            have c59b0 : decide (x223_2 < (t346.length : Int)) = true := decide_eq_true c59
            clear c59
            replace H := Option.bind_eq_some_iff.mp H
            obtain ⟨t381, A600, H⟩ := H
            try dsimp only at H
            have A60 := Aside0.mk A600
            clear A600
            by_cases c61 : t381 = true
            ·
             subst c61
             have H1 : (laws_FnTrainsTurn.l0 k2 l1 t346 t349 t350 t355 t359 t367 t371 (wrap64 (x28_2 * ((rd_T41 t346 x223_2).f0))) (wrap64 (x29_2 * ((rd_T41 t346 x223_2).f1))) (wrap64 (x30_2 + (wrap64 (((rd_T41 t346 x223_2).f0) + ((rd_T41 t346 x223_2).f1))))) t346 (t346.length : Int) (wrap64 (x223_2 + 1))) = some r := by rw [if_pos rfl] at H; exact H
             clear H
             have H := H1
             clear H1
             as_aux_lemma =>
              have H' := Aside0.mk H
              clear H
              have p379 : 0 ≤ (x223_2 : Int) := of_decide_eq_true (by first | (with_reducible assumption) | assumption)
              have q379 : x223_2 < (t346.length : Int) := of_decide_eq_true (by first | (with_reducible assumption) | assumption)
              obtain ⟨ad379, e379, hx379_0, hx379_1⟩ := at_T41 (Kd.R_reads' HO_221.out).2.2 x223_2 p379 q379
              cases e379
              replace p379 := eq_true p379
              replace q379 := eq_true q379
              go_wp2_with (first | ((with_reducible refine gate_dst (N := 32) rfl ?_); (try (refine gate_guard (by rfl) ?_; dsimp only)); refine box_event ?hg (N := 32) ?hd (cs := #[.int .i64 0, .int .i64 0]) (t := 41) ?hr ?_; (case hd => rfl); (case hg => rfl); (case hr => first | (go_simp; done) | (go_simp; rfl)); intro gb380 hg w62 hbox hb; have n0_ := Aside0.mk (Kd.R_below (Kd.R_elderB (by (with_reducible repeat (first | apply Kd.R_alloc | apply Kd.R_drewN | apply Kd.R_drew)); exact HO_5.out) gb380 (Nat.le_of_eq hg.symm)) hb); have n1_ := Aside0.mk (Kd.R_below (Kd.R_elderB (by (with_reducible repeat (first | apply Kd.R_alloc | apply Kd.R_drewN | apply Kd.R_drew)); exact HO_16.out) gb380 (Nat.le_of_eq hg.symm)) hb); have n2_ := Aside0.mk (Kd.R_below (Kd.R_elderB (by (with_reducible repeat (first | apply Kd.R_alloc | apply Kd.R_drewN | apply Kd.R_drew)); exact HO_221.out) gb380 (Nat.le_of_eq hg.symm)) hb); have n3_ := Aside0.mk (below_step (by repeat (first | (with_reducible first | exact HB.out | apply below_alloc | apply pw_below_drewN | apply below_drew1) | exact HB.out)) hb); have n4_ := Aside0.mk (hbox); have n5_ := Aside0.mk ((by rw [hg]; exact (below_size (by repeat (first | (with_reducible first | exact HB.out | apply below_alloc | apply pw_below_drewN | apply below_drew1) | exact HB.out))) : w.heap.size ≤ gb380)); have n6_ := Aside0.mk ((by rw [hg]; exact (below_size (by repeat (first | (with_reducible first | exact HB.out | apply below_alloc | apply pw_below_drewN | apply below_drew1) | exact HB.out))) : w.heap.size ≤ gb380)); clear HO_5; clear HO_16; clear HO_221; clear HB; have HO_5 := n0_; have HO_16 := n1_; have HO_221 := n2_; have HB := n3_; have BK380 := n4_; have GW380 := n5_; have GE380 := n6_; clear n0_ n1_ n2_ n3_ n4_ n5_ n6_; clear hb hbox hg; have hcz63_0 : w62.cell? ⟨gb380, 0, none⟩ = some (.int .i64 0) := (blk_cell BK380.out 0).trans rfl; have hcz63_1 : w62.cell? ⟨gb380, 1, none⟩ = some (.int .i64 0) := (blk_cell BK380.out 1).trans rfl; have hfz63_0 := blk_frozen BK380.out 0; have hfz63_1 := blk_frozen BK380.out 1) | ((with_reducible refine gate_callee (f := 35) rfl ?_); refine goesL_ (some 243) rfl rfl Try.func35 (by kernel_rfl) rfl #[.agg #[.int .i64 ((rd_T41 t346 x223_2).f0), .int .i64 ((rd_T41 t346 x223_2).f1)]] rfl (by (try simp only [List.map_toArray, List.map_cons, List.map_nil]); first | done | rfl | (simp only [List.length_drop, List.length_take]; rfl)) ?_; (with_reducible refine (impl_IsPair.calls ((rd_T41 t346 x223_2).f0) ((rd_T41 t346 x223_2).f1) true _ A60.out).mono ?_); rintro e w64 ⟨rfl, hb⟩; refine ⟨_, rfl, ?_⟩; have n0_ := Aside0.mk (Kd.R_below (by (with_reducible repeat (first | apply Kd.R_alloc | apply Kd.R_drewN | apply Kd.R_drew)); exact (Kd.R_mono (Kd.R_far (p := ⟨gb380, 1, none⟩) (Kd.R_far (p := ⟨gb380, 0, none⟩) (Kd.R_mono HO_5.out (fun k_ hk => (⟨hk, hk.2⟩ : _ ∧ k_ ≠ gb380))) (fun _ hk => hk.2) (.int .i64 ((rd_T41 t346 x223_2).f0))) (fun _ hk => hk.2) (.int .i64 ((rd_T41 t346 x223_2).f1))) (fun _ h_ => h_.1))) hb); have n1_ := Aside0.mk (Kd.R_below (by (with_reducible repeat (first | apply Kd.R_alloc | apply Kd.R_drewN | apply Kd.R_drew)); exact (Kd.R_mono (Kd.R_far (p := ⟨gb380, 1, none⟩) (Kd.R_far (p := ⟨gb380, 0, none⟩) (Kd.R_mono HO_16.out (fun k_ hk => (⟨hk, hk.2⟩ : _ ∧ k_ ≠ gb380))) (fun _ hk => hk.2) (.int .i64 ((rd_T41 t346 x223_2).f0))) (fun _ hk => hk.2) (.int .i64 ((rd_T41 t346 x223_2).f1))) (fun _ h_ => h_.1))) hb); have n2_ := Aside0.mk (Kd.R_below (by (with_reducible repeat (first | apply Kd.R_alloc | apply Kd.R_drewN | apply Kd.R_drew)); exact (Kd.R_mono (Kd.R_far (p := ⟨gb380, 1, none⟩) (Kd.R_far (p := ⟨gb380, 0, none⟩) (Kd.R_mono HO_221.out (fun k_ hk => (⟨hk, hk.2⟩ : _ ∧ k_ ≠ gb380))) (fun _ hk => hk.2) (.int .i64 ((rd_T41 t346 x223_2).f0))) (fun _ hk => hk.2) (.int .i64 ((rd_T41 t346 x223_2).f1))) (fun _ h_ => h_.1))) hb); have n3_ := Aside0.mk (blk_below (g := gb380) (o := .cells #[.int .i64 ((rd_T41 t346 x223_2).f0), .int .i64 ((rd_T41 t346 x223_2).f1)] 41 (0, 0)) (by (with_reducible repeat (first | refine blk_drewN ?_ _ | refine blk_drew ?_ | refine blk_alloc ?_ _)); refine blk_put (cs := #[.int .i64 ((rd_T41 t346 x223_2).f0), .int .i64 0]) ?_ 1 _ rfl; (with_reducible repeat (first | refine blk_drewN ?_ _ | refine blk_drew ?_ | refine blk_alloc ?_ _)); refine blk_put (cs := #[.int .i64 0, .int .i64 0]) ?_ 0 _ rfl; (with_reducible repeat (first | refine blk_drewN ?_ _ | refine blk_drew ?_ | refine blk_alloc ?_ _)); exact BK380.out) hb); have n4_ := Aside0.mk (below_step (by repeat (first | (with_reducible first | exact HB.out | apply below_alloc | apply pw_below_drewN | apply below_drew1 | refine below_set ?_ GE380.out) | exact HB.out)) hb); clear HO_5; clear HO_16; clear HO_221; clear BK380; clear HB; have HO_5 := n0_; have HO_16 := n1_; have HO_221 := n2_; have BK380 := n3_; have HB := n4_; clear n0_ n1_ n2_ n3_ n4_; (try clear hb); (try clear hb2); (try clear hk); (try clear hi)))
              go_roundg k2
              case measure => have := HJ15.out; have := HK2.out; omega
              case rel => exact ⟨(wrap64 (x28_2 * ((rd_T41 t346 x223_2).f0))), (wrap64 (x29_2 * ((rd_T41 t346 x223_2).f1))), (wrap64 (x30_2 + (wrap64 (((rd_T41 t346 x223_2).f0) + ((rd_T41 t346 x223_2).f1))))), (wrap64 (x223_2 + 1)), (by first | rfl | (simp; done) | (simp [*]; done)), (by first | rfl | (simp; done) | (simp [*]; done)), (by first | rfl | (simp; done) | (simp [*]; done)), (by first | rfl | (simp; done) | (simp [*]; done)), H', ⟨by have := HJ15.out; have := HK2.out; omega⟩, ⟨by (with_reducible repeat (first | apply Kd.R_alloc | apply Kd.R_drewN | apply Kd.R_drew)); exact Kd.R_mono HO_5.out (fun _ hk => hk.1)⟩, ⟨by (with_reducible repeat (first | apply Kd.R_alloc | apply Kd.R_drewN | apply Kd.R_drew)); exact Kd.R_mono HO_16.out (fun _ hk => ⟨hk.1.1, hk.1.2⟩)⟩, ⟨by (with_reducible repeat (first | apply Kd.R_alloc | apply Kd.R_drewN | apply Kd.R_drew)); exact Kd.R_mono HO_221.out (fun _ hk => hk.1)⟩, ⟨by repeat (first | (with_reducible first | exact HB.out | apply below_alloc | apply pw_below_drewN | apply below_drew1 | refine below_set ?_ GE380.out) | exact HB.out)⟩⟩
            ·
             replace c61 := Bool.eq_false_iff.mpr c61
             subst c61
             have H1 : (none) = some r := by rw [if_neg (show ¬ (false = true) by decide)] at H; exact H
             clear H
             have H := H1
             clear H1
             exact absurd H (by simp)
           ·
            rw [if_neg c59] at H
            exact absurd H (by simp)
          ·
           rw [if_neg c58] at H
           exact absurd H (by simp)
         ·
          rw [if_neg c57] at H
          have c57b0 : decide (x223_2 < (t346.length : Int)) = false := decide_eq_false c57
          clear c57
          (first | rw [c57b0] | (simp only [i64_w, i32_w]; rw [c57b0]) | skip)
          replace H := Option.bind_eq_some_iff.mp H
          obtain ⟨⟨t382, t383, t384⟩, A650, H⟩ := H
          try dsimp only at H
          have A65 := Aside0.mk A650
          clear A650
          replace H := Option.bind_eq_some_iff.mp H
          obtain ⟨⟨t385, t386⟩, A660, H⟩ := H
          try dsimp only at H
          have A66 := Aside0.mk A660
          clear A660
          have HC67 := Aside0.mk H
          clear H
          obtain ⟨Ao68, co68, eo68⟩ := Kd.R_slice HO_16.out
          subst eo68
          go_upto_region 30 with (first | ((with_reducible refine gate_callee (f := 23) rfl ?_); refine goesL_ (some 248) rfl rfl Try.func23 (by kernel_rfl) rfl #[.slice Ao68 t359.length co68] rfl (by (try simp only [List.map_toArray, List.map_cons, List.map_nil]); first | done | rfl | (simp only [List.length_drop, List.length_take]; rfl)) ?_; (with_reducible refine (impl_RatioOf.calls k2 _ _ t359 t382 t383 t384 _ ?side1 ?side2 A65.out).mono ?_); (case side1 => repeat (first | exact (Kd.R_reads' HO_16.out).2.2 | (with_reducible refine Kd.C_alloc ?_ _) | (with_reducible refine Kd.C_drewN ?_ _) | (with_reducible refine Kd.C_drew ?_))); (case side2 => exact (Kd.R_reads' HO_16.out).2.1); rintro e w69 ⟨rfl, hb⟩; refine ⟨_, rfl, ?_⟩; have n0_ := Aside0.mk (Kd.R_below (by (with_reducible repeat (first | apply Kd.R_alloc | apply Kd.R_drewN | apply Kd.R_drew)); exact HO_5.out) hb); have n1_ := Aside0.mk (Kd.R_below (by (with_reducible repeat (first | apply Kd.R_alloc | apply Kd.R_drewN | apply Kd.R_drew)); exact HO_16.out) hb); have n2_ := Aside0.mk (Kd.R_below (by (with_reducible repeat (first | apply Kd.R_alloc | apply Kd.R_drewN | apply Kd.R_drew)); exact HO_221.out) hb); have n3_ := Aside0.mk (below_step (by repeat (first | (with_reducible first | exact HB.out | apply below_alloc | apply pw_below_drewN | apply below_drew1) | exact HB.out)) hb); clear HO_5; clear HO_16; clear HO_221; clear HB; have HO_5 := n0_; have HO_16 := n1_; have HO_221 := n2_; have HB := n3_; clear n0_ n1_ n2_ n3_; (try clear hb); (try clear hb2); (try clear hk); (try clear hi)) | ((with_reducible refine gate_callee (f := 25) rfl ?_); refine goesL_ (some 254) rfl rfl Try.func25 (by kernel_rfl) rfl #[.slice Ao68 t359.length co68] rfl (by (try simp only [List.map_toArray, List.map_cons, List.map_nil]); first | done | rfl | (simp only [List.length_drop, List.length_take]; rfl)) ?_; (with_reducible refine (impl_BackTrain.calls k2 _ _ t359 t385 t386 _ ?side1 ?side2 A66.out).mono ?_); (case side1 => repeat (first | exact (Kd.R_reads' HO_16.out).2.2 | (with_reducible refine Kd.C_alloc ?_ _) | (with_reducible refine Kd.C_drewN ?_ _) | (with_reducible refine Kd.C_drew ?_))); (case side2 => exact (Kd.R_reads' HO_16.out).2.1); rintro e w70 ⟨v387, rfl, ho0, hb⟩; refine ⟨_, rfl, ?_⟩; have n0_ := Aside0.mk (Kd.R_elder' (by (with_reducible repeat (first | apply Kd.R_alloc | apply Kd.R_drewN | apply Kd.R_drew)); exact HO_5.out) (Kd.R_base ho0) hb); have n1_ := Aside0.mk (Kd.R_elder' (by (with_reducible repeat (first | apply Kd.R_alloc | apply Kd.R_drewN | apply Kd.R_drew)); exact HO_16.out) (Kd.R_base ho0) hb); have n2_ := Aside0.mk (Kd.R_elder' (by (with_reducible repeat (first | apply Kd.R_alloc | apply Kd.R_drewN | apply Kd.R_drew)); exact HO_221.out) (Kd.R_base ho0) hb); have n3_ := Aside0.mk (Kd.R_lower (Kd.R_new' (Kd.R_new' (Kd.R_new' ho0 (Kd.R_lt (by (with_reducible repeat (first | apply Kd.R_alloc | apply Kd.R_drewN | apply Kd.R_drew)); exact HO_5.out))) (Kd.R_lt (by (with_reducible repeat (first | apply Kd.R_alloc | apply Kd.R_drewN | apply Kd.R_drew)); exact HO_16.out))) (Kd.R_lt (by (with_reducible repeat (first | apply Kd.R_alloc | apply Kd.R_drewN | apply Kd.R_drew)); exact HO_221.out))) (below_size (by repeat (first | (with_reducible first | exact HB.out | apply below_alloc | apply pw_below_drewN | apply below_drew1) | exact HB.out)))); have n4_ := Aside0.mk (below_step (by repeat (first | (with_reducible first | exact HB.out | apply below_alloc | apply pw_below_drewN | apply below_drew1) | exact HB.out)) hb); clear HO_5; clear HO_16; clear HO_221; clear HB; have HO_5 := n0_; have HO_16 := n1_; have HO_221 := n2_; have HO388 := n3_; have HB := n4_; clear n0_ n1_ n2_ n3_ n4_; (try clear hb); (try clear hb2); (try clear hk); (try clear hi); (try clear ho0)))
          (try simp only [Act.put, s1, s2, s3])
          go_cut [321] from 220 to 321 (fun v321 wc => ∃ (kq : Nat) (x321_66 : Bool), v321 = .bool x321_66 ∧ Aside0 (j2 kq l1 t346 t367 x321_66 = some r) ∧ Aside0 (kq ≤ k2) ∧ Aside0 (Kd.R k41 41 wc w.heap.size (fun _ => True) (.slice Ao18 t346.length co18) t346) ∧ Aside0 (Below w.heap.size w wc))
          case first => as_aux_lemma =>
           have H := HC67.out
           clear HC67
           by_cases c71 : (wrap64 (t349 * x29_2)) = (wrap64 (x28_2 * t350))
           ·
            rw [if_pos c71] at H
            have c71b0 : ((wrap64 (t349 * x29_2)) == (wrap64 (x28_2 * t350))) = true := beq_iff_eq.mpr c71
            have c71b1 : ((wrap64 (t349 * x29_2)) != (wrap64 (x28_2 * t350))) = false := bne_eq_false_iff_eq.mpr c71
            clear c71
            (first | rw [c71b0] | (simp only [i64_w, i32_w]; rw [c71b0]) | skip)
            by_cases c72 : t349 < 1
            ·
             rw [if_pos c72] at H
             exact absurd H (by simp)
            ·
             rw [if_neg c72] at H
             have c72b0 : decide (t349 < 1) = false := decide_eq_false c72
             clear c72
             by_cases c73 : t350 < 1
             ·
              rw [if_pos c73] at H
              exact absurd H (by simp)
             ·
              rw [if_neg c73] at H
              have c73b0 : decide (t350 < 1) = false := decide_eq_false c73
              clear c73
              by_cases c74 : t384 = true
              ·
               subst c74
               have H1 : (if t382 = t350 then (if t383 = t349 then (if t386 = true then ((laws_kPairs.f k2 t385 t346).bind fun t389 => (if t389 = true then (if x30_2 = t371 then (if t355 = 1 then (if ((t355 == 1) != (((t346.length : Int) % 2) == 0)) = true then (none) else (j2 k2 l1 t346 t367 (decide (t367 < 1)))) else (if t355 = (-1) then (if ((t355 == 1) != (((t346.length : Int) % 2) == 0)) = true then (none) else (j2 k2 l1 t346 t367 (decide (t367 < 1)))) else (none))) else (none)) else (none))) else (none)) else (none)) else (none)) = some r := by rw [if_pos rfl] at H; exact H
               clear H
               have H := H1
               clear H1
               by_cases c75 : t382 = t350
               ·
                rw [if_pos c75] at H
                have c75b0 : (t382 == t350) = true := beq_iff_eq.mpr c75
                have c75b1 : (t382 != t350) = false := bne_eq_false_iff_eq.mpr c75
                clear c75
                by_cases c76 : t383 = t349
                ·
                 rw [if_pos c76] at H
                 have c76b0 : (t383 == t349) = true := beq_iff_eq.mpr c76
                 have c76b1 : (t383 != t349) = false := bne_eq_false_iff_eq.mpr c76
                 clear c76
                 by_cases c77 : t386 = true
                 ·
                  subst c77
                  have H1 : ((laws_kPairs.f k2 t385 t346).bind fun t389 => (if t389 = true then (if x30_2 = t371 then (if t355 = 1 then (if ((t355 == 1) != (((t346.length : Int) % 2) == 0)) = true then (none) else (j2 k2 l1 t346 t367 (decide (t367 < 1)))) else (if t355 = (-1) then (if ((t355 == 1) != (((t346.length : Int) % 2) == 0)) = true then (none) else (j2 k2 l1 t346 t367 (decide (t367 < 1)))) else (none))) else (none)) else (none))) = some r := by rw [if_pos rfl] at H; exact H
                  clear H
                  have H := H1
                  clear H1
                  replace H := Option.bind_eq_some_iff.mp H
                  obtain ⟨t389, A780, H⟩ := H
                  try dsimp only at H
                  have A78 := Aside0.mk A780
                  clear A780
                  by_cases c79 : t389 = true
                  ·
                   subst c79
                   have H1 : (if x30_2 = t371 then (if t355 = 1 then (if ((t355 == 1) != (((t346.length : Int) % 2) == 0)) = true then (none) else (j2 k2 l1 t346 t367 (decide (t367 < 1)))) else (if t355 = (-1) then (if ((t355 == 1) != (((t346.length : Int) % 2) == 0)) = true then (none) else (j2 k2 l1 t346 t367 (decide (t367 < 1)))) else (none))) else (none)) = some r := by rw [if_pos rfl] at H; exact H
                   clear H
                   have H := H1
                   clear H1
                   by_cases c80 : x30_2 = t371
                   ·
                    rw [if_pos c80] at H
                    have c80b0 : (x30_2 == t371) = true := beq_iff_eq.mpr c80
                    have c80b1 : (x30_2 != t371) = false := bne_eq_false_iff_eq.mpr c80
                    clear c80
                    by_cases c81 : t355 = 1
                    ·
                     rw [if_pos c81] at H
                     have c81b0 : (t355 == 1) = true := beq_iff_eq.mpr c81
                     have c81b1 : (t355 != 1) = false := bne_eq_false_iff_eq.mpr c81
                     clear c81
                     by_cases c82 : ((t355 == 1) != (((t346.length : Int) % 2) == 0)) = true
                     ·
                      rw [if_pos c82] at H
                      exact absurd H (by simp)
                     ·
                      rw [if_neg c82] at H
                      have c82b0 : ((t355 == 1) != (((t346.length : Int) % 2) == 0)) = false := by simpa using c82
                      have c82b9 : (((t346.length : Int) % 2) == 0) = true := by have z_ := c82b0; rw [c81b0] at z_; cases q_ : (((t346.length : Int) % 2) == 0) <;> simp [q_] at z_ ⊢
                      (try (have c82b1 : decide ((t355 == 1) = (((t346.length : Int) % 2) == 0)) = true := by simpa using c82))
                      (try (have c82b2 : ((t355 == 1) == (((t346.length : Int) % 2) == 0)) = true := by simpa using c82))
                      clear c82
                      as_aux_lemma =>
                       have H' := Aside0.mk H
                       clear H
                       obtain ⟨Ao83, co83, eo83⟩ := Kd.R_slice HO388.out
                       subst eo83
                       go_wp2_with (first | (go_at_call 34; refine calls_of_args (args' := #[.slice Ao83 t385.length co83, .slice Ao18 t346.length co18]) (by first | rfl) ?_; (with_reducible refine (laws_kPairs.calls k2 _ _ t385 _ _ t346 true _ ?side1 ?side2 ?side3 ?side4 A78.out).mono ?_); (case side1 => repeat (first | exact (Kd.R_reads' HO388.out).2.2 | (with_reducible refine Kd.C_alloc ?_ _) | (with_reducible refine Kd.C_drewN ?_ _) | (with_reducible refine Kd.C_drew ?_))); (case side2 => exact (Kd.R_reads' HO388.out).2.1); (case side3 => repeat (first | exact (Kd.R_reads' HO_5.out).2.2 | (with_reducible refine Kd.C_alloc ?_ _) | (with_reducible refine Kd.C_drewN ?_ _) | (with_reducible refine Kd.C_drew ?_))); (case side4 => exact (Kd.R_reads' HO_5.out).2.1); rintro e w' ⟨rfl, ⟨nd, rfl⟩⟩))
                       go_meet
                       case rel => exact ⟨_, (decide (t367 < 1)), (by first | rfl | (simp; done) | (simp [*]; done)), H', ⟨by have := HJ15.out; have := HK2.out; first | omega | exact Nat.le_refl _⟩, ⟨by (with_reducible repeat (first | apply Kd.R_alloc | apply Kd.R_drewN | apply Kd.R_drew)); exact Kd.R_mono HO_5.out (fun _ hk => trivial)⟩, ⟨by repeat (first | (with_reducible first | exact HB.out | apply below_alloc | apply pw_below_drewN | apply below_drew1) | exact HB.out)⟩⟩
                    ·
                     rw [if_neg c81] at H
                     have c81b0 : (t355 == 1) = false := beq_eq_false_iff_ne.mpr c81
                     have c81b1 : (t355 != 1) = true := bne_iff_ne.mpr c81
                     by_cases c84 : t355 = (-1)
                     ·
                      rw [if_pos c84] at H
                      have c84b0 : (t355 == (-1)) = true := beq_iff_eq.mpr c84
                      have c84b1 : (t355 != (-1)) = false := bne_eq_false_iff_eq.mpr c84
                      clear c84
                      by_cases c85 : ((t355 == 1) != (((t346.length : Int) % 2) == 0)) = true
                      ·
                       rw [if_pos c85] at H
                       exact absurd H (by simp)
                      ·
                       rw [if_neg c85] at H
                       have c85b0 : ((t355 == 1) != (((t346.length : Int) % 2) == 0)) = false := by simpa using c85
                       have c85b9 : (((t346.length : Int) % 2) == 0) = false := by have z_ := c85b0; rw [c81b0] at z_; cases q_ : (((t346.length : Int) % 2) == 0) <;> simp [q_] at z_ ⊢
                       (try (have c85b1 : decide ((t355 == 1) = (((t346.length : Int) % 2) == 0)) = true := by simpa using c85))
                       (try (have c85b2 : ((t355 == 1) == (((t346.length : Int) % 2) == 0)) = true := by simpa using c85))
                       clear c85
                       as_aux_lemma =>
                        have H' := Aside0.mk H
                        clear H
                        obtain ⟨Ao86, co86, eo86⟩ := Kd.R_slice HO388.out
                        subst eo86
                        go_wp2_with (first | (go_at_call 34; refine calls_of_args (args' := #[.slice Ao86 t385.length co86, .slice Ao18 t346.length co18]) (by first | rfl) ?_; (with_reducible refine (laws_kPairs.calls k2 _ _ t385 _ _ t346 true _ ?side1 ?side2 ?side3 ?side4 A78.out).mono ?_); (case side1 => repeat (first | exact (Kd.R_reads' HO388.out).2.2 | (with_reducible refine Kd.C_alloc ?_ _) | (with_reducible refine Kd.C_drewN ?_ _) | (with_reducible refine Kd.C_drew ?_))); (case side2 => exact (Kd.R_reads' HO388.out).2.1); (case side3 => repeat (first | exact (Kd.R_reads' HO_5.out).2.2 | (with_reducible refine Kd.C_alloc ?_ _) | (with_reducible refine Kd.C_drewN ?_ _) | (with_reducible refine Kd.C_drew ?_))); (case side4 => exact (Kd.R_reads' HO_5.out).2.1); rintro e w' ⟨rfl, ⟨nd, rfl⟩⟩))
                        go_meet
                        case rel => exact ⟨_, (decide (t367 < 1)), (by first | rfl | (simp; done) | (simp [*]; done)), H', ⟨by have := HJ15.out; have := HK2.out; first | omega | exact Nat.le_refl _⟩, ⟨by (with_reducible repeat (first | apply Kd.R_alloc | apply Kd.R_drewN | apply Kd.R_drew)); exact Kd.R_mono HO_5.out (fun _ hk => trivial)⟩, ⟨by repeat (first | (with_reducible first | exact HB.out | apply below_alloc | apply pw_below_drewN | apply below_drew1) | exact HB.out)⟩⟩
                     ·
                      rw [if_neg c84] at H
                      exact absurd H (by simp)
                   ·
                    rw [if_neg c80] at H
                    exact absurd H (by simp)
                  ·
                   replace c79 := Bool.eq_false_iff.mpr c79
                   subst c79
                   have H1 : (none) = some r := by rw [if_neg (show ¬ (false = true) by decide)] at H; exact H
                   clear H
                   have H := H1
                   clear H1
                   exact absurd H (by simp)
                 ·
                  replace c77 := Bool.eq_false_iff.mpr c77
                  subst c77
                  have H1 : (none) = some r := by rw [if_neg (show ¬ (false = true) by decide)] at H; exact H
                  clear H
                  have H := H1
                  clear H1
                  exact absurd H (by simp)
                ·
                 rw [if_neg c76] at H
                 exact absurd H (by simp)
               ·
                rw [if_neg c75] at H
                exact absurd H (by simp)
              ·
               replace c74 := Bool.eq_false_iff.mpr c74
               subst c74
               have H1 : (none) = some r := by rw [if_neg (show ¬ (false = true) by decide)] at H; exact H
               clear H
               have H := H1
               clear H1
               exact absurd H (by simp)
           ·
            rw [if_neg c71] at H
            exact absurd H (by simp)
          case rest => as_aux_lemma =>
           clear HC67
           try clear c1
           try clear c4
           try clear c54
           try clear c56
           try clear c57
           try clear c57b0
           obtain ⟨kq, x321_66, rfl, HA, HJ66, HO_5, HB⟩ := hcut
           cases kq with
           | zero => exact absurd HA.out (by simp [j2])
           | succ kj66 =>
            have H := HA.out
            clear HA
            simp only [j2] at H
            by_cases c87 : x321_66 = true
            ·
             subst c87
             have H1 : (none) = some r := by rw [if_pos rfl] at H; exact H
             clear H
             have H := H1
             clear H1
             exact absurd H (by simp)
            ·
             replace c87 := Bool.eq_false_iff.mpr c87
             subst c87
             have H1 : (laws_FnTrainsTurn.l1 kj66 l1 t346 t367 (t346.length : Int) 0) = some r := by rw [if_neg (show ¬ (false = true) by decide)] at H; exact H
             clear H
             have H := H1
             clear H1
             have H' := Aside0.mk H
             clear H
             go_wp2
             go_loopg [324] kj66 (fun kq v324 w' => ∃ (x324_4 : Int), v324 = .int .i64 x324_4 ∧ Aside0 (laws_FnTrainsTurn.l1 kq l1 t346 t367 (t346.length : Int) x324_4 = some r) ∧ Aside0 (kq ≤ kj66) ∧ Aside0 (Kd.R k41 41 w' w.heap.size (fun _ => True) (.slice Ao18 t346.length co18) t346) ∧ Aside0 (Below w.heap.size w w'))
             case atStart => exact ⟨(0), (by first | rfl | (simp; done) | (simp [*]; done)), H', ⟨Nat.le_refl _⟩, ⟨by (with_reducible repeat (first | apply Kd.R_alloc | apply Kd.R_drewN | apply Kd.R_drew)); exact HO_5.out⟩, ⟨by repeat (first | (with_reducible first | exact HB.out | apply below_alloc | apply pw_below_drewN | apply below_drew1) | exact HB.out)⟩⟩
             case round => as_aux_lemma =>
              clear H'
              try clear c1
              try clear c4
              try clear c54
              try clear c56
              try clear c57
              try clear c57b0
              try clear c87
              obtain ⟨x324_4, rfl, HA, HK4, HO_5, HB⟩ := hrel
              cases gk with
              | zero => exact absurd HA.out (by simp [laws_FnTrainsTurn.l1])
              | succ k4 =>
               have H := HA.out
               clear HA
               simp only [laws_FnTrainsTurn.l1] at H
               by_cases c88 : x324_4 < (t346.length : Int)
               ·
                rw [if_pos c88] at H
                have c88b0 : decide (x324_4 < (t346.length : Int)) = true := decide_eq_true c88
                clear c88
                obtain ⟨ji89, hji89⟩ : ∃ j_ : Int, (wrap64 (x324_4 + 1)) = j_ := ⟨_, rfl⟩
                replace H : (if 0 ≤ (ji89) then (if (ji89) ≤ (t346.length : Int) then ((impl_RatioOf.f k4 (t346.take ((ji89) : Int).toNat)).bind fun bt394 => (if bt394.2.2 = true then (if bt394.2.1 = 0 then (none) else (if (Int.tmod t367 bt394.2.1) = 0 then (laws_FnTrainsTurn.l1 k4 l1 t346 t367 (t346.length : Int) ji89) else (none))) else (none))) else (none)) else (none)) = some r := by first | (rw [hji89] at H; exact H) | (simp only [hji89] at H ⊢; exact H)
                have hji89w : (IntKind.i64.wrap (x324_4 + 1)) = ji89 := (i64_w _).trans hji89
                by_cases c90 : 0 ≤ (ji89)
                ·
                 rw [if_pos c90] at H
                 have c90b0 := eq_true c90
                 have c90b1 : decide (0 ≤ (ji89)) = true := decide_eq_true c90
                 clear c90
                 by_cases c91 : (ji89) ≤ (t346.length : Int)
                 ·
                  rw [if_pos c91] at H
                  have c91b0 := eq_true c91
                  have c91b1 : decide ((ji89) ≤ (t346.length : Int)) = true := decide_eq_true c91
                  clear c91
                  obtain ⟨y390, hy390⟩ : ∃ y_ : List (S41), y_ = (t346.take ((ji89) : Int).toNat) := ⟨_, rfl⟩
                  replace H : ((impl_RatioOf.f k4 y390).bind fun bt394 => (if bt394.2.2 = true then (if bt394.2.1 = 0 then (none) else (if (Int.tmod t367 bt394.2.1) = 0 then (laws_FnTrainsTurn.l1 k4 l1 t346 t367 (t346.length : Int) ji89) else (none))) else (none))) = some r := by first | (rw [hy390]; with_reducible exact H) | (have H2_ := (Option.bind_some _ _).symm.trans H; rw [hy390]; with_reducible exact H2_) | (have H2_ := (Option.bind_some _ _).symm.trans H; with_reducible exact H2_) | with_reducible exact H | (rw [hy390]; exact H) | exact H
                  have Ny390 := Aside0.mk hy390
                  clear hy390
                  replace H := Option.bind_eq_some_iff.mp H
                  obtain ⟨⟨t394, t395, t396⟩, A920, H⟩ := H
                  try dsimp only at H
                  have A92 := Aside0.mk A920
                  clear A920
                  by_cases c93 : t396 = true
                  ·
                   subst c93
                   have H1 : (if t395 = 0 then (none) else (if (Int.tmod t367 t395) = 0 then (laws_FnTrainsTurn.l1 k4 l1 t346 t367 (t346.length : Int) ji89) else (none))) = some r := by rw [if_pos rfl] at H; exact H
                   clear H
                   have H := H1
                   clear H1
                   by_cases c94 : t395 = 0
                   ·
                    rw [if_pos c94] at H
                    exact absurd H (by simp)
                   ·
                    rw [if_neg c94] at H
                    have c94b0 : (t395 == 0) = false := beq_eq_false_iff_ne.mpr c94
                    have c94b1 : (t395 != 0) = true := bne_iff_ne.mpr c94
                    by_cases c95 : (Int.tmod t367 t395) = 0
                    ·
                     rw [if_pos c95] at H
                     have c95b0 : ((Int.tmod t367 t395) == 0) = true := beq_iff_eq.mpr c95
                     have c95b1 : ((Int.tmod t367 t395) != 0) = false := bne_eq_false_iff_eq.mpr c95
                     clear c95
                     as_aux_lemma =>
                      have H' := Aside0.mk H
                      clear H
                      have q96 : ((ji89) : Int) ≤ ((t346.length : Int) : Int) := of_decide_eq_true (by first | (with_reducible assumption) | assumption)
                      obtain ⟨i096, hi096, _, hsz96, _⟩ := info_parts info41
                      have hroom96 : t346.length ≤ co18 := (Kd.R_reads' HO_5.out).2.1
                      have hC96 : Kd.C k41 _ Ao18 t346.length t346 := (Kd.R_reads' HO_5.out).2.2
                      have hcut96 := cut_to (P := Try.prog) 25 41 .i64 Try.underlying25 hi096 Ao18 t346.length co18 (ji89) (of_decide_eq_true (by first | (with_reducible assumption) | assumption)) q96 hroom96
                      have hr96 := Kd.C_take (m := ((ji89) : Int).toNat) hC96 (by omega)
                      have hy96 : y390.length = ((ji89) : Int).toNat := (by rw [Ny390.out, List.length_take]; omega)
                      rw [← Ny390.out] at hr96
                      rw [← hy96] at hcut96
                      have HR393 := Aside0.mk hr96
                      have HC393 := Aside0.mk (show y390.length ≤ co18 from by omega)
                      clear hr96 hC96 hroom96 hi096 hsz96
                      have KY96 := Aside0.mk hy96
                      clear hy96
                      have KL96 := Aside0.mk (show ((ji89) : Int).toNat ≤ t346.length from by omega)
                      replace q96 := eq_true q96
                      go_wp2_with (first | ((with_reducible refine gate_callee (f := 23) rfl ?_); refine goesL_ (some 332) rfl rfl Try.func23 (by kernel_rfl) rfl #[.slice Ao18 y390.length co18] rfl (by (try simp only [List.map_toArray, List.map_cons, List.map_nil]); first | done | rfl | (simp only [List.length_drop, List.length_take]; rfl)) ?_; (with_reducible refine (impl_RatioOf.calls k4 _ _ y390 t394 t395 true _ ?side1 ?side2 A92.out).mono ?_); (case side1 => repeat (first | exact (by repeat (first | (with_reducible exact HR393.out) | (with_reducible refine Kd.C_alloc ?_ _) | (with_reducible refine Kd.C_drewN ?_ _) | (with_reducible refine Kd.C_drew ?_) | exact HR393.out)) | (with_reducible refine Kd.C_alloc ?_ _) | (with_reducible refine Kd.C_drewN ?_ _) | (with_reducible refine Kd.C_drew ?_))); (case side2 => exact HC393.out); rintro e w97 ⟨rfl, hb⟩; refine ⟨_, rfl, ?_⟩; have n0_ := Aside0.mk (Kd.R_below (by (with_reducible repeat (first | apply Kd.R_alloc | apply Kd.R_drewN | apply Kd.R_drew)); exact HO_5.out) hb); have n1_ := Aside0.mk (Kd.C_below (by repeat (first | (with_reducible exact HR393.out) | (with_reducible refine Kd.C_alloc ?_ _) | (with_reducible refine Kd.C_drewN ?_ _) | (with_reducible refine Kd.C_drew ?_) | exact HR393.out)) hb); have n2_ := Aside0.mk (below_step (by repeat (first | (with_reducible first | exact HB.out | apply below_alloc | apply pw_below_drewN | apply below_drew1) | exact HB.out)) hb); clear HO_5; clear HR393; clear HB; have HO_5 := n0_; have HR393 := n1_; have HB := n2_; clear n0_ n1_ n2_; (try clear hb); (try clear hb2); (try clear hk); (try clear hi)))
                      go_roundg k4
                      case measure => have := HJ15.out; have := HK2.out; have := HJ66.out; have := HK4.out; omega
                      case rel => exact ⟨(ji89), (by first | rfl | (simp; done) | (simp only [← hji89] <;> (first | rfl | simp)) | (simp [*]; done)), H', ⟨by have := HJ15.out; have := HK2.out; have := HJ66.out; have := HK4.out; omega⟩, ⟨by (with_reducible repeat (first | apply Kd.R_alloc | apply Kd.R_drewN | apply Kd.R_drew)); exact HO_5.out⟩, ⟨by repeat (first | (with_reducible first | exact HB.out | apply below_alloc | apply pw_below_drewN | apply below_drew1) | exact HB.out)⟩⟩
                    ·
                     rw [if_neg c95] at H
                     exact absurd H (by simp)
                  ·
                   replace c93 := Bool.eq_false_iff.mpr c93
                   subst c93
                   have H1 : (none) = some r := by rw [if_neg (show ¬ (false = true) by decide)] at H; exact H
                   clear H
                   have H := H1
                   clear H1
                   exact absurd H (by simp)
                 ·
                  rw [if_neg c91] at H
                  exact absurd H (by simp)
                ·
                 rw [if_neg c90] at H
                 exact absurd H (by simp)
               ·
                rw [if_neg c88] at H
                have c88b0 : decide (x324_4 < (t346.length : Int)) = false := decide_eq_false c88
                clear c88
                as_aux_lemma =>
                 have H' := Aside0.mk H
                 clear H
                 go_wp2
                 go_meet
                 case rel => exact ⟨_, H', ⟨by have := HJ15.out; have := HK2.out; have := HJ66.out; have := HK4.out; first | omega | exact Nat.le_refl _⟩, ⟨by repeat (first | (with_reducible first | exact HB.out | apply below_alloc | apply pw_below_drewN | apply below_drew1) | exact HB.out)⟩⟩
      ·
       replace c56 := Bool.eq_false_iff.mpr c56
       subst c56
       have H1 : (j4 kj15 l1) = some r := by rw [if_neg (show ¬ (false = true) by decide)] at H; exact H
       clear H
       have H := H1
       clear H1
       as_aux_lemma =>
        have H' := Aside0.mk H
        clear H
        go_wp2
        go_meet
        case rel => exact ⟨_, H', ⟨by have := HJ15.out; first | omega | exact Nat.le_refl _⟩, ⟨by repeat (first | (with_reducible first | exact HB.out | apply below_alloc | apply pw_below_drewN | apply below_drew1) | exact HB.out)⟩⟩
     case rest => as_aux_lemma =>
      clear HC55
      try clear c1
      try clear c4
      try clear c54
      obtain ⟨kq, HA, HJ54, HB⟩ := hcut
      cases kq with
      | zero => exact absurd HA.out (by simp [j4])
      | succ kj54 =>
       have H := HA.out
       clear HA
       simp only [j4] at H
       replace H := Option.bind_eq_some_iff.mp H
       obtain ⟨⟨t397, t398⟩, A980, H⟩ := H
       try dsimp only at H
       have A98 := Aside0.mk A980
       clear A980
       replace H := Option.bind_eq_some_iff.mp H
       obtain ⟨⟨t401, t402, t403⟩, A990, H⟩ := H
       try dsimp only at H
       have A99 := Aside0.mk A990
       clear A990
       replace H := Option.bind_eq_some_iff.mp H
       obtain ⟨⟨t404, t405, t406⟩, A1000, H⟩ := H
       try dsimp only at H
       have A100 := Aside0.mk A1000
       clear A1000
       replace H := Option.bind_eq_some_iff.mp H
       obtain ⟨⟨t407, t408⟩, A1010, H⟩ := H
       try dsimp only at H
       have A101 := Aside0.mk A1010
       clear A1010
       replace H := Option.bind_eq_some_iff.mp H
       obtain ⟨⟨t410, t411, t412⟩, A1020, H⟩ := H
       try dsimp only at H
       have A102 := Aside0.mk A1020
       clear A1020
       replace H := Option.bind_eq_some_iff.mp H
       obtain ⟨⟨t413, t414, t415⟩, A1030, H⟩ := H
       try dsimp only at H
       have A103 := Aside0.mk A1030
       clear A1030
       replace H := Option.bind_eq_some_iff.mp H
       obtain ⟨⟨t416, t417⟩, A1040, H⟩ := H
       try dsimp only at H
       have A104 := Aside0.mk A1040
       clear A1040
       replace H := Option.bind_eq_some_iff.mp H
       obtain ⟨⟨t422, t423⟩, A1050, H⟩ := H
       try dsimp only at H
       have A105 := Aside0.mk A1050
       clear A1050
       replace H := Option.bind_eq_some_iff.mp H
       obtain ⟨⟨t424, t425⟩, A1060, H⟩ := H
       try dsimp only at H
       have A106 := Aside0.mk A1060
       clear A1060
       have HC107 := Aside0.mk H
       clear H
       go_upto_region 48 with (first | ((with_reducible refine gate_callee (f := 41) rfl ?_); refine goesL_ (some 347) rfl rfl Try.func41 (by kernel_rfl) rfl #[.slice A1 l1.length c1] rfl (by (try simp only [List.map_toArray, List.map_cons, List.map_nil]); first | done | rfl | (simp only [List.length_drop, List.length_take]; rfl)) ?_; (with_reducible refine (spec_DrawTurnsOfLast.calls kj54 _ _ l1 t397 t398 _ ?side1 ?side2 A98.out).mono ?_); (case side1 => repeat (first | exact (Kd.C_below HR1.out HB.out) | (with_reducible refine Kd.C_alloc ?_ _) | (with_reducible refine Kd.C_drewN ?_ _) | (with_reducible refine Kd.C_drew ?_))); (case side2 => exact HC1.out); rintro e w108 ⟨v399, rfl, ho0, hb⟩; refine ⟨_, rfl, ?_⟩; have n0_ := Aside0.mk (Kd.R_lower ho0 (below_size (by repeat (first | (with_reducible first | exact HB.out | apply below_alloc | apply pw_below_drewN | apply below_drew1) | exact HB.out)))); have n1_ := Aside0.mk (below_step (by repeat (first | (with_reducible first | exact HB.out | apply below_alloc | apply pw_below_drewN | apply below_drew1) | exact HB.out)) hb); clear HB; have HO400 := n0_; have HB := n1_; clear n0_ n1_; (try clear hb); (try clear hb2); (try clear hk); (try clear hi); (try clear ho0); obtain ⟨Ao109, co109, eo109⟩ := Kd.R_slice HO400.out; subst eo109) | ((with_reducible refine gate_callee (f := 31) rfl ?_); refine goesL_ (some 353) rfl rfl Try.func31 (by kernel_rfl) rfl #[.slice Ao109 t397.length co109, .int .i64 t398] rfl (by (try simp only [List.map_toArray, List.map_cons, List.map_nil]); first | done | rfl | (simp only [List.length_drop, List.length_take]; rfl)) ?_; (with_reducible refine (impl_TurnsOfLast.calls kj54 _ _ t397 t398 t401 t402 t403 _ ?side1 ?side2 A99.out).mono ?_); (case side1 => repeat (first | exact (Kd.R_reads' HO400.out).2.2 | (with_reducible refine Kd.C_alloc ?_ _) | (with_reducible refine Kd.C_drewN ?_ _) | (with_reducible refine Kd.C_drew ?_))); (case side2 => exact (Kd.R_reads' HO400.out).2.1); rintro e w110 ⟨rfl, hb⟩; refine ⟨_, rfl, ?_⟩; have n0_ := Aside0.mk (Kd.R_below (by (with_reducible repeat (first | apply Kd.R_alloc | apply Kd.R_drewN | apply Kd.R_drew)); exact HO400.out) hb); have n1_ := Aside0.mk (below_step (by repeat (first | (with_reducible first | exact HB.out | apply below_alloc | apply pw_below_drewN | apply below_drew1) | exact HB.out)) hb); clear HO400; clear HB; have HO400 := n0_; have HB := n1_; clear n0_ n1_; (try clear hb); (try clear hb2); (try clear hk); (try clear hi)) | ((with_reducible refine gate_callee (f := 30) rfl ?_); refine goesL_ (some 360) rfl rfl Try.func30 (by kernel_rfl) rfl #[.slice Ao109 t397.length co109, .int .i64 t398] rfl (by (try simp only [List.map_toArray, List.map_cons, List.map_nil]); first | done | rfl | (simp only [List.length_drop, List.length_take]; rfl)) ?_; (with_reducible refine (spec_TurnsOfLast.calls kj54 _ _ t397 t398 t404 t405 t406 _ ?side1 ?side2 A100.out).mono ?_); (case side1 => repeat (first | exact (Kd.R_reads' HO400.out).2.2 | (with_reducible refine Kd.C_alloc ?_ _) | (with_reducible refine Kd.C_drewN ?_ _) | (with_reducible refine Kd.C_drew ?_))); (case side2 => exact (Kd.R_reads' HO400.out).2.1); rintro e w111 ⟨rfl, hb⟩; refine ⟨_, rfl, ?_⟩; have n0_ := Aside0.mk (Kd.R_below (by (with_reducible repeat (first | apply Kd.R_alloc | apply Kd.R_drewN | apply Kd.R_drew)); exact HO400.out) hb); have n1_ := Aside0.mk (below_step (by repeat (first | (with_reducible first | exact HB.out | apply below_alloc | apply pw_below_drewN | apply below_drew1) | exact HB.out)) hb); clear HO400; clear HB; have HO400 := n0_; have HB := n1_; clear n0_ n1_; (try clear hb); (try clear hb2); (try clear hk); (try clear hi)) | ((with_reducible refine gate_callee (f := 42) rfl ?_); refine goesL_ (some 365) rfl rfl Try.func42 (by kernel_rfl) rfl #[.slice A1 l1.length c1] rfl (by (try simp only [List.map_toArray, List.map_cons, List.map_nil]); first | done | rfl | (simp only [List.length_drop, List.length_take]; rfl)) ?_; (with_reducible refine (spec_DrawMeshesUntilSame.calls _ _ l1 t407 t408 _ ?side1 ?side2 A101.out).mono ?_); (case side1 => repeat (first | exact (Kd.C_below HR1.out HB.out) | (with_reducible refine Kd.C_alloc ?_ _) | (with_reducible refine Kd.C_drewN ?_ _) | (with_reducible refine Kd.C_drew ?_))); (case side2 => exact HC1.out); rintro e w112 ⟨rfl, hb⟩; refine ⟨_, rfl, ?_⟩; have n0_ := Aside0.mk (Kd.R_below (by (with_reducible repeat (first | apply Kd.R_alloc | apply Kd.R_drewN | apply Kd.R_drew)); exact HO400.out) hb); have n1_ := Aside0.mk (below_step (by repeat (first | (with_reducible first | exact HB.out | apply below_alloc | apply pw_below_drewN | apply below_drew1) | exact HB.out)) hb); clear HO400; clear HB; have HO400 := n0_; have HB := n1_; clear n0_ n1_; (try clear hb); (try clear hb2); (try clear hk); (try clear hi)) | ((with_reducible refine gate_dst (N := 50) rfl ?_); (try (refine gate_guard (by rfl) ?_; dsimp only)); refine box_event ?hg (N := 50) ?hd (cs := #[.int .i64 0, .int .i64 0]) (t := 41) ?hr ?_; (case hd => rfl); (case hg => rfl); (case hr => first | (go_simp; done) | (go_simp; rfl)); intro gb409 hg w113 hbox hb; have n0_ := Aside0.mk (Kd.R_below (Kd.R_elderB (by (with_reducible repeat (first | apply Kd.R_alloc | apply Kd.R_drewN | apply Kd.R_drew)); exact HO400.out) gb409 (Nat.le_of_eq hg.symm)) hb); have n1_ := Aside0.mk (below_step (by repeat (first | (with_reducible first | exact HB.out | apply below_alloc | apply pw_below_drewN | apply below_drew1) | exact HB.out)) hb); have n2_ := Aside0.mk (hbox); have n3_ := Aside0.mk ((by rw [hg]; exact (below_size (by repeat (first | (with_reducible first | exact HB.out | apply below_alloc | apply pw_below_drewN | apply below_drew1) | exact HB.out))) : w.heap.size ≤ gb409)); have n4_ := Aside0.mk ((by rw [hg]; exact (below_size (by repeat (first | (with_reducible first | exact HB.out | apply below_alloc | apply pw_below_drewN | apply below_drew1) | exact HB.out))) : w.heap.size ≤ gb409)); clear HO400; clear HB; have HO400 := n0_; have HB := n1_; have BK409 := n2_; have GW409 := n3_; have GE409 := n4_; clear n0_ n1_ n2_ n3_ n4_; clear hb hbox hg; have hcz114_0 : w113.cell? ⟨gb409, 0, none⟩ = some (.int .i64 0) := (blk_cell BK409.out 0).trans rfl; have hcz114_1 : w113.cell? ⟨gb409, 1, none⟩ = some (.int .i64 0) := (blk_cell BK409.out 1).trans rfl; have hfz114_0 := blk_frozen BK409.out 0; have hfz114_1 := blk_frozen BK409.out 1) | ((with_reducible refine gate_callee (f := 36) rfl ?_); refine goesL_ (some 368) rfl rfl Try.func36 (by kernel_rfl) rfl #[.agg #[.int .i64 t407, .int .i64 t408]] rfl (by (try simp only [List.map_toArray, List.map_cons, List.map_nil]); first | done | rfl | (simp only [List.length_drop, List.length_take]; rfl)) ?_; (with_reducible refine (impl_MeshesUntilSame.calls kj54 t407 t408 t410 t411 t412 _ A102.out).mono ?_); rintro e w115 ⟨rfl, hb⟩; refine ⟨_, rfl, ?_⟩; have n0_ := Aside0.mk (Kd.R_below (by (with_reducible repeat (first | apply Kd.R_alloc | apply Kd.R_drewN | apply Kd.R_drew)); exact (Kd.R_mono (Kd.R_far (p := ⟨gb409, 1, none⟩) (Kd.R_far (p := ⟨gb409, 0, none⟩) (Kd.R_mono HO400.out (fun k_ hk => (⟨hk, hk.2⟩ : _ ∧ k_ ≠ gb409))) (fun _ hk => hk.2) (.int .i64 t407)) (fun _ hk => hk.2) (.int .i64 t408)) (fun _ h_ => h_.1))) hb); have n1_ := Aside0.mk (blk_below (g := gb409) (o := .cells #[.int .i64 t407, .int .i64 t408] 41 (0, 0)) (by (with_reducible repeat (first | refine blk_drewN ?_ _ | refine blk_drew ?_ | refine blk_alloc ?_ _)); refine blk_put (cs := #[.int .i64 t407, .int .i64 0]) ?_ 1 _ rfl; (with_reducible repeat (first | refine blk_drewN ?_ _ | refine blk_drew ?_ | refine blk_alloc ?_ _)); refine blk_put (cs := #[.int .i64 0, .int .i64 0]) ?_ 0 _ rfl; (with_reducible repeat (first | refine blk_drewN ?_ _ | refine blk_drew ?_ | refine blk_alloc ?_ _)); exact BK409.out) hb); have n2_ := Aside0.mk (below_step (by repeat (first | (with_reducible first | exact HB.out | apply below_alloc | apply pw_below_drewN | apply below_drew1 | refine below_set ?_ GE409.out) | exact HB.out)) hb); clear HO400; clear BK409; clear HB; have HO400 := n0_; have BK409 := n1_; have HB := n2_; clear n0_ n1_ n2_; (try clear hb); (try clear hb2); (try clear hk); (try clear hi); have hcz116_0 : w115.cell? ⟨gb409, 0, none⟩ = some (.int .i64 t407) := (blk_cell BK409.out 0).trans rfl; have hcz116_1 : w115.cell? ⟨gb409, 1, none⟩ = some (.int .i64 t408) := (blk_cell BK409.out 1).trans rfl; have hfz116_0 := blk_frozen BK409.out 0; have hfz116_1 := blk_frozen BK409.out 1) | ((with_reducible refine gate_callee (f := 37) rfl ?_); refine goesL_ (some 374) rfl rfl Try.func37 (by kernel_rfl) rfl #[.agg #[.int .i64 t407, .int .i64 t408]] rfl (by (try simp only [List.map_toArray, List.map_cons, List.map_nil]); first | done | rfl | (simp only [List.length_drop, List.length_take]; rfl)) ?_; (with_reducible refine (spec_MeshesUntilSame.calls kj54 t407 t408 t413 t414 t415 _ A103.out).mono ?_); rintro e w117 ⟨rfl, hb⟩; refine ⟨_, rfl, ?_⟩; have n0_ := Aside0.mk (Kd.R_below (by (with_reducible repeat (first | apply Kd.R_alloc | apply Kd.R_drewN | apply Kd.R_drew)); exact HO400.out) hb); have n1_ := Aside0.mk (blk_below (g := gb409) (by (with_reducible repeat (first | refine blk_drewN ?_ _ | refine blk_drew ?_ | refine blk_alloc ?_ _)); exact BK409.out) hb); have n2_ := Aside0.mk (below_step (by repeat (first | (with_reducible first | exact HB.out | apply below_alloc | apply pw_below_drewN | apply below_drew1 | refine below_set ?_ GE409.out) | exact HB.out)) hb); clear HO400; clear BK409; clear HB; have HO400 := n0_; have BK409 := n1_; have HB := n2_; clear n0_ n1_ n2_; (try clear hb); (try clear hb2); (try clear hk); (try clear hi)) | ((with_reducible refine gate_callee (f := 43) rfl ?_); refine goesL_ (some 380) rfl rfl Try.func43 (by kernel_rfl) rfl #[.slice A1 l1.length c1] rfl (by (try simp only [List.map_toArray, List.map_cons, List.map_nil]); first | done | rfl | (simp only [List.length_drop, List.length_take]; rfl)) ?_; (with_reducible refine (spec_DrawCompareRatios.calls kj54 _ _ l1 t416 t417 _ ?side1 ?side2 A104.out).mono ?_); (case side1 => repeat (first | exact (Kd.C_below HR1.out HB.out) | (with_reducible refine Kd.C_alloc ?_ _) | (with_reducible refine Kd.C_drewN ?_ _) | (with_reducible refine Kd.C_drew ?_))); (case side2 => exact HC1.out); rintro e w118 ⟨v418, v420, rfl, ho0, ho1, hb⟩; refine ⟨_, rfl, ?_⟩; have n0_ := Aside0.mk (Kd.R_mono (Kd.R_told (Kd.R_told (Kd.R_old (by (with_reducible repeat (first | apply Kd.R_alloc | apply Kd.R_drewN | apply Kd.R_drew)); exact HO400.out) hb) (Kd.R_base ho0)) (Kd.R_base ho1)) (fun _ h_ => h_.1)); have n1_ := Aside0.mk (Kd.R_lower (Kd.R_newB (Kd.R_new' ho0 (Kd.R_lt (by (with_reducible repeat (first | apply Kd.R_alloc | apply Kd.R_drewN | apply Kd.R_drew)); exact HO400.out))) (g := gb409) (by (with_reducible repeat (first | refine blk_drewN ?_ _ | refine blk_drew ?_ | refine blk_alloc ?_ _)); exact BK409.out)) (below_size (by repeat (first | (with_reducible first | exact HB.out | apply below_alloc | apply pw_below_drewN | apply below_drew1 | refine below_set ?_ GE409.out) | exact HB.out)))); have n2_ := Aside0.mk (Kd.R_lower (Kd.R_newB (Kd.R_new' ho1 (Kd.R_lt (by (with_reducible repeat (first | apply Kd.R_alloc | apply Kd.R_drewN | apply Kd.R_drew)); exact HO400.out))) (g := gb409) (by (with_reducible repeat (first | refine blk_drewN ?_ _ | refine blk_drew ?_ | refine blk_alloc ?_ _)); exact BK409.out)) (below_size (by repeat (first | (with_reducible first | exact HB.out | apply below_alloc | apply pw_below_drewN | apply below_drew1 | refine below_set ?_ GE409.out) | exact HB.out)))); have n3_ := Aside0.mk (blk_below (g := gb409) (by (with_reducible repeat (first | refine blk_drewN ?_ _ | refine blk_drew ?_ | refine blk_alloc ?_ _)); exact BK409.out) hb); have n4_ := Aside0.mk (below_step (by repeat (first | (with_reducible first | exact HB.out | apply below_alloc | apply pw_below_drewN | apply below_drew1 | refine below_set ?_ GE409.out) | exact HB.out)) hb); clear HO400; clear BK409; clear HB; have HO400 := n0_; have HO419 := n1_; have HO421 := n2_; have BK409 := n3_; have HB := n4_; clear n0_ n1_ n2_ n3_ n4_; (try clear hb); (try clear hb2); (try clear hk); (try clear hi); (try clear ho0); (try clear ho1); obtain ⟨Ao119, co119, eo119⟩ := Kd.R_slice HO419.out; subst eo119; obtain ⟨Ao120, co120, eo120⟩ := Kd.R_slice HO421.out; subst eo120) | ((with_reducible refine gate_callee (f := 33) rfl ?_); refine goesL_ (some 386) rfl rfl Try.func33 (by kernel_rfl) rfl #[.slice Ao119 t416.length co119, .slice Ao120 t417.length co120] rfl (by (try simp only [List.map_toArray, List.map_cons, List.map_nil]); first | done | rfl | (simp only [List.length_drop, List.length_take]; rfl)) ?_; (with_reducible refine (impl_CompareRatios.calls kj54 _ _ t416 _ _ t417 t422 t423 _ ?side1 ?side2 ?side3 ?side4 A105.out).mono ?_); (case side1 => repeat (first | exact (Kd.R_reads' HO419.out).2.2 | (with_reducible refine Kd.C_alloc ?_ _) | (with_reducible refine Kd.C_drewN ?_ _) | (with_reducible refine Kd.C_drew ?_))); (case side2 => exact (Kd.R_reads' HO419.out).2.1); (case side3 => repeat (first | exact (Kd.R_reads' HO421.out).2.2 | (with_reducible refine Kd.C_alloc ?_ _) | (with_reducible refine Kd.C_drewN ?_ _) | (with_reducible refine Kd.C_drew ?_))); (case side4 => exact (Kd.R_reads' HO421.out).2.1); rintro e w121 ⟨rfl, hb⟩; refine ⟨_, rfl, ?_⟩; have n0_ := Aside0.mk (Kd.R_below (by (with_reducible repeat (first | apply Kd.R_alloc | apply Kd.R_drewN | apply Kd.R_drew)); exact HO400.out) hb); have n1_ := Aside0.mk (Kd.R_below (by (with_reducible repeat (first | apply Kd.R_alloc | apply Kd.R_drewN | apply Kd.R_drew)); exact HO419.out) hb); have n2_ := Aside0.mk (Kd.R_below (by (with_reducible repeat (first | apply Kd.R_alloc | apply Kd.R_drewN | apply Kd.R_drew)); exact HO421.out) hb); have n3_ := Aside0.mk (blk_below (g := gb409) (by (with_reducible repeat (first | refine blk_drewN ?_ _ | refine blk_drew ?_ | refine blk_alloc ?_ _)); exact BK409.out) hb); have n4_ := Aside0.mk (below_step (by repeat (first | (with_reducible first | exact HB.out | apply below_alloc | apply pw_below_drewN | apply below_drew1 | refine below_set ?_ GE409.out) | exact HB.out)) hb); clear HO400; clear HO419; clear HO421; clear BK409; clear HB; have HO400 := n0_; have HO419 := n1_; have HO421 := n2_; have BK409 := n3_; have HB := n4_; clear n0_ n1_ n2_ n3_ n4_; (try clear hb); (try clear hb2); (try clear hk); (try clear hi)) | ((with_reducible refine gate_callee (f := 32) rfl ?_); refine goesL_ (some 392) rfl rfl Try.func32 (by kernel_rfl) rfl #[.slice Ao119 t416.length co119, .slice Ao120 t417.length co120] rfl (by (try simp only [List.map_toArray, List.map_cons, List.map_nil]); first | done | rfl | (simp only [List.length_drop, List.length_take]; rfl)) ?_; (with_reducible refine (spec_CompareRatios.calls kj54 _ _ t416 _ _ t417 t424 t425 _ ?side1 ?side2 ?side3 ?side4 A106.out).mono ?_); (case side1 => repeat (first | exact (Kd.R_reads' HO419.out).2.2 | (with_reducible refine Kd.C_alloc ?_ _) | (with_reducible refine Kd.C_drewN ?_ _) | (with_reducible refine Kd.C_drew ?_))); (case side2 => exact (Kd.R_reads' HO419.out).2.1); (case side3 => repeat (first | exact (Kd.R_reads' HO421.out).2.2 | (with_reducible refine Kd.C_alloc ?_ _) | (with_reducible refine Kd.C_drewN ?_ _) | (with_reducible refine Kd.C_drew ?_))); (case side4 => exact (Kd.R_reads' HO421.out).2.1); rintro e w122 ⟨rfl, hb⟩; refine ⟨_, rfl, ?_⟩; have n0_ := Aside0.mk (Kd.R_below (by (with_reducible repeat (first | apply Kd.R_alloc | apply Kd.R_drewN | apply Kd.R_drew)); exact HO400.out) hb); have n1_ := Aside0.mk (Kd.R_below (by (with_reducible repeat (first | apply Kd.R_alloc | apply Kd.R_drewN | apply Kd.R_drew)); exact HO419.out) hb); have n2_ := Aside0.mk (Kd.R_below (by (with_reducible repeat (first | apply Kd.R_alloc | apply Kd.R_drewN | apply Kd.R_drew)); exact HO421.out) hb); have n3_ := Aside0.mk (blk_below (g := gb409) (by (with_reducible repeat (first | refine blk_drewN ?_ _ | refine blk_drew ?_ | refine blk_alloc ?_ _)); exact BK409.out) hb); have n4_ := Aside0.mk (below_step (by repeat (first | (with_reducible first | exact HB.out | apply below_alloc | apply pw_below_drewN | apply below_drew1 | refine below_set ?_ GE409.out) | exact HB.out)) hb); clear HO400; clear HO419; clear HO421; clear BK409; clear HB; have HO400 := n0_; have HO419 := n1_; have HO421 := n2_; have BK409 := n3_; have HB := n4_; clear n0_ n1_ n2_ n3_ n4_; (try clear hb); (try clear hb2); (try clear hk); (try clear hi)))
       (try simp only [Act.put, s1, s2, s3])
       go_cut [445] from 322 to 445 (fun v445 wc => ∃ (kq : Nat) (x445_106 : Bool), v445 = .bool x445_106 ∧ Aside0 (j5 kq t397 t398 t401 t402 t403 t410 t411 t412 t416 t417 t422 t423 x445_106 t407 t408 = some r) ∧ Aside0 (kq ≤ kj54) ∧ Aside0 (Kd.R k41 41 wc w.heap.size (fun k_ => some k_ ≠ ((.slice Ao119 t416.length co119) : Value).ownBlock ∧ some k_ ≠ ((.slice Ao120 t417.length co120) : Value).ownBlock ∧ k_ ≠ gb409) (.slice Ao109 t397.length co109) t397) ∧ Aside0 (Kd.R k41 41 wc w.heap.size (fun k_ => some k_ ≠ ((.slice Ao109 t397.length co109) : Value).ownBlock ∧ some k_ ≠ ((.slice Ao120 t417.length co120) : Value).ownBlock ∧ k_ ≠ gb409) (.slice Ao119 t416.length co119) t416) ∧ Aside0 (Kd.R k41 41 wc w.heap.size (fun k_ => some k_ ≠ ((.slice Ao109 t397.length co109) : Value).ownBlock ∧ some k_ ≠ ((.slice Ao119 t416.length co119) : Value).ownBlock ∧ k_ ≠ gb409) (.slice Ao120 t417.length co120) t417) ∧ Aside0 (wc.heap[gb409]? = some (.cells #[.int .i64 t407, .int .i64 t408] 41 (0, 0))) ∧ Aside0 (Below w.heap.size w wc))
       case first => as_aux_lemma =>
        have H := HC107.out
        clear HC107
        by_cases c123 : (t403 != t406) = true
        ·
         rw [if_pos c123] at H
         exact absurd H (by simp)
        ·
         rw [if_neg c123] at H
         have c123b0 : (t403 != t406) = false := by simpa using c123
         (try (have c123b1 : decide (t403 = t406) = true := by simpa using c123))
         (try (have c123b2 : (t403 == t406) = true := by simpa using c123))
         clear c123
         (first | rw [c123b0] | (simp only [i64_w, i32_w]; rw [c123b0]) | skip)
         by_cases c124 : t401 = t404
         ·
          rw [if_pos c124] at H
          have c124b0 : (t401 == t404) = true := beq_iff_eq.mpr c124
          have c124b1 : (t401 != t404) = false := bne_eq_false_iff_eq.mpr c124
          clear c124
          by_cases c125 : t402 = t405
          ·
           rw [if_pos c125] at H
           have c125b0 : (t402 == t405) = true := beq_iff_eq.mpr c125
           have c125b1 : (t402 != t405) = false := bne_eq_false_iff_eq.mpr c125
           clear c125
           by_cases c126 : (t412 != t415) = true
           ·
            rw [if_pos c126] at H
            exact absurd H (by simp)
           ·
            rw [if_neg c126] at H
            have c126b0 : (t412 != t415) = false := by simpa using c126
            (try (have c126b1 : decide (t412 = t415) = true := by simpa using c126))
            (try (have c126b2 : (t412 == t415) = true := by simpa using c126))
            clear c126
            by_cases c127 : t410 = t413
            ·
             rw [if_pos c127] at H
             have c127b0 : (t410 == t413) = true := beq_iff_eq.mpr c127
             have c127b1 : (t410 != t413) = false := bne_eq_false_iff_eq.mpr c127
             clear c127
             by_cases c128 : t411 = t414
             ·
              rw [if_pos c128] at H
              have c128b0 : (t411 == t414) = true := beq_iff_eq.mpr c128
              have c128b1 : (t411 != t414) = false := bne_eq_false_iff_eq.mpr c128
              clear c128
              replace H := Option.bind_eq_some_iff.mp H
              obtain ⟨t426, A1290, H⟩ := H
              try dsimp only at H
              have A129 := Aside0.mk A1290
              clear A1290
              by_cases c130 : (t412 != t426) = true
              ·
               rw [if_pos c130] at H
               exact absurd H (by simp)
              ·
               rw [if_neg c130] at H
               have c130b0 : (t412 != t426) = false := by simpa using c130
               (try (have c130b1 : decide (t412 = t426) = true := by simpa using c130))
               (try (have c130b2 : (t412 == t426) = true := by simpa using c130))
               clear c130
               replace H := Option.bind_eq_some_iff.mp H
               obtain ⟨t427, A1310, H⟩ := H
               try dsimp only at H
               have A131 := Aside0.mk A1310
               clear A1310
               replace H := Option.bind_eq_some_iff.mp H
               obtain ⟨t428, A1320, H⟩ := H
               try dsimp only at H
               have A132 := Aside0.mk A1320
               clear A1320
               by_cases c133 : (t427 != t428) = true
               ·
                rw [if_pos c133] at H
                exact absurd H (by simp)
               ·
                rw [if_neg c133] at H
                have c133b0 : (t427 != t428) = false := by simpa using c133
                have z_ : t426 = t427 := Option.some.inj (A129.out.symm.trans A131.out)
                have c133b7 : (t426 != t428) = false := by rw [z_]; exact c133b0
                (try (have c133b8 : decide (t426 = t428) = true := by rw [z_]; simpa using c133))
                (try (have c133b9 : (t426 == t428) = true := by rw [z_]; simpa using c133))
                clear z_
                (try (have c133b1 : decide (t427 = t428) = true := by simpa using c133))
                (try (have c133b2 : (t427 == t428) = true := by simpa using c133))
                clear c133
                by_cases c134 : (t423 != t425) = true
                ·
                 rw [if_pos c134] at H
                 exact absurd H (by simp)
                ·
                 rw [if_neg c134] at H
                 have c134b0 : (t423 != t425) = false := by simpa using c134
                 (try (have c134b1 : decide (t423 = t425) = true := by simpa using c134))
                 (try (have c134b2 : (t423 == t425) = true := by simpa using c134))
                 clear c134
                 as_aux_lemma =>
                  have H' := Aside0.mk H
                  clear H
                  try go_wp2
                  have n0_ := Aside0.mk (Kd.R_drew HO400.out)
                  have n1_ := Aside0.mk (Kd.R_drew HO419.out)
                  have n2_ := Aside0.mk (Kd.R_drew HO421.out)
                  have n3_ := Aside0.mk (blk_drew BK409.out)
                  have n4_ := Aside0.mk (below_drew1 HB.out)
                  clear HO400
                  clear HO419
                  clear HO421
                  clear BK409
                  clear HB
                  have HO400 := n0_
                  have HO419 := n1_
                  have HO421 := n2_
                  have BK409 := n3_
                  have HB := n4_
                  clear n0_ n1_ n2_ n3_ n4_
                  refine start_ (n := 51) (S := fun w' => w'.cell? ⟨gb409, 0, none⟩ = some (.int .i64 t407) ∧ w'.cell? ⟨gb409, 1, none⟩ = some (.int .i64 t408)) (ds := []) #[false, false, false, false, false, false, false, false, false, false, false, false, false, false, false, false, false, false, false, false, false, false, false, false, false, false, false, false, false, false, false, false, false, false, false, false, false, false, false, false, false, false, false, false, false, false, false, false, false, false, false] (by kernel_rfl) rfl rfl ⟨(blk_cell BK409.out 0).trans rfl, (blk_cell BK409.out 1).trans rfl⟩ (fun hHeld => ?_); refine with_tabW laws_FnTrainsTurn.tab48 laws_FnTrainsTurn.bits48 (fun HT_ HW_ => ?_)
                  generalize w122.drew = w135 at HO400 HO419 HO421 BK409 HB hHeld ⊢
                  refine pure_ (i := 0) (N := some 395) (v := ?_) (a' := ?_) #[true, false, false, false, false, false, false, false, false, false, false, false, false, false, false, false, false, false, false, false, false, false, false, false, false, false, false, false, false, false, false, false, false, false, false, false, false, false, false, false, false, false, false, false, false, false, false, false, false, false, false] rfl rfl (any_of HT_.out (by kernel_rfl)) (fun _ _ _ h => h) (Or.inl ⟨by rfl, ?_⟩) ?_ ?_
                  rotate_left
                  ·
                   intro w'
                   go_simp
                   with_reducible rfl
                  rotate_left
                  ·
                   simp only [Act.put, s1, s2, s3, i64_w, i32_w]
                   rfl
                  refine pure_ (i := 1) (N := some 396) (v := ?_) (a' := ?_) #[true, true, false, false, false, false, false, false, false, false, false, false, false, false, false, false, false, false, false, false, false, false, false, false, false, false, false, false, false, false, false, false, false, false, false, false, false, false, false, false, false, false, false, false, false, false, false, false, false, false, false] rfl rfl (any_of HT_.out (by kernel_rfl)) (fun _ _ _ h => h) (Or.inl ⟨by rfl, ?_⟩) ?_ ?_
                  rotate_left
                  ·
                   intro w'
                   go_simp
                   with_reducible rfl
                  rotate_left
                  ·
                   simp only [Act.put, s1, s2, s3, i64_w, i32_w]
                   rfl
                  refine pure_ (i := 2) (N := some 397) (v := ?_) (a' := ?_) #[true, true, true, false, false, false, false, false, false, false, false, false, false, false, false, false, false, false, false, false, false, false, false, false, false, false, false, false, false, false, false, false, false, false, false, false, false, false, false, false, false, false, false, false, false, false, false, false, false, false, false] rfl rfl (any_of HT_.out (by kernel_rfl)) (fun _ _ _ h => h) (Or.inl ⟨by rfl, ?_⟩) ?_ ?_
                  rotate_left
                  ·
                   intro w'
                   go_simp
                   with_reducible rfl
                  rotate_left
                  ·
                   simp only [Act.put, s1, s2, s3, i64_w, i32_w]
                   rfl
                  refine pure_ (i := 3) (N := some 398) (v := ?_) (a' := ?_) #[true, true, true, true, false, false, false, false, false, false, false, false, false, false, false, false, false, false, false, false, false, false, false, false, false, false, false, false, false, false, false, false, false, false, false, false, false, false, false, false, false, false, false, false, false, false, false, false, false, false, false] rfl rfl (any_of HT_.out (by kernel_rfl)) (fun _ _ _ h => h) (Or.inl ⟨by rfl, ?_⟩) ?_ ?_
                  rotate_left
                  ·
                   intro w'
                   go_simp
                   with_reducible rfl
                  rotate_left
                  ·
                   simp only [Act.put, s1, s2, s3, i64_w, i32_w]
                   rfl
                  refine pure_ (i := 4) (N := some 399) (v := ?_) (a' := ?_) #[true, true, true, true, true, false, false, false, false, false, false, false, false, false, false, false, false, false, false, false, false, false, false, false, false, false, false, false, false, false, false, false, false, false, false, false, false, false, false, false, false, false, false, false, false, false, false, false, false, false, false] rfl rfl (any_of HT_.out (by kernel_rfl)) (fun _ _ _ h => h) (Or.inl ⟨by rfl, ?_⟩) ?_ ?_
                  rotate_left
                  ·
                   intro w'
                   go_simp
                   with_reducible rfl
                  rotate_left
                  ·
                   simp only [Act.put, s1, s2, s3, i64_w, i32_w]
                   rfl
                  refine pure_ (i := 5) (N := some 400) (v := ?_) (a' := ?_) #[true, true, true, true, true, true, false, false, false, false, false, false, false, false, false, false, false, false, false, false, false, false, false, false, false, false, false, false, false, false, false, false, false, false, false, false, false, false, false, false, false, false, false, false, false, false, false, false, false, false, false] rfl rfl (any_of HT_.out (by kernel_rfl)) (fun _ _ _ h => h) (Or.inl ⟨by rfl, ?_⟩) ?_ ?_
                  rotate_left
                  ·
                   intro w'
                   go_simp
                   with_reducible rfl
                  rotate_left
                  ·
                   simp only [Act.put, s1, s2, s3, i64_w, i32_w]
                   rfl
                  refine pure_ (i := 6) (N := some 401) (v := ?_) (a' := ?_) #[true, true, true, true, true, true, true, false, false, false, false, false, false, false, false, false, false, false, false, false, false, false, false, false, false, false, false, false, false, false, false, false, false, false, false, false, false, false, false, false, false, false, false, false, false, false, false, false, false, false, false] rfl rfl (any_of HT_.out (by kernel_rfl)) (fun _ _ _ h => h) (Or.inl ⟨by rfl, ?_⟩) ?_ ?_
                  rotate_left
                  ·
                   intro w'
                   go_simp
                   with_reducible rfl
                  rotate_left
                  ·
                   simp only [Act.put, s1, s2, s3, i64_w, i32_w]
                   rfl
                  refine pure_ (i := 7) (N := some 402) (v := ?_) (a' := ?_) #[true, true, true, true, true, true, true, true, false, false, false, false, false, false, false, false, false, false, false, false, false, false, false, false, false, false, false, false, false, false, false, false, false, false, false, false, false, false, false, false, false, false, false, false, false, false, false, false, false, false, false] rfl rfl (any_of HT_.out (by kernel_rfl)) (fun _ _ _ h => h) (Or.inl ⟨by rfl, ?_⟩) ?_ ?_
                  rotate_left
                  ·
                   intro w'
                   go_simp
                   with_reducible rfl
                  rotate_left
                  ·
                   simp only [Act.put, s1, s2, s3, i64_w, i32_w]
                   rfl
                  refine pure_ (i := 8) (N := some 403) (v := ?_) (a' := ?_) #[true, true, true, true, true, true, true, true, true, false, false, false, false, false, false, false, false, false, false, false, false, false, false, false, false, false, false, false, false, false, false, false, false, false, false, false, false, false, false, false, false, false, false, false, false, false, false, false, false, false, false] rfl rfl (any_of HT_.out (by kernel_rfl)) (fun _ _ _ h => h) (Or.inl ⟨by rfl, ?_⟩) ?_ ?_
                  rotate_left
                  ·
                   intro w'
                   go_simp
                   with_reducible rfl
                  rotate_left
                  ·
                   simp only [Act.put, s1, s2, s3, i64_w, i32_w]
                   rfl
                  refine pure_ (i := 9) (N := some 404) (v := ?_) (a' := ?_) #[true, true, true, true, true, true, true, true, true, true, false, false, false, false, false, false, false, false, false, false, false, false, false, false, false, false, false, false, false, false, false, false, false, false, false, false, false, false, false, false, false, false, false, false, false, false, false, false, false, false, false] rfl rfl (any_of HT_.out (by kernel_rfl)) (fun _ _ _ h => h) (Or.inl ⟨by rfl, ?_⟩) ?_ ?_
                  rotate_left
                  ·
                   intro w'
                   go_simp
                   with_reducible rfl
                  rotate_left
                  ·
                   simp only [Act.put, s1, s2, s3, i64_w, i32_w]
                   rfl
                  refine pure_ (i := 10) (N := some 405) (v := ?_) (a' := ?_) #[true, true, true, true, true, true, true, true, true, true, true, false, false, false, false, false, false, false, false, false, false, false, false, false, false, false, false, false, false, false, false, false, false, false, false, false, false, false, false, false, false, false, false, false, false, false, false, false, false, false, false] rfl rfl (any_of HT_.out (by kernel_rfl)) (fun _ _ _ h => h) (Or.inl ⟨by rfl, ?_⟩) ?_ ?_
                  rotate_left
                  ·
                   intro w'
                   go_simp
                   with_reducible rfl
                  rotate_left
                  ·
                   simp only [Act.put, s1, s2, s3, i64_w, i32_w]
                   rfl
                  refine pure_ (i := 11) (N := some 406) (v := ?_) (a' := ?_) #[true, true, true, true, true, true, true, true, true, true, true, true, false, false, false, false, false, false, false, false, false, false, false, false, false, false, false, false, false, false, false, false, false, false, false, false, false, false, false, false, false, false, false, false, false, false, false, false, false, false, false] rfl rfl (any_of HT_.out (by kernel_rfl)) (fun _ _ _ h => h) (Or.inl ⟨by rfl, ?_⟩) ?_ ?_
                  rotate_left
                  ·
                   intro w'
                   go_simp
                   with_reducible rfl
                  rotate_left
                  ·
                   simp only [Act.put, s1, s2, s3, i64_w, i32_w]
                   rfl
                  refine pure_ (i := 12) (N := some 407) (v := ?_) (a' := ?_) #[true, true, true, true, true, true, true, true, true, true, true, true, true, false, false, false, false, false, false, false, false, false, false, false, false, false, false, false, false, false, false, false, false, false, false, false, false, false, false, false, false, false, false, false, false, false, false, false, false, false, false] rfl rfl (any_of HT_.out (by kernel_rfl)) (fun _ _ _ h => h) (Or.inl ⟨by rfl, ?_⟩) ?_ ?_
                  rotate_left
                  ·
                   intro w'
                   go_simp
                   with_reducible rfl
                  rotate_left
                  ·
                   simp only [Act.put, s1, s2, s3, i64_w, i32_w]
                   rfl
                  refine pure_ (i := 13) (N := some 408) (v := ?_) (a' := ?_) #[true, true, true, true, true, true, true, true, true, true, true, true, true, true, false, false, false, false, false, false, false, false, false, false, false, false, false, false, false, false, false, false, false, false, false, false, false, false, false, false, false, false, false, false, false, false, false, false, false, false, false] rfl rfl (any_of HT_.out (by kernel_rfl)) (fun _ _ _ h => h) (Or.inl ⟨by rfl, ?_⟩) ?_ ?_
                  rotate_left
                  ·
                   intro w'
                   go_simp
                   with_reducible rfl
                  rotate_left
                  ·
                   simp only [Act.put, s1, s2, s3, i64_w, i32_w]
                   rfl
                  refine pure_ (i := 14) (N := some 409) (v := ?_) (a' := ?_) #[true, true, true, true, true, true, true, true, true, true, true, true, true, true, true, false, false, false, false, false, false, false, false, false, false, false, false, false, false, false, false, false, false, false, false, false, false, false, false, false, false, false, false, false, false, false, false, false, false, false, false] rfl rfl (any_of HT_.out (by kernel_rfl)) (fun _ _ _ h => h) (Or.inl ⟨by rfl, ?_⟩) ?_ ?_
                  rotate_left
                  ·
                   intro w'
                   go_simp
                   with_reducible rfl
                  rotate_left
                  ·
                   simp only [Act.put, s1, s2, s3, i64_w, i32_w]
                   rfl
                  refine pure_ (i := 15) (N := some 410) (v := ?_) (a' := ?_) #[true, true, true, true, true, true, true, true, true, true, true, true, true, true, true, true, false, false, false, false, false, false, false, false, false, false, false, false, false, false, false, false, false, false, false, false, false, false, false, false, false, false, false, false, false, false, false, false, false, false, false] rfl rfl (any_of HT_.out (by kernel_rfl)) (fun _ _ _ h => h) (Or.inl ⟨by rfl, ?_⟩) ?_ ?_
                  rotate_left
                  ·
                   intro w'
                   go_simp
                   with_reducible rfl
                  rotate_left
                  ·
                   simp only [Act.put, s1, s2, s3, i64_w, i32_w]
                   rfl
                  refine pure_ (i := 16) (N := some 411) (v := ?_) (a' := ?_) #[true, true, true, true, true, true, true, true, true, true, true, true, true, true, true, true, true, false, false, false, false, false, false, false, false, false, false, false, false, false, false, false, false, false, false, false, false, false, false, false, false, false, false, false, false, false, false, false, false, false, false] rfl rfl (any_of HT_.out (by kernel_rfl)) (fun _ _ _ h => h) (Or.inl ⟨by rfl, ?_⟩) ?_ ?_
                  rotate_left
                  ·
                   intro w'
                   go_simp
                   with_reducible rfl
                  rotate_left
                  ·
                   simp only [Act.put, s1, s2, s3, i64_w, i32_w]
                   rfl
                  refine pure_ (i := 17) (N := some 412) (v := ?_) (a' := ?_) #[true, true, true, true, true, true, true, true, true, true, true, true, true, true, true, true, true, true, false, false, false, false, false, false, false, false, false, false, false, false, false, false, false, false, false, false, false, false, false, false, false, false, false, false, false, false, false, false, false, false, false] rfl rfl (any_of HT_.out (by kernel_rfl)) (fun _ _ _ h => h) (Or.inl ⟨by rfl, ?_⟩) ?_ ?_
                  rotate_left
                  ·
                   intro w'
                   go_simp
                   with_reducible rfl
                  rotate_left
                  ·
                   simp only [Act.put, s1, s2, s3, i64_w, i32_w]
                   rfl
                  refine pure_ (i := 18) (N := some 413) (v := ?_) (a' := ?_) #[true, true, true, true, true, true, true, true, true, true, true, true, true, true, true, true, true, true, true, false, false, false, false, false, false, false, false, false, false, false, false, false, false, false, false, false, false, false, false, false, false, false, false, false, false, false, false, false, false, false, false] rfl rfl (any_of HT_.out (by kernel_rfl)) (fun _ _ _ h => h) (Or.inl ⟨by rfl, ?_⟩) ?_ ?_
                  rotate_left
                  ·
                   intro w'
                   go_simp
                   with_reducible rfl
                  rotate_left
                  ·
                   simp only [Act.put, s1, s2, s3, i64_w, i32_w]
                   rfl
                  refine pure_ (i := 19) (N := some 414) (v := ?_) (a' := ?_) #[true, true, true, true, true, true, true, true, true, true, true, true, true, true, true, true, true, true, true, true, false, false, false, false, false, false, false, false, false, false, false, false, false, false, false, false, false, false, false, false, false, false, false, false, false, false, false, false, false, false, false] rfl rfl (any_of HT_.out (by kernel_rfl)) (fun _ _ _ h => h) (Or.inl ⟨by rfl, ?_⟩) ?_ ?_
                  rotate_left
                  ·
                   intro w'
                   go_simp
                   with_reducible rfl
                  rotate_left
                  ·
                   simp only [Act.put, s1, s2, s3, i64_w, i32_w]
                   rfl
                  refine pure_ (i := 20) (N := some 415) (v := ?_) (a' := ?_) #[true, true, true, true, true, true, true, true, true, true, true, true, true, true, true, true, true, true, true, true, true, false, false, false, false, false, false, false, false, false, false, false, false, false, false, false, false, false, false, false, false, false, false, false, false, false, false, false, false, false, false] rfl rfl (any_of HT_.out (by kernel_rfl)) (fun _ _ _ h => h) (Or.inl ⟨by rfl, ?_⟩) ?_ ?_
                  rotate_left
                  ·
                   intro w'
                   go_simp
                   with_reducible rfl
                  rotate_left
                  ·
                   simp only [Act.put, s1, s2, s3, i64_w, i32_w]
                   rfl
                  refine pure_ (i := 21) (N := some 416) (v := ?_) (a' := ?_) #[true, true, true, true, true, true, true, true, true, true, true, true, true, true, true, true, true, true, true, true, true, true, false, false, false, false, false, false, false, false, false, false, false, false, false, false, false, false, false, false, false, false, false, false, false, false, false, false, false, false, false] rfl rfl (any_of HT_.out (by kernel_rfl)) (fun _ _ _ h => h) (Or.inl ⟨by rfl, ?_⟩) ?_ ?_
                  rotate_left
                  ·
                   intro w'
                   go_simp
                   with_reducible rfl
                  rotate_left
                  ·
                   simp only [Act.put, s1, s2, s3, i64_w, i32_w]
                   rfl
                  refine pure_ (i := 22) (N := some 417) (v := ?_) (a' := ?_) #[true, true, true, true, true, true, true, true, true, true, true, true, true, true, true, true, true, true, true, true, true, true, true, false, false, false, false, false, false, false, false, false, false, false, false, false, false, false, false, false, false, false, false, false, false, false, false, false, false, false, false] rfl rfl (any_of HT_.out (by kernel_rfl)) (fun _ _ _ h => h) (Or.inl ⟨by rfl, ?_⟩) ?_ ?_
                  rotate_left
                  ·
                   intro w'
                   go_simp
                   with_reducible rfl
                  rotate_left
                  ·
                   simp only [Act.put, s1, s2, s3, i64_w, i32_w]
                   rfl
                  refine pure_ (i := 23) (N := some 418) (v := ?_) (a' := ?_) #[true, true, true, true, true, true, true, true, true, true, true, true, true, true, true, true, true, true, true, true, true, true, true, true, false, false, false, false, false, false, false, false, false, false, false, false, false, false, false, false, false, false, false, false, false, false, false, false, false, false, false] rfl rfl (any_of HT_.out (by kernel_rfl)) (fun _ _ _ h => h) (Or.inl ⟨by rfl, ?_⟩) ?_ ?_
                  rotate_left
                  ·
                   intro w'
                   go_simp
                   with_reducible rfl
                  rotate_left
                  ·
                   simp only [Act.put, s1, s2, s3, i64_w, i32_w]
                   rfl
                  refine pure_ (i := 24) (N := some 419) (v := ?_) (a' := ?_) #[true, true, true, true, true, true, true, true, true, true, true, true, true, true, true, true, true, true, true, true, true, true, true, true, true, false, false, false, false, false, false, false, false, false, false, false, false, false, false, false, false, false, false, false, false, false, false, false, false, false, false] rfl rfl (any_of HT_.out (by kernel_rfl)) (fun _ _ _ h => h) (Or.inl ⟨by rfl, ?_⟩) ?_ ?_
                  rotate_left
                  ·
                   intro w'
                   go_simp
                   with_reducible rfl
                  rotate_left
                  ·
                   simp only [Act.put, s1, s2, s3, i64_w, i32_w]
                   rfl
                  refine pure_ (i := 25) (N := some 420) (v := ?_) (a' := ?_) #[true, true, true, true, true, true, true, true, true, true, true, true, true, true, true, true, true, true, true, true, true, true, true, true, true, true, false, false, false, false, false, false, false, false, false, false, false, false, false, false, false, false, false, false, false, false, false, false, false, false, false] rfl rfl (any_of HT_.out (by kernel_rfl)) (fun _ _ _ h => h) (Or.inl ⟨by rfl, ?_⟩) ?_ ?_
                  rotate_left
                  ·
                   intro w'
                   go_simp
                   with_reducible rfl
                  rotate_left
                  ·
                   simp only [Act.put, s1, s2, s3, i64_w, i32_w]
                   rfl
                  refine pure_ (i := 26) (N := some 421) (v := ?_) (a' := ?_) #[true, true, true, true, true, true, true, true, true, true, true, true, true, true, true, true, true, true, true, true, true, true, true, true, true, true, true, false, false, false, false, false, false, false, false, false, false, false, false, false, false, false, false, false, false, false, false, false, false, false, false] rfl rfl (any_of HT_.out (by kernel_rfl)) (fun _ _ _ h => h) (Or.inl ⟨by rfl, ?_⟩) ?_ ?_
                  rotate_left
                  ·
                   intro w'
                   go_simp
                   with_reducible rfl
                  rotate_left
                  ·
                   simp only [Act.put, s1, s2, s3, i64_w, i32_w]
                   rfl
                  refine pure_ (i := 27) (N := some 422) (v := ?_) (a' := ?_) #[true, true, true, true, true, true, true, true, true, true, true, true, true, true, true, true, true, true, true, true, true, true, true, true, true, true, true, true, false, false, false, false, false, false, false, false, false, false, false, false, false, false, false, false, false, false, false, false, false, false, false] rfl rfl (any_of HT_.out (by kernel_rfl)) (fun _ _ _ h => h) (Or.inl ⟨by rfl, ?_⟩) ?_ ?_
                  rotate_left
                  ·
                   intro w'
                   go_simp
                   with_reducible rfl
                  rotate_left
                  ·
                   simp only [Act.put, s1, s2, s3, i64_w, i32_w]
                   rfl
                  refine pure_ (i := 28) (N := some 423) (v := ?_) (a' := ?_) #[true, true, true, true, true, true, true, true, true, true, true, true, true, true, true, true, true, true, true, true, true, true, true, true, true, true, true, true, true, false, false, false, false, false, false, false, false, false, false, false, false, false, false, false, false, false, false, false, false, false, false] rfl rfl (any_of HT_.out (by kernel_rfl)) (fun _ _ _ h => h) (Or.inl ⟨by rfl, ?_⟩) ?_ ?_
                  rotate_left
                  ·
                   intro w'
                   go_simp
                   with_reducible rfl
                  rotate_left
                  ·
                   simp only [Act.put, s1, s2, s3, i64_w, i32_w]
                   rfl
                  refine pure_ (i := 29) (N := some 424) (v := ?_) (a' := ?_) #[true, true, true, true, true, true, true, true, true, true, true, true, true, true, true, true, true, true, true, true, true, true, true, true, true, true, true, true, true, true, false, false, false, false, false, false, false, false, false, false, false, false, false, false, false, false, false, false, false, false, false] rfl rfl (any_of HT_.out (by kernel_rfl)) (fun _ _ _ h => h) (Or.inl ⟨by rfl, ?_⟩) ?_ ?_
                  rotate_left
                  ·
                   intro w'
                   go_simp
                   with_reducible rfl
                  rotate_left
                  ·
                   simp only [Act.put, s1, s2, s3, i64_w, i32_w]
                   rfl
                  refine take_ (i := 30) (N := some 425) (v := ?_) (a' := ?_) #[true, true, true, true, true, true, true, true, true, true, true, true, true, true, true, true, true, true, true, true, true, true, true, true, true, true, true, true, true, true, true, false, false, false, false, false, false, false, false, false, false, false, false, false, false, false, false, false, false, false, false] rfl rfl (take_ofW HT_.out HW_.out (by kernel_rfl)) (fun _ _ _ h => h) (Or.inl ⟨by rfl, ?_⟩) hHeld ?_ ?_
                  rotate_left
                  ·
                   rintro w' ⟨s0, s1⟩
                   go_simp
                   with_reducible rfl
                  rotate_left
                  ·
                   simp only [Act.put, s1, s2, s3, i64_w, i32_w]
                   rfl
                  refine one_ (i := 31) (N := some 426) #[true, true, true, true, true, true, true, true, true, true, true, true, true, true, true, true, true, true, true, true, true, true, true, true, true, true, true, true, true, true, true, true, false, false, false, false, false, false, false, false, false, false, false, false, false, false, false, false, false, false, false] rfl rfl (one_of HT_.out (by kernel_rfl)) (by decide) (fun K hK => ?_)
                  refine goes_ Try.func35 (by kernel_rfl) rfl #[.agg #[.int .i64 t407, .int .i64 t408]] (by rfl) rfl rfl (by (try simp only [List.map_toArray, List.map_cons, List.map_nil]); first | done | rfl | (simp only [List.length_drop, List.length_take]; rfl)) ?_
                  with_reducible refine (impl_IsPair.calls t407 t408 t426 _ A129.out).mono ?_
                  rintro e w136 ⟨rfl, hb⟩
                  refine ⟨_, rfl, ?_⟩
                  have n0_ := Aside0.mk (Kd.R_below (by (with_reducible repeat (first | apply Kd.R_alloc | apply Kd.R_drewN | apply Kd.R_drew)); exact HO400.out) hb)
                  have n1_ := Aside0.mk (Kd.R_below (by (with_reducible repeat (first | apply Kd.R_alloc | apply Kd.R_drewN | apply Kd.R_drew)); exact HO419.out) hb)
                  have n2_ := Aside0.mk (Kd.R_below (by (with_reducible repeat (first | apply Kd.R_alloc | apply Kd.R_drewN | apply Kd.R_drew)); exact HO421.out) hb)
                  have n3_ := Aside0.mk (blk_below (g := gb409) (by (with_reducible repeat (first | refine blk_drewN ?_ _ | refine blk_drew ?_ | refine blk_alloc ?_ _)); exact BK409.out) hb)
                  have n4_ := Aside0.mk (below_step (by repeat (first | (with_reducible first | exact HB.out | apply below_alloc | apply pw_below_drewN | apply below_drew1 | refine below_set ?_ GE409.out) | exact HB.out)) hb)
                  clear HO400
                  clear HO419
                  clear HO421
                  clear BK409
                  clear HB
                  have HO400 := n0_
                  have HO419 := n1_
                  have HO421 := n2_
                  have BK409 := n3_
                  have HB := n4_
                  clear n0_ n1_ n2_ n3_ n4_
                  (try clear hb)
                  (try clear hb2)
                  (try clear hk)
                  (try clear hi)
                  refine hK.out _ _ ⟨(blk_cell BK409.out 0).trans rfl, (blk_cell BK409.out 1).trans rfl⟩ (fun hHeld => ?_)
                  clear hK K
                  refine norm_ (a' := ?_) ?_ ?_
                  rotate_left
                  ·
                   show Act.put _ (some 426) _ = _
                   simp only [Act.put, s1, s2, s3, i64_w, i32_w]
                   rfl
                  refine pure_ (i := 32) (N := some 427) (v := ?_) (a' := ?_) #[true, true, true, true, true, true, true, true, true, true, true, true, true, true, true, true, true, true, true, true, true, true, true, true, true, true, true, true, true, true, true, true, true, false, false, false, false, false, false, false, false, false, false, false, false, false, false, false, false, false, false] rfl rfl (any_of HT_.out (by kernel_rfl)) (fun _ _ _ h => h) (Or.inl ⟨by rfl, ?_⟩) ?_ ?_
                  rotate_left
                  ·
                   intro w'
                   go_simp
                   with_reducible rfl
                  rotate_left
                  ·
                   simp only [Act.put, s1, s2, s3, i64_w, i32_w]
                   rfl
                  refine pure_ (i := 33) (N := some 428) (v := ?_) (a' := ?_) #[true, true, true, true, true, true, true, true, true, true, true, true, true, true, true, true, true, true, true, true, true, true, true, true, true, true, true, true, true, true, true, true, true, true, false, false, false, false, false, false, false, false, false, false, false, false, false, false, false, false, false] rfl rfl (any_of HT_.out (by kernel_rfl)) (fun _ _ _ h => h) (Or.inl ⟨by rfl, ?_⟩) ?_ ?_
                  rotate_left
                  ·
                   intro w'
                   go_simp
                   with_reducible rfl
                  rotate_left
                  ·
                   simp only [Act.put, s1, s2, s3, i64_w, i32_w]
                   rfl
                  refine pure_ (i := 34) (N := some 429) (v := ?_) (a' := ?_) #[true, true, true, true, true, true, true, true, true, true, true, true, true, true, true, true, true, true, true, true, true, true, true, true, true, true, true, true, true, true, true, true, true, true, true, false, false, false, false, false, false, false, false, false, false, false, false, false, false, false, false] rfl rfl (any_of HT_.out (by kernel_rfl)) (fun _ _ _ h => h) (Or.inl ⟨by rfl, ?_⟩) ?_ ?_
                  rotate_left
                  ·
                   intro w'
                   go_simp
                   with_reducible rfl
                  rotate_left
                  ·
                   simp only [Act.put, s1, s2, s3, i64_w, i32_w]
                   rfl
                  refine take_ (i := 35) (N := some 430) (v := ?_) (a' := ?_) #[true, true, true, true, true, true, true, true, true, true, true, true, true, true, true, true, true, true, true, true, true, true, true, true, true, true, true, true, true, true, true, true, true, true, true, true, false, false, false, false, false, false, false, false, false, false, false, false, false, false, false] rfl rfl (take_ofW HT_.out HW_.out (by kernel_rfl)) (fun _ _ _ h => h) (Or.inl ⟨by rfl, ?_⟩) hHeld ?_ ?_
                  rotate_left
                  ·
                   rintro w' ⟨s0, s1⟩
                   go_simp
                   with_reducible rfl
                  rotate_left
                  ·
                   simp only [Act.put, s1, s2, s3, i64_w, i32_w]
                   rfl
                  refine take_ (i := 37) (N := some 432) (v := ?_) (a' := ?_) #[true, true, true, true, true, true, true, true, true, true, true, true, true, true, true, true, true, true, true, true, true, true, true, true, true, true, true, true, true, true, true, true, true, true, true, true, false, true, false, false, false, false, false, false, false, false, false, false, false, false, false] rfl rfl (take_ofW HT_.out HW_.out (by kernel_rfl)) (fun _ _ _ h => h) (Or.inl ⟨by rfl, ?_⟩) hHeld ?_ ?_
                  rotate_left
                  ·
                   rintro w' ⟨s0, s1⟩
                   go_simp
                   with_reducible rfl
                  rotate_left
                  ·
                   simp only [Act.put, s1, s2, s3, i64_w, i32_w]
                   rfl
                  refine one_ (i := 36) (N := some 431) #[true, true, true, true, true, true, true, true, true, true, true, true, true, true, true, true, true, true, true, true, true, true, true, true, true, true, true, true, true, true, true, true, true, true, true, true, true, true, false, false, false, false, false, false, false, false, false, false, false, false, false] rfl rfl (one_of HT_.out (by kernel_rfl)) (by decide) (fun K hK => ?_)
                  refine goes_ Try.func35 (by kernel_rfl) rfl #[.agg #[.int .i64 t407, .int .i64 t408]] (by rfl) rfl rfl (by (try simp only [List.map_toArray, List.map_cons, List.map_nil]); first | done | rfl | (simp only [List.length_drop, List.length_take]; rfl)) ?_
                  with_reducible refine (impl_IsPair.calls t407 t408 t427 _ A131.out).mono ?_
                  rintro e w137 ⟨rfl, hb⟩
                  refine ⟨_, rfl, ?_⟩
                  have n0_ := Aside0.mk (Kd.R_below (by (with_reducible repeat (first | apply Kd.R_alloc | apply Kd.R_drewN | apply Kd.R_drew)); exact HO400.out) hb)
                  have n1_ := Aside0.mk (Kd.R_below (by (with_reducible repeat (first | apply Kd.R_alloc | apply Kd.R_drewN | apply Kd.R_drew)); exact HO419.out) hb)
                  have n2_ := Aside0.mk (Kd.R_below (by (with_reducible repeat (first | apply Kd.R_alloc | apply Kd.R_drewN | apply Kd.R_drew)); exact HO421.out) hb)
                  have n3_ := Aside0.mk (blk_below (g := gb409) (by (with_reducible repeat (first | refine blk_drewN ?_ _ | refine blk_drew ?_ | refine blk_alloc ?_ _)); exact BK409.out) hb)
                  have n4_ := Aside0.mk (below_step (by repeat (first | (with_reducible first | exact HB.out | apply below_alloc | apply pw_below_drewN | apply below_drew1 | refine below_set ?_ GE409.out) | exact HB.out)) hb)
                  clear HO400
                  clear HO419
                  clear HO421
                  clear BK409
                  clear HB
                  have HO400 := n0_
                  have HO419 := n1_
                  have HO421 := n2_
                  have BK409 := n3_
                  have HB := n4_
                  clear n0_ n1_ n2_ n3_ n4_
                  (try clear hb)
                  (try clear hb2)
                  (try clear hk)
                  (try clear hi)
                  refine hK.out _ _ ⟨(blk_cell BK409.out 0).trans rfl, (blk_cell BK409.out 1).trans rfl⟩ (fun hHeld => ?_)
                  clear hK K
                  refine norm_ (a' := ?_) ?_ ?_
                  rotate_left
                  ·
                   show Act.put _ (some 431) _ = _
                   simp only [Act.put, s1, s2, s3, i64_w, i32_w]
                   rfl
                  refine one_ (i := 38) (N := some 433) #[true, true, true, true, true, true, true, true, true, true, true, true, true, true, true, true, true, true, true, true, true, true, true, true, true, true, true, true, true, true, true, true, true, true, true, true, true, true, true, false, false, false, false, false, false, false, false, false, false, false, false] rfl rfl (one_of HT_.out (by kernel_rfl)) (by decide) (fun K hK => ?_)
                  refine goes_ Try.func38 (by kernel_rfl) rfl #[.agg #[.int .i64 t407, .int .i64 t408]] (by rfl) rfl rfl (by (try simp only [List.map_toArray, List.map_cons, List.map_nil]); first | done | rfl | (simp only [List.length_drop, List.length_take]; rfl)) ?_
                  with_reducible refine (spec_IsPair.calls t407 t408 t428 _ A132.out).mono ?_
                  rintro e w138 ⟨rfl, hb⟩
                  refine ⟨_, rfl, ?_⟩
                  have n0_ := Aside0.mk (Kd.R_below (by (with_reducible repeat (first | apply Kd.R_alloc | apply Kd.R_drewN | apply Kd.R_drew)); exact HO400.out) hb)
                  have n1_ := Aside0.mk (Kd.R_below (by (with_reducible repeat (first | apply Kd.R_alloc | apply Kd.R_drewN | apply Kd.R_drew)); exact HO419.out) hb)
                  have n2_ := Aside0.mk (Kd.R_below (by (with_reducible repeat (first | apply Kd.R_alloc | apply Kd.R_drewN | apply Kd.R_drew)); exact HO421.out) hb)
                  have n3_ := Aside0.mk (blk_below (g := gb409) (by (with_reducible repeat (first | refine blk_drewN ?_ _ | refine blk_drew ?_ | refine blk_alloc ?_ _)); exact BK409.out) hb)
                  have n4_ := Aside0.mk (below_step (by repeat (first | (with_reducible first | exact HB.out | apply below_alloc | apply pw_below_drewN | apply below_drew1 | refine below_set ?_ GE409.out) | exact HB.out)) hb)
                  clear HO400
                  clear HO419
                  clear HO421
                  clear BK409
                  clear HB
                  have HO400 := n0_
                  have HO419 := n1_
                  have HO421 := n2_
                  have BK409 := n3_
                  have HB := n4_
                  clear n0_ n1_ n2_ n3_ n4_
                  (try clear hb)
                  (try clear hb2)
                  (try clear hk)
                  (try clear hi)
                  refine hK.out _ _ ⟨(blk_cell BK409.out 0).trans rfl, (blk_cell BK409.out 1).trans rfl⟩ (fun hHeld => ?_)
                  clear hK K
                  refine norm_ (a' := ?_) ?_ ?_
                  rotate_left
                  ·
                   show Act.put _ (some 433) _ = _
                   simp only [Act.put, s1, s2, s3, i64_w, i32_w]
                   rfl
                  refine pure_ (i := 39) (N := some 434) (v := ?_) (a' := ?_) #[true, true, true, true, true, true, true, true, true, true, true, true, true, true, true, true, true, true, true, true, true, true, true, true, true, true, true, true, true, true, true, true, true, true, true, true, true, true, true, true, false, false, false, false, false, false, false, false, false, false, false] rfl rfl (any_of HT_.out (by kernel_rfl)) (fun _ _ _ h => h) (Or.inl ⟨by rfl, ?_⟩) ?_ ?_
                  rotate_left
                  ·
                   intro w'
                   go_simp
                   with_reducible rfl
                  rotate_left
                  ·
                   simp only [Act.put, s1, s2, s3, i64_w, i32_w]
                   rfl
                  refine pure_ (i := 40) (N := some 435) (v := ?_) (a' := ?_) #[true, true, true, true, true, true, true, true, true, true, true, true, true, true, true, true, true, true, true, true, true, true, true, true, true, true, true, true, true, true, true, true, true, true, true, true, true, true, true, true, true, false, false, false, false, false, false, false, false, false, false] rfl rfl (any_of HT_.out (by kernel_rfl)) (fun _ _ _ h => h) (Or.inl ⟨by rfl, ?_⟩) ?_ ?_
                  rotate_left
                  ·
                   intro w'
                   go_simp
                   with_reducible rfl
                  rotate_left
                  ·
                   simp only [Act.put, s1, s2, s3, i64_w, i32_w]
                   rfl
                  refine pure_ (i := 41) (N := some 436) (v := ?_) (a' := ?_) #[true, true, true, true, true, true, true, true, true, true, true, true, true, true, true, true, true, true, true, true, true, true, true, true, true, true, true, true, true, true, true, true, true, true, true, true, true, true, true, true, true, true, false, false, false, false, false, false, false, false, false] rfl rfl (any_of HT_.out (by kernel_rfl)) (fun _ _ _ h => h) (Or.inl ⟨by rfl, ?_⟩) ?_ ?_
                  rotate_left
                  ·
                   intro w'
                   go_simp
                   with_reducible rfl
                  rotate_left
                  ·
                   simp only [Act.put, s1, s2, s3, i64_w, i32_w]
                   rfl
                  refine pure_ (i := 42) (N := some 437) (v := ?_) (a' := ?_) #[true, true, true, true, true, true, true, true, true, true, true, true, true, true, true, true, true, true, true, true, true, true, true, true, true, true, true, true, true, true, true, true, true, true, true, true, true, true, true, true, true, true, true, false, false, false, false, false, false, false, false] rfl rfl (any_of HT_.out (by kernel_rfl)) (fun _ _ _ h => h) (Or.inl ⟨by rfl, ?_⟩) ?_ ?_
                  rotate_left
                  ·
                   intro w'
                   go_simp
                   with_reducible rfl
                  rotate_left
                  ·
                   simp only [Act.put, s1, s2, s3, i64_w, i32_w]
                   rfl
                  refine pure_ (i := 43) (N := some 438) (v := ?_) (a' := ?_) #[true, true, true, true, true, true, true, true, true, true, true, true, true, true, true, true, true, true, true, true, true, true, true, true, true, true, true, true, true, true, true, true, true, true, true, true, true, true, true, true, true, true, true, true, false, false, false, false, false, false, false] rfl rfl (any_of HT_.out (by kernel_rfl)) (fun _ _ _ h => h) (Or.inl ⟨by rfl, ?_⟩) ?_ ?_
                  rotate_left
                  ·
                   intro w'
                   go_simp
                   with_reducible rfl
                  rotate_left
                  ·
                   simp only [Act.put, s1, s2, s3, i64_w, i32_w]
                   rfl
                  refine pure_ (i := 44) (N := some 439) (v := ?_) (a' := ?_) #[true, true, true, true, true, true, true, true, true, true, true, true, true, true, true, true, true, true, true, true, true, true, true, true, true, true, true, true, true, true, true, true, true, true, true, true, true, true, true, true, true, true, true, true, true, false, false, false, false, false, false] rfl rfl (any_of HT_.out (by kernel_rfl)) (fun _ _ _ h => h) (Or.inl ⟨by rfl, ?_⟩) ?_ ?_
                  rotate_left
                  ·
                   intro w'
                   go_simp
                   with_reducible rfl
                  rotate_left
                  ·
                   simp only [Act.put, s1, s2, s3, i64_w, i32_w]
                   rfl
                  refine pure_ (i := 45) (N := some 440) (v := ?_) (a' := ?_) #[true, true, true, true, true, true, true, true, true, true, true, true, true, true, true, true, true, true, true, true, true, true, true, true, true, true, true, true, true, true, true, true, true, true, true, true, true, true, true, true, true, true, true, true, true, true, false, false, false, false, false] rfl rfl (any_of HT_.out (by kernel_rfl)) (fun _ _ _ h => h) (Or.inl ⟨by rfl, ?_⟩) ?_ ?_
                  rotate_left
                  ·
                   intro w'
                   go_simp
                   with_reducible rfl
                  rotate_left
                  ·
                   simp only [Act.put, s1, s2, s3, i64_w, i32_w]
                   rfl
                  refine pure_ (i := 46) (N := some 441) (v := ?_) (a' := ?_) #[true, true, true, true, true, true, true, true, true, true, true, true, true, true, true, true, true, true, true, true, true, true, true, true, true, true, true, true, true, true, true, true, true, true, true, true, true, true, true, true, true, true, true, true, true, true, true, false, false, false, false] rfl rfl (any_of HT_.out (by kernel_rfl)) (fun _ _ _ h => h) (Or.inl ⟨by rfl, ?_⟩) ?_ ?_
                  rotate_left
                  ·
                   intro w'
                   go_simp
                   with_reducible rfl
                  rotate_left
                  ·
                   simp only [Act.put, s1, s2, s3, i64_w, i32_w]
                   rfl
                  refine pure_ (i := 47) (N := some 442) (v := ?_) (a' := ?_) #[true, true, true, true, true, true, true, true, true, true, true, true, true, true, true, true, true, true, true, true, true, true, true, true, true, true, true, true, true, true, true, true, true, true, true, true, true, true, true, true, true, true, true, true, true, true, true, true, false, false, false] rfl rfl (any_of HT_.out (by kernel_rfl)) (fun _ _ _ h => h) (Or.inl ⟨by rfl, ?_⟩) ?_ ?_
                  rotate_left
                  ·
                   intro w'
                   go_simp
                   with_reducible rfl
                  rotate_left
                  ·
                   simp only [Act.put, s1, s2, s3, i64_w, i32_w]
                   rfl
                  refine pure_ (i := 48) (N := some 443) (v := ?_) (a' := ?_) #[true, true, true, true, true, true, true, true, true, true, true, true, true, true, true, true, true, true, true, true, true, true, true, true, true, true, true, true, true, true, true, true, true, true, true, true, true, true, true, true, true, true, true, true, true, true, true, true, true, false, false] rfl rfl (any_of HT_.out (by kernel_rfl)) (fun _ _ _ h => h) (Or.inl ⟨by rfl, ?_⟩) ?_ ?_
                  rotate_left
                  ·
                   intro w'
                   go_simp
                   with_reducible rfl
                  rotate_left
                  ·
                   simp only [Act.put, s1, s2, s3, i64_w, i32_w]
                   rfl
                  refine pure_ (i := 49) (N := some 444) (v := ?_) (a' := ?_) #[true, true, true, true, true, true, true, true, true, true, true, true, true, true, true, true, true, true, true, true, true, true, true, true, true, true, true, true, true, true, true, true, true, true, true, true, true, true, true, true, true, true, true, true, true, true, true, true, true, true, false] rfl rfl (any_of HT_.out (by kernel_rfl)) (fun _ _ _ h => h) (Or.inl ⟨by rfl, ?_⟩) ?_ ?_
                  rotate_left
                  ·
                   intro w'
                   go_simp
                   with_reducible rfl
                  rotate_left
                  ·
                   simp only [Act.put, s1, s2, s3, i64_w, i32_w]
                   rfl
                  refine pure_ (i := 50) (N := some 445) (v := ?_) (a' := ?_) #[true, true, true, true, true, true, true, true, true, true, true, true, true, true, true, true, true, true, true, true, true, true, true, true, true, true, true, true, true, true, true, true, true, true, true, true, true, true, true, true, true, true, true, true, true, true, true, true, true, true, true] rfl rfl (any_of HT_.out (by kernel_rfl)) (fun _ _ _ h => h) (Or.inl ⟨by rfl, ?_⟩) ?_ ?_
                  rotate_left
                  ·
                   intro w'
                   go_simp
                   with_reducible rfl
                  rotate_left
                  ·
                   simp only [Act.put, s1, s2, s3, i64_w, i32_w]
                   rfl
                  refine done_ (done_of HT_.out (by kernel_rfl)) ?_
                  try go_wp2
                  go_meet
                  case rel => exact ⟨_, ((t422 != t424)), (by first | rfl | (simp; done) | (simp [*]; done)), H', ⟨by have := HJ15.out; have := HJ54.out; first | omega | exact Nat.le_refl _⟩, ⟨by (with_reducible repeat (first | apply Kd.R_alloc | apply Kd.R_drewN | apply Kd.R_drew)); exact Kd.R_mono HO400.out (fun _ hk => ⟨hk.1.2, ⟨hk.2, hk.1.1.2⟩⟩)⟩, ⟨by (with_reducible repeat (first | apply Kd.R_alloc | apply Kd.R_drewN | apply Kd.R_drew)); exact Kd.R_mono HO419.out (fun _ hk => ⟨hk.1.2, ⟨hk.1.1, hk.2⟩⟩)⟩, ⟨by (with_reducible repeat (first | apply Kd.R_alloc | apply Kd.R_drewN | apply Kd.R_drew)); exact Kd.R_mono HO421.out (fun _ hk => ⟨hk.1.2, ⟨hk.1.1, hk.2⟩⟩)⟩, ⟨by (with_reducible repeat (first | refine blk_drewN ?_ _ | refine blk_drew ?_ | refine blk_alloc ?_ _)); exact BK409.out⟩, ⟨by repeat (first | (with_reducible first | exact HB.out | apply below_alloc | apply pw_below_drewN | apply below_drew1 | refine below_set ?_ GE409.out) | exact HB.out)⟩⟩
             ·
              rw [if_neg c128] at H
              exact absurd H (by simp)
            ·
             rw [if_neg c127] at H
             exact absurd H (by simp)
          ·
           rw [if_neg c125] at H
           exact absurd H (by simp)
         ·
          rw [if_neg c124] at H
          exact absurd H (by simp)
       case rest => as_aux_lemma =>
        clear HC107
        try clear c1
        try clear c4
        obtain ⟨kq, x445_106, rfl, HA, HJ106, HO_42, HO_57, HO_58, BK409, HB⟩ := hcut
        cases kq with
        | zero => exact absurd HA.out (by simp [j5])
        | succ kj106 =>
         have H := HA.out
         clear HA
         simp only [j5] at H
         by_cases c139 : x445_106 = true
         ·
          subst c139
          have H1 : (none) = some r := by rw [if_pos rfl] at H; exact H
          clear H
          have H := H1
          clear H1
          exact absurd H (by simp)
         ·
          replace c139 := Bool.eq_false_iff.mpr c139
          subst c139
          have H1 : (if t403 = true then ((impl_RatioOf.f kj106 t397).bind fun bt429 => ((impl_DirectionOf.f kj106 t397).bind fun bt432 => (if bt429.2.2 = true then (if bt432.2 = true then (if t402 < 1 then (none) else (if (wrap64 (t401 * bt429.2.1)) = (wrap64 ((wrap64 ((wrap64 (bt429.1 * t398)) * bt432.1)) * t402)) then (j6 kj106 t410 t411 t412 t416 t417 t422 t423 t407 t408) else (none))) else (none)) else (none)))) else (j6 kj106 t410 t411 t412 t416 t417 t422 t423 t407 t408)) = some r := by rw [if_neg (show ¬ (false = true) by decide)] at H; exact H
          clear H
          have H := H1
          clear H1
          have HC140 := Aside0.mk H
          clear H
          go_upto_if 446 with (fail)
          go_cut [] from 446 to 510 (fun wc => ∃ (kq : Nat), Aside0 (j6 kq t410 t411 t412 t416 t417 t422 t423 t407 t408 = some r) ∧ Aside0 (kq ≤ kj106) ∧ Aside0 (Kd.R k41 41 wc w.heap.size (fun k_ => some k_ ≠ ((.slice Ao120 t417.length co120) : Value).ownBlock ∧ k_ ≠ gb409) (.slice Ao119 t416.length co119) t416) ∧ Aside0 (Kd.R k41 41 wc w.heap.size (fun k_ => some k_ ≠ ((.slice Ao119 t416.length co119) : Value).ownBlock ∧ k_ ≠ gb409) (.slice Ao120 t417.length co120) t417) ∧ Aside0 (wc.heap[gb409]? = some (.cells #[.int .i64 t407, .int .i64 t408] 41 (0, 0))) ∧ Aside0 (Below w.heap.size w wc))
          case first => as_aux_lemma =>
           have H := HC140.out
           clear HC140
           by_cases c141 : t403 = true
           ·
            subst c141
            have H1 : ((impl_RatioOf.f kj106 t397).bind fun bt429 => ((impl_DirectionOf.f kj106 t397).bind fun bt432 => (if bt429.2.2 = true then (if bt432.2 = true then (if t402 < 1 then (none) else (if (wrap64 (t401 * bt429.2.1)) = (wrap64 ((wrap64 ((wrap64 (bt429.1 * t398)) * bt432.1)) * t402)) then (j6 kj106 t410 t411 t412 t416 t417 t422 t423 t407 t408) else (none))) else (none)) else (none)))) = some r := by rw [if_pos rfl] at H; exact H
            clear H
            have H := H1
            clear H1
            replace H := Option.bind_eq_some_iff.mp H
            obtain ⟨⟨t429, t430, t431⟩, A1420, H⟩ := H
            try dsimp only at H
            have A142 := Aside0.mk A1420
            clear A1420
            replace H := Option.bind_eq_some_iff.mp H
            obtain ⟨⟨t432, t433⟩, A1430, H⟩ := H
            try dsimp only at H
            have A143 := Aside0.mk A1430
            clear A1430
            by_cases c144 : t431 = true
            ·
             subst c144
             have H1 : (if t433 = true then (if t402 < 1 then (none) else (if (wrap64 (t401 * t430)) = (wrap64 ((wrap64 ((wrap64 (t429 * t398)) * t432)) * t402)) then (j6 kj106 t410 t411 t412 t416 t417 t422 t423 t407 t408) else (none))) else (none)) = some r := by rw [if_pos rfl] at H; exact H
             clear H
             have H := H1
             clear H1
             by_cases c145 : t433 = true
             ·
              subst c145
              have H1 : (if t402 < 1 then (none) else (if (wrap64 (t401 * t430)) = (wrap64 ((wrap64 ((wrap64 (t429 * t398)) * t432)) * t402)) then (j6 kj106 t410 t411 t412 t416 t417 t422 t423 t407 t408) else (none))) = some r := by rw [if_pos rfl] at H; exact H
              clear H
              have H := H1
              clear H1
              by_cases c146 : t402 < 1
              ·
               rw [if_pos c146] at H
               exact absurd H (by simp)
              ·
               rw [if_neg c146] at H
               have c146b0 : decide (t402 < 1) = false := decide_eq_false c146
               clear c146
               (first | rw [c146b0] | (simp only [i64_w, i32_w]; rw [c146b0]) | skip)
               by_cases c147 : (wrap64 (t401 * t430)) = (wrap64 ((wrap64 ((wrap64 (t429 * t398)) * t432)) * t402))
               ·
                rw [if_pos c147] at H
                have c147b0 : ((wrap64 (t401 * t430)) == (wrap64 ((wrap64 ((wrap64 (t429 * t398)) * t432)) * t402))) = true := beq_iff_eq.mpr c147
                have c147b1 : ((wrap64 (t401 * t430)) != (wrap64 ((wrap64 ((wrap64 (t429 * t398)) * t432)) * t402))) = false := bne_eq_false_iff_eq.mpr c147
                clear c147
                as_aux_lemma =>
                 have H' := Aside0.mk H
                 clear H
                 go_wp2_with (first | ((with_reducible refine gate_callee (f := 23) rfl ?_); refine goesL_ (some 449) rfl rfl Try.func23 (by kernel_rfl) rfl #[.slice Ao109 t397.length co109] rfl (by (try simp only [List.map_toArray, List.map_cons, List.map_nil]); first | done | rfl | (simp only [List.length_drop, List.length_take]; rfl)) ?_; (with_reducible refine (impl_RatioOf.calls kj106 _ _ t397 t429 t430 true _ ?side1 ?side2 A142.out).mono ?_); (case side1 => repeat (first | exact (Kd.R_reads' HO_42.out).2.2 | (with_reducible refine Kd.C_alloc ?_ _) | (with_reducible refine Kd.C_drewN ?_ _) | (with_reducible refine Kd.C_drew ?_))); (case side2 => exact (Kd.R_reads' HO_42.out).2.1); rintro e w148 ⟨rfl, hb⟩; refine ⟨_, rfl, ?_⟩; have n0_ := Aside0.mk (Kd.R_below (by (with_reducible repeat (first | apply Kd.R_alloc | apply Kd.R_drewN | apply Kd.R_drew)); exact HO_42.out) hb); have n1_ := Aside0.mk (Kd.R_below (by (with_reducible repeat (first | apply Kd.R_alloc | apply Kd.R_drewN | apply Kd.R_drew)); exact HO_57.out) hb); have n2_ := Aside0.mk (Kd.R_below (by (with_reducible repeat (first | apply Kd.R_alloc | apply Kd.R_drewN | apply Kd.R_drew)); exact HO_58.out) hb); have n3_ := Aside0.mk (blk_below (g := gb409) (by (with_reducible repeat (first | refine blk_drewN ?_ _ | refine blk_drew ?_ | refine blk_alloc ?_ _)); exact BK409.out) hb); have n4_ := Aside0.mk (below_step (by repeat (first | (with_reducible first | exact HB.out | apply below_alloc | apply pw_below_drewN | apply below_drew1 | refine below_set ?_ GE409.out) | exact HB.out)) hb); clear HO_42; clear HO_57; clear HO_58; clear BK409; clear HB; have HO_42 := n0_; have HO_57 := n1_; have HO_58 := n2_; have BK409 := n3_; have HB := n4_; clear n0_ n1_ n2_ n3_ n4_; (try clear hb); (try clear hb2); (try clear hk); (try clear hi)) | ((with_reducible refine gate_callee (f := 19) rfl ?_); refine goesL_ (some 455) rfl rfl Try.func19 (by kernel_rfl) rfl #[.slice Ao109 t397.length co109] rfl (by (try simp only [List.map_toArray, List.map_cons, List.map_nil]); first | done | rfl | (simp only [List.length_drop, List.length_take]; rfl)) ?_; (with_reducible refine (impl_DirectionOf.calls kj106 _ _ t397 t432 true _ ?side1 ?side2 A143.out).mono ?_); (case side1 => repeat (first | exact (Kd.R_reads' HO_42.out).2.2 | (with_reducible refine Kd.C_alloc ?_ _) | (with_reducible refine Kd.C_drewN ?_ _) | (with_reducible refine Kd.C_drew ?_))); (case side2 => exact (Kd.R_reads' HO_42.out).2.1); rintro e w149 ⟨rfl, hb⟩; refine ⟨_, rfl, ?_⟩; have n0_ := Aside0.mk (Kd.R_below (by (with_reducible repeat (first | apply Kd.R_alloc | apply Kd.R_drewN | apply Kd.R_drew)); exact HO_42.out) hb); have n1_ := Aside0.mk (Kd.R_below (by (with_reducible repeat (first | apply Kd.R_alloc | apply Kd.R_drewN | apply Kd.R_drew)); exact HO_57.out) hb); have n2_ := Aside0.mk (Kd.R_below (by (with_reducible repeat (first | apply Kd.R_alloc | apply Kd.R_drewN | apply Kd.R_drew)); exact HO_58.out) hb); have n3_ := Aside0.mk (blk_below (g := gb409) (by (with_reducible repeat (first | refine blk_drewN ?_ _ | refine blk_drew ?_ | refine blk_alloc ?_ _)); exact BK409.out) hb); have n4_ := Aside0.mk (below_step (by repeat (first | (with_reducible first | exact HB.out | apply below_alloc | apply pw_below_drewN | apply below_drew1 | refine below_set ?_ GE409.out) | exact HB.out)) hb); clear HO_42; clear HO_57; clear HO_58; clear BK409; clear HB; have HO_42 := n0_; have HO_57 := n1_; have HO_58 := n2_; have BK409 := n3_; have HB := n4_; clear n0_ n1_ n2_ n3_ n4_; (try clear hb); (try clear hb2); (try clear hk); (try clear hi)))
                 go_meet
                 case rel => exact ⟨_, H', ⟨by have := HJ15.out; have := HJ54.out; have := HJ106.out; first | omega | exact Nat.le_refl _⟩, ⟨by (with_reducible repeat (first | apply Kd.R_alloc | apply Kd.R_drewN | apply Kd.R_drew)); exact Kd.R_mono HO_57.out (fun _ hk => ⟨hk.2.1, hk.2.2⟩)⟩, ⟨by (with_reducible repeat (first | apply Kd.R_alloc | apply Kd.R_drewN | apply Kd.R_drew)); exact Kd.R_mono HO_58.out (fun _ hk => ⟨hk.2.1, hk.2.2⟩)⟩, ⟨by (with_reducible repeat (first | refine blk_drewN ?_ _ | refine blk_drew ?_ | refine blk_alloc ?_ _)); exact BK409.out⟩, ⟨by repeat (first | (with_reducible first | exact HB.out | apply below_alloc | apply pw_below_drewN | apply below_drew1 | refine below_set ?_ GE409.out) | exact HB.out)⟩⟩
               ·
                rw [if_neg c147] at H
                exact absurd H (by simp)
             ·
              replace c145 := Bool.eq_false_iff.mpr c145
              subst c145
              have H1 : (none) = some r := by rw [if_neg (show ¬ (false = true) by decide)] at H; exact H
              clear H
              have H := H1
              clear H1
              exact absurd H (by simp)
            ·
             replace c144 := Bool.eq_false_iff.mpr c144
             subst c144
             have H1 : (none) = some r := by rw [if_neg (show ¬ (false = true) by decide)] at H; exact H
             clear H
             have H := H1
             clear H1
             exact absurd H (by simp)
           ·
            replace c141 := Bool.eq_false_iff.mpr c141
            subst c141
            have H1 : (j6 kj106 t410 t411 t412 t416 t417 t422 t423 t407 t408) = some r := by rw [if_neg (show ¬ (false = true) by decide)] at H; exact H
            clear H
            have H := H1
            clear H1
            as_aux_lemma =>
             have H' := Aside0.mk H
             clear H
             go_wp2
             go_meet
             case rel => exact ⟨_, H', ⟨by have := HJ15.out; have := HJ54.out; have := HJ106.out; first | omega | exact Nat.le_refl _⟩, ⟨by (with_reducible repeat (first | apply Kd.R_alloc | apply Kd.R_drewN | apply Kd.R_drew)); exact Kd.R_mono HO_57.out (fun _ hk => ⟨hk.2.1, hk.2.2⟩)⟩, ⟨by (with_reducible repeat (first | apply Kd.R_alloc | apply Kd.R_drewN | apply Kd.R_drew)); exact Kd.R_mono HO_58.out (fun _ hk => ⟨hk.2.1, hk.2.2⟩)⟩, ⟨by (with_reducible repeat (first | refine blk_drewN ?_ _ | refine blk_drew ?_ | refine blk_alloc ?_ _)); exact BK409.out⟩, ⟨by repeat (first | (with_reducible first | exact HB.out | apply below_alloc | apply pw_below_drewN | apply below_drew1 | refine below_set ?_ GE409.out) | exact HB.out)⟩⟩
          case rest => as_aux_lemma =>
           clear HC140
           try clear c1
           try clear c4
           try clear c139
           obtain ⟨kq, HA, HJ139, HO_57, HO_58, BK409, HB⟩ := hcut
           cases kq with
           | zero => exact absurd HA.out (by simp [j6])
           | succ kj139 =>
            have H := HA.out
            clear HA
            simp only [j6] at H
            have HC150 := Aside0.mk H
            clear H
            go_upto_region 55 with (fail)
            go_cut [510] from 446 to 510 (fun v510 wc => ∃ (kq : Nat) (x510_149 : Bool), v510 = .bool x510_149 ∧ Aside0 (j7 kq t416 t417 t422 t423 x510_149 = some r) ∧ Aside0 (kq ≤ kj139) ∧ Aside0 (Kd.R k41 41 wc w.heap.size (fun k_ => some k_ ≠ ((.slice Ao120 t417.length co120) : Value).ownBlock ∧ k_ ≠ gb409) (.slice Ao119 t416.length co119) t416) ∧ Aside0 (Kd.R k41 41 wc w.heap.size (fun k_ => some k_ ≠ ((.slice Ao119 t416.length co119) : Value).ownBlock ∧ k_ ≠ gb409) (.slice Ao120 t417.length co120) t417) ∧ Aside0 (wc.heap[gb409]? = some (.cells #[.int .i64 t407, .int .i64 t408] 41 (0, 0))) ∧ Aside0 (Below w.heap.size w wc))
            case first => as_aux_lemma =>
             have H := HC150.out
             clear HC150
             by_cases c151 : t412 = true
             ·
              subst c151
              have H1 : (if (wrap64 (t410 * t407)) = (wrap64 (t411 * t408)) then (if t410 < 1 then (none) else (if t410 = 0 then (none) else (if (Int.tmod t408 t410) = 0 then (if t411 = 0 then (none) else (j7 kj139 t416 t417 t422 t423 ((Int.tmod t407 t411) != 0))) else (none)))) else (none)) = some r := by rw [if_pos rfl] at H; exact H
              clear H
              have H := H1
              clear H1
              by_cases c152 : (wrap64 (t410 * t407)) = (wrap64 (t411 * t408))
              ·
               rw [if_pos c152] at H
               have c152b0 : ((wrap64 (t410 * t407)) == (wrap64 (t411 * t408))) = true := beq_iff_eq.mpr c152
               have c152b1 : ((wrap64 (t410 * t407)) != (wrap64 (t411 * t408))) = false := bne_eq_false_iff_eq.mpr c152
               clear c152
               (first | rw [c152b0] | (simp only [i64_w, i32_w]; rw [c152b0]) | skip)
               by_cases c153 : t410 < 1
               ·
                rw [if_pos c153] at H
                exact absurd H (by simp)
               ·
                rw [if_neg c153] at H
                have c153b0 : decide (t410 < 1) = false := decide_eq_false c153
                clear c153
                by_cases c154 : t410 = 0
                ·
                 rw [if_pos c154] at H
                 exact absurd H (by simp)
                ·
                 rw [if_neg c154] at H
                 have c154b0 : (t410 == 0) = false := beq_eq_false_iff_ne.mpr c154
                 have c154b1 : (t410 != 0) = true := bne_iff_ne.mpr c154
                 by_cases c155 : (Int.tmod t408 t410) = 0
                 ·
                  rw [if_pos c155] at H
                  have c155b0 : ((Int.tmod t408 t410) == 0) = true := beq_iff_eq.mpr c155
                  have c155b1 : ((Int.tmod t408 t410) != 0) = false := bne_eq_false_iff_eq.mpr c155
                  clear c155
                  by_cases c156 : t411 = 0
                  ·
                   rw [if_pos c156] at H
                   exact absurd H (by simp)
                  ·
                   rw [if_neg c156] at H
                   have c156b0 : (t411 == 0) = false := beq_eq_false_iff_ne.mpr c156
                   have c156b1 : (t411 != 0) = true := bne_iff_ne.mpr c156
                   as_aux_lemma =>
                    have H' := Aside0.mk H
                    clear H
                    have hcz157_0 : wc.cell? ⟨gb409, 0, none⟩ = some (.int .i64 t407) := (blk_cell BK409.out 0).trans rfl
                    have hcz157_1 : wc.cell? ⟨gb409, 1, none⟩ = some (.int .i64 t408) := (blk_cell BK409.out 1).trans rfl
                    have hfz157_0 := blk_frozen BK409.out 0
                    have hfz157_1 := blk_frozen BK409.out 1
                    go_wp2
                    go_meet
                    case rel => exact ⟨_, (((Int.tmod t407 t411) != 0)), (by first | rfl | (simp; done) | (simp [*]; done)), H', ⟨by have := HJ15.out; have := HJ54.out; have := HJ106.out; have := HJ139.out; first | omega | exact Nat.le_refl _⟩, ⟨by (with_reducible repeat (first | apply Kd.R_alloc | apply Kd.R_drewN | apply Kd.R_drew)); exact HO_57.out⟩, ⟨by (with_reducible repeat (first | apply Kd.R_alloc | apply Kd.R_drewN | apply Kd.R_drew)); exact HO_58.out⟩, ⟨by (with_reducible repeat (first | refine blk_drewN ?_ _ | refine blk_drew ?_ | refine blk_alloc ?_ _)); exact BK409.out⟩, ⟨by repeat (first | (with_reducible first | exact HB.out | apply below_alloc | apply pw_below_drewN | apply below_drew1 | refine below_set ?_ GE409.out) | exact HB.out)⟩⟩
                 ·
                  rw [if_neg c155] at H
                  exact absurd H (by simp)
              ·
               rw [if_neg c152] at H
               exact absurd H (by simp)
             ·
              replace c151 := Bool.eq_false_iff.mpr c151
              subst c151
              have H1 : (j7 kj139 t416 t417 t422 t423 false) = some r := by rw [if_neg (show ¬ (false = true) by decide)] at H; exact H
              clear H
              have H := H1
              clear H1
              as_aux_lemma =>
               have H' := Aside0.mk H
               clear H
               go_wp2
               go_meet
               case rel => exact ⟨_, (false), (by first | rfl | (simp; done) | (simp [*]; done)), H', ⟨by have := HJ15.out; have := HJ54.out; have := HJ106.out; have := HJ139.out; first | omega | exact Nat.le_refl _⟩, ⟨by (with_reducible repeat (first | apply Kd.R_alloc | apply Kd.R_drewN | apply Kd.R_drew)); exact HO_57.out⟩, ⟨by (with_reducible repeat (first | apply Kd.R_alloc | apply Kd.R_drewN | apply Kd.R_drew)); exact HO_58.out⟩, ⟨by (with_reducible repeat (first | refine blk_drewN ?_ _ | refine blk_drew ?_ | refine blk_alloc ?_ _)); exact BK409.out⟩, ⟨by repeat (first | (with_reducible first | exact HB.out | apply below_alloc | apply pw_below_drewN | apply below_drew1 | refine below_set ?_ GE409.out) | exact HB.out)⟩⟩
            case rest => as_aux_lemma =>
             clear HC150
             try clear c1
             try clear c4
             try clear c139
             obtain ⟨kq, x510_149, rfl, HA, HJ149, HO_57, HO_58, BK409, HB⟩ := hcut
             cases kq with
             | zero => exact absurd HA.out (by simp [j7])
             | succ kj149 =>
              have H := HA.out
              clear HA
              simp only [j7] at H
              by_cases c158 : x510_149 = true
              ·
               subst c158
               have H1 : (none) = some r := by rw [if_pos rfl] at H; exact H
               clear H
               have H := H1
               clear H1
               exact absurd H (by simp)
              ·
               replace c158 := Bool.eq_false_iff.mpr c158
               subst c158
               have H1 : (if t423 = true then ((impl_CompareRatios.f kj149 t417 t416).bind fun bt434 => ((impl_RatioOf.f kj149 t416).bind fun bt436 => ((impl_RatioOf.f kj149 t417).bind fun bt439 => (if bt434.2 = true then (if bt434.1 = (wrap64 (-t422)) then (if bt436.2.2 = true then (if bt439.2.2 = true then (if bt436.1 = bt439.1 then (if ((t422 == 0) == (bt436.2.1 == bt439.2.1)) = true then (some ((decide (t422 > 0)) == (decide ((wrap64 (bt436.1 * bt439.2.1)) > (wrap64 (bt439.1 * bt436.2.1)))))) else (none)) else (if ((t422 == 0) == false) = true then (some ((decide (t422 > 0)) == (decide ((wrap64 (bt436.1 * bt439.2.1)) > (wrap64 (bt439.1 * bt436.2.1)))))) else (none))) else (none)) else (none)) else (none)) else (none))))) else (some true)) = some r := by rw [if_neg (show ¬ (false = true) by decide)] at H; exact H
               clear H
               have H := H1
               clear H1
               by_cases c159 : t423 = true
               ·
                subst c159
                have H1 : ((impl_CompareRatios.f kj149 t417 t416).bind fun bt434 => ((impl_RatioOf.f kj149 t416).bind fun bt436 => ((impl_RatioOf.f kj149 t417).bind fun bt439 => (if bt434.2 = true then (if bt434.1 = (wrap64 (-t422)) then (if bt436.2.2 = true then (if bt439.2.2 = true then (if bt436.1 = bt439.1 then (if ((t422 == 0) == (bt436.2.1 == bt439.2.1)) = true then (some ((decide (t422 > 0)) == (decide ((wrap64 (bt436.1 * bt439.2.1)) > (wrap64 (bt439.1 * bt436.2.1)))))) else (none)) else (if ((t422 == 0) == false) = true then (some ((decide (t422 > 0)) == (decide ((wrap64 (bt436.1 * bt439.2.1)) > (wrap64 (bt439.1 * bt436.2.1)))))) else (none))) else (none)) else (none)) else (none)) else (none))))) = some r := by rw [if_pos rfl] at H; exact H
                clear H
                have H := H1
                clear H1
                replace H := Option.bind_eq_some_iff.mp H
                obtain ⟨⟨t434, t435⟩, A1600, H⟩ := H
                try dsimp only at H
                have A160 := Aside0.mk A1600
                clear A1600
                replace H := Option.bind_eq_some_iff.mp H
                obtain ⟨⟨t436, t437, t438⟩, A1610, H⟩ := H
                try dsimp only at H
                have A161 := Aside0.mk A1610
                clear A1610
                replace H := Option.bind_eq_some_iff.mp H
                obtain ⟨⟨t439, t440, t441⟩, A1620, H⟩ := H
                try dsimp only at H
                have A162 := Aside0.mk A1620
                clear A1620
                by_cases c163 : t435 = true
                ·
                 subst c163
                 have H1 : (if t434 = (wrap64 (-t422)) then (if t438 = true then (if t441 = true then (if t436 = t439 then (if ((t422 == 0) == (t437 == t440)) = true then (some ((decide (t422 > 0)) == (decide ((wrap64 (t436 * t440)) > (wrap64 (t439 * t437)))))) else (none)) else (if ((t422 == 0) == false) = true then (some ((decide (t422 > 0)) == (decide ((wrap64 (t436 * t440)) > (wrap64 (t439 * t437)))))) else (none))) else (none)) else (none)) else (none)) = some r := by rw [if_pos rfl] at H; exact H
                 clear H
                 have H := H1
                 clear H1
                 by_cases c164 : t434 = (wrap64 (-t422))
                 ·
                  rw [if_pos c164] at H
                  have c164b0 : (t434 == (wrap64 (-t422))) = true := beq_iff_eq.mpr c164
                  have c164b1 : (t434 != (wrap64 (-t422))) = false := bne_eq_false_iff_eq.mpr c164
                  clear c164
                  by_cases c165 : t438 = true
                  ·
                   subst c165
                   have H1 : (if t441 = true then (if t436 = t439 then (if ((t422 == 0) == (t437 == t440)) = true then (some ((decide (t422 > 0)) == (decide ((wrap64 (t436 * t440)) > (wrap64 (t439 * t437)))))) else (none)) else (if ((t422 == 0) == false) = true then (some ((decide (t422 > 0)) == (decide ((wrap64 (t436 * t440)) > (wrap64 (t439 * t437)))))) else (none))) else (none)) = some r := by rw [if_pos rfl] at H; exact H
                   clear H
                   have H := H1
                   clear H1
                   by_cases c166 : t441 = true
                   ·
                    subst c166
                    have H1 : (if t436 = t439 then (if ((t422 == 0) == (t437 == t440)) = true then (some ((decide (t422 > 0)) == (decide ((wrap64 (t436 * t440)) > (wrap64 (t439 * t437)))))) else (none)) else (if ((t422 == 0) == false) = true then (some ((decide (t422 > 0)) == (decide ((wrap64 (t436 * t440)) > (wrap64 (t439 * t437)))))) else (none))) = some r := by rw [if_pos rfl] at H; exact H
                    clear H
                    have H := H1
                    clear H1
                    by_cases c167 : t436 = t439
                    ·
                     rw [if_pos c167] at H
                     have c167b0 : (t436 == t439) = true := beq_iff_eq.mpr c167
                     have c167b1 : (t436 != t439) = false := bne_eq_false_iff_eq.mpr c167
                     clear c167
                     by_cases c168 : ((t422 == 0) == (t437 == t440)) = true
                     ·
                      rw [if_pos c168] at H
                      have c168b0 : ((t422 == 0) == (t437 == t440)) = true := c168
                      (try (have c168b1 : decide ((t422 == 0) = (t437 == t440)) = true := by simpa using c168))
                      (try (have c168b2 : ((t422 == 0) == (t437 == t440)) = true := by simpa using c168))
                      clear c168
                      as_aux_lemma =>
                       obtain rfl := Option.some.inj H
                       go_wp2_with (first | ((with_reducible refine gate_callee (f := 33) rfl ?_); refine goesL_ (some 515) rfl rfl Try.func33 (by kernel_rfl) rfl #[.slice Ao120 t417.length co120, .slice Ao119 t416.length co119] rfl (by (try simp only [List.map_toArray, List.map_cons, List.map_nil]); first | done | rfl | (simp only [List.length_drop, List.length_take]; rfl)) ?_; (with_reducible refine (impl_CompareRatios.calls kj149 _ _ t417 _ _ t416 t434 true _ ?side1 ?side2 ?side3 ?side4 A160.out).mono ?_); (case side1 => repeat (first | exact (Kd.R_reads' HO_58.out).2.2 | (with_reducible refine Kd.C_alloc ?_ _) | (with_reducible refine Kd.C_drewN ?_ _) | (with_reducible refine Kd.C_drew ?_))); (case side2 => exact (Kd.R_reads' HO_58.out).2.1); (case side3 => repeat (first | exact (Kd.R_reads' HO_57.out).2.2 | (with_reducible refine Kd.C_alloc ?_ _) | (with_reducible refine Kd.C_drewN ?_ _) | (with_reducible refine Kd.C_drew ?_))); (case side4 => exact (Kd.R_reads' HO_57.out).2.1); rintro e w169 ⟨rfl, hb⟩; refine ⟨_, rfl, ?_⟩; have n0_ := Aside0.mk (Kd.R_below (by (with_reducible repeat (first | apply Kd.R_alloc | apply Kd.R_drewN | apply Kd.R_drew)); exact HO_57.out) hb); have n1_ := Aside0.mk (Kd.R_below (by (with_reducible repeat (first | apply Kd.R_alloc | apply Kd.R_drewN | apply Kd.R_drew)); exact HO_58.out) hb); have n2_ := Aside0.mk (blk_below (g := gb409) (by (with_reducible repeat (first | refine blk_drewN ?_ _ | refine blk_drew ?_ | refine blk_alloc ?_ _)); exact BK409.out) hb); have n3_ := Aside0.mk (below_step (by repeat (first | (with_reducible first | exact HB.out | apply below_alloc | apply pw_below_drewN | apply below_drew1 | refine below_set ?_ GE409.out) | exact HB.out)) hb); clear HO_57; clear HO_58; clear BK409; clear HB; have HO_57 := n0_; have HO_58 := n1_; have BK409 := n2_; have HB := n3_; clear n0_ n1_ n2_ n3_; (try clear hb); (try clear hb2); (try clear hk); (try clear hi)) | ((with_reducible refine gate_callee (f := 23) rfl ?_); refine goesL_ (some 520) rfl rfl Try.func23 (by kernel_rfl) rfl #[.slice Ao119 t416.length co119] rfl (by (try simp only [List.map_toArray, List.map_cons, List.map_nil]); first | done | rfl | (simp only [List.length_drop, List.length_take]; rfl)) ?_; (with_reducible refine (impl_RatioOf.calls kj149 _ _ t416 t436 t437 true _ ?side1 ?side2 A161.out).mono ?_); (case side1 => repeat (first | exact (Kd.R_reads' HO_57.out).2.2 | (with_reducible refine Kd.C_alloc ?_ _) | (with_reducible refine Kd.C_drewN ?_ _) | (with_reducible refine Kd.C_drew ?_))); (case side2 => exact (Kd.R_reads' HO_57.out).2.1); rintro e w170 ⟨rfl, hb⟩; refine ⟨_, rfl, ?_⟩; have n0_ := Aside0.mk (Kd.R_below (by (with_reducible repeat (first | apply Kd.R_alloc | apply Kd.R_drewN | apply Kd.R_drew)); exact HO_57.out) hb); have n1_ := Aside0.mk (Kd.R_below (by (with_reducible repeat (first | apply Kd.R_alloc | apply Kd.R_drewN | apply Kd.R_drew)); exact HO_58.out) hb); have n2_ := Aside0.mk (blk_below (g := gb409) (by (with_reducible repeat (first | refine blk_drewN ?_ _ | refine blk_drew ?_ | refine blk_alloc ?_ _)); exact BK409.out) hb); have n3_ := Aside0.mk (below_step (by repeat (first | (with_reducible first | exact HB.out | apply below_alloc | apply pw_below_drewN | apply below_drew1 | refine below_set ?_ GE409.out) | exact HB.out)) hb); clear HO_57; clear HO_58; clear BK409; clear HB; have HO_57 := n0_; have HO_58 := n1_; have BK409 := n2_; have HB := n3_; clear n0_ n1_ n2_ n3_; (try clear hb); (try clear hb2); (try clear hk); (try clear hi)) | ((with_reducible refine gate_callee (f := 23) rfl ?_); refine goesL_ (some 526) rfl rfl Try.func23 (by kernel_rfl) rfl #[.slice Ao120 t417.length co120] rfl (by (try simp only [List.map_toArray, List.map_cons, List.map_nil]); first | done | rfl | (simp only [List.length_drop, List.length_take]; rfl)) ?_; (with_reducible refine (impl_RatioOf.calls kj149 _ _ t417 t439 t440 true _ ?side1 ?side2 A162.out).mono ?_); (case side1 => repeat (first | exact (Kd.R_reads' HO_58.out).2.2 | (with_reducible refine Kd.C_alloc ?_ _) | (with_reducible refine Kd.C_drewN ?_ _) | (with_reducible refine Kd.C_drew ?_))); (case side2 => exact (Kd.R_reads' HO_58.out).2.1); rintro e w171 ⟨rfl, hb⟩; refine ⟨_, rfl, ?_⟩; have n0_ := Aside0.mk (Kd.R_below (by (with_reducible repeat (first | apply Kd.R_alloc | apply Kd.R_drewN | apply Kd.R_drew)); exact HO_57.out) hb); have n1_ := Aside0.mk (Kd.R_below (by (with_reducible repeat (first | apply Kd.R_alloc | apply Kd.R_drewN | apply Kd.R_drew)); exact HO_58.out) hb); have n2_ := Aside0.mk (blk_below (g := gb409) (by (with_reducible repeat (first | refine blk_drewN ?_ _ | refine blk_drew ?_ | refine blk_alloc ?_ _)); exact BK409.out) hb); have n3_ := Aside0.mk (below_step (by repeat (first | (with_reducible first | exact HB.out | apply below_alloc | apply pw_below_drewN | apply below_drew1 | refine below_set ?_ GE409.out) | exact HB.out)) hb); clear HO_57; clear HO_58; clear BK409; clear HB; have HO_57 := n0_; have HO_58 := n1_; have BK409 := n2_; have HB := n3_; clear n0_ n1_ n2_ n3_; (try clear hb); (try clear hb2); (try clear hk); (try clear hi)))
                       go_ret
                       exact ⟨by first | rfl | (simp [errW_none, errW_some] <;> rfl) | (simp [*, errW_none, errW_some] <;> rfl), by repeat (first | (with_reducible first | exact HB.out | apply below_alloc | apply pw_below_drewN | apply below_drew1 | refine below_set ?_ GE409.out) | exact HB.out)⟩
                     ·
                      rw [if_neg c168] at H
                      exact absurd H (by simp)
                    ·
                     rw [if_neg c167] at H
                     have c167b0 : (t436 == t439) = false := beq_eq_false_iff_ne.mpr c167
                     have c167b1 : (t436 != t439) = true := bne_iff_ne.mpr c167
                     by_cases c172 : ((t422 == 0) == false) = true
                     ·
                      rw [if_pos c172] at H
                      have c172b0 : ((t422 == 0) == false) = true := c172
                      (try (have c172b1 : decide ((t422 == 0) = false) = true := by simpa using c172))
                      (try (have c172b2 : ((t422 == 0) == false) = true := by simpa using c172))
                      clear c172
                      as_aux_lemma =>
                       obtain rfl := Option.some.inj H
                       go_wp2_with (first | ((with_reducible refine gate_callee (f := 33) rfl ?_); refine goesL_ (some 515) rfl rfl Try.func33 (by kernel_rfl) rfl #[.slice Ao120 t417.length co120, .slice Ao119 t416.length co119] rfl (by (try simp only [List.map_toArray, List.map_cons, List.map_nil]); first | done | rfl | (simp only [List.length_drop, List.length_take]; rfl)) ?_; (with_reducible refine (impl_CompareRatios.calls kj149 _ _ t417 _ _ t416 t434 true _ ?side1 ?side2 ?side3 ?side4 A160.out).mono ?_); (case side1 => repeat (first | exact (Kd.R_reads' HO_58.out).2.2 | (with_reducible refine Kd.C_alloc ?_ _) | (with_reducible refine Kd.C_drewN ?_ _) | (with_reducible refine Kd.C_drew ?_))); (case side2 => exact (Kd.R_reads' HO_58.out).2.1); (case side3 => repeat (first | exact (Kd.R_reads' HO_57.out).2.2 | (with_reducible refine Kd.C_alloc ?_ _) | (with_reducible refine Kd.C_drewN ?_ _) | (with_reducible refine Kd.C_drew ?_))); (case side4 => exact (Kd.R_reads' HO_57.out).2.1); rintro e w173 ⟨rfl, hb⟩; refine ⟨_, rfl, ?_⟩; have n0_ := Aside0.mk (Kd.R_below (by (with_reducible repeat (first | apply Kd.R_alloc | apply Kd.R_drewN | apply Kd.R_drew)); exact HO_57.out) hb); have n1_ := Aside0.mk (Kd.R_below (by (with_reducible repeat (first | apply Kd.R_alloc | apply Kd.R_drewN | apply Kd.R_drew)); exact HO_58.out) hb); have n2_ := Aside0.mk (blk_below (g := gb409) (by (with_reducible repeat (first | refine blk_drewN ?_ _ | refine blk_drew ?_ | refine blk_alloc ?_ _)); exact BK409.out) hb); have n3_ := Aside0.mk (below_step (by repeat (first | (with_reducible first | exact HB.out | apply below_alloc | apply pw_below_drewN | apply below_drew1 | refine below_set ?_ GE409.out) | exact HB.out)) hb); clear HO_57; clear HO_58; clear BK409; clear HB; have HO_57 := n0_; have HO_58 := n1_; have BK409 := n2_; have HB := n3_; clear n0_ n1_ n2_ n3_; (try clear hb); (try clear hb2); (try clear hk); (try clear hi)) | ((with_reducible refine gate_callee (f := 23) rfl ?_); refine goesL_ (some 520) rfl rfl Try.func23 (by kernel_rfl) rfl #[.slice Ao119 t416.length co119] rfl (by (try simp only [List.map_toArray, List.map_cons, List.map_nil]); first | done | rfl | (simp only [List.length_drop, List.length_take]; rfl)) ?_; (with_reducible refine (impl_RatioOf.calls kj149 _ _ t416 t436 t437 true _ ?side1 ?side2 A161.out).mono ?_); (case side1 => repeat (first | exact (Kd.R_reads' HO_57.out).2.2 | (with_reducible refine Kd.C_alloc ?_ _) | (with_reducible refine Kd.C_drewN ?_ _) | (with_reducible refine Kd.C_drew ?_))); (case side2 => exact (Kd.R_reads' HO_57.out).2.1); rintro e w174 ⟨rfl, hb⟩; refine ⟨_, rfl, ?_⟩; have n0_ := Aside0.mk (Kd.R_below (by (with_reducible repeat (first | apply Kd.R_alloc | apply Kd.R_drewN | apply Kd.R_drew)); exact HO_57.out) hb); have n1_ := Aside0.mk (Kd.R_below (by (with_reducible repeat (first | apply Kd.R_alloc | apply Kd.R_drewN | apply Kd.R_drew)); exact HO_58.out) hb); have n2_ := Aside0.mk (blk_below (g := gb409) (by (with_reducible repeat (first | refine blk_drewN ?_ _ | refine blk_drew ?_ | refine blk_alloc ?_ _)); exact BK409.out) hb); have n3_ := Aside0.mk (below_step (by repeat (first | (with_reducible first | exact HB.out | apply below_alloc | apply pw_below_drewN | apply below_drew1 | refine below_set ?_ GE409.out) | exact HB.out)) hb); clear HO_57; clear HO_58; clear BK409; clear HB; have HO_57 := n0_; have HO_58 := n1_; have BK409 := n2_; have HB := n3_; clear n0_ n1_ n2_ n3_; (try clear hb); (try clear hb2); (try clear hk); (try clear hi)) | ((with_reducible refine gate_callee (f := 23) rfl ?_); refine goesL_ (some 526) rfl rfl Try.func23 (by kernel_rfl) rfl #[.slice Ao120 t417.length co120] rfl (by (try simp only [List.map_toArray, List.map_cons, List.map_nil]); first | done | rfl | (simp only [List.length_drop, List.length_take]; rfl)) ?_; (with_reducible refine (impl_RatioOf.calls kj149 _ _ t417 t439 t440 true _ ?side1 ?side2 A162.out).mono ?_); (case side1 => repeat (first | exact (Kd.R_reads' HO_58.out).2.2 | (with_reducible refine Kd.C_alloc ?_ _) | (with_reducible refine Kd.C_drewN ?_ _) | (with_reducible refine Kd.C_drew ?_))); (case side2 => exact (Kd.R_reads' HO_58.out).2.1); rintro e w175 ⟨rfl, hb⟩; refine ⟨_, rfl, ?_⟩; have n0_ := Aside0.mk (Kd.R_below (by (with_reducible repeat (first | apply Kd.R_alloc | apply Kd.R_drewN | apply Kd.R_drew)); exact HO_57.out) hb); have n1_ := Aside0.mk (Kd.R_below (by (with_reducible repeat (first | apply Kd.R_alloc | apply Kd.R_drewN | apply Kd.R_drew)); exact HO_58.out) hb); have n2_ := Aside0.mk (blk_below (g := gb409) (by (with_reducible repeat (first | refine blk_drewN ?_ _ | refine blk_drew ?_ | refine blk_alloc ?_ _)); exact BK409.out) hb); have n3_ := Aside0.mk (below_step (by repeat (first | (with_reducible first | exact HB.out | apply below_alloc | apply pw_below_drewN | apply below_drew1 | refine below_set ?_ GE409.out) | exact HB.out)) hb); clear HO_57; clear HO_58; clear BK409; clear HB; have HO_57 := n0_; have HO_58 := n1_; have BK409 := n2_; have HB := n3_; clear n0_ n1_ n2_ n3_; (try clear hb); (try clear hb2); (try clear hk); (try clear hi)))
                       go_ret
                       exact ⟨by first | rfl | (simp [errW_none, errW_some] <;> rfl) | (simp [*, errW_none, errW_some] <;> rfl), by repeat (first | (with_reducible first | exact HB.out | apply below_alloc | apply pw_below_drewN | apply below_drew1 | refine below_set ?_ GE409.out) | exact HB.out)⟩
                     ·
                      rw [if_neg c172] at H
                      exact absurd H (by simp)
                   ·
                    replace c166 := Bool.eq_false_iff.mpr c166
                    subst c166
                    have H1 : (none) = some r := by rw [if_neg (show ¬ (false = true) by decide)] at H; exact H
                    clear H
                    have H := H1
                    clear H1
                    exact absurd H (by simp)
                  ·
                   replace c165 := Bool.eq_false_iff.mpr c165
                   subst c165
                   have H1 : (none) = some r := by rw [if_neg (show ¬ (false = true) by decide)] at H; exact H
                   clear H
                   have H := H1
                   clear H1
                   exact absurd H (by simp)
                 ·
                  rw [if_neg c164] at H
                  exact absurd H (by simp)
                ·
                 replace c163 := Bool.eq_false_iff.mpr c163
                 subst c163
                 have H1 : (none) = some r := by rw [if_neg (show ¬ (false = true) by decide)] at H; exact H
                 clear H
                 have H := H1
                 clear H1
                 exact absurd H (by simp)
               ·
                replace c159 := Bool.eq_false_iff.mpr c159
                subst c159
                have H1 : (some true) = some r := by rw [if_neg (show ¬ (false = true) by decide)] at H; exact H
                clear H
                have H := H1
                clear H1
                as_aux_lemma =>
                 obtain rfl := Option.some.inj H
                 go_wp2
                 go_ret
                 exact ⟨by first | rfl | (simp [errW_none, errW_some] <;> rfl) | (simp [*, errW_none, errW_some] <;> rfl), by repeat (first | (with_reducible first | exact HB.out | apply below_alloc | apply pw_below_drewN | apply below_drew1 | refine below_set ?_ GE409.out) | exact HB.out)⟩

/-- THE ONE PURE STATEMENT of laws_FnTrainsTurn: yours. -/
def laws_FnTrainsTurn.Pure : Prop := ∀ (l0 : List Int) (l1 : List Int), l0.length ≤ maxLen → l0.length * 1 ≤ 140737488351232 → (∀ x ∈ l0, (Lit.int .u8 x).wf = true) → l1.length ≤ maxLen → l1.length * 1 ≤ 140737488351232 → (∀ x ∈ l1, (Lit.int .u8 x).wf = true) → ∃ k, laws_FnTrainsTurn.f k l0 l1 = some true
theorem laws_FnTrainsTurn.walk (P : laws_FnTrainsTurn.Pure) (a0 : Option Addr) (len0 cap0 : Nat) (z0 : List Int) (a1 : Option Addr) (len1 cap1 : Nat) (z1 : List Int) (w : World) (w0 : (a0 = none ∧ len0 = 0 ∧ cap0 = 0 ∧ z0 = []) ∨ ∃ x, a0 = some x ∧ len0 ≤ cap0 ∧ cap0 ≤ maxLen ∧ z0.length = cap0 ∧ (∀ i, i < z0.length → w.cell? (x.add i) = some (.int .u8 (z0.getD i 0))) ∧ ∀ n ∈ z0, (Lit.int .u8 n).wf = true) (y0 : len0 * 1 ≤ 140737488351232) (w1 : (a1 = none ∧ len1 = 0 ∧ cap1 = 0 ∧ z1 = []) ∨ ∃ x, a1 = some x ∧ len1 ≤ cap1 ∧ cap1 ≤ maxLen ∧ z1.length = cap1 ∧ (∀ i, i < z1.length → w.cell? (x.add i) = some (.int .u8 (z1.getD i 0))) ∧ ∀ n ∈ z1, (Lit.int .u8 n).wf = true) (y1 : len1 * 1 ≤ 140737488351232) :
  Calls Try.prog 12 #[.slice a0 len0 cap0, .slice a1 len1 cap1] w fun e w' => e = .returned (.bool true) ∧ Below w.heap.size w w' := by
 obtain ⟨l0, rfl, hr0, hm0, hw0, hc0⟩ := ReadsInt.ofRowC w0
 obtain ⟨l1, rfl, hr1, hm1, hw1, hc1⟩ := ReadsInt.ofRowC w1
 obtain ⟨k, h⟩ := P l0 l1 hm0 y0 hw0 hm1 y1 hw1
 refine (laws_FnTrainsTurn.calls k _ _ l0 _ _ l1 true w (Kd.C_of_reads (d := (0 : Int)) (h1 := fun _ => rfl) hr0) hc0 (Kd.C_of_reads (d := (0 : Int)) (h1 := fun _ => rfl) hr1) hc1 h).mono ?_
 rintro e w' ⟨rfl, hd⟩
 exact ⟨rfl, hd⟩

end Go.Proofs.Ytcchbhcpmpgccaa.GFnTrainsTurn
