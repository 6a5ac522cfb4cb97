import Derived.Test.YtkfcaldjepmffaaGFnSeenTrueOfAllx14
namespace Go.Proofs.Ytkfcaldjepmffaa.GFnSeenTrueOfAll
open Go.RowKit Go.Proofs.YtkfcaldjepmffaaW.PrintWords Go.Proofs.YtkfcaldjepmffaaW.PrintLast Go.Proofs.YtkfcaldjepmffaaW.PrintMore
attribute [local go_sem] max2_int min2_int max_two min_two max_three min_three max_four min_four   -- for this text's walks alone
set_option linter.unusedVariables false
set_option linter.unusedSimpArgs false

attribute [local go_sem high] eqA23 eqA25
open laws_FnSeenTrueOfAll
set_option maxHeartbeats 8000000 in
set_option maxRecDepth 100000 in
theorem laws_FnSeenTrueOfAll.calls (k : Nat) (a0 : Int) (a1_0 : Int) (a1_1 : Int) (a2 : Int) (a3 : Int) (a4_0 : Int) (a4_1 : Int) (a4_2 : Int) (a4_3 : Int) (a5_0 : Int) (a5_1 : Int) (a5_2 : Int) (a5_3 : Int) (r : Bool) (w : World) (h : laws_FnSeenTrueOfAll.f k a0 a1_0 a1_1 a2 a3 a4_0 a4_1 a4_2 a4_3 a5_0 a5_1 a5_2 a5_3 = some r) :
  Calls Try.prog 3 #[.int .i64 a0, .agg #[.int .i64 a1_0, .int .i64 a1_1], .int .i64 a2, .int .i64 a3, .agg #[.int .i64 a4_0, .int .i64 a4_1, .int .i64 a4_2, .int .i64 a4_3], .agg #[.int .i64 a5_0, .int .i64 a5_1, .int .i64 a5_2, .int .i64 a5_3]] w fun e w' => e = .returned (.bool r) ∧ Below w.heap.size w w' := by
 have hu23 := Try.underlying23
 have hu25 := Try.underlying25
 have HB := Aside0.mk (Below.refl w.heap.size w)
 have H : ((impl_ExchangedTime.f k a0 a1_0 a1_1).bind fun bt447 => ((spec_ExchangedTime.f k a0 a1_0 a1_1).bind fun bt451 => ((impl_SeenOf.f k a0 a1_0 a1_1).bind fun bt455 => ((spec_SeenOf.f k a0 a1_0 a1_1).bind fun bt461 => (if (bt447.2.2 != bt451.2.2) = true then (none) else (if (!(bt447.1 == bt451.1) || (!(bt447.2.1 == bt451.2.1))) = true then (none) else (if (bt455.2.2.2.2 != bt461.2.2.2.2) = true then (none) else (if ((!(bt455.1 == bt461.1) || (!(bt455.2.1 == bt461.2.1))) || ((!(bt455.2.2.1 == bt461.2.2.1) || (!(bt455.2.2.2.1 == bt461.2.2.2.1))))) = true then (none) else (if bt447.2.2 = true then (j0 k a0 a2 a3 bt447.2.2 bt455.2.2.2.2 (!bt455.2.2.2.2) a1_0 a1_1 a4_0 a4_1 a4_2 a4_3 a5_0 a5_1 a5_2 a5_3 bt447.1 bt447.2.1 bt455.1 bt455.2.1 bt455.2.2.1 bt455.2.2.2.1) else (j0 k a0 a2 a3 bt447.2.2 bt455.2.2.2.2 false a1_0 a1_1 a4_0 a4_1 a4_2 a4_3 a5_0 a5_1 a5_2 a5_3 bt447.1 bt447.2.1 bt455.1 bt455.2.1 bt455.2.2.1 bt455.2.2.2.1)))))))))) = some r := h
 clear h
 replace H := Option.bind_eq_some_iff.mp H
 obtain ⟨⟨t447, t448, t449⟩, A70, H⟩ := H
 try dsimp only at H
 have A7 := Aside0.mk A70
 clear A70
 replace H := Option.bind_eq_some_iff.mp H
 obtain ⟨⟨t451, t452, t453⟩, A80, H⟩ := H
 try dsimp only at H
 have A8 := Aside0.mk A80
 clear A80
 replace H := Option.bind_eq_some_iff.mp H
 obtain ⟨⟨t455, t456, t457, t458, t459⟩, A90, H⟩ := H
 try dsimp only at H
 have A9 := Aside0.mk A90
 clear A90
 replace H := Option.bind_eq_some_iff.mp H
 obtain ⟨⟨t461, t462, t463, t464, t465⟩, A100, H⟩ := H
 try dsimp only at H
 have A10 := Aside0.mk A100
 clear A100
 have HC11 := Aside0.mk H
 clear H
 go_enter Try.func3, Try.ntmps3
 go_upto_region 5 with (first | ((with_reducible refine gate_dst (N := 7) rfl ?_); (try (refine gate_guard (by rfl) ?_; dsimp only)); refine be_ (N := 7) (cs := #[.int .i64 a1_0, .int .i64 a1_1]) (t := 23) ?_; intro gba hg w12 hbox hb; have BKa := Aside0.mk (hbox); have GWa := ge_ HB hg; have GEa := ge_ HB hg; replace HB := hs HB hb; clear hb hbox hg) | ((with_reducible refine gate_dst (N := 10) rfl ?_); (try (refine gate_guard (by rfl) ?_; dsimp only)); refine be_ (N := 10) (cs := #[.int .i64 a4_0, .int .i64 a4_1, .int .i64 a4_2, .int .i64 a4_3]) (t := 25) ?_; intro gbb hg w13 hbox hb; have BKb := Aside0.mk (hbox); have GWb := ge_ HB hg; have GEb := ge_ HB hg; obtain ⟨Na_b, Nb_a⟩ := nq_ BKa hg; replace BKa := bb BKa hb; replace HB := hs HB hb; clear hb hbox hg) | ((with_reducible refine gate_dst (N := 11) rfl ?_); (try (refine gate_guard (by rfl) ?_; dsimp only)); refine be_ (N := 11) (cs := #[.int .i64 a5_0, .int .i64 a5_1, .int .i64 a5_2, .int .i64 a5_3]) (t := 25) ?_; intro gbc hg w14 hbox hb; have BKc := Aside0.mk (hbox); have GWc := ge_ HB hg; have GEc := ge_ HB hg; obtain ⟨Na_c, Nc_a⟩ := nq_ BKa hg; obtain ⟨Nb_c, Nc_b⟩ := nq_ BKb hg; replace BKa := bb BKa hb; replace BKb := bb BKb hb; replace HB := hs HB hb; clear hb hbox hg; obtain ⟨hnb15, hnc15⟩ := nn_ Na_b; obtain ⟨hnb16, hnc16⟩ := nn_ Na_c; have hcz17_0 := cz_ BKa 0 (.int .i64 a1_0); have hcz17_1 := cz_ BKa 1 (.int .i64 a1_1); have hfz17_0 := blk_frozen BKa.out 0; have hfz17_1 := blk_frozen BKa.out 1) | ((with_reducible refine gate_callee (f := 5) rfl ?_); refine gs_ (some 76) Try.func5 #[.int .i64 a0, .agg #[.int .i64 a1_0, .int .i64 a1_1]] ?_; (with_reducible refine (impl_ExchangedTime.calls k a0 a1_0 a1_1 t447 t448 t449 _ A7.out).mono ?_); rintro e w18 ⟨rfl, hb⟩; refine ⟨_, rfl, ?_⟩; replace BKa := bb BKa hb; replace BKb := bb BKb hb; replace BKc := bb BKc hb; replace HB := hs HB hb; (try clear hb); (try clear hb2); (try clear hk); (try clear hi)) | ((with_reducible refine gate_dst (N := 13) rfl ?_); (try (refine gate_guard (by rfl) ?_; dsimp only)); refine be_ (N := 13) (cs := #[.int .i64 0, .int .i64 0]) (t := 23) ?_; intro gbd hg w19 hbox hb; have BKd := Aside0.mk (hbox); have GWd := ge_ HB hg; have GEd := ge_ HB hg; obtain ⟨Na_d, Nd_a⟩ := nq_ BKa hg; obtain ⟨Nb_d, Nd_b⟩ := nq_ BKb hg; obtain ⟨Nc_d, Nd_c⟩ := nq_ BKc hg; replace BKa := bb BKa hb; replace BKb := bb BKb hb; replace BKc := bb BKc hb; replace HB := hs HB hb; clear hb hbox hg; obtain ⟨hnb20, hnc20⟩ := nn_ Nd_a; obtain ⟨hnb21, hnc21⟩ := nn_ Nd_b; obtain ⟨hnb22, hnc22⟩ := nn_ Nd_c; have hcz23_0 := cz_ BKd 0 (.int .i64 0); have hcz23_1 := cz_ BKd 1 (.int .i64 0); have hfz23_0 := blk_frozen BKd.out 0; have hfz23_1 := blk_frozen BKd.out 1; have hcz24_0 := cz_ BKa 0 (.int .i64 a1_0); have hcz24_1 := cz_ BKa 1 (.int .i64 a1_1); have hfz24_0 := blk_frozen BKa.out 0; have hfz24_1 := blk_frozen BKa.out 1) | ((with_reducible refine gate_callee (f := 6) rfl ?_); refine gs_ (some 82) Try.func6 #[.int .i64 a0, .agg #[.int .i64 a1_0, .int .i64 a1_1]] ?_; (with_reducible refine (spec_ExchangedTime.calls k a0 a1_0 a1_1 t451 t452 t453 _ A8.out).mono ?_); rintro e w25 ⟨rfl, hb⟩; refine ⟨_, rfl, ?_⟩; replace BKa := bb BKa hb; replace BKb := bb BKb hb; replace BKc := bb BKc hb; replace BKd := Aside0.mk (blk_below (g := gbd) (o := .cells #[.int .i64 t447, .int .i64 t448] 23 (0, 0)) (by (with_reducible repeat (first | refine blk_drewN ?_ _ | refine blk_drew ?_ | refine blk_alloc ?_ _)); refine blk_put (cs := #[.int .i64 t447, .int .i64 0]) ?_ 1 _ rfl; (with_reducible repeat (first | refine blk_drewN ?_ _ | refine blk_drew ?_ | refine blk_alloc ?_ _)); refine blk_put (cs := #[.int .i64 0, .int .i64 0]) ?_ 0 _ rfl; (with_reducible repeat (first | refine blk_drewN ?_ _ | refine blk_drew ?_ | refine blk_alloc ?_ _)); exact BKd.out) hb); replace HB := hs HB hb; (try clear hb); (try clear hb2); (try clear hk); (try clear hi)) | ((with_reducible refine gate_dst (N := 15) rfl ?_); (try (refine gate_guard (by rfl) ?_; dsimp only)); refine be_ (N := 15) (cs := #[.int .i64 0, .int .i64 0]) (t := 23) ?_; intro gbe hg w26 hbox hb; have BKe := Aside0.mk (hbox); have GWe := ge_ HB hg; have GEe := ge_ HB hg; obtain ⟨Na_e, Ne_a⟩ := nq_ BKa hg; obtain ⟨Nb_e, Ne_b⟩ := nq_ BKb hg; obtain ⟨Nc_e, Ne_c⟩ := nq_ BKc hg; obtain ⟨Nd_e, Ne_d⟩ := nq_ BKd hg; replace BKa := bb BKa hb; replace BKb := bb BKb hb; replace BKc := bb BKc hb; replace BKd := bb BKd hb; replace HB := hs HB hb; clear hb hbox hg; obtain ⟨hnb27, hnc27⟩ := nn_ Ne_a; obtain ⟨hnb28, hnc28⟩ := nn_ Ne_b; obtain ⟨hnb29, hnc29⟩ := nn_ Ne_c; obtain ⟨hnb30, hnc30⟩ := nn_ Ne_d; have hcz31_0 := cz_ BKe 0 (.int .i64 0); have hcz31_1 := cz_ BKe 1 (.int .i64 0); have hfz31_0 := blk_frozen BKe.out 0; have hfz31_1 := blk_frozen BKe.out 1; have hcz32_0 := cz_ BKa 0 (.int .i64 a1_0); have hcz32_1 := cz_ BKa 1 (.int .i64 a1_1); have hfz32_0 := blk_frozen BKa.out 0; have hfz32_1 := blk_frozen BKa.out 1) | ((with_reducible refine gate_callee (f := 7) rfl ?_); refine gs_ (some 88) Try.func7 #[.int .i64 a0, .agg #[.int .i64 a1_0, .int .i64 a1_1]] ?_; (with_reducible refine (impl_SeenOf.calls k a0 a1_0 a1_1 t455 t456 t457 t458 t459 _ A9.out).mono ?_); rintro e w33 ⟨rfl, hb⟩; refine ⟨_, rfl, ?_⟩; replace BKa := bb BKa hb; replace BKb := bb BKb hb; replace BKc := bb BKc hb; replace BKd := bb BKd hb; replace BKe := Aside0.mk (blk_below (g := gbe) (o := .cells #[.int .i64 t451, .int .i64 t452] 23 (0, 0)) (by (with_reducible repeat (first | refine blk_drewN ?_ _ | refine blk_drew ?_ | refine blk_alloc ?_ _)); refine blk_put (cs := #[.int .i64 t451, .int .i64 0]) ?_ 1 _ rfl; (with_reducible repeat (first | refine blk_drewN ?_ _ | refine blk_drew ?_ | refine blk_alloc ?_ _)); refine blk_put (cs := #[.int .i64 0, .int .i64 0]) ?_ 0 _ rfl; (with_reducible repeat (first | refine blk_drewN ?_ _ | refine blk_drew ?_ | refine blk_alloc ?_ _)); exact BKe.out) hb); replace HB := hs HB hb; (try clear hb); (try clear hb2); (try clear hk); (try clear hi)) | ((with_reducible refine gate_dst (N := 17) rfl ?_); (try (refine gate_guard (by rfl) ?_; dsimp only)); refine be_ (N := 17) (cs := #[.int .i64 0, .int .i64 0, .int .i64 0, .int .i64 0]) (t := 25) ?_; intro gbf hg w34 hbox hb; have BKf := Aside0.mk (hbox); have GWf := ge_ HB hg; have GEf := ge_ HB hg; obtain ⟨Na_f, Nf_a⟩ := nq_ BKa hg; obtain ⟨Nb_f, Nf_b⟩ := nq_ BKb hg; obtain ⟨Nc_f, Nf_c⟩ := nq_ BKc hg; obtain ⟨Nd_f, Nf_d⟩ := nq_ BKd hg; obtain ⟨Ne_f, Nf_e⟩ := nq_ BKe hg; replace BKa := bb BKa hb; replace BKb := bb BKb hb; replace BKc := bb BKc hb; replace BKd := bb BKd hb; replace BKe := bb BKe hb; replace HB := hs HB hb; clear hb hbox hg; obtain ⟨hnb35, hnc35⟩ := nn_ Nf_a; obtain ⟨hnb36, hnc36⟩ := nn_ Nf_b; obtain ⟨hnb37, hnc37⟩ := nn_ Nf_c; obtain ⟨hnb38, hnc38⟩ := nn_ Nf_d; obtain ⟨hnb39, hnc39⟩ := nn_ Nf_e; have hcz40_0 := cz_ BKf 0 (.int .i64 0); have hcz40_1 := cz_ BKf 1 (.int .i64 0); have hcz40_2 := cz_ BKf 2 (.int .i64 0); have hcz40_3 := cz_ BKf 3 (.int .i64 0); have hfz40_0 := blk_frozen BKf.out 0; have hfz40_1 := blk_frozen BKf.out 1; have hfz40_2 := blk_frozen BKf.out 2; have hfz40_3 := blk_frozen BKf.out 3; have hcz41_0 := cz_ BKa 0 (.int .i64 a1_0); have hcz41_1 := cz_ BKa 1 (.int .i64 a1_1); have hfz41_0 := blk_frozen BKa.out 0; have hfz41_1 := blk_frozen BKa.out 1) | ((with_reducible refine gate_callee (f := 8) rfl ?_); refine gs_ (some 94) Try.func8 #[.int .i64 a0, .agg #[.int .i64 a1_0, .int .i64 a1_1]] ?_; (with_reducible refine (spec_SeenOf.calls k a0 a1_0 a1_1 t461 t462 t463 t464 t465 _ A10.out).mono ?_); rintro e w42 ⟨rfl, hb⟩; refine ⟨_, rfl, ?_⟩; replace BKa := bb BKa hb; replace BKb := bb BKb hb; replace BKc := bb BKc hb; replace BKd := bb BKd hb; replace BKe := bb BKe hb; replace BKf := Aside0.mk (blk_below (g := gbf) (o := .cells #[.int .i64 t455, .int .i64 t456, .int .i64 t457, .int .i64 t458] 25 (0, 0)) (by (with_reducible repeat (first | refine blk_drewN ?_ _ | refine blk_drew ?_ | refine blk_alloc ?_ _)); refine blk_put (cs := #[.int .i64 t455, .int .i64 t456, .int .i64 t457, .int .i64 0]) ?_ 3 _ rfl; (with_reducible repeat (first | refine blk_drewN ?_ _ | refine blk_drew ?_ | refine blk_alloc ?_ _)); refine blk_put (cs := #[.int .i64 t455, .int .i64 t456, .int .i64 0, .int .i64 0]) ?_ 2 _ rfl; (with_reducible repeat (first | refine blk_drewN ?_ _ | refine blk_drew ?_ | refine blk_alloc ?_ _)); refine blk_put (cs := #[.int .i64 t455, .int .i64 0, .int .i64 0, .int .i64 0]) ?_ 1 _ rfl; (with_reducible repeat (first | refine blk_drewN ?_ _ | refine blk_drew ?_ | refine blk_alloc ?_ _)); refine blk_put (cs := #[.int .i64 0, .int .i64 0, .int .i64 0, .int .i64 0]) ?_ 0 _ rfl; (with_reducible repeat (first | refine blk_drewN ?_ _ | refine blk_drew ?_ | refine blk_alloc ?_ _)); exact BKf.out) hb); replace HB := hs HB hb; (try clear hb); (try clear hb2); (try clear hk); (try clear hi)) | ((with_reducible refine gate_dst (N := 19) rfl ?_); (try (refine gate_guard (by rfl) ?_; dsimp only)); refine be_ (N := 19) (cs := #[.int .i64 0, .int .i64 0, .int .i64 0, .int .i64 0]) (t := 25) ?_; intro gbg hg w43 hbox hb; have BKg := Aside0.mk (hbox); have GWg := ge_ HB hg; have GEg := ge_ HB hg; obtain ⟨Na_g, Ng_a⟩ := nq_ BKa hg; obtain ⟨Nb_g, Ng_b⟩ := nq_ BKb hg; obtain ⟨Nc_g, Ng_c⟩ := nq_ BKc hg; obtain ⟨Nd_g, Ng_d⟩ := nq_ BKd hg; obtain ⟨Ne_g, Ng_e⟩ := nq_ BKe hg; obtain ⟨Nf_g, Ng_f⟩ := nq_ BKf hg; replace BKa := bb BKa hb; replace BKb := bb BKb hb; replace BKc := bb BKc hb; replace BKd := bb BKd hb; replace BKe := bb BKe hb; replace BKf := bb BKf hb; replace HB := hs HB hb; clear hb hbox hg; obtain ⟨hnb44, hnc44⟩ := nn_ Ng_a; obtain ⟨hnb45, hnc45⟩ := nn_ Ng_b; obtain ⟨hnb46, hnc46⟩ := nn_ Ng_c; obtain ⟨hnb47, hnc47⟩ := nn_ Ng_d; obtain ⟨hnb48, hnc48⟩ := nn_ Ng_e; obtain ⟨hnb49, hnc49⟩ := nn_ Ng_f; have hcz50_0 := cz_ BKg 0 (.int .i64 0); have hcz50_1 := cz_ BKg 1 (.int .i64 0); have hcz50_2 := cz_ BKg 2 (.int .i64 0); have hcz50_3 := cz_ BKg 3 (.int .i64 0); have hfz50_0 := blk_frozen BKg.out 0; have hfz50_1 := blk_frozen BKg.out 1; have hfz50_2 := blk_frozen BKg.out 2; have hfz50_3 := blk_frozen BKg.out 3))
 (try simp only [Act.put, s1, s2, s3])
 go_cut [121] from 73 to 121 (fun v121 wc => ∃ (kq : Nat) (x121_10 : Bool), v121 = .bool x121_10 ∧ Aside0 (j0 kq a0 a2 a3 t449 t459 x121_10 a1_0 a1_1 a4_0 a4_1 a4_2 a4_3 a5_0 a5_1 a5_2 a5_3 t447 t448 t455 t456 t457 t458 = some r) ∧ Aside0 (kq ≤ k) ∧ Aside0 (wc.heap[gba]? = some (.cells #[.int .i64 a1_0, .int .i64 a1_1] 23 (0, 0))) ∧ Aside0 (wc.heap[gbb]? = some (.cells #[.int .i64 a4_0, .int .i64 a4_1, .int .i64 a4_2, .int .i64 a4_3] 25 (0, 0))) ∧ Aside0 (wc.heap[gbc]? = some (.cells #[.int .i64 a5_0, .int .i64 a5_1, .int .i64 a5_2, .int .i64 a5_3] 25 (0, 0))) ∧ Aside0 (wc.heap[gbd]? = some (.cells #[.int .i64 t447, .int .i64 t448] 23 (0, 0))) ∧ Aside0 (wc.heap[gbe]? = some (.cells #[.int .i64 t451, .int .i64 t452] 23 (0, 0))) ∧ Aside0 (wc.heap[gbf]? = some (.cells #[.int .i64 t455, .int .i64 t456, .int .i64 t457, .int .i64 t458] 25 (0, 0))) ∧ Aside0 (wc.heap[gbg]? = some (.cells #[.int .i64 t461, .int .i64 t462, .int .i64 t463, .int .i64 t464] 25 (0, 0))) ∧ Aside0 (Below w.heap.size w wc))
 case first => as_aux_lemma =>
  have H := HC11.out
  clear HC11
  by_cases c51 : (t449 != t453) = true
  ·
   rw [if_pos c51] at H
   exact absurd H (by simp)
  ·
   rw [if_neg c51] at H
   have c51b0 : (t449 != t453) = false := by simpa using c51
   (try (have c51b1 : decide (t449 = t453) = true := by simpa using c51))
   (try (have c51b2 : (t449 == t453) = true := by simpa using c51))
   clear c51
   (first | rw [c51b0] | (simp only [i64_w, i32_w]; rw [c51b0]) | skip)
   by_cases c52 : (!(t447 == t451) || (!(t448 == t452))) = true
   ·
    rw [if_pos c52] at H
    exact absurd H (by simp)
   ·
    rw [if_neg c52] at H
    have c52b0 : (!(t447 == t451) || (!(t448 == t452))) = false := by simpa using c52
    clear c52
    by_cases c53 : (t459 != t465) = true
    ·
     rw [if_pos c53] at H
     exact absurd H (by simp)
    ·
     rw [if_neg c53] at H
     have c53b0 : (t459 != t465) = false := by simpa using c53
     (try (have c53b1 : decide (t459 = t465) = true := by simpa using c53))
     (try (have c53b2 : (t459 == t465) = true := by simpa using c53))
     clear c53
     by_cases c54 : ((!(t455 == t461) || (!(t456 == t462))) || ((!(t457 == t463) || (!(t458 == t464))))) = true
     ·
      rw [if_pos c54] at H
      exact absurd H (by simp)
     ·
      rw [if_neg c54] at H
      have c54b0 : ((!(t455 == t461) || (!(t456 == t462))) || ((!(t457 == t463) || (!(t458 == t464))))) = false := by simpa using c54
      clear c54
      by_cases c55 : t449 = true
      ·
       subst c55
       have H1 : (j0 k a0 a2 a3 true t459 (!t459) a1_0 a1_1 a4_0 a4_1 a4_2 a4_3 a5_0 a5_1 a5_2 a5_3 t447 t448 t455 t456 t457 t458) = some r := by rw [if_pos rfl] at H; exact H
       clear H
       have H := H1
       clear H1
       as_aux_lemma =>
        have H' := Aside0.mk H
        clear H
        obtain ⟨hnb56, hnc56⟩ := nn_ Nd_a
        obtain ⟨hnb57, hnc57⟩ := nn_ Nd_b
        obtain ⟨hnb58, hnc58⟩ := nn_ Nd_c
        obtain ⟨hnb59, hnc59⟩ := nn_ Nd_e
        obtain ⟨hnb60, hnc60⟩ := nn_ Nd_f
        obtain ⟨hnb61, hnc61⟩ := nn_ Nd_g
        have hcz62_0 := cz_ BKd 0 (.int .i64 t447)
        have hcz62_1 := cz_ BKd 1 (.int .i64 t448)
        have hfz62_0 := blk_frozen BKd.out 0
        have hfz62_1 := blk_frozen BKd.out 1
        obtain ⟨hnb63, hnc63⟩ := nn_ Ne_a
        obtain ⟨hnb64, hnc64⟩ := nn_ Ne_b
        obtain ⟨hnb65, hnc65⟩ := nn_ Ne_c
        obtain ⟨hnb66, hnc66⟩ := nn_ Ne_f
        obtain ⟨hnb67, hnc67⟩ := nn_ Ne_g
        have hcz68_0 := cz_ BKe 0 (.int .i64 t451)
        have hcz68_1 := cz_ BKe 1 (.int .i64 t452)
        have hfz68_0 := blk_frozen BKe.out 0
        have hfz68_1 := blk_frozen BKe.out 1
        obtain ⟨hnb69, hnc69⟩ := nn_ Nf_a
        obtain ⟨hnb70, hnc70⟩ := nn_ Nf_b
        obtain ⟨hnb71, hnc71⟩ := nn_ Nf_c
        obtain ⟨hnb72, hnc72⟩ := nn_ Nf_g
        have hcz73_0 := cz_ BKf 0 (.int .i64 t455)
        have hcz73_1 := cz_ BKf 1 (.int .i64 t456)
        have hcz73_2 := cz_ BKf 2 (.int .i64 t457)
        have hcz73_3 := cz_ BKf 3 (.int .i64 t458)
        have hfz73_0 := blk_frozen BKf.out 0
        have hfz73_1 := blk_frozen BKf.out 1
        have hfz73_2 := blk_frozen BKf.out 2
        have hfz73_3 := blk_frozen BKf.out 3
        obtain ⟨hnb74, hnc74⟩ := nn_ Ng_a
        obtain ⟨hnb75, hnc75⟩ := nn_ Ng_b
        obtain ⟨hnb76, hnc76⟩ := nn_ Ng_c
        have hcz77_0 := cz_ BKg 0 (.int .i64 0)
        have hcz77_1 := cz_ BKg 1 (.int .i64 0)
        have hcz77_2 := cz_ BKg 2 (.int .i64 0)
        have hcz77_3 := cz_ BKg 3 (.int .i64 0)
        have hfz77_0 := blk_frozen BKg.out 0
        have hfz77_1 := blk_frozen BKg.out 1
        have hfz77_2 := blk_frozen BKg.out 2
        have hfz77_3 := blk_frozen BKg.out 3
        go_wp2
        go_meet
        case rel => exact ⟨_, (!t459), (by first | rfl | (simp; done) | (simp [*]; done)), H', ⟨by first | omega | exact Nat.le_refl _⟩, bk_ BKa, bk_ BKb, bk_ BKc, bk_ BKd, bk_ BKe, bk_ BKf, ⟨by (with_reducible repeat (first | refine blk_drewN ?_ _ | refine blk_drew ?_ | refine blk_alloc ?_ _)); refine blk_put (cs := #[.int .i64 t461, .int .i64 t462, .int .i64 t463, .int .i64 0]) ?_ 3 _ rfl; (with_reducible repeat (first | refine blk_drewN ?_ _ | refine blk_drew ?_ | refine blk_alloc ?_ _)); refine blk_put (cs := #[.int .i64 t461, .int .i64 t462, .int .i64 0, .int .i64 0]) ?_ 2 _ rfl; (with_reducible repeat (first | refine blk_drewN ?_ _ | refine blk_drew ?_ | refine blk_alloc ?_ _)); refine blk_put (cs := #[.int .i64 t461, .int .i64 0, .int .i64 0, .int .i64 0]) ?_ 1 _ rfl; (with_reducible repeat (first | refine blk_drewN ?_ _ | refine blk_drew ?_ | refine blk_alloc ?_ _)); refine blk_put (cs := #[.int .i64 0, .int .i64 0, .int .i64 0, .int .i64 0]) ?_ 0 _ rfl; (with_reducible repeat (first | refine blk_drewN ?_ _ | refine blk_drew ?_ | refine blk_alloc ?_ _)); exact BKg.out⟩, hb_ HB⟩
      ·
       replace c55 := Bool.eq_false_iff.mpr c55
       subst c55
       have H1 : (j0 k a0 a2 a3 false t459 false a1_0 a1_1 a4_0 a4_1 a4_2 a4_3 a5_0 a5_1 a5_2 a5_3 t447 t448 t455 t456 t457 t458) = some r := by rw [if_neg (show ¬ (false = true) by decide)] at H; exact H
       clear H
       have H := H1
       clear H1
       as_aux_lemma =>
        have H' := Aside0.mk H
        clear H
        obtain ⟨hnb78, hnc78⟩ := nn_ Nd_a
        obtain ⟨hnb79, hnc79⟩ := nn_ Nd_b
        obtain ⟨hnb80, hnc80⟩ := nn_ Nd_c
        obtain ⟨hnb81, hnc81⟩ := nn_ Nd_e
        obtain ⟨hnb82, hnc82⟩ := nn_ Nd_f
        obtain ⟨hnb83, hnc83⟩ := nn_ Nd_g
        have hcz84_0 := cz_ BKd 0 (.int .i64 t447)
        have hcz84_1 := cz_ BKd 1 (.int .i64 t448)
        have hfz84_0 := blk_frozen BKd.out 0
        have hfz84_1 := blk_frozen BKd.out 1
        obtain ⟨hnb85, hnc85⟩ := nn_ Ne_a
        obtain ⟨hnb86, hnc86⟩ := nn_ Ne_b
        obtain ⟨hnb87, hnc87⟩ := nn_ Ne_c
        obtain ⟨hnb88, hnc88⟩ := nn_ Ne_f
        obtain ⟨hnb89, hnc89⟩ := nn_ Ne_g
        have hcz90_0 := cz_ BKe 0 (.int .i64 t451)
        have hcz90_1 := cz_ BKe 1 (.int .i64 t452)
        have hfz90_0 := blk_frozen BKe.out 0
        have hfz90_1 := blk_frozen BKe.out 1
        obtain ⟨hnb91, hnc91⟩ := nn_ Nf_a
        obtain ⟨hnb92, hnc92⟩ := nn_ Nf_b
        obtain ⟨hnb93, hnc93⟩ := nn_ Nf_c
        obtain ⟨hnb94, hnc94⟩ := nn_ Nf_g
        have hcz95_0 := cz_ BKf 0 (.int .i64 t455)
        have hcz95_1 := cz_ BKf 1 (.int .i64 t456)
        have hcz95_2 := cz_ BKf 2 (.int .i64 t457)
        have hcz95_3 := cz_ BKf 3 (.int .i64 t458)
        have hfz95_0 := blk_frozen BKf.out 0
        have hfz95_1 := blk_frozen BKf.out 1
        have hfz95_2 := blk_frozen BKf.out 2
        have hfz95_3 := blk_frozen BKf.out 3
        obtain ⟨hnb96, hnc96⟩ := nn_ Ng_a
        obtain ⟨hnb97, hnc97⟩ := nn_ Ng_b
        obtain ⟨hnb98, hnc98⟩ := nn_ Ng_c
        have hcz99_0 := cz_ BKg 0 (.int .i64 0)
        have hcz99_1 := cz_ BKg 1 (.int .i64 0)
        have hcz99_2 := cz_ BKg 2 (.int .i64 0)
        have hcz99_3 := cz_ BKg 3 (.int .i64 0)
        have hfz99_0 := blk_frozen BKg.out 0
        have hfz99_1 := blk_frozen BKg.out 1
        have hfz99_2 := blk_frozen BKg.out 2
        have hfz99_3 := blk_frozen BKg.out 3
        go_wp2
        go_meet
        case rel => exact ⟨_, (false), (by first | rfl | (simp; done) | (simp [*]; done)), H', ⟨by first | omega | exact Nat.le_refl _⟩, bk_ BKa, bk_ BKb, bk_ BKc, bk_ BKd, bk_ BKe, bk_ BKf, ⟨by (with_reducible repeat (first | refine blk_drewN ?_ _ | refine blk_drew ?_ | refine blk_alloc ?_ _)); refine blk_put (cs := #[.int .i64 t461, .int .i64 t462, .int .i64 t463, .int .i64 0]) ?_ 3 _ rfl; (with_reducible repeat (first | refine blk_drewN ?_ _ | refine blk_drew ?_ | refine blk_alloc ?_ _)); refine blk_put (cs := #[.int .i64 t461, .int .i64 t462, .int .i64 0, .int .i64 0]) ?_ 2 _ rfl; (with_reducible repeat (first | refine blk_drewN ?_ _ | refine blk_drew ?_ | refine blk_alloc ?_ _)); refine blk_put (cs := #[.int .i64 t461, .int .i64 0, .int .i64 0, .int .i64 0]) ?_ 1 _ rfl; (with_reducible repeat (first | refine blk_drewN ?_ _ | refine blk_drew ?_ | refine blk_alloc ?_ _)); refine blk_put (cs := #[.int .i64 0, .int .i64 0, .int .i64 0, .int .i64 0]) ?_ 0 _ rfl; (with_reducible repeat (first | refine blk_drewN ?_ _ | refine blk_drew ?_ | refine blk_alloc ?_ _)); exact BKg.out⟩, hb_ HB⟩
 case rest => as_aux_lemma =>
  clear HC11
  obtain ⟨kq, x121_10, rfl, HA, HJ10, BKa, BKb, BKc, BKd, BKe, BKf, BKg, HB⟩ := hcut
  cases kq with
  | zero => exact absurd HA.out (by simp [j0])
  | succ kj10 =>
   have H := HA.out
   clear HA
   simp only [j0] at H
   by_cases c100 : x121_10 = true
   ·
    subst c100
    have H1 : (none) = some r := by rw [if_pos rfl] at H; exact H
    clear H
    have H := H1
    clear H1
    exact absurd H (by simp)
   ·
    replace c100 := Bool.eq_false_iff.mpr c100
    subst c100
    have H1 : (if t459 = true then ((impl_IsTrueSeen.f kj10 a0 t455 t456 t457 t458).bind fun bt467 => ((impl_TimeSeen.f kj10 a0 t455 t456 t457 t458).bind fun bt469 => ((impl_ExchangeSeen.f kj10 t455 t456 t457 t458).bind fun bt473 => ((impl_IsTrueSeen.f kj10 a0 bt473.1 bt473.2.1 bt473.2.2.1 bt473.2.2.2.1).bind fun bt479 => ((impl_TimesAlike.f kj10 a0 t455 t456 t457 t458).bind fun bt481 => ((impl_IsSeen.f kj10 t455 t456 t457 t458).bind fun t485 => (if t485 = true then (if bt467.2 = true then (if bt467.1 = true then (if bt469.2.2 = true then (if (!(bt469.1 == a1_0) || (!(bt469.2.1 == a1_1))) = true then (none) else (if bt473.2.2.2.2 = true then (if bt479.2 = true then (if (bt479.1 != t449) = true then (none) else (if bt481.2 = true then ((laws_wHas.f kj10 bt481.1 a1_0 a1_1).bind fun t486 => (if t486 = true then ((laws_wRises.f kj10 bt481.1).bind fun t487 => (j1 kj10 a0 a2 a3 t449 bt481.1 (!t487) a1_0 a1_1 a4_0 a4_1 a4_2 a4_3 a5_0 a5_1 a5_2 a5_3 t447 t448)) else (none))) else (none))) else (none)) else (none))) else (none)) else (none)) else (none)) else (none)))))))) else (j3 kj10 a0 a2 a3 t449 a1_0 a1_1 a4_0 a4_1 a4_2 a4_3 a5_0 a5_1 a5_2 a5_3 t447 t448)) = some r := by rw [if_neg (show ¬ (false = true) by decide)] at H; exact H
    clear H
    have H := H1
    clear H1
    have HC101 := Aside0.mk H
    clear H
    go_upto_if 122 with (fail)
    go_cut [] from 122 to 199 (fun wc => ∃ (kq : Nat), Aside0 (j3 kq a0 a2 a3 t449 a1_0 a1_1 a4_0 a4_1 a4_2 a4_3 a5_0 a5_1 a5_2 a5_3 t447 t448 = some r) ∧ Aside0 (kq ≤ kj10) ∧ Aside0 (wc.heap[gba]? = some (.cells #[.int .i64 a1_0, .int .i64 a1_1] 23 (0, 0))) ∧ Aside0 (wc.heap[gbb]? = some (.cells #[.int .i64 a4_0, .int .i64 a4_1, .int .i64 a4_2, .int .i64 a4_3] 25 (0, 0))) ∧ Aside0 (wc.heap[gbc]? = some (.cells #[.int .i64 a5_0, .int .i64 a5_1, .int .i64 a5_2, .int .i64 a5_3] 25 (0, 0))) ∧ Aside0 (wc.heap[gbd]? = some (.cells #[.int .i64 t447, .int .i64 t448] 23 (0, 0))) ∧ Aside0 (wc.heap[gbe]? = some (.cells #[.int .i64 t451, .int .i64 t452] 23 (0, 0))) ∧ Aside0 (wc.heap[gbf]? = some (.cells #[.int .i64 t455, .int .i64 t456, .int .i64 t457, .int .i64 t458] 25 (0, 0))) ∧ Aside0 (wc.heap[gbg]? = some (.cells #[.int .i64 t461, .int .i64 t462, .int .i64 t463, .int .i64 t464] 25 (0, 0))) ∧ Aside0 (Below w.heap.size w wc))
    case first => as_aux_lemma =>
     have H := HC101.out
     clear HC101
     by_cases c102 : t459 = true
     ·
      subst c102
      have H1 : ((impl_IsTrueSeen.f kj10 a0 t455 t456 t457 t458).bind fun bt467 => ((impl_TimeSeen.f kj10 a0 t455 t456 t457 t458).bind fun bt469 => ((impl_ExchangeSeen.f kj10 t455 t456 t457 t458).bind fun bt473 => ((impl_IsTrueSeen.f kj10 a0 bt473.1 bt473.2.1 bt473.2.2.1 bt473.2.2.2.1).bind fun bt479 => ((impl_TimesAlike.f kj10 a0 t455 t456 t457 t458).bind fun bt481 => ((impl_IsSeen.f kj10 t455 t456 t457 t458).bind fun t485 => (if t485 = true then (if bt467.2 = true then (if bt467.1 = true then (if bt469.2.2 = true then (if (!(bt469.1 == a1_0) || (!(bt469.2.1 == a1_1))) = true then (none) else (if bt473.2.2.2.2 = true then (if bt479.2 = true then (if (bt479.1 != t449) = true then (none) else (if bt481.2 = true then ((laws_wHas.f kj10 bt481.1 a1_0 a1_1).bind fun t486 => (if t486 = true then ((laws_wRises.f kj10 bt481.1).bind fun t487 => (j1 kj10 a0 a2 a3 t449 bt481.1 (!t487) a1_0 a1_1 a4_0 a4_1 a4_2 a4_3 a5_0 a5_1 a5_2 a5_3 t447 t448)) else (none))) else (none))) else (none)) else (none))) else (none)) else (none)) else (none)) else (none)))))))) = some r := by rw [if_pos rfl] at H; exact H
      clear H
      have H := H1
      clear H1
      replace H := Option.bind_eq_some_iff.mp H
      obtain ⟨⟨t467, t468⟩, A1030, H⟩ := H
      try dsimp only at H
      have A103 := Aside0.mk A1030
      clear A1030
      replace H := Option.bind_eq_some_iff.mp H
      obtain ⟨⟨t469, t470, t471⟩, A1040, H⟩ := H
      try dsimp only at H
      have A104 := Aside0.mk A1040
      clear A1040
      replace H := Option.bind_eq_some_iff.mp H
      obtain ⟨⟨t473, t474, t475, t476, t477⟩, A1050, H⟩ := H
      try dsimp only at H
      have A105 := Aside0.mk A1050
      clear A1050
      replace H := Option.bind_eq_some_iff.mp H
      obtain ⟨⟨t479, t480⟩, A1060, H⟩ := H
      try dsimp only at H
      have A106 := Aside0.mk A1060
      clear A1060
      replace H := Option.bind_eq_some_iff.mp H
      obtain ⟨⟨t481, t484⟩, A1070, H⟩ := H
      try dsimp only at H
      have A107 := Aside0.mk A1070
      clear A1070
      have HC108 := Aside0.mk H
      clear H
      obtain ⟨hnb109, hnc109⟩ := nn_ Nf_a
      obtain ⟨hnb110, hnc110⟩ := nn_ Nf_b
      obtain ⟨hnb111, hnc111⟩ := nn_ Nf_c
      obtain ⟨hnb112, hnc112⟩ := nn_ Nf_d
      obtain ⟨hnb113, hnc113⟩ := nn_ Nf_e
      obtain ⟨hnb114, hnc114⟩ := nn_ Nf_g
      have hcz115_0 := cz_ BKf 0 (.int .i64 t455)
      have hcz115_1 := cz_ BKf 1 (.int .i64 t456)
      have hcz115_2 := cz_ BKf 2 (.int .i64 t457)
      have hcz115_3 := cz_ BKf 3 (.int .i64 t458)
      have hfz115_0 := blk_frozen BKf.out 0
      have hfz115_1 := blk_frozen BKf.out 1
      have hfz115_2 := blk_frozen BKf.out 2
      have hfz115_3 := blk_frozen BKf.out 3
      go_upto_region 13 with (first | ((with_reducible refine gate_callee (f := 9) rfl ?_); refine gs_ (some 126) Try.func9 #[.int .i64 a0, .agg #[.int .i64 t455, .int .i64 t456, .int .i64 t457, .int .i64 t458]] ?_; (with_reducible refine (impl_IsTrueSeen.calls kj10 a0 t455 t456 t457 t458 t467 t468 _ A103.out).mono ?_); rintro e w116 ⟨rfl, hb⟩; refine ⟨_, rfl, ?_⟩; replace BKa := bb BKa hb; replace BKb := bb BKb hb; replace BKc := bb BKc hb; replace BKd := bb BKd hb; replace BKe := bb BKe hb; replace BKf := bb BKf hb; replace BKg := bb BKg hb; replace HB := hs HB hb; (try clear hb); (try clear hb2); (try clear hk); (try clear hi); have hcz117_0 := cz_ BKf 0 (.int .i64 t455); have hcz117_1 := cz_ BKf 1 (.int .i64 t456); have hcz117_2 := cz_ BKf 2 (.int .i64 t457); have hcz117_3 := cz_ BKf 3 (.int .i64 t458); have hfz117_0 := blk_frozen BKf.out 0; have hfz117_1 := blk_frozen BKf.out 1; have hfz117_2 := blk_frozen BKf.out 2; have hfz117_3 := blk_frozen BKf.out 3) | ((with_reducible refine gate_callee (f := 10) rfl ?_); refine gs_ (some 132) Try.func10 #[.int .i64 a0, .agg #[.int .i64 t455, .int .i64 t456, .int .i64 t457, .int .i64 t458]] ?_; (with_reducible refine (impl_TimeSeen.calls kj10 a0 t455 t456 t457 t458 t469 t470 t471 _ A104.out).mono ?_); rintro e w118 ⟨rfl, hb⟩; refine ⟨_, rfl, ?_⟩; replace BKa := bb BKa hb; replace BKb := bb BKb hb; replace BKc := bb BKc hb; replace BKd := bb BKd hb; replace BKe := bb BKe hb; replace BKf := bb BKf hb; replace BKg := bb BKg hb; replace HB := hs HB hb; (try clear hb); (try clear hb2); (try clear hk); (try clear hi)) | ((with_reducible refine gate_dst (N := 23) rfl ?_); (try (refine gate_guard (by rfl) ?_; dsimp only)); refine be_ (N := 23) (cs := #[.int .i64 0, .int .i64 0]) (t := 23) ?_; intro gbh hg w119 hbox hb; have BKh := Aside0.mk (hbox); have GWh := ge_ HB hg; have GEh := ge_ HB hg; obtain ⟨Na_h, Nh_a⟩ := nq_ BKa hg; obtain ⟨Nb_h, Nh_b⟩ := nq_ BKb hg; obtain ⟨Nc_h, Nh_c⟩ := nq_ BKc hg; obtain ⟨Nd_h, Nh_d⟩ := nq_ BKd hg; obtain ⟨Ne_h, Nh_e⟩ := nq_ BKe hg; obtain ⟨Nf_h, Nh_f⟩ := nq_ BKf hg; obtain ⟨Ng_h, Nh_g⟩ := nq_ BKg hg; replace BKa := bb BKa hb; replace BKb := bb BKb hb; replace BKc := bb BKc hb; replace BKd := bb BKd hb; replace BKe := bb BKe hb; replace BKf := bb BKf hb; replace BKg := bb BKg hb; replace HB := hs HB hb; clear hb hbox hg; obtain ⟨hnb120, hnc120⟩ := nn_ Nh_a; obtain ⟨hnb121, hnc121⟩ := nn_ Nh_b; obtain ⟨hnb122, hnc122⟩ := nn_ Nh_c; obtain ⟨hnb123, hnc123⟩ := nn_ Nh_d; obtain ⟨hnb124, hnc124⟩ := nn_ Nh_e; obtain ⟨hnb125, hnc125⟩ := nn_ Nh_f; obtain ⟨hnb126, hnc126⟩ := nn_ Nh_g; have hcz127_0 := cz_ BKh 0 (.int .i64 0); have hcz127_1 := cz_ BKh 1 (.int .i64 0); have hfz127_0 := blk_frozen BKh.out 0; have hfz127_1 := blk_frozen BKh.out 1; have hcz128_0 := cz_ BKf 0 (.int .i64 t455); have hcz128_1 := cz_ BKf 1 (.int .i64 t456); have hcz128_2 := cz_ BKf 2 (.int .i64 t457); have hcz128_3 := cz_ BKf 3 (.int .i64 t458); have hfz128_0 := blk_frozen BKf.out 0; have hfz128_1 := blk_frozen BKf.out 1; have hfz128_2 := blk_frozen BKf.out 2; have hfz128_3 := blk_frozen BKf.out 3) | ((with_reducible refine gate_callee (f := 11) rfl ?_); refine gs_ (some 137) Try.func11 #[.agg #[.int .i64 t455, .int .i64 t456, .int .i64 t457, .int .i64 t458]] ?_; (with_reducible refine (impl_ExchangeSeen.calls kj10 t455 t456 t457 t458 t473 t474 t475 t476 t477 _ A105.out).mono ?_); rintro e w129 ⟨rfl, hb⟩; refine ⟨_, rfl, ?_⟩; replace BKa := bb BKa hb; replace BKb := bb BKb hb; replace BKc := bb BKc hb; replace BKd := bb BKd hb; replace BKe := bb BKe hb; replace BKf := bb BKf hb; replace BKg := bb BKg hb; replace BKh := Aside0.mk (blk_below (g := gbh) (o := .cells #[.int .i64 t469, .int .i64 t470] 23 (0, 0)) (by (with_reducible repeat (first | refine blk_drewN ?_ _ | refine blk_drew ?_ | refine blk_alloc ?_ _)); refine blk_put (cs := #[.int .i64 t469, .int .i64 0]) ?_ 1 _ rfl; (with_reducible repeat (first | refine blk_drewN ?_ _ | refine blk_drew ?_ | refine blk_alloc ?_ _)); refine blk_put (cs := #[.int .i64 0, .int .i64 0]) ?_ 0 _ rfl; (with_reducible repeat (first | refine blk_drewN ?_ _ | refine blk_drew ?_ | refine blk_alloc ?_ _)); exact BKh.out) hb); replace HB := hs HB hb; (try clear hb); (try clear hb2); (try clear hk); (try clear hi)) | ((with_reducible refine gate_dst (N := 25) rfl ?_); (try (refine gate_guard (by rfl) ?_; dsimp only)); refine be_ (N := 25) (cs := #[.int .i64 0, .int .i64 0, .int .i64 0, .int .i64 0]) (t := 25) ?_; intro gbi hg w130 hbox hb; have BKi := Aside0.mk (hbox); have GWi := ge_ HB hg; have GEi := ge_ HB hg; obtain ⟨Na_i, Ni_a⟩ := nq_ BKa hg; obtain ⟨Nb_i, Ni_b⟩ := nq_ BKb hg; obtain ⟨Nc_i, Ni_c⟩ := nq_ BKc hg; obtain ⟨Nd_i, Ni_d⟩ := nq_ BKd hg; obtain ⟨Ne_i, Ni_e⟩ := nq_ BKe hg; obtain ⟨Nf_i, Ni_f⟩ := nq_ BKf hg; obtain ⟨Ng_i, Ni_g⟩ := nq_ BKg hg; obtain ⟨Nh_i, Ni_h⟩ := nq_ BKh hg; replace BKa := bb BKa hb; replace BKb := bb BKb hb; replace BKc := bb BKc hb; replace BKd := bb BKd hb; replace BKe := bb BKe hb; replace BKf := bb BKf hb; replace BKg := bb BKg hb; replace BKh := bb BKh hb; replace HB := hs HB hb; clear hb hbox hg; obtain ⟨hnb131, hnc131⟩ := nn_ Ni_a; obtain ⟨hnb132, hnc132⟩ := nn_ Ni_b; obtain ⟨hnb133, hnc133⟩ := nn_ Ni_c; obtain ⟨hnb134, hnc134⟩ := nn_ Ni_d; obtain ⟨hnb135, hnc135⟩ := nn_ Ni_e; obtain ⟨hnb136, hnc136⟩ := nn_ Ni_f; obtain ⟨hnb137, hnc137⟩ := nn_ Ni_g; obtain ⟨hnb138, hnc138⟩ := nn_ Ni_h; have hcz139_0 := cz_ BKi 0 (.int .i64 0); have hcz139_1 := cz_ BKi 1 (.int .i64 0); have hcz139_2 := cz_ BKi 2 (.int .i64 0); have hcz139_3 := cz_ BKi 3 (.int .i64 0); have hfz139_0 := blk_frozen BKi.out 0; have hfz139_1 := blk_frozen BKi.out 1; have hfz139_2 := blk_frozen BKi.out 2; have hfz139_3 := blk_frozen BKi.out 3) | ((with_reducible refine gate_callee (f := 9) rfl ?_); refine gs_ (some 143) Try.func9 #[.int .i64 a0, .agg #[.int .i64 t473, .int .i64 t474, .int .i64 t475, .int .i64 t476]] ?_; (with_reducible refine (impl_IsTrueSeen.calls kj10 a0 t473 t474 t475 t476 t479 t480 _ A106.out).mono ?_); rintro e w140 ⟨rfl, hb⟩; refine ⟨_, rfl, ?_⟩; replace BKa := bb BKa hb; replace BKb := bb BKb hb; replace BKc := bb BKc hb; replace BKd := bb BKd hb; replace BKe := bb BKe hb; replace BKf := bb BKf hb; replace BKg := bb BKg hb; replace BKh := bb BKh hb; replace BKi := Aside0.mk (blk_below (g := gbi) (o := .cells #[.int .i64 t473, .int .i64 t474, .int .i64 t475, .int .i64 t476] 25 (0, 0)) (by (with_reducible repeat (first | refine blk_drewN ?_ _ | refine blk_drew ?_ | refine blk_alloc ?_ _)); refine blk_put (cs := #[.int .i64 t473, .int .i64 t474, .int .i64 t475, .int .i64 0]) ?_ 3 _ rfl; (with_reducible repeat (first | refine blk_drewN ?_ _ | refine blk_drew ?_ | refine blk_alloc ?_ _)); refine blk_put (cs := #[.int .i64 t473, .int .i64 t474, .int .i64 0, .int .i64 0]) ?_ 2 _ rfl; (with_reducible repeat (first | refine blk_drewN ?_ _ | refine blk_drew ?_ | refine blk_alloc ?_ _)); refine blk_put (cs := #[.int .i64 t473, .int .i64 0, .int .i64 0, .int .i64 0]) ?_ 1 _ rfl; (with_reducible repeat (first | refine blk_drewN ?_ _ | refine blk_drew ?_ | refine blk_alloc ?_ _)); refine blk_put (cs := #[.int .i64 0, .int .i64 0, .int .i64 0, .int .i64 0]) ?_ 0 _ rfl; (with_reducible repeat (first | refine blk_drewN ?_ _ | refine blk_drew ?_ | refine blk_alloc ?_ _)); exact BKi.out) hb); replace HB := hs HB hb; (try clear hb); (try clear hb2); (try clear hk); (try clear hi); have hcz141_0 := cz_ BKf 0 (.int .i64 t455); have hcz141_1 := cz_ BKf 1 (.int .i64 t456); have hcz141_2 := cz_ BKf 2 (.int .i64 t457); have hcz141_3 := cz_ BKf 3 (.int .i64 t458); have hfz141_0 := blk_frozen BKf.out 0; have hfz141_1 := blk_frozen BKf.out 1; have hfz141_2 := blk_frozen BKf.out 2; have hfz141_3 := blk_frozen BKf.out 3) | ((with_reducible refine gate_callee (f := 12) rfl ?_); refine gs_ (some 149) Try.func12 #[.int .i64 a0, .agg #[.int .i64 t455, .int .i64 t456, .int .i64 t457, .int .i64 t458]] ?_; (with_reducible refine (impl_TimesAlike.calls kj10 a0 t455 t456 t457 t458 t481 t484 _ A107.out).mono ?_); rintro e w142 ⟨v482, rfl, ho0, hb⟩; refine ⟨_, rfl, ?_⟩; have HO483 := Aside0.mk (Kd.R_lower (Kd.R_newB (Kd.R_newB (Kd.R_newB (Kd.R_newB ho0 (bq_ BKa)) (bq_ BKd)) (bq_ BKe)) (bq_ BKh)) (bs_ HB)); replace BKa := bb BKa hb; replace BKb := bb BKb hb; replace BKc := bb BKc hb; replace BKd := bb BKd hb; replace BKe := bb BKe hb; replace BKf := bb BKf hb; replace BKg := bb BKg hb; replace BKh := bb BKh hb; replace BKi := bb BKi hb; replace HB := hs HB hb; (try clear hb); (try clear hb2); (try clear hk); (try clear hi); (try clear ho0)))
      (try simp only [Act.put, s1, s2, s3])
      go_cut [199] from 122 to 199 (fun v199 wc => ∃ (kq : Nat) (x199_107 : Bool), v199 = .bool x199_107 ∧ Aside0 (j1 kq a0 a2 a3 t449 t481 x199_107 a1_0 a1_1 a4_0 a4_1 a4_2 a4_3 a5_0 a5_1 a5_2 a5_3 t447 t448 = some r) ∧ Aside0 (kq ≤ kj10) ∧ Aside0 (Kd.R k23 23 wc w.heap.size (fun k_ => k_ ≠ gba ∧ k_ ≠ gbd ∧ k_ ≠ gbe ∧ k_ ≠ gbh) v482 t481) ∧ Aside0 (wc.heap[gba]? = some (.cells #[.int .i64 a1_0, .int .i64 a1_1] 23 (0, 0))) ∧ Aside0 (wc.heap[gbb]? = some (.cells #[.int .i64 a4_0, .int .i64 a4_1, .int .i64 a4_2, .int .i64 a4_3] 25 (0, 0))) ∧ Aside0 (wc.heap[gbc]? = some (.cells #[.int .i64 a5_0, .int .i64 a5_1, .int .i64 a5_2, .int .i64 a5_3] 25 (0, 0))) ∧ Aside0 (wc.heap[gbd]? = some (.cells #[.int .i64 t447, .int .i64 t448] 23 (0, 0))) ∧ Aside0 (wc.heap[gbe]? = some (.cells #[.int .i64 t451, .int .i64 t452] 23 (0, 0))) ∧ Aside0 (wc.heap[gbf]? = some (.cells #[.int .i64 t455, .int .i64 t456, .int .i64 t457, .int .i64 t458] 25 (0, 0))) ∧ Aside0 (wc.heap[gbg]? = some (.cells #[.int .i64 t461, .int .i64 t462, .int .i64 t463, .int .i64 t464] 25 (0, 0))) ∧ Aside0 (wc.heap[gbh]? = some (.cells #[.int .i64 t469, .int .i64 t470] 23 (0, 0))) ∧ Aside0 (wc.heap[gbi]? = some (.cells #[.int .i64 t473, .int .i64 t474, .int .i64 t475, .int .i64 t476] 25 (0, 0))) ∧ Aside0 (Below w.heap.size w wc))
      case first => as_aux_lemma =>
       have H := HC108.out
       clear HC108
       replace H := Option.bind_eq_some_iff.mp H
       obtain ⟨t485, A1430, H⟩ := H
       try dsimp only at H
       have A143 := Aside0.mk A1430
       clear A1430
       by_cases c144 : t485 = true
       ·
        subst c144
        have H1 : (if t468 = true then (if t467 = true then (if t471 = true then (if (!(t469 == a1_0) || (!(t470 == a1_1))) = true then (none) else (if t477 = true then (if t480 = true then (if (t479 != t449) = true then (none) else (if t484 = true then ((laws_wHas.f kj10 t481 a1_0 a1_1).bind fun t486 => (if t486 = true then ((laws_wRises.f kj10 t481).bind fun t487 => (j1 kj10 a0 a2 a3 t449 t481 (!t487) a1_0 a1_1 a4_0 a4_1 a4_2 a4_3 a5_0 a5_1 a5_2 a5_3 t447 t448)) else (none))) else (none))) else (none)) else (none))) else (none)) else (none)) else (none)) = some r := by rw [if_pos rfl] at H; exact H
        clear H
        have H := H1
        clear H1
        by_cases c145 : t468 = true
        ·
         subst c145
         have H1 : (if t467 = true then (if t471 = true then (if (!(t469 == a1_0) || (!(t470 == a1_1))) = true then (none) else (if t477 = true then (if t480 = true then (if (t479 != t449) = true then (none) else (if t484 = true then ((laws_wHas.f kj10 t481 a1_0 a1_1).bind fun t486 => (if t486 = true then ((laws_wRises.f kj10 t481).bind fun t487 => (j1 kj10 a0 a2 a3 t449 t481 (!t487) a1_0 a1_1 a4_0 a4_1 a4_2 a4_3 a5_0 a5_1 a5_2 a5_3 t447 t448)) else (none))) else (none))) else (none)) else (none))) else (none)) else (none)) = some r := by rw [if_pos rfl] at H; exact H
         clear H
         have H := H1
         clear H1
         by_cases c146 : t467 = true
         ·
          subst c146
          have H1 : (if t471 = true then (if (!(t469 == a1_0) || (!(t470 == a1_1))) = true then (none) else (if t477 = true then (if t480 = true then (if (t479 != t449) = true then (none) else (if t484 = true then ((laws_wHas.f kj10 t481 a1_0 a1_1).bind fun t486 => (if t486 = true then ((laws_wRises.f kj10 t481).bind fun t487 => (j1 kj10 a0 a2 a3 t449 t481 (!t487) a1_0 a1_1 a4_0 a4_1 a4_2 a4_3 a5_0 a5_1 a5_2 a5_3 t447 t448)) else (none))) else (none))) else (none)) else (none))) else (none)) = some r := by rw [if_pos rfl] at H; exact H
          clear H
          have H := H1
          clear H1
          by_cases c147 : t471 = true
          ·
           subst c147
           have H1 : (if (!(t469 == a1_0) || (!(t470 == a1_1))) = true then (none) else (if t477 = true then (if t480 = true then (if (t479 != t449) = true then (none) else (if t484 = true then ((laws_wHas.f kj10 t481 a1_0 a1_1).bind fun t486 => (if t486 = true then ((laws_wRises.f kj10 t481).bind fun t487 => (j1 kj10 a0 a2 a3 t449 t481 (!t487) a1_0 a1_1 a4_0 a4_1 a4_2 a4_3 a5_0 a5_1 a5_2 a5_3 t447 t448)) else (none))) else (none))) else (none)) else (none))) = some r := by rw [if_pos rfl] at H; exact H
           clear H
           have H := H1
           clear H1
           by_cases c148 : (!(t469 == a1_0) || (!(t470 == a1_1))) = true
           ·
            rw [if_pos c148] at H
            exact absurd H (by simp)
           ·
            rw [if_neg c148] at H
            have c148b0 : (!(t469 == a1_0) || (!(t470 == a1_1))) = false := by simpa using c148
            clear c148
            (first | rw [c148b0] | (simp only [i64_w, i32_w]; rw [c148b0]) | skip)
            by_cases c149 : t477 = true
            ·
             subst c149
             have H1 : (if t480 = true then (if (t479 != t449) = true then (none) else (if t484 = true then ((laws_wHas.f kj10 t481 a1_0 a1_1).bind fun t486 => (if t486 = true then ((laws_wRises.f kj10 t481).bind fun t487 => (j1 kj10 a0 a2 a3 t449 t481 (!t487) a1_0 a1_1 a4_0 a4_1 a4_2 a4_3 a5_0 a5_1 a5_2 a5_3 t447 t448)) else (none))) else (none))) else (none)) = some r := by rw [if_pos rfl] at H; exact H
             clear H
             have H := H1
             clear H1
             by_cases c150 : t480 = true
             ·
              subst c150
              have H1 : (if (t479 != t449) = true then (none) else (if t484 = true then ((laws_wHas.f kj10 t481 a1_0 a1_1).bind fun t486 => (if t486 = true then ((laws_wRises.f kj10 t481).bind fun t487 => (j1 kj10 a0 a2 a3 t449 t481 (!t487) a1_0 a1_1 a4_0 a4_1 a4_2 a4_3 a5_0 a5_1 a5_2 a5_3 t447 t448)) else (none))) else (none))) = some r := by rw [if_pos rfl] at H; exact H
              clear H
              have H := H1
              clear H1
              by_cases c151 : (t479 != t449) = true
              ·
               rw [if_pos c151] at H
               exact absurd H (by simp)
              ·
               rw [if_neg c151] at H
               have c151b0 : (t479 != t449) = false := by simpa using c151
               (try (have c151b1 : decide (t479 = t449) = true := by simpa using c151))
               (try (have c151b2 : (t479 == t449) = true := by simpa using c151))
               clear c151
               by_cases c152 : t484 = true
               ·
                subst c152
                have H1 : ((laws_wHas.f kj10 t481 a1_0 a1_1).bind fun t486 => (if t486 = true then ((laws_wRises.f kj10 t481).bind fun t487 => (j1 kj10 a0 a2 a3 t449 t481 (!t487) a1_0 a1_1 a4_0 a4_1 a4_2 a4_3 a5_0 a5_1 a5_2 a5_3 t447 t448)) else (none))) = some r := by rw [if_pos rfl] at H; exact H
                clear H
                have H := H1
                clear H1
                replace H := Option.bind_eq_some_iff.mp H
                obtain ⟨t486, A1530, H⟩ := H
                try dsimp only at H
                have A153 := Aside0.mk A1530
                clear A1530
                by_cases c154 : t486 = true
                ·
                 subst c154
                 have H1 : ((laws_wRises.f kj10 t481).bind fun t487 => (j1 kj10 a0 a2 a3 t449 t481 (!t487) a1_0 a1_1 a4_0 a4_1 a4_2 a4_3 a5_0 a5_1 a5_2 a5_3 t447 t448)) = some r := by rw [if_pos rfl] at H; exact H
                 clear H
                 have H := H1
                 clear H1
                 replace H := Option.bind_eq_some_iff.mp H
                 obtain ⟨t487, A1550, H⟩ := H
                 try dsimp only at H
                 have A155 := Aside0.mk A1550
                 clear A1550
                 as_aux_lemma =>
                  have H' := Aside0.mk H
                  clear H
                  obtain ⟨hnb156, hnc156⟩ := nn_ Nf_a
                  obtain ⟨hnb157, hnc157⟩ := nn_ Nf_b
                  obtain ⟨hnb158, hnc158⟩ := nn_ Nf_c
                  obtain ⟨hnb159, hnc159⟩ := nn_ Nf_d
                  obtain ⟨hnb160, hnc160⟩ := nn_ Nf_e
                  obtain ⟨hnb161, hnc161⟩ := nn_ Nf_g
                  obtain ⟨hnb162, hnc162⟩ := nn_ Nf_h
                  obtain ⟨hnb163, hnc163⟩ := nn_ Nf_i
                  have hcz164_0 := cz_ BKf 0 (.int .i64 t455)
                  have hcz164_1 := cz_ BKf 1 (.int .i64 t456)
                  have hcz164_2 := cz_ BKf 2 (.int .i64 t457)
                  have hcz164_3 := cz_ BKf 3 (.int .i64 t458)
                  have hfz164_0 := blk_frozen BKf.out 0
                  have hfz164_1 := blk_frozen BKf.out 1
                  have hfz164_2 := blk_frozen BKf.out 2
                  have hfz164_3 := blk_frozen BKf.out 3
                  go_wp2_with (first | ((with_reducible refine gate_callee (f := 13) rfl ?_); refine gs_ (some 153) Try.func13 #[.agg #[.int .i64 t455, .int .i64 t456, .int .i64 t457, .int .i64 t458]] ?_; (with_reducible refine (impl_IsSeen.calls kj10 t455 t456 t457 t458 true _ A143.out).mono ?_); rintro e w165 ⟨rfl, hb⟩; refine ⟨_, rfl, ?_⟩; replace HO483 := hr_ HO483 hb; replace BKa := bb BKa hb; replace BKb := bb BKb hb; replace BKc := bb BKc hb; replace BKd := bb BKd hb; replace BKe := bb BKe hb; replace BKf := bb BKf hb; replace BKg := bb BKg hb; replace BKh := bb BKh hb; replace BKi := bb BKi hb; replace HB := hs HB hb; (try clear hb); (try clear hb2); (try clear hk); (try clear hi); obtain ⟨hnb166, hnc166⟩ := nn_ Nh_a; obtain ⟨hnb167, hnc167⟩ := nn_ Nh_b; obtain ⟨hnb168, hnc168⟩ := nn_ Nh_c; obtain ⟨hnb169, hnc169⟩ := nn_ Nh_d; obtain ⟨hnb170, hnc170⟩ := nn_ Nh_e; obtain ⟨hnb171, hnc171⟩ := nn_ Nh_g; obtain ⟨hnb172, hnc172⟩ := nn_ Nh_i; have hcz173_0 := cz_ BKh 0 (.int .i64 t469); have hcz173_1 := cz_ BKh 1 (.int .i64 t470); have hfz173_0 := blk_frozen BKh.out 0; have hfz173_1 := blk_frozen BKh.out 1; obtain ⟨hnb174, hnc174⟩ := nn_ Na_b; obtain ⟨hnb175, hnc175⟩ := nn_ Na_c; obtain ⟨hnb176, hnc176⟩ := nn_ Na_d; obtain ⟨hnb177, hnc177⟩ := nn_ Na_e; obtain ⟨hnb178, hnc178⟩ := nn_ Na_g; obtain ⟨hnb179, hnc179⟩ := nn_ Na_i; have hcz180_0 := cz_ BKa 0 (.int .i64 a1_0); have hcz180_1 := cz_ BKa 1 (.int .i64 a1_1); have hfz180_0 := blk_frozen BKa.out 0; have hfz180_1 := blk_frozen BKa.out 1; obtain ⟨Ao181, co181, eo181⟩ := Kd.R_slice HO483.out; subst eo181) | (go_at_call 14; refine calls_of_args (args' := #[.slice Ao181 t481.length co181, .agg #[.int .i64 a1_0, .int .i64 a1_1]]) (by first | rfl) ?_; (with_reducible refine (laws_wHas.calls kj10 _ _ t481 a1_0 a1_1 true _ ?side1 ?side2 A153.out).mono ?_); (case side1 => repeat (first | exact (Kd.R_reads' HO483.out).2.2 | (with_reducible refine Kd.C_alloc ?_ _) | (with_reducible refine Kd.C_drewN ?_ _) | (with_reducible refine Kd.C_drew ?_))); (case side2 => exact (Kd.R_reads' HO483.out).2.1); rintro e w182 ⟨rfl, hb⟩; replace HO483 := hr_ HO483 hb; replace BKa := bb BKa hb; replace BKb := bb BKb hb; replace BKc := bb BKc hb; replace BKd := bb BKd hb; replace BKe := bb BKe hb; replace BKf := bb BKf hb; replace BKg := bb BKg hb; replace BKh := bb BKh hb; replace BKi := bb BKi hb; replace HB := hs HB hb; (try clear hb); (try clear hb2); (try clear hk); (try clear hi)) | (go_at_call 15; refine calls_of_args (args' := #[.slice Ao181 t481.length co181]) (by first | rfl) ?_; (with_reducible refine (laws_wRises.calls kj10 _ _ t481 t487 _ ?side1 ?side2 A155.out).mono ?_); (case side1 => repeat (first | exact (Kd.R_reads' HO483.out).2.2 | (with_reducible refine Kd.C_alloc ?_ _) | (with_reducible refine Kd.C_drewN ?_ _) | (with_reducible refine Kd.C_drew ?_))); (case side2 => exact (Kd.R_reads' HO483.out).2.1); rintro e w' ⟨rfl, ⟨nd, rfl⟩⟩))
                  go_meet
                  case rel => exact ⟨_, (!t487), (by first | rfl | (simp; done) | (simp [*]; done)), H', ⟨by have := HJ10.out; first | omega | exact Nat.le_refl _⟩, ⟨by (with_reducible repeat (first | apply Kd.R_alloc | apply Kd.R_drewN | apply Kd.R_drew)); exact Kd.R_mono HO483.out (fun _ hk => ⟨hk.1.1.1.2, ⟨hk.1.1.2, ⟨hk.1.2, hk.2⟩⟩⟩)⟩, bk_ BKa, bk_ BKb, bk_ BKc, bk_ BKd, bk_ BKe, bk_ BKf, bk_ BKg, bk_ BKh, bk_ BKi, hb_ HB⟩
                ·
                 replace c154 := Bool.eq_false_iff.mpr c154
                 subst c154
                 have H1 : (none) = some r := by rw [if_neg (show ¬ (false = true) by decide)] at H; exact H
                 clear H
                 have H := H1
                 clear H1
                 exact absurd H (by simp)
               ·
                replace c152 := Bool.eq_false_iff.mpr c152
                subst c152
                have H1 : (none) = some r := by rw [if_neg (show ¬ (false = true) by decide)] at H; exact H
                clear H
                have H := H1
                clear H1
                exact absurd H (by simp)
             ·
              replace c150 := Bool.eq_false_iff.mpr c150
              subst c150
              have H1 : (none) = some r := by rw [if_neg (show ¬ (false = true) by decide)] at H; exact H
              clear H
              have H := H1
              clear H1
              exact absurd H (by simp)
            ·
             replace c149 := Bool.eq_false_iff.mpr c149
             subst c149
             have H1 : (none) = some r := by rw [if_neg (show ¬ (false = true) by decide)] at H; exact H
             clear H
             have H := H1
             clear H1
             exact absurd H (by simp)
          ·
           replace c147 := Bool.eq_false_iff.mpr c147
           subst c147
           have H1 : (none) = some r := by rw [if_neg (show ¬ (false = true) by decide)] at H; exact H
           clear H
           have H := H1
           clear H1
           exact absurd H (by simp)
         ·
          replace c146 := Bool.eq_false_iff.mpr c146
          subst c146
          have H1 : (none) = some r := by rw [if_neg (show ¬ (false = true) by decide)] at H; exact H
          clear H
          have H := H1
          clear H1
          exact absurd H (by simp)
        ·
         replace c145 := Bool.eq_false_iff.mpr c145
         subst c145
         have H1 : (none) = some r := by rw [if_neg (show ¬ (false = true) by decide)] at H; exact H
         clear H
         have H := H1
         clear H1
         exact absurd H (by simp)
       ·
        replace c144 := Bool.eq_false_iff.mpr c144
        subst c144
        have H1 : (none) = some r := by rw [if_neg (show ¬ (false = true) by decide)] at H; exact H
        clear H
        have H := H1
        clear H1
        exact absurd H (by simp)
      case rest => as_aux_lemma =>
       clear HC108
       try clear c100
       try clear c102
       try clear hcz115_0
       try clear hcz115_1
       try clear hcz115_2
       try clear hcz115_3
       try clear hfz115_0
       try clear hfz115_1
       try clear hfz115_2
       try clear hfz115_3
       obtain ⟨kq, x199_107, rfl, HA, HJ107, HO_29, BKa, BKb, BKc, BKd, BKe, BKf, BKg, BKh, BKi, HB⟩ := hcut
       cases kq with
       | zero => exact absurd HA.out (by simp [j1])
       | succ kj107 =>
        have H := HA.out
        clear HA
        simp only [j1] at H
        by_cases c183 : x199_107 = true
        ·
         subst c183
         have H1 : (none) = some r := by rw [if_pos rfl] at H; exact H
         clear H
         have H := H1
         clear H1
         exact absurd H (by simp)
        ·
         replace c183 := Bool.eq_false_iff.mpr c183
         subst c183
         have H1 : (if t449 = true then (j2 kj107 a0 a2 a3 t449 t481 1 (!(t447 == a1_0) || (!(t448 == a1_1))) a1_0 a1_1 a4_0 a4_1 a4_2 a4_3 a5_0 a5_1 a5_2 a5_3 t447 t448) else (j2 kj107 a0 a2 a3 t449 t481 1 false a1_0 a1_1 a4_0 a4_1 a4_2 a4_3 a5_0 a5_1 a5_2 a5_3 t447 t448)) = some r := by rw [if_neg (show ¬ (false = true) by decide)] at H; exact H
         clear H
         have H := H1
         clear H1
         have HC184 := Aside0.mk H
         clear H
         go_upto_region 16 with (fail)
         go_cut [205] from 200 to 205 (fun v205 wc => ∃ (kq : Nat) (x205_183 : Bool), v205 = .bool x205_183 ∧ Aside0 (j2 kq a0 a2 a3 t449 t481 1 x205_183 a1_0 a1_1 a4_0 a4_1 a4_2 a4_3 a5_0 a5_1 a5_2 a5_3 t447 t448 = some r) ∧ Aside0 (kq ≤ kj107) ∧ Aside0 (Kd.R k23 23 wc w.heap.size (fun k_ => k_ ≠ gba ∧ k_ ≠ gbd ∧ k_ ≠ gbe ∧ k_ ≠ gbh) v482 t481) ∧ Aside0 (wc.heap[gba]? = some (.cells #[.int .i64 a1_0, .int .i64 a1_1] 23 (0, 0))) ∧ Aside0 (wc.heap[gbb]? = some (.cells #[.int .i64 a4_0, .int .i64 a4_1, .int .i64 a4_2, .int .i64 a4_3] 25 (0, 0))) ∧ Aside0 (wc.heap[gbc]? = some (.cells #[.int .i64 a5_0, .int .i64 a5_1, .int .i64 a5_2, .int .i64 a5_3] 25 (0, 0))) ∧ Aside0 (wc.heap[gbd]? = some (.cells #[.int .i64 t447, .int .i64 t448] 23 (0, 0))) ∧ Aside0 (wc.heap[gbe]? = some (.cells #[.int .i64 t451, .int .i64 t452] 23 (0, 0))) ∧ Aside0 (wc.heap[gbf]? = some (.cells #[.int .i64 t455, .int .i64 t456, .int .i64 t457, .int .i64 t458] 25 (0, 0))) ∧ Aside0 (wc.heap[gbg]? = some (.cells #[.int .i64 t461, .int .i64 t462, .int .i64 t463, .int .i64 t464] 25 (0, 0))) ∧ Aside0 (wc.heap[gbh]? = some (.cells #[.int .i64 t469, .int .i64 t470] 23 (0, 0))) ∧ Aside0 (wc.heap[gbi]? = some (.cells #[.int .i64 t473, .int .i64 t474, .int .i64 t475, .int .i64 t476] 25 (0, 0))) ∧ Aside0 (Below w.heap.size w wc))
         case first => as_aux_lemma =>
          have H := HC184.out
          clear HC184
          by_cases c185 : t449 = true
          ·
           subst c185
           have H1 : (j2 kj107 a0 a2 a3 true t481 1 (!(t447 == a1_0) || (!(t448 == a1_1))) a1_0 a1_1 a4_0 a4_1 a4_2 a4_3 a5_0 a5_1 a5_2 a5_3 t447 t448) = some r := by rw [if_pos rfl] at H; exact H
           clear H
           have H := H1
           clear H1
           as_aux_lemma =>
            have H' := Aside0.mk H
            clear H
            obtain ⟨hnb186, hnc186⟩ := nn_ Nd_a
            obtain ⟨hnb187, hnc187⟩ := nn_ Nd_b
            obtain ⟨hnb188, hnc188⟩ := nn_ Nd_c
            obtain ⟨hnb189, hnc189⟩ := nn_ Nd_e
            obtain ⟨hnb190, hnc190⟩ := nn_ Nd_f
            obtain ⟨hnb191, hnc191⟩ := nn_ Nd_g
            obtain ⟨hnb192, hnc192⟩ := nn_ Nd_h
            obtain ⟨hnb193, hnc193⟩ := nn_ Nd_i
            have hcz194_0 := cz_ BKd 0 (.int .i64 t447)
            have hcz194_1 := cz_ BKd 1 (.int .i64 t448)
            have hfz194_0 := blk_frozen BKd.out 0
            have hfz194_1 := blk_frozen BKd.out 1
            obtain ⟨hnb195, hnc195⟩ := nn_ Na_b
            obtain ⟨hnb196, hnc196⟩ := nn_ Na_c
            obtain ⟨hnb197, hnc197⟩ := nn_ Na_e
            obtain ⟨hnb198, hnc198⟩ := nn_ Na_f
            obtain ⟨hnb199, hnc199⟩ := nn_ Na_g
            obtain ⟨hnb200, hnc200⟩ := nn_ Na_h
            obtain ⟨hnb201, hnc201⟩ := nn_ Na_i
            have hcz202_0 := cz_ BKa 0 (.int .i64 a1_0)
            have hcz202_1 := cz_ BKa 1 (.int .i64 a1_1)
            have hfz202_0 := blk_frozen BKa.out 0
            have hfz202_1 := blk_frozen BKa.out 1
            go_wp2
            go_meet
            case rel => exact ⟨_, ((!(t447 == a1_0) || (!(t448 == a1_1)))), (by first | rfl | (simp; done) | (simp [*]; done)), H', ⟨by have := HJ10.out; have := HJ107.out; first | omega | exact Nat.le_refl _⟩, ⟨by (with_reducible repeat (first | apply Kd.R_alloc | apply Kd.R_drewN | apply Kd.R_drew)); exact HO_29.out⟩, bk_ BKa, bk_ BKb, bk_ BKc, bk_ BKd, bk_ BKe, bk_ BKf, bk_ BKg, bk_ BKh, bk_ BKi, hb_ HB⟩
          ·
           replace c185 := Bool.eq_false_iff.mpr c185
           subst c185
           have H1 : (j2 kj107 a0 a2 a3 false t481 1 false a1_0 a1_1 a4_0 a4_1 a4_2 a4_3 a5_0 a5_1 a5_2 a5_3 t447 t448) = some r := by rw [if_neg (show ¬ (false = true) by decide)] at H; exact H
           clear H
           have H := H1
           clear H1
           as_aux_lemma =>
            have H' := Aside0.mk H
            clear H
            go_wp2
            go_meet
            case rel => exact ⟨_, (false), (by first | rfl | (simp; done) | (simp [*]; done)), H', ⟨by have := HJ10.out; have := HJ107.out; first | omega | exact Nat.le_refl _⟩, ⟨by (with_reducible repeat (first | apply Kd.R_alloc | apply Kd.R_drewN | apply Kd.R_drew)); exact HO_29.out⟩, bk_ BKa, bk_ BKb, bk_ BKc, bk_ BKd, bk_ BKe, bk_ BKf, bk_ BKg, bk_ BKh, bk_ BKi, hb_ HB⟩
         case rest => as_aux_lemma =>
          clear HC184
          try clear c100
          try clear c102
          try clear c183
          try clear hcz115_0
          try clear hcz115_1
          try clear hcz115_2
          try clear hcz115_3
          try clear hfz115_0
          try clear hfz115_1
          try clear hfz115_2
          try clear hfz115_3
          obtain ⟨kq, x205_183, rfl, HA, HJ183, HO_29, BKa, BKb, BKc, BKd, BKe, BKf, BKg, BKh, BKi, HB⟩ := hcut
          cases kq with
          | zero => exact absurd HA.out (by simp [j2])
          | succ kj183 =>
           have H := HA.out
           clear HA
           simp only [j2] at H
           by_cases c203 : x205_183 = true
           ·
            subst c203
            have H1 : (if (t481.length : Int) = 2 then (if t449 = true then ((laws_wHas.f kj183 t481 t447 t448).bind fun t488 => (if t488 = true then (j3 kj183 a0 a2 a3 t449 a1_0 a1_1 a4_0 a4_1 a4_2 a4_3 a5_0 a5_1 a5_2 a5_3 t447 t448) else (none))) else (j3 kj183 a0 a2 a3 t449 a1_0 a1_1 a4_0 a4_1 a4_2 a4_3 a5_0 a5_1 a5_2 a5_3 t447 t448)) else (none)) = some r := by rw [if_pos rfl] at H; exact H
            clear H
            have H := H1
            clear H1
            by_cases c204 : (t481.length : Int) = 2
            ·
             rw [if_pos c204] at H
             have c204b0 : ((t481.length : Int) == 2) = true := beq_iff_eq.mpr c204
             have c204b1 : ((t481.length : Int) != 2) = false := bne_eq_false_iff_eq.mpr c204
             clear c204
             by_cases c205 : t449 = true
             ·
              subst c205
              have H1 : ((laws_wHas.f kj183 t481 t447 t448).bind fun t488 => (if t488 = true then (j3 kj183 a0 a2 a3 true a1_0 a1_1 a4_0 a4_1 a4_2 a4_3 a5_0 a5_1 a5_2 a5_3 t447 t448) else (none))) = some r := by rw [if_pos rfl] at H; exact H
              clear H
              have H := H1
              clear H1
              replace H := Option.bind_eq_some_iff.mp H
              obtain ⟨t488, A2060, H⟩ := H
              try dsimp only at H
              have A206 := Aside0.mk A2060
              clear A2060
              by_cases c207 : t488 = true
              ·
               subst c207
               have H1 : (j3 kj183 a0 a2 a3 true a1_0 a1_1 a4_0 a4_1 a4_2 a4_3 a5_0 a5_1 a5_2 a5_3 t447 t448) = some r := by rw [if_pos rfl] at H; exact H
               clear H
               have H := H1
               clear H1
               as_aux_lemma =>
                have H' := Aside0.mk H
                clear H
                obtain ⟨Ao208, co208, eo208⟩ := Kd.R_slice HO_29.out
                subst eo208
                obtain ⟨hnb209, hnc209⟩ := nn_ Nd_a
                obtain ⟨hnb210, hnc210⟩ := nn_ Nd_b
                obtain ⟨hnb211, hnc211⟩ := nn_ Nd_c
                obtain ⟨hnb212, hnc212⟩ := nn_ Nd_e
                obtain ⟨hnb213, hnc213⟩ := nn_ Nd_f
                obtain ⟨hnb214, hnc214⟩ := nn_ Nd_g
                obtain ⟨hnb215, hnc215⟩ := nn_ Nd_h
                obtain ⟨hnb216, hnc216⟩ := nn_ Nd_i
                have hcz217_0 := cz_ BKd 0 (.int .i64 t447)
                have hcz217_1 := cz_ BKd 1 (.int .i64 t448)
                have hfz217_0 := blk_frozen BKd.out 0
                have hfz217_1 := blk_frozen BKd.out 1
                go_wp2_with (first | (go_at_call 14; refine calls_of_args (args' := #[.slice Ao208 t481.length co208, .agg #[.int .i64 t447, .int .i64 t448]]) (by first | rfl) ?_; (with_reducible refine (laws_wHas.calls kj183 _ _ t481 t447 t448 true _ ?side1 ?side2 A206.out).mono ?_); (case side1 => repeat (first | exact (Kd.R_reads' HO_29.out).2.2 | (with_reducible refine Kd.C_alloc ?_ _) | (with_reducible refine Kd.C_drewN ?_ _) | (with_reducible refine Kd.C_drew ?_))); (case side2 => exact (Kd.R_reads' HO_29.out).2.1); rintro e w218 ⟨rfl, hb⟩; replace HO_29 := hr_ HO_29 hb; replace BKa := bb BKa hb; replace BKb := bb BKb hb; replace BKc := bb BKc hb; replace BKd := bb BKd hb; replace BKe := bb BKe hb; replace BKf := bb BKf hb; replace BKg := bb BKg hb; replace BKh := bb BKh hb; replace BKi := bb BKi hb; replace HB := hs HB hb; (try clear hb); (try clear hb2); (try clear hk); (try clear hi)))
                go_meet
                case rel => exact ⟨_, H', ⟨by have := HJ10.out; have := HJ107.out; have := HJ183.out; first | omega | exact Nat.le_refl _⟩, bk_ BKa, bk_ BKb, bk_ BKc, bk_ BKd, bk_ BKe, bk_ BKf, bk_ BKg, hb_ HB⟩
              ·
               replace c207 := Bool.eq_false_iff.mpr c207
               subst c207
               have H1 : (none) = some r := by rw [if_neg (show ¬ (false = true) by decide)] at H; exact H
               clear H
               have H := H1
               clear H1
               exact absurd H (by simp)
             ·
              replace c205 := Bool.eq_false_iff.mpr c205
              subst c205
              have H1 : (j3 kj183 a0 a2 a3 false a1_0 a1_1 a4_0 a4_1 a4_2 a4_3 a5_0 a5_1 a5_2 a5_3 t447 t448) = some r := by rw [if_neg (show ¬ (false = true) by decide)] at H; exact H
              clear H
              have H := H1
              clear H1
              as_aux_lemma =>
               have H' := Aside0.mk H
               clear H
               obtain ⟨Ao219, co219, eo219⟩ := Kd.R_slice HO_29.out
               subst eo219
               go_wp2
               go_meet
               case rel => exact ⟨_, H', ⟨by have := HJ10.out; have := HJ107.out; have := HJ183.out; first | omega | exact Nat.le_refl _⟩, bk_ BKa, bk_ BKb, bk_ BKc, bk_ BKd, bk_ BKe, bk_ BKf, bk_ BKg, hb_ HB⟩
            ·
             rw [if_neg c204] at H
             exact absurd H (by simp)
           ·
            replace c203 := Bool.eq_false_iff.mpr c203
            subst c203
            have H1 : (if (t481.length : Int) = 1 then (if t449 = true then ((laws_wHas.f kj183 t481 t447 t448).bind fun t489 => (if t489 = true then (j3 kj183 a0 a2 a3 t449 a1_0 a1_1 a4_0 a4_1 a4_2 a4_3 a5_0 a5_1 a5_2 a5_3 t447 t448) else (none))) else (j3 kj183 a0 a2 a3 t449 a1_0 a1_1 a4_0 a4_1 a4_2 a4_3 a5_0 a5_1 a5_2 a5_3 t447 t448)) else (none)) = some r := by rw [if_neg (show ¬ (false = true) by decide)] at H; exact H
            clear H
            have H := H1
            clear H1
            by_cases c220 : (t481.length : Int) = 1
            ·
             rw [if_pos c220] at H
             have c220b0 : ((t481.length : Int) == 1) = true := beq_iff_eq.mpr c220
             have c220b1 : ((t481.length : Int) != 1) = false := bne_eq_false_iff_eq.mpr c220
             clear c220
             by_cases c221 : t449 = true
             ·
              subst c221
              have H1 : ((laws_wHas.f kj183 t481 t447 t448).bind fun t489 => (if t489 = true then (j3 kj183 a0 a2 a3 true a1_0 a1_1 a4_0 a4_1 a4_2 a4_3 a5_0 a5_1 a5_2 a5_3 t447 t448) else (none))) = some r := by rw [if_pos rfl] at H; exact H
              clear H
              have H := H1
              clear H1
              replace H := Option.bind_eq_some_iff.mp H
              obtain ⟨t489, A2220, H⟩ := H
              try dsimp only at H
              have A222 := Aside0.mk A2220
              clear A2220
              by_cases c223 : t489 = true
              ·
               subst c223
               have H1 : (j3 kj183 a0 a2 a3 true a1_0 a1_1 a4_0 a4_1 a4_2 a4_3 a5_0 a5_1 a5_2 a5_3 t447 t448) = some r := by rw [if_pos rfl] at H; exact H
               clear H
               have H := H1
               clear H1
               as_aux_lemma =>
                have H' := Aside0.mk H
                clear H
                obtain ⟨Ao224, co224, eo224⟩ := Kd.R_slice HO_29.out
                subst eo224
                obtain ⟨hnb225, hnc225⟩ := nn_ Nd_a
                obtain ⟨hnb226, hnc226⟩ := nn_ Nd_b
                obtain ⟨hnb227, hnc227⟩ := nn_ Nd_c
                obtain ⟨hnb228, hnc228⟩ := nn_ Nd_e
                obtain ⟨hnb229, hnc229⟩ := nn_ Nd_f
                obtain ⟨hnb230, hnc230⟩ := nn_ Nd_g
                obtain ⟨hnb231, hnc231⟩ := nn_ Nd_h
                obtain ⟨hnb232, hnc232⟩ := nn_ Nd_i
                have hcz233_0 := cz_ BKd 0 (.int .i64 t447)
                have hcz233_1 := cz_ BKd 1 (.int .i64 t448)
                have hfz233_0 := blk_frozen BKd.out 0
                have hfz233_1 := blk_frozen BKd.out 1
                go_wp2_with (first | (go_at_call 14; refine calls_of_args (args' := #[.slice Ao224 t481.length co224, .agg #[.int .i64 t447, .int .i64 t448]]) (by first | rfl) ?_; (with_reducible refine (laws_wHas.calls kj183 _ _ t481 t447 t448 true _ ?side1 ?side2 A222.out).mono ?_); (case side1 => repeat (first | exact (Kd.R_reads' HO_29.out).2.2 | (with_reducible refine Kd.C_alloc ?_ _) | (with_reducible refine Kd.C_drewN ?_ _) | (with_reducible refine Kd.C_drew ?_))); (case side2 => exact (Kd.R_reads' HO_29.out).2.1); rintro e w234 ⟨rfl, hb⟩; replace HO_29 := hr_ HO_29 hb; replace BKa := bb BKa hb; replace BKb := bb BKb hb; replace BKc := bb BKc hb; replace BKd := bb BKd hb; replace BKe := bb BKe hb; replace BKf := bb BKf hb; replace BKg := bb BKg hb; replace BKh := bb BKh hb; replace BKi := bb BKi hb; replace HB := hs HB hb; (try clear hb); (try clear hb2); (try clear hk); (try clear hi)))
                go_meet
                case rel => exact ⟨_, H', ⟨by have := HJ10.out; have := HJ107.out; have := HJ183.out; first | omega | exact Nat.le_refl _⟩, bk_ BKa, bk_ BKb, bk_ BKc, bk_ BKd, bk_ BKe, bk_ BKf, bk_ BKg, hb_ HB⟩
              ·
               replace c223 := Bool.eq_false_iff.mpr c223
               subst c223
               have H1 : (none) = some r := by rw [if_neg (show ¬ (false = true) by decide)] at H; exact H
               clear H
               have H := H1
               clear H1
               exact absurd H (by simp)
             ·
              replace c221 := Bool.eq_false_iff.mpr c221
              subst c221
              have H1 : (j3 kj183 a0 a2 a3 false a1_0 a1_1 a4_0 a4_1 a4_2 a4_3 a5_0 a5_1 a5_2 a5_3 t447 t448) = some r := by rw [if_neg (show ¬ (false = true) by decide)] at H; exact H
              clear H
              have H := H1
              clear H1
              as_aux_lemma =>
               have H' := Aside0.mk H
               clear H
               obtain ⟨Ao235, co235, eo235⟩ := Kd.R_slice HO_29.out
               subst eo235
               go_wp2
               go_meet
               case rel => exact ⟨_, H', ⟨by have := HJ10.out; have := HJ107.out; have := HJ183.out; first | omega | exact Nat.le_refl _⟩, bk_ BKa, bk_ BKb, bk_ BKc, bk_ BKd, bk_ BKe, bk_ BKf, bk_ BKg, hb_ HB⟩
            ·
             rw [if_neg c220] at H
             exact absurd H (by simp)
     ·
      replace c102 := Bool.eq_false_iff.mpr c102
      subst c102
      have H1 : (j3 kj10 a0 a2 a3 t449 a1_0 a1_1 a4_0 a4_1 a4_2 a4_3 a5_0 a5_1 a5_2 a5_3 t447 t448) = some r := by rw [if_neg (show ¬ (false = true) by decide)] at H; exact H
      clear H
      have H := H1
      clear H1
      as_aux_lemma =>
       have H' := Aside0.mk H
       clear H
       go_wp2
       go_meet
       case rel => exact ⟨_, H', ⟨by have := HJ10.out; first | omega | exact Nat.le_refl _⟩, bk_ BKa, bk_ BKb, bk_ BKc, bk_ BKd, bk_ BKe, bk_ BKf, bk_ BKg, hb_ HB⟩
    case rest => as_aux_lemma =>
     clear HC101
     try clear c100
     obtain ⟨kq, HA, HJ100, BKa, BKb, BKc, BKd, BKe, BKf, BKg, HB⟩ := hcut
     cases kq with
     | zero => exact absurd HA.out (by simp [j3])
     | succ kj100 =>
      have H := HA.out
      clear HA
      simp only [j3] at H
      have HC236 := Aside0.mk H
      clear H
      go_upto_if 219 with (fail)
      go_cut [] from 206 to 312 (fun wc => ∃ (kq : Nat), Aside0 (j4 kq a2 a3 a4_0 a4_1 a4_2 a4_3 a5_0 a5_1 a5_2 a5_3 = some r) ∧ Aside0 (kq ≤ kj100) ∧ Aside0 (wc.heap[gba]? = some (.cells #[.int .i64 a1_0, .int .i64 a1_1] 23 (0, 0))) ∧ Aside0 (wc.heap[gbb]? = some (.cells #[.int .i64 a4_0, .int .i64 a4_1, .int .i64 a4_2, .int .i64 a4_3] 25 (0, 0))) ∧ Aside0 (wc.heap[gbc]? = some (.cells #[.int .i64 a5_0, .int .i64 a5_1, .int .i64 a5_2, .int .i64 a5_3] 25 (0, 0))) ∧ Aside0 (wc.heap[gbd]? = some (.cells #[.int .i64 t447, .int .i64 t448] 23 (0, 0))) ∧ Aside0 (wc.heap[gbe]? = some (.cells #[.int .i64 t451, .int .i64 t452] 23 (0, 0))) ∧ Aside0 (wc.heap[gbf]? = some (.cells #[.int .i64 t455, .int .i64 t456, .int .i64 t457, .int .i64 t458] 25 (0, 0))) ∧ Aside0 (wc.heap[gbg]? = some (.cells #[.int .i64 t461, .int .i64 t462, .int .i64 t463, .int .i64 t464] 25 (0, 0))) ∧ Aside0 (Below w.heap.size w wc))
      case first => as_aux_lemma =>
       have H := HC236.out
       clear HC236
       by_cases c237 : t449 = true
       ·
        subst c237
        have H1 : ((impl_ExchangedTime.f kj100 a0 t447 t448).bind fun bt490 => (if bt490.2.2 = true then (if (!(bt490.1 == a1_0) || (!(bt490.2.1 == a1_1))) = true then (none) else (if a1_1 = 0 then (none) else (if (Int.tmod (wrap64 ((wrap64 (a0 * a0)) - 1)) a1_1) = 0 then (j4 kj100 a2 a3 a4_0 a4_1 a4_2 a4_3 a5_0 a5_1 a5_2 a5_3) else (none)))) else (none))) = some r := by rw [if_pos rfl] at H; exact H
        clear H
        have H := H1
        clear H1
        replace H := Option.bind_eq_some_iff.mp H
        obtain ⟨⟨t490, t491, t492⟩, A2380, H⟩ := H
        try dsimp only at H
        have A238 := Aside0.mk A2380
        clear A2380
        by_cases c239 : t492 = true
        ·
         subst c239
         have H1 : (if (!(t490 == a1_0) || (!(t491 == a1_1))) = true then (none) else (if a1_1 = 0 then (none) else (if (Int.tmod (wrap64 ((wrap64 (a0 * a0)) - 1)) a1_1) = 0 then (j4 kj100 a2 a3 a4_0 a4_1 a4_2 a4_3 a5_0 a5_1 a5_2 a5_3) else (none)))) = some r := by rw [if_pos rfl] at H; exact H
         clear H
         have H := H1
         clear H1
         by_cases c240 : (!(t490 == a1_0) || (!(t491 == a1_1))) = true
         ·
          rw [if_pos c240] at H
          exact absurd H (by simp)
         ·
          rw [if_neg c240] at H
          have c240b0 : (!(t490 == a1_0) || (!(t491 == a1_1))) = false := by simpa using c240
          clear c240
          (first | rw [c240b0] | (simp only [i64_w, i32_w]; rw [c240b0]) | skip)
          by_cases c241 : a1_1 = 0
          ·
           rw [if_pos c241] at H
           exact absurd H (by simp)
          ·
           rw [if_neg c241] at H
           have c241b0 : (a1_1 == 0) = false := beq_eq_false_iff_ne.mpr c241
           have c241b1 : (a1_1 != 0) = true := bne_iff_ne.mpr c241
           by_cases c242 : (Int.tmod (wrap64 ((wrap64 (a0 * a0)) - 1)) a1_1) = 0
           ·
            rw [if_pos c242] at H
            have c242b0 : ((Int.tmod (wrap64 ((wrap64 (a0 * a0)) - 1)) a1_1) == 0) = true := beq_iff_eq.mpr c242
            have c242b1 : ((Int.tmod (wrap64 ((wrap64 (a0 * a0)) - 1)) a1_1) != 0) = false := bne_eq_false_iff_eq.mpr c242
            clear c242
            as_aux_lemma =>
             have H' := Aside0.mk H
             clear H
             obtain ⟨hnb243, hnc243⟩ := nn_ Nd_a
             obtain ⟨hnb244, hnc244⟩ := nn_ Nd_b
             obtain ⟨hnb245, hnc245⟩ := nn_ Nd_c
             obtain ⟨hnb246, hnc246⟩ := nn_ Nd_e
             obtain ⟨hnb247, hnc247⟩ := nn_ Nd_f
             obtain ⟨hnb248, hnc248⟩ := nn_ Nd_g
             have hcz249_0 := cz_ BKd 0 (.int .i64 t447)
             have hcz249_1 := cz_ BKd 1 (.int .i64 t448)
             have hfz249_0 := blk_frozen BKd.out 0
             have hfz249_1 := blk_frozen BKd.out 1
             go_wp2_with (first | ((with_reducible refine gate_callee (f := 5) rfl ?_); refine gs_ (some 223) Try.func5 #[.int .i64 a0, .agg #[.int .i64 t447, .int .i64 t448]] ?_; (with_reducible refine (impl_ExchangedTime.calls kj100 a0 t447 t448 t490 t491 true _ A238.out).mono ?_); rintro e w250 ⟨rfl, hb⟩; refine ⟨_, rfl, ?_⟩; replace BKa := bb BKa hb; replace BKb := bb BKb hb; replace BKc := bb BKc hb; replace BKd := bb BKd hb; replace BKe := bb BKe hb; replace BKf := bb BKf hb; replace BKg := bb BKg hb; replace HB := hs HB hb; (try clear hb); (try clear hb2); (try clear hk); (try clear hi)) | ((with_reducible refine gate_dst (N := 32) rfl ?_); (try (refine gate_guard (by rfl) ?_; dsimp only)); refine be_ (N := 32) (cs := #[.int .i64 0, .int .i64 0]) (t := 23) ?_; intro gbj hg w251 hbox hb; have BKj := Aside0.mk (hbox); have GWj := ge_ HB hg; have GEj := ge_ HB hg; obtain ⟨Na_j, Nj_a⟩ := nq_ BKa hg; obtain ⟨Nb_j, Nj_b⟩ := nq_ BKb hg; obtain ⟨Nc_j, Nj_c⟩ := nq_ BKc hg; obtain ⟨Nd_j, Nj_d⟩ := nq_ BKd hg; obtain ⟨Ne_j, Nj_e⟩ := nq_ BKe hg; obtain ⟨Nf_j, Nj_f⟩ := nq_ BKf hg; obtain ⟨Ng_j, Nj_g⟩ := nq_ BKg hg; replace BKa := bb BKa hb; replace BKb := bb BKb hb; replace BKc := bb BKc hb; replace BKd := bb BKd hb; replace BKe := bb BKe hb; replace BKf := bb BKf hb; replace BKg := bb BKg hb; replace HB := hs HB hb; clear hb hbox hg; obtain ⟨hnb252, hnc252⟩ := nn_ Nj_a; obtain ⟨hnb253, hnc253⟩ := nn_ Nj_b; obtain ⟨hnb254, hnc254⟩ := nn_ Nj_c; obtain ⟨hnb255, hnc255⟩ := nn_ Nj_d; obtain ⟨hnb256, hnc256⟩ := nn_ Nj_e; obtain ⟨hnb257, hnc257⟩ := nn_ Nj_f; obtain ⟨hnb258, hnc258⟩ := nn_ Nj_g; have hcz259_0 := cz_ BKj 0 (.int .i64 0); have hcz259_1 := cz_ BKj 1 (.int .i64 0); have hfz259_0 := blk_frozen BKj.out 0; have hfz259_1 := blk_frozen BKj.out 1; obtain ⟨hnb260, hnc260⟩ := nn_ Na_b; obtain ⟨hnb261, hnc261⟩ := nn_ Na_c; obtain ⟨hnb262, hnc262⟩ := nn_ Na_e; obtain ⟨hnb263, hnc263⟩ := nn_ Na_f; obtain ⟨hnb264, hnc264⟩ := nn_ Na_g; have hcz265_0 := cz_ BKa 0 (.int .i64 a1_0); have hcz265_1 := cz_ BKa 1 (.int .i64 a1_1); have hfz265_0 := blk_frozen BKa.out 0; have hfz265_1 := blk_frozen BKa.out 1))
             go_meet
             case rel => exact ⟨_, H', ⟨by have := HJ10.out; have := HJ100.out; first | omega | exact Nat.le_refl _⟩, bk_ BKa, bk_ BKb, bk_ BKc, bk_ BKd, bk_ BKe, bk_ BKf, bk_ BKg, hb_ HB⟩
           ·
            rw [if_neg c242] at H
            exact absurd H (by simp)
        ·
         replace c239 := Bool.eq_false_iff.mpr c239
         subst c239
         have H1 : (none) = some r := by rw [if_neg (show ¬ (false = true) by decide)] at H; exact H
         clear H
         have H := H1
         clear H1
         exact absurd H (by simp)
       ·
        replace c237 := Bool.eq_false_iff.mpr c237
        subst c237
        have H1 : (j4 kj100 a2 a3 a4_0 a4_1 a4_2 a4_3 a5_0 a5_1 a5_2 a5_3) = some r := by rw [if_neg (show ¬ (false = true) by decide)] at H; exact H
        clear H
        have H := H1
        clear H1
        as_aux_lemma =>
         have H' := Aside0.mk H
         clear H
         go_wp2
         go_meet
         case rel => exact ⟨_, H', ⟨by have := HJ10.out; have := HJ100.out; first | omega | exact Nat.le_refl _⟩, bk_ BKa, bk_ BKb, bk_ BKc, bk_ BKd, bk_ BKe, bk_ BKf, bk_ BKg, hb_ HB⟩
      case rest => as_aux_lemma =>
       clear HC236
       try clear c100
       obtain ⟨kq, HA, HJ235, BKa, BKb, BKc, BKd, BKe, BKf, BKg, HB⟩ := hcut
       cases kq with
       | zero => exact absurd HA.out (by simp [j4])
       | succ kj235 =>
        have H := HA.out
        clear HA
        simp only [j4] at H
        replace H := Option.bind_eq_some_iff.mp H
        obtain ⟨⟨t494, t495⟩, A2660, H⟩ := H
        try dsimp only at H
        have A266 := Aside0.mk A2660
        clear A2660
        replace H := Option.bind_eq_some_iff.mp H
        obtain ⟨⟨t498, t499⟩, A2670, H⟩ := H
        try dsimp only at H
        have A267 := Aside0.mk A2670
        clear A2670
        replace H := Option.bind_eq_some_iff.mp H
        obtain ⟨⟨t502, t503⟩, A2680, H⟩ := H
        try dsimp only at H
        have A268 := Aside0.mk A2680
        clear A2680
        replace H := Option.bind_eq_some_iff.mp H
        obtain ⟨⟨t504, t505⟩, A2690, H⟩ := H
        try dsimp only at H
        have A269 := Aside0.mk A2690
        clear A2690
        replace H := Option.bind_eq_some_iff.mp H
        obtain ⟨⟨t506, t507⟩, A2700, H⟩ := H
        try dsimp only at H
        have A270 := Aside0.mk A2700
        clear A2700
        replace H := Option.bind_eq_some_iff.mp H
        obtain ⟨⟨t510, t511⟩, A2710, H⟩ := H
        try dsimp only at H
        have A271 := Aside0.mk A2710
        clear A2710
        have HC272 := Aside0.mk H
        clear H
        go_upto_region 30 with (first | ((with_reducible refine gate_callee (f := 16) rfl ?_); refine gs_ (some 245) Try.func16 #[.int .i64 a2] ?_; (with_reducible refine (impl_AllExchanged.calls kj235 a2 t494 t495 _ A266.out).mono ?_); rintro e w273 ⟨v496, rfl, ho0, hb⟩; refine ⟨_, rfl, ?_⟩; have HO497 := Aside0.mk (Kd.R_lower (Kd.R_newB (Kd.R_newB (Kd.R_newB ho0 (bq_ BKa)) (bq_ BKd)) (bq_ BKe)) (bs_ HB)); replace BKa := bb BKa hb; replace BKb := bb BKb hb; replace BKc := bb BKc hb; replace BKd := bb BKd hb; replace BKe := bb BKe hb; replace BKf := bb BKf hb; replace BKg := bb BKg hb; replace HB := hs HB hb; (try clear hb); (try clear hb2); (try clear hk); (try clear hi); (try clear ho0)) | ((with_reducible refine gate_callee (f := 17) rfl ?_); refine gs_ (some 250) Try.func17 #[.int .i64 a2] ?_; (with_reducible refine (spec_AllExchanged.calls kj235 a2 t498 t499 _ A267.out).mono ?_); rintro e w274 ⟨v500, rfl, ho0, hb⟩; refine ⟨_, rfl, ?_⟩; have HO501 := Aside0.mk (Kd.R_lower (Kd.R_newB (Kd.R_newB (Kd.R_newB (Kd.R_new' ho0 (Kd.R_lt (by (with_reducible repeat (first | apply Kd.R_alloc | apply Kd.R_drewN | apply Kd.R_drew)); exact HO497.out))) (bq_ BKa)) (bq_ BKd)) (bq_ BKe)) (bs_ HB)); replace HO497 := Aside0.mk (Kd.R_elder' (by (with_reducible repeat (first | apply Kd.R_alloc | apply Kd.R_drewN | apply Kd.R_drew)); exact HO497.out) (Kd.R_base ho0) hb); replace BKa := bb BKa hb; replace BKb := bb BKb hb; replace BKc := bb BKc hb; replace BKd := bb BKd hb; replace BKe := bb BKe hb; replace BKf := bb BKf hb; replace BKg := bb BKg hb; replace HB := hs HB hb; (try clear hb); (try clear hb2); (try clear hk); (try clear hi); (try clear ho0)) | ((with_reducible refine gate_callee (f := 18) rfl ?_); refine gs_ (some 255) Try.func18 #[.int .i64 a2] ?_; (with_reducible refine (impl_CountUnsure.calls a2 t502 t503 _ A268.out).mono ?_); rintro e w' ⟨rfl, ⟨nd, rfl⟩⟩; refine ⟨_, rfl, ?_⟩) | ((with_reducible refine gate_callee (f := 19) rfl ?_); refine gs_ (some 260) Try.func19 #[.int .i64 a2] ?_; (with_reducible refine (spec_CountUnsure.calls a2 t504 t505 _ A269.out).mono ?_); rintro e w' ⟨rfl, ⟨nd, rfl⟩⟩; refine ⟨_, rfl, ?_⟩) | ((with_reducible refine gate_callee (f := 20) rfl ?_); refine gs_ (some 265) Try.func20 #[.int .i64 a2] ?_; (with_reducible refine (impl_OwnMirrors.calls a2 t506 t507 _ A270.out).mono ?_); rintro e w275 ⟨v508, rfl, ho0, hb⟩; refine ⟨_, rfl, ?_⟩; have hx_ := Kd.R_new' (Kd.R_new' ho0 (Kd.R_lt (by (with_reducible repeat (first | apply Kd.R_alloc | apply Kd.R_drewN | apply Kd.R_drew)); exact HO497.out))) (Kd.R_lt (by (with_reducible repeat (first | apply Kd.R_alloc | apply Kd.R_drewN | apply Kd.R_drew)); exact HO501.out)); have HO509 := Aside0.mk (Kd.R_lower (Kd.R_newB (Kd.R_newB (Kd.R_newB hx_ (bq_ BKa)) (bq_ BKd)) (bq_ BKe)) (bs_ HB)); replace HO497 := Aside0.mk (Kd.R_elder' (by (with_reducible repeat (first | apply Kd.R_alloc | apply Kd.R_drewN | apply Kd.R_drew)); exact HO497.out) (Kd.R_base ho0) hb); replace HO501 := Aside0.mk (Kd.R_elder' (by (with_reducible repeat (first | apply Kd.R_alloc | apply Kd.R_drewN | apply Kd.R_drew)); exact HO501.out) (Kd.R_base ho0) hb); replace BKa := bb BKa hb; replace BKb := bb BKb hb; replace BKc := bb BKc hb; replace BKd := bb BKd hb; replace BKe := bb BKe hb; replace BKf := bb BKf hb; replace BKg := bb BKg hb; replace HB := hs HB hb; (try clear hb); (try clear hb2); (try clear hk); (try clear hi); (try clear ho0)) | ((with_reducible refine gate_callee (f := 21) rfl ?_); refine gs_ (some 270) Try.func21 #[.int .i64 a2] ?_; (with_reducible refine (spec_OwnMirrors.calls kj235 a2 t510 t511 _ A271.out).mono ?_); rintro e w276 ⟨v512, rfl, ho0, hb⟩; refine ⟨_, rfl, ?_⟩; have hx_ := Kd.R_new' (Kd.R_new' (Kd.R_new' ho0 (Kd.R_lt (by (with_reducible repeat (first | apply Kd.R_alloc | apply Kd.R_drewN | apply Kd.R_drew)); exact HO497.out))) (Kd.R_lt (by (with_reducible repeat (first | apply Kd.R_alloc | apply Kd.R_drewN | apply Kd.R_drew)); exact HO501.out))) (Kd.R_lt (by (with_reducible repeat (first | apply Kd.R_alloc | apply Kd.R_drewN | apply Kd.R_drew)); exact HO509.out)); have HO513 := Aside0.mk (Kd.R_lower (Kd.R_newB (Kd.R_newB (Kd.R_newB hx_ (bq_ BKa)) (bq_ BKd)) (bq_ BKe)) (bs_ HB)); replace HO497 := Aside0.mk (Kd.R_elder' (by (with_reducible repeat (first | apply Kd.R_alloc | apply Kd.R_drewN | apply Kd.R_drew)); exact HO497.out) (Kd.R_base ho0) hb); replace HO501 := Aside0.mk (Kd.R_elder' (by (with_reducible repeat (first | apply Kd.R_alloc | apply Kd.R_drewN | apply Kd.R_drew)); exact HO501.out) (Kd.R_base ho0) hb); replace HO509 := Aside0.mk (Kd.R_elder' (by (with_reducible repeat (first | apply Kd.R_alloc | apply Kd.R_drewN | apply Kd.R_drew)); exact HO509.out) (Kd.R_base ho0) hb); replace BKa := bb BKa hb; replace BKb := bb BKb hb; replace BKc := bb BKc hb; replace BKd := bb BKd hb; replace BKe := bb BKe hb; replace BKf := bb BKf hb; replace BKg := bb BKg hb; replace HB := hs HB hb; (try clear hb); (try clear hb2); (try clear hk); (try clear hi); (try clear ho0)))
        (try simp only [Act.put, s1, s2, s3])
        go_cut [312] from 206 to 312 (fun v312 wc => ∃ (kq : Nat) (x312_271 : Bool), v312 = .bool x312_271 ∧ Aside0 (j5 kq a2 a3 t494 t495 t502 t506 x312_271 a4_0 a4_1 a4_2 a4_3 a5_0 a5_1 a5_2 a5_3 = some r) ∧ Aside0 (kq ≤ kj235) ∧ Aside0 (Kd.R k23 23 wc w.heap.size (fun k_ => some k_ ≠ (v508 : Value).ownBlock ∧ k_ ≠ gba ∧ k_ ≠ gbd ∧ k_ ≠ gbe) v496 t494) ∧ Aside0 (Kd.R k23 23 wc w.heap.size (fun k_ => some k_ ≠ (v496 : Value).ownBlock ∧ k_ ≠ gba ∧ k_ ≠ gbd ∧ k_ ≠ gbe) v508 t506) ∧ Aside0 (wc.heap[gba]? = some (.cells #[.int .i64 a1_0, .int .i64 a1_1] 23 (0, 0))) ∧ Aside0 (wc.heap[gbb]? = some (.cells #[.int .i64 a4_0, .int .i64 a4_1, .int .i64 a4_2, .int .i64 a4_3] 25 (0, 0))) ∧ Aside0 (wc.heap[gbc]? = some (.cells #[.int .i64 a5_0, .int .i64 a5_1, .int .i64 a5_2, .int .i64 a5_3] 25 (0, 0))) ∧ Aside0 (wc.heap[gbd]? = some (.cells #[.int .i64 t447, .int .i64 t448] 23 (0, 0))) ∧ Aside0 (wc.heap[gbe]? = some (.cells #[.int .i64 t451, .int .i64 t452] 23 (0, 0))) ∧ Aside0 (wc.heap[gbf]? = some (.cells #[.int .i64 t455, .int .i64 t456, .int .i64 t457, .int .i64 t458] 25 (0, 0))) ∧ Aside0 (wc.heap[gbg]? = some (.cells #[.int .i64 t461, .int .i64 t462, .int .i64 t463, .int .i64 t464] 25 (0, 0))) ∧ Aside0 (Below w.heap.size w wc))
        case first => as_aux_lemma =>
         have H := HC272.out
         clear HC272
         by_cases c277 : (t495 != t499) = true
         ·
          rw [if_pos c277] at H
          exact absurd H (by simp)
         ·
          rw [if_neg c277] at H
          have c277b0 : (t495 != t499) = false := by simpa using c277
          (try (have c277b1 : decide (t495 = t499) = true := by simpa using c277))
          (try (have c277b2 : (t495 == t499) = true := by simpa using c277))
          clear c277
          (first | rw [c277b0] | (simp only [i64_w, i32_w]; rw [c277b0]) | skip)
          replace H := Option.bind_eq_some_iff.mp H
          obtain ⟨t514, A2780, H⟩ := H
          try dsimp only at H
          have A278 := Aside0.mk A2780
          clear A2780
          by_cases c279 : t514 = true
          ·
           subst c279
           have H1 : (if (t503 != t505) = true then (none) else (if t502 = t504 then (if (t507 != t511) = true then (none) else ((laws_wTurns.f kj235 t506 t510).bind fun t515 => (if t515 = true then (if (t503 != t495) = true then (none) else (j5 kj235 a2 a3 t494 t495 t502 t506 (t507 != t495) a4_0 a4_1 a4_2 a4_3 a5_0 a5_1 a5_2 a5_3)) else (none)))) else (none))) = some r := by rw [if_pos rfl] at H; exact H
           clear H
           have H := H1
           clear H1
           by_cases c280 : (t503 != t505) = true
           ·
            rw [if_pos c280] at H
            exact absurd H (by simp)
           ·
            rw [if_neg c280] at H
            have c280b0 : (t503 != t505) = false := by simpa using c280
            (try (have c280b1 : decide (t503 = t505) = true := by simpa using c280))
            (try (have c280b2 : (t503 == t505) = true := by simpa using c280))
            clear c280
            by_cases c281 : t502 = t504
            ·
             rw [if_pos c281] at H
             have c281b0 : (t502 == t504) = true := beq_iff_eq.mpr c281
             have c281b1 : (t502 != t504) = false := bne_eq_false_iff_eq.mpr c281
             clear c281
             by_cases c282 : (t507 != t511) = true
             ·
              rw [if_pos c282] at H
              exact absurd H (by simp)
             ·
              rw [if_neg c282] at H
              have c282b0 : (t507 != t511) = false := by simpa using c282
              (try (have c282b1 : decide (t507 = t511) = true := by simpa using c282))
              (try (have c282b2 : (t507 == t511) = true := by simpa using c282))
              clear c282
              replace H := Option.bind_eq_some_iff.mp H
              obtain ⟨t515, A2830, H⟩ := H
              try dsimp only at H
              have A283 := Aside0.mk A2830
              clear A2830
              by_cases c284 : t515 = true
              ·
               subst c284
               have H1 : (if (t503 != t495) = true then (none) else (j5 kj235 a2 a3 t494 t495 t502 t506 (t507 != t495) a4_0 a4_1 a4_2 a4_3 a5_0 a5_1 a5_2 a5_3)) = some r := by rw [if_pos rfl] at H; exact H
               clear H
               have H := H1
               clear H1
               by_cases c285 : (t503 != t495) = true
               ·
                rw [if_pos c285] at H
                exact absurd H (by simp)
               ·
                rw [if_neg c285] at H
                have c285b0 : (t503 != t495) = false := by simpa using c285
                (try (have c285b1 : decide (t503 = t495) = true := by simpa using c285))
                (try (have c285b2 : (t503 == t495) = true := by simpa using c285))
                clear c285
                as_aux_lemma =>
                 have H' := Aside0.mk H
                 clear H
                 obtain ⟨Ao286, co286, eo286⟩ := Kd.R_slice HO497.out
                 subst eo286
                 obtain ⟨Ao287, co287, eo287⟩ := Kd.R_slice HO501.out
                 subst eo287
                 go_wp2_with (first | (go_at_call 22; refine calls_of_args (args' := #[.slice Ao286 t494.length co286, .slice Ao287 t498.length co287]) (by first | rfl) ?_; (with_reducible refine (laws_wTurns.calls kj235 _ _ t494 _ _ t498 true _ ?side1 ?side2 ?side3 ?side4 A278.out).mono ?_); (case side1 => repeat (first | exact (Kd.R_reads' HO497.out).2.2 | (with_reducible refine Kd.C_alloc ?_ _) | (with_reducible refine Kd.C_drewN ?_ _) | (with_reducible refine Kd.C_drew ?_))); (case side2 => exact (Kd.R_reads' HO497.out).2.1); (case side3 => repeat (first | exact (Kd.R_reads' HO501.out).2.2 | (with_reducible refine Kd.C_alloc ?_ _) | (with_reducible refine Kd.C_drewN ?_ _) | (with_reducible refine Kd.C_drew ?_))); (case side4 => exact (Kd.R_reads' HO501.out).2.1); rintro e w' ⟨rfl, ⟨nd, rfl⟩⟩; obtain ⟨Ao288, co288, eo288⟩ := Kd.R_slice HO509.out; subst eo288; obtain ⟨Ao289, co289, eo289⟩ := Kd.R_slice HO513.out; subst eo289) | (go_at_call 22; refine calls_of_args (args' := #[.slice Ao288 t506.length co288, .slice Ao289 t510.length co289]) (by first | rfl) ?_; (with_reducible refine (laws_wTurns.calls kj235 _ _ t506 _ _ t510 true _ ?side1 ?side2 ?side3 ?side4 A283.out).mono ?_); (case side1 => repeat (first | exact (Kd.R_reads' HO509.out).2.2 | (with_reducible refine Kd.C_alloc ?_ _) | (with_reducible refine Kd.C_drewN ?_ _) | (with_reducible refine Kd.C_drew ?_))); (case side2 => exact (Kd.R_reads' HO509.out).2.1); (case side3 => repeat (first | exact (Kd.R_reads' HO513.out).2.2 | (with_reducible refine Kd.C_alloc ?_ _) | (with_reducible refine Kd.C_drewN ?_ _) | (with_reducible refine Kd.C_drew ?_))); (case side4 => exact (Kd.R_reads' HO513.out).2.1); rintro e w' ⟨rfl, ⟨nd, rfl⟩⟩))
                 go_meet
                 case rel => exact ⟨_, ((t507 != t495)), (by first | rfl | (simp; done) | (simp [*]; done)), H', ⟨by have := HJ10.out; have := HJ100.out; have := HJ235.out; first | omega | exact Nat.le_refl _⟩, ⟨by (with_reducible repeat (first | apply Kd.R_alloc | apply Kd.R_drewN | apply Kd.R_drew)); exact Kd.R_mono HO497.out (fun _ hk => ⟨hk.1.2, ⟨hk.1.1.1.1.1.2, ⟨hk.1.1.1.1.2, hk.1.1.1.2⟩⟩⟩)⟩, ⟨by (with_reducible repeat (first | apply Kd.R_alloc | apply Kd.R_drewN | apply Kd.R_drew)); exact Kd.R_mono HO509.out (fun _ hk => ⟨hk.1.1.1.1.1.2, ⟨hk.1.1.1.2, ⟨hk.1.1.2, hk.1.2⟩⟩⟩)⟩, bk_ BKa, bk_ BKb, bk_ BKc, bk_ BKd, bk_ BKe, bk_ BKf, bk_ BKg, hb_ HB⟩
              ·
               replace c284 := Bool.eq_false_iff.mpr c284
               subst c284
               have H1 : (none) = some r := by rw [if_neg (show ¬ (false = true) by decide)] at H; exact H
               clear H
               have H := H1
               clear H1
               exact absurd H (by simp)
            ·
             rw [if_neg c281] at H
             exact absurd H (by simp)
          ·
           replace c279 := Bool.eq_false_iff.mpr c279
           subst c279
           have H1 : (none) = some r := by rw [if_neg (show ¬ (false = true) by decide)] at H; exact H
           clear H
           have H := H1
           clear H1
           exact absurd H (by simp)
        case rest => as_aux_lemma =>
         clear HC272
         try clear c100
         obtain ⟨kq, x312_271, rfl, HA, HJ271, HO_34, HO_42, BKa, BKb, BKc, BKd, BKe, BKf, BKg, HB⟩ := hcut
         cases kq with
         | zero => exact absurd HA.out (by simp [j5])
         | succ kj271 =>
          have H := HA.out
          clear HA
          simp only [j5] at H
          by_cases c290 : x312_271 = true
          ·
           subst c290
           have H1 : (none) = some r := by rw [if_pos rfl] at H; exact H
           clear H
           have H := H1
           clear H1
           exact absurd H (by simp)
          ·
           replace c290 := Bool.eq_false_iff.mpr c290
           subst c290
           have H1 : (if t495 = true then (l0 kj271 a2 a3 t494 t502 t506 0 t494 (t494.length : Int) 0 a4_0 a4_1 a4_2 a4_3 a5_0 a5_1 a5_2 a5_3) else (j9 kj271 a3 a4_0 a4_1 a4_2 a4_3 a5_0 a5_1 a5_2 a5_3)) = some r := by rw [if_neg (show ¬ (false = true) by decide)] at H; exact H
           clear H
           have H := H1
           clear H1
           have HC291 := Aside0.mk H
           clear H
           go_upto_if 313 with (fail)
           go_cut [] from 313 to 350 (fun wc => ∃ (kq : Nat), Aside0 (j9 kq a3 a4_0 a4_1 a4_2 a4_3 a5_0 a5_1 a5_2 a5_3 = some r) ∧ Aside0 (kq ≤ kj271) ∧ Aside0 (wc.heap[gba]? = some (.cells #[.int .i64 a1_0, .int .i64 a1_1] 23 (0, 0))) ∧ Aside0 (wc.heap[gbb]? = some (.cells #[.int .i64 a4_0, .int .i64 a4_1, .int .i64 a4_2, .int .i64 a4_3] 25 (0, 0))) ∧ Aside0 (wc.heap[gbc]? = some (.cells #[.int .i64 a5_0, .int .i64 a5_1, .int .i64 a5_2, .int .i64 a5_3] 25 (0, 0))) ∧ Aside0 (wc.heap[gbd]? = some (.cells #[.int .i64 t447, .int .i64 t448] 23 (0, 0))) ∧ Aside0 (wc.heap[gbe]? = some (.cells #[.int .i64 t451, .int .i64 t452] 23 (0, 0))) ∧ Aside0 (wc.heap[gbf]? = some (.cells #[.int .i64 t455, .int .i64 t456, .int .i64 t457, .int .i64 t458] 25 (0, 0))) ∧ Aside0 (wc.heap[gbg]? = some (.cells #[.int .i64 t461, .int .i64 t462, .int .i64 t463, .int .i64 t464] 25 (0, 0))) ∧ Aside0 (Below w.heap.size w wc))
           case first => as_aux_lemma =>
            have H := HC291.out
            clear HC291
            by_cases c292 : t495 = true
            ·
             subst c292
             have H1 : (l0 kj271 a2 a3 t494 t502 t506 0 t494 (t494.length : Int) 0 a4_0 a4_1 a4_2 a4_3 a5_0 a5_1 a5_2 a5_3) = some r := by rw [if_pos rfl] at H; exact H
             clear H
             have H := H1
             clear H1
             have H' := Aside0.mk H
             clear H
             obtain ⟨Ao293, co293, eo293⟩ := Kd.R_slice HO_34.out
             subst eo293
             go_wp2
             go_loopg [46, 316] kj271 (fun kq v46 v316 w' => ∃ (x46_5 : Int) (x316_5 : Int), v46 = .int .i64 x46_5 ∧ v316 = .int .i64 x316_5 ∧ Aside0 (l0 kq a2 a3 t494 t502 t506 x46_5 t494 (t494.length : Int) x316_5 a4_0 a4_1 a4_2 a4_3 a5_0 a5_1 a5_2 a5_3 = some r) ∧ Aside0 (kq ≤ kj271) ∧ Aside0 (Kd.R k23 23 w' w.heap.size (fun k_ => some k_ ≠ (v508 : Value).ownBlock ∧ k_ ≠ gba ∧ k_ ≠ gbd ∧ k_ ≠ gbe) (.slice Ao293 t494.length co293) t494) ∧ Aside0 (Kd.R k23 23 w' w.heap.size (fun k_ => some k_ ≠ ((.slice Ao293 t494.length co293) : Value).ownBlock ∧ some k_ ≠ ((.slice Ao293 t494.length co293) : Value).ownBlock ∧ k_ ≠ gba ∧ k_ ≠ gbd ∧ k_ ≠ gbe) v508 t506) ∧ Aside0 (Kd.R k23 23 w' w.heap.size (fun k_ => some k_ ≠ (v508 : Value).ownBlock ∧ k_ ≠ gba ∧ k_ ≠ gbd ∧ k_ ≠ gbe) (.slice Ao293 t494.length co293) t494) ∧ Aside0 (w'.heap[gba]? = some (.cells #[.int .i64 a1_0, .int .i64 a1_1] 23 (0, 0))) ∧ Aside0 (w'.heap[gbb]? = some (.cells #[.int .i64 a4_0, .int .i64 a4_1, .int .i64 a4_2, .int .i64 a4_3] 25 (0, 0))) ∧ Aside0 (w'.heap[gbc]? = some (.cells #[.int .i64 a5_0, .int .i64 a5_1, .int .i64 a5_2, .int .i64 a5_3] 25 (0, 0))) ∧ Aside0 (w'.heap[gbd]? = some (.cells #[.int .i64 t447, .int .i64 t448] 23 (0, 0))) ∧ Aside0 (w'.heap[gbe]? = some (.cells #[.int .i64 t451, .int .i64 t452] 23 (0, 0))) ∧ Aside0 (w'.heap[gbf]? = some (.cells #[.int .i64 t455, .int .i64 t456, .int .i64 t457, .int .i64 t458] 25 (0, 0))) ∧ Aside0 (w'.heap[gbg]? = some (.cells #[.int .i64 t461, .int .i64 t462, .int .i64 t463, .int .i64 t464] 25 (0, 0))) ∧ Aside0 (Below w.heap.size w w'))
             case atStart => exact ⟨(0), (0), (by first | rfl | (simp; done) | (simp [*]; done)), (by first | rfl | (simp; done) | (simp [*]; done)), H', ⟨Nat.le_refl _⟩, ⟨by (with_reducible repeat (first | apply Kd.R_alloc | apply Kd.R_drewN | apply Kd.R_drew)); exact HO_34.out⟩, ⟨by (with_reducible repeat (first | apply Kd.R_alloc | apply Kd.R_drewN | apply Kd.R_drew)); exact Kd.R_mono HO_42.out (fun _ hk => ⟨hk.1, ⟨hk.1, ⟨hk.2.1, ⟨hk.2.2.1, hk.2.2.2⟩⟩⟩⟩)⟩, ⟨by (with_reducible repeat (first | apply Kd.R_alloc | apply Kd.R_drewN | apply Kd.R_drew)); exact HO_34.out⟩, bk_ BKa, bk_ BKb, bk_ BKc, bk_ BKd, bk_ BKe, bk_ BKf, bk_ BKg, hb_ HB⟩
             case round => as_aux_lemma =>
              clear H'
              try clear c100
              try clear c290
              try clear c292
              obtain ⟨x46_5, x316_5, rfl, rfl, HA, HK5, HO_34, HO_42, HO_314, BKa, BKb, BKc, BKd, BKe, BKf, BKg, HB⟩ := hrel
              cases gk with
              | zero => exact absurd HA.out (by simp [l0])
              | succ k5 =>
               have H := HA.out
               clear HA
               simp only [l0] at H
               by_cases c294 : x316_5 < (t494.length : Int)
               ·
                rw [if_pos c294] at H
                have c294b0 : decide (x316_5 < (t494.length : Int)) = true := decide_eq_true c294
                clear c294
                (first | rw [c294b0] | (simp only [i64_w, i32_w]; rw [c294b0]) | skip)
                by_cases c295 : 0 ≤ x316_5
                ·
                 rw [if_pos c295] at H
                 have c295b0 : decide (0 ≤ x316_5) = true := decide_eq_true c295
                 clear c295
                 by_cases c296 : x316_5 < (t494.length : Int)
                 ·
                  rw [if_pos c296] at H
                  have c296b0 : decide (x316_5 < (t494.length : Int)) = true := decide_eq_true c296
                  clear c296
                  replace H := Option.bind_eq_some_iff.mp H
                  obtain ⟨⟨t518, t519, t520⟩, A2970, H⟩ := H
                  try dsimp only at H
                  have A297 := Aside0.mk A2970
                  clear A2970
                  by_cases c298 : t520 = true
                  ·
                   subst c298
                   have H1 : (if (!(t518 == ((rd_T23 t494 x316_5).f0)) || (!(t519 == ((rd_T23 t494 x316_5).f1)))) = true then (l0 k5 a2 a3 t494 t502 t506 (wrap64 (x46_5 + 1)) t494 (t494.length : Int) (wrap64 (x316_5 + 1)) a4_0 a4_1 a4_2 a4_3 a5_0 a5_1 a5_2 a5_3) else (l0 k5 a2 a3 t494 t502 t506 x46_5 t494 (t494.length : Int) (wrap64 (x316_5 + 1)) a4_0 a4_1 a4_2 a4_3 a5_0 a5_1 a5_2 a5_3)) = some r := by rw [if_pos rfl] at H; exact H
                   clear H
                   have H := H1
                   clear H1
                   by_cases c299 : (!(t518 == ((rd_T23 t494 x316_5).f0)) || (!(t519 == ((rd_T23 t494 x316_5).f1)))) = true
                   ·
                    rw [if_pos c299] at H
                    have c299b0 : (!(t518 == ((rd_T23 t494 x316_5).f0)) || (!(t519 == ((rd_T23 t494 x316_5).f1)))) = true := c299
                    clear c299
                    as_aux_lemma =>
                     have H' := Aside0.mk H
                     clear H
                     have p516 : 0 ≤ (x316_5 : Int) := of_decide_eq_true (by first | (with_reducible assumption) | assumption)
                     have q516 : x316_5 < (t494.length : Int) := of_decide_eq_true (by first | (with_reducible assumption) | assumption)
                     obtain ⟨ad516, e516, hx516_0, hx516_1⟩ := at_T23 (Kd.R_reads' HO_314.out).2.2 x316_5 p516 q516
                     cases e516
                     replace p516 := eq_true p516
                     replace q516 := eq_true q516
                     go_wp2_with (first | ((with_reducible refine gate_dst (N := 48) rfl ?_); (try (refine gate_guard (by rfl) ?_; dsimp only)); refine be_ (N := 48) (cs := #[.int .i64 0, .int .i64 0]) (t := 23) ?_; intro gbk hg w300 hbox hb; have BKk := Aside0.mk (hbox); have GWk := ge_ HB hg; have GEk := ge_ HB hg; obtain ⟨Na_k, Nk_a⟩ := nq_ BKa hg; obtain ⟨Nb_k, Nk_b⟩ := nq_ BKb hg; obtain ⟨Nc_k, Nk_c⟩ := nq_ BKc hg; obtain ⟨Nd_k, Nk_d⟩ := nq_ BKd hg; obtain ⟨Ne_k, Nk_e⟩ := nq_ BKe hg; obtain ⟨Nf_k, Nk_f⟩ := nq_ BKf hg; obtain ⟨Ng_k, Nk_g⟩ := nq_ BKg hg; replace HO_34 := Aside0.mk (Kd.R_below (Kd.R_elderB (by (with_reducible repeat (first | apply Kd.R_alloc | apply Kd.R_drewN | apply Kd.R_drew)); exact HO_34.out) gbk (Nat.le_of_eq hg.symm)) hb); replace HO_42 := Aside0.mk (Kd.R_below (Kd.R_elderB (by (with_reducible repeat (first | apply Kd.R_alloc | apply Kd.R_drewN | apply Kd.R_drew)); exact HO_42.out) gbk (Nat.le_of_eq hg.symm)) hb); replace HO_314 := Aside0.mk (Kd.R_below (Kd.R_elderB (by (with_reducible repeat (first | apply Kd.R_alloc | apply Kd.R_drewN | apply Kd.R_drew)); exact HO_314.out) gbk (Nat.le_of_eq hg.symm)) hb); replace BKa := bb BKa hb; replace BKb := bb BKb hb; replace BKc := bb BKc hb; replace BKd := bb BKd hb; replace BKe := bb BKe hb; replace BKf := bb BKf hb; replace BKg := bb BKg hb; replace HB := hs HB hb; clear hb hbox hg; obtain ⟨hnb301, hnc301⟩ := nn_ Nk_a; obtain ⟨hnb302, hnc302⟩ := nn_ Nk_b; obtain ⟨hnb303, hnc303⟩ := nn_ Nk_c; obtain ⟨hnb304, hnc304⟩ := nn_ Nk_d; obtain ⟨hnb305, hnc305⟩ := nn_ Nk_e; obtain ⟨hnb306, hnc306⟩ := nn_ Nk_f; obtain ⟨hnb307, hnc307⟩ := nn_ Nk_g; have hcz308_0 := cz_ BKk 0 (.int .i64 0); have hcz308_1 := cz_ BKk 1 (.int .i64 0); have hfz308_0 := blk_frozen BKk.out 0; have hfz308_1 := blk_frozen BKk.out 1) | ((with_reducible refine gate_callee (f := 5) rfl ?_); refine gs_ (some 323) Try.func5 #[.int .i64 a2, .agg #[.int .i64 ((rd_T23 t494 x316_5).f0), .int .i64 ((rd_T23 t494 x316_5).f1)]] ?_; (with_reducible refine (impl_ExchangedTime.calls k5 a2 ((rd_T23 t494 x316_5).f0) ((rd_T23 t494 x316_5).f1) t518 t519 true _ A297.out).mono ?_); rintro e w309 ⟨rfl, hb⟩; refine ⟨_, rfl, ?_⟩; replace HO_34 := hr_ ⟨(Kd.R_mono (Kd.R_far (p := ⟨gbk, 1, none⟩) (Kd.R_far (p := ⟨gbk, 0, none⟩) (Kd.R_mono HO_34.out (fun k_ hk => (⟨hk, hk.2⟩ : _ ∧ k_ ≠ gbk))) (fun _ hk => hk.2) (.int .i64 ((rd_T23 t494 x316_5).f0))) (fun _ hk => hk.2) (.int .i64 ((rd_T23 t494 x316_5).f1))) (fun _ h_ => h_.1))⟩ hb; replace HO_42 := hr_ ⟨(Kd.R_mono (Kd.R_far (p := ⟨gbk, 1, none⟩) (Kd.R_far (p := ⟨gbk, 0, none⟩) (Kd.R_mono HO_42.out (fun k_ hk => (⟨hk, hk.2⟩ : _ ∧ k_ ≠ gbk))) (fun _ hk => hk.2) (.int .i64 ((rd_T23 t494 x316_5).f0))) (fun _ hk => hk.2) (.int .i64 ((rd_T23 t494 x316_5).f1))) (fun _ h_ => h_.1))⟩ hb; replace HO_314 := hr_ ⟨(Kd.R_mono (Kd.R_far (p := ⟨gbk, 1, none⟩) (Kd.R_far (p := ⟨gbk, 0, none⟩) (Kd.R_mono HO_314.out (fun k_ hk => (⟨hk, hk.2⟩ : _ ∧ k_ ≠ gbk))) (fun _ hk => hk.2) (.int .i64 ((rd_T23 t494 x316_5).f0))) (fun _ hk => hk.2) (.int .i64 ((rd_T23 t494 x316_5).f1))) (fun _ h_ => h_.1))⟩ hb; replace BKa := bb BKa hb; replace BKb := bb BKb hb; replace BKc := bb BKc hb; replace BKd := bb BKd hb; replace BKe := bb BKe hb; replace BKf := bb BKf hb; replace BKg := bb BKg hb; replace BKk := Aside0.mk (blk_below (g := gbk) (o := .cells #[.int .i64 ((rd_T23 t494 x316_5).f0), .int .i64 ((rd_T23 t494 x316_5).f1)] 23 (0, 0)) (by (with_reducible repeat (first | refine blk_drewN ?_ _ | refine blk_drew ?_ | refine blk_alloc ?_ _)); refine blk_put (cs := #[.int .i64 ((rd_T23 t494 x316_5).f0), .int .i64 0]) ?_ 1 _ rfl; (with_reducible repeat (first | refine blk_drewN ?_ _ | refine blk_drew ?_ | refine blk_alloc ?_ _)); refine blk_put (cs := #[.int .i64 0, .int .i64 0]) ?_ 0 _ rfl; (with_reducible repeat (first | refine blk_drewN ?_ _ | refine blk_drew ?_ | refine blk_alloc ?_ _)); exact BKk.out) hb); replace HB := hs HB hb; (try clear hb); (try clear hb2); (try clear hk); (try clear hi)) | ((with_reducible refine gate_dst (N := 49) rfl ?_); (try (refine gate_guard (by rfl) ?_; dsimp only)); refine be_ (N := 49) (cs := #[.int .i64 0, .int .i64 0]) (t := 23) ?_; intro gbl hg w310 hbox hb; have BKl := Aside0.mk (hbox); have GWl := ge_ HB hg; have GEl := ge_ HB hg; obtain ⟨Na_l, Nl_a⟩ := nq_ BKa hg; obtain ⟨Nb_l, Nl_b⟩ := nq_ BKb hg; obtain ⟨Nc_l, Nl_c⟩ := nq_ BKc hg; obtain ⟨Nd_l, Nl_d⟩ := nq_ BKd hg; obtain ⟨Ne_l, Nl_e⟩ := nq_ BKe hg; obtain ⟨Nf_l, Nl_f⟩ := nq_ BKf hg; obtain ⟨Ng_l, Nl_g⟩ := nq_ BKg hg; obtain ⟨Nk_l, Nl_k⟩ := nq_ BKk hg; replace HO_34 := Aside0.mk (Kd.R_below (Kd.R_elderB (by (with_reducible repeat (first | apply Kd.R_alloc | apply Kd.R_drewN | apply Kd.R_drew)); exact HO_34.out) gbl (Nat.le_of_eq hg.symm)) hb); replace HO_42 := Aside0.mk (Kd.R_below (Kd.R_elderB (by (with_reducible repeat (first | apply Kd.R_alloc | apply Kd.R_drewN | apply Kd.R_drew)); exact HO_42.out) gbl (Nat.le_of_eq hg.symm)) hb); replace HO_314 := Aside0.mk (Kd.R_below (Kd.R_elderB (by (with_reducible repeat (first | apply Kd.R_alloc | apply Kd.R_drewN | apply Kd.R_drew)); exact HO_314.out) gbl (Nat.le_of_eq hg.symm)) hb); replace BKa := bb BKa hb; replace BKb := bb BKb hb; replace BKc := bb BKc hb; replace BKd := bb BKd hb; replace BKe := bb BKe hb; replace BKf := bb BKf hb; replace BKg := bb BKg hb; replace BKk := bb BKk hb; replace HB := hs HB hb; clear hb hbox hg; obtain ⟨hnb311, hnc311⟩ := nn_ Nl_a; obtain ⟨hnb312, hnc312⟩ := nn_ Nl_b; obtain ⟨hnb313, hnc313⟩ := nn_ Nl_c; obtain ⟨hnb314, hnc314⟩ := nn_ Nl_d; obtain ⟨hnb315, hnc315⟩ := nn_ Nl_e; obtain ⟨hnb316, hnc316⟩ := nn_ Nl_f; obtain ⟨hnb317, hnc317⟩ := nn_ Nl_g; obtain ⟨hnb318, hnc318⟩ := nn_ Nl_k; have hcz319_0 := cz_ BKl 0 (.int .i64 0); have hcz319_1 := cz_ BKl 1 (.int .i64 0); have hfz319_0 := blk_frozen BKl.out 0; have hfz319_1 := blk_frozen BKl.out 1; have hcz320_0 := cz_ BKk 0 (.int .i64 ((rd_T23 t494 x316_5).f0)); have hcz320_1 := cz_ BKk 1 (.int .i64 ((rd_T23 t494 x316_5).f1)); have hfz320_0 := blk_frozen BKk.out 0; have hfz320_1 := blk_frozen BKk.out 1))
                     go_roundg k5
                     case measure => have := HJ10.out; have := HJ100.out; have := HJ235.out; have := HJ271.out; have := HK5.out; omega
                     case rel => exact ⟨(wrap64 (x46_5 + 1)), (wrap64 (x316_5 + 1)), (by first | rfl | (simp; done) | (simp [*]; done)), (by first | rfl | (simp; done) | (simp [*]; done)), H', ⟨by have := HJ10.out; have := HJ100.out; have := HJ235.out; have := HJ271.out; have := HK5.out; omega⟩, ⟨by (with_reducible repeat (first | apply Kd.R_alloc | apply Kd.R_drewN | apply Kd.R_drew)); exact Kd.R_mono (Kd.R_far (p := ⟨gbl, 1, none⟩) (Kd.R_far (p := ⟨gbl, 0, none⟩) (Kd.R_mono HO_34.out (fun k_ hk => (⟨hk, hk.2⟩ : _ ∧ k_ ≠ gbl))) (fun _ hk => hk.2) (.int .i64 t518)) (fun _ hk => hk.2) (.int .i64 t519)) (fun _ hk => ⟨hk.1.1.1.1, ⟨hk.1.1.1.2.1, ⟨hk.1.1.1.2.2.1, hk.1.1.1.2.2.2⟩⟩⟩)⟩, ⟨by (with_reducible repeat (first | apply Kd.R_alloc | apply Kd.R_drewN | apply Kd.R_drew)); exact Kd.R_mono (Kd.R_far (p := ⟨gbl, 1, none⟩) (Kd.R_far (p := ⟨gbl, 0, none⟩) (Kd.R_mono HO_42.out (fun k_ hk => (⟨hk, hk.2⟩ : _ ∧ k_ ≠ gbl))) (fun _ hk => hk.2) (.int .i64 t518)) (fun _ hk => hk.2) (.int .i64 t519)) (fun _ hk => ⟨hk.1.1.1.1, ⟨hk.1.1.1.2.1, ⟨hk.1.1.1.2.2.1, ⟨hk.1.1.1.2.2.2.1, hk.1.1.1.2.2.2.2⟩⟩⟩⟩)⟩, ⟨by (with_reducible repeat (first | apply Kd.R_alloc | apply Kd.R_drewN | apply Kd.R_drew)); exact Kd.R_mono (Kd.R_far (p := ⟨gbl, 1, none⟩) (Kd.R_far (p := ⟨gbl, 0, none⟩) (Kd.R_mono HO_314.out (fun k_ hk => (⟨hk, hk.2⟩ : _ ∧ k_ ≠ gbl))) (fun _ hk => hk.2) (.int .i64 t518)) (fun _ hk => hk.2) (.int .i64 t519)) (fun _ hk => ⟨hk.1.1.1.1, ⟨hk.1.1.1.2.1, ⟨hk.1.1.1.2.2.1, hk.1.1.1.2.2.2⟩⟩⟩)⟩, bk_ BKa, bk_ BKb, bk_ BKc, bk_ BKd, bk_ BKe, bk_ BKf, bk_ BKg, hb_ HB⟩
                   ·
                    rw [if_neg c299] at H
                    have c299b0 : (!(t518 == ((rd_T23 t494 x316_5).f0)) || (!(t519 == ((rd_T23 t494 x316_5).f1)))) = false := by simpa using c299
                    clear c299
                    as_aux_lemma =>
                     have H' := Aside0.mk H
                     clear H
                     have p516 : 0 ≤ (x316_5 : Int) := of_decide_eq_true (by first | (with_reducible assumption) | assumption)
                     have q516 : x316_5 < (t494.length : Int) := of_decide_eq_true (by first | (with_reducible assumption) | assumption)
                     obtain ⟨ad516, e516, hx516_0, hx516_1⟩ := at_T23 (Kd.R_reads' HO_314.out).2.2 x316_5 p516 q516
                     cases e516
                     replace p516 := eq_true p516
                     replace q516 := eq_true q516
                     go_wp2_with (first | ((with_reducible refine gate_dst (N := 48) rfl ?_); (try (refine gate_guard (by rfl) ?_; dsimp only)); refine be_ (N := 48) (cs := #[.int .i64 0, .int .i64 0]) (t := 23) ?_; intro gbk hg w321 hbox hb; have BKk := Aside0.mk (hbox); have GWk := ge_ HB hg; have GEk := ge_ HB hg; obtain ⟨Na_k, Nk_a⟩ := nq_ BKa hg; obtain ⟨Nb_k, Nk_b⟩ := nq_ BKb hg; obtain ⟨Nc_k, Nk_c⟩ := nq_ BKc hg; obtain ⟨Nd_k, Nk_d⟩ := nq_ BKd hg; obtain ⟨Ne_k, Nk_e⟩ := nq_ BKe hg; obtain ⟨Nf_k, Nk_f⟩ := nq_ BKf hg; obtain ⟨Ng_k, Nk_g⟩ := nq_ BKg hg; replace HO_34 := Aside0.mk (Kd.R_below (Kd.R_elderB (by (with_reducible repeat (first | apply Kd.R_alloc | apply Kd.R_drewN | apply Kd.R_drew)); exact HO_34.out) gbk (Nat.le_of_eq hg.symm)) hb); replace HO_42 := Aside0.mk (Kd.R_below (Kd.R_elderB (by (with_reducible repeat (first | apply Kd.R_alloc | apply Kd.R_drewN | apply Kd.R_drew)); exact HO_42.out) gbk (Nat.le_of_eq hg.symm)) hb); replace HO_314 := Aside0.mk (Kd.R_below (Kd.R_elderB (by (with_reducible repeat (first | apply Kd.R_alloc | apply Kd.R_drewN | apply Kd.R_drew)); exact HO_314.out) gbk (Nat.le_of_eq hg.symm)) hb); replace BKa := bb BKa hb; replace BKb := bb BKb hb; replace BKc := bb BKc hb; replace BKd := bb BKd hb; replace BKe := bb BKe hb; replace BKf := bb BKf hb; replace BKg := bb BKg hb; replace HB := hs HB hb; clear hb hbox hg; obtain ⟨hnb322, hnc322⟩ := nn_ Nk_a; obtain ⟨hnb323, hnc323⟩ := nn_ Nk_b; obtain ⟨hnb324, hnc324⟩ := nn_ Nk_c; obtain ⟨hnb325, hnc325⟩ := nn_ Nk_d; obtain ⟨hnb326, hnc326⟩ := nn_ Nk_e; obtain ⟨hnb327, hnc327⟩ := nn_ Nk_f; obtain ⟨hnb328, hnc328⟩ := nn_ Nk_g; have hcz329_0 := cz_ BKk 0 (.int .i64 0); have hcz329_1 := cz_ BKk 1 (.int .i64 0); have hfz329_0 := blk_frozen BKk.out 0; have hfz329_1 := blk_frozen BKk.out 1) | ((with_reducible refine gate_callee (f := 5) rfl ?_); refine gs_ (some 323) Try.func5 #[.int .i64 a2, .agg #[.int .i64 ((rd_T23 t494 x316_5).f0), .int .i64 ((rd_T23 t494 x316_5).f1)]] ?_; (with_reducible refine (impl_ExchangedTime.calls k5 a2 ((rd_T23 t494 x316_5).f0) ((rd_T23 t494 x316_5).f1) t518 t519 true _ A297.out).mono ?_); rintro e w330 ⟨rfl, hb⟩; refine ⟨_, rfl, ?_⟩; replace HO_34 := hr_ ⟨(Kd.R_mono (Kd.R_far (p := ⟨gbk, 1, none⟩) (Kd.R_far (p := ⟨gbk, 0, none⟩) (Kd.R_mono HO_34.out (fun k_ hk => (⟨hk, hk.2⟩ : _ ∧ k_ ≠ gbk))) (fun _ hk => hk.2) (.int .i64 ((rd_T23 t494 x316_5).f0))) (fun _ hk => hk.2) (.int .i64 ((rd_T23 t494 x316_5).f1))) (fun _ h_ => h_.1))⟩ hb; replace HO_42 := hr_ ⟨(Kd.R_mono (Kd.R_far (p := ⟨gbk, 1, none⟩) (Kd.R_far (p := ⟨gbk, 0, none⟩) (Kd.R_mono HO_42.out (fun k_ hk => (⟨hk, hk.2⟩ : _ ∧ k_ ≠ gbk))) (fun _ hk => hk.2) (.int .i64 ((rd_T23 t494 x316_5).f0))) (fun _ hk => hk.2) (.int .i64 ((rd_T23 t494 x316_5).f1))) (fun _ h_ => h_.1))⟩ hb; replace HO_314 := hr_ ⟨(Kd.R_mono (Kd.R_far (p := ⟨gbk, 1, none⟩) (Kd.R_far (p := ⟨gbk, 0, none⟩) (Kd.R_mono HO_314.out (fun k_ hk => (⟨hk, hk.2⟩ : _ ∧ k_ ≠ gbk))) (fun _ hk => hk.2) (.int .i64 ((rd_T23 t494 x316_5).f0))) (fun _ hk => hk.2) (.int .i64 ((rd_T23 t494 x316_5).f1))) (fun _ h_ => h_.1))⟩ hb; replace BKa := bb BKa hb; replace BKb := bb BKb hb; replace BKc := bb BKc hb; replace BKd := bb BKd hb; replace BKe := bb BKe hb; replace BKf := bb BKf hb; replace BKg := bb BKg hb; replace BKk := Aside0.mk (blk_below (g := gbk) (o := .cells #[.int .i64 ((rd_T23 t494 x316_5).f0), .int .i64 ((rd_T23 t494 x316_5).f1)] 23 (0, 0)) (by (with_reducible repeat (first | refine blk_drewN ?_ _ | refine blk_drew ?_ | refine blk_alloc ?_ _)); refine blk_put (cs := #[.int .i64 ((rd_T23 t494 x316_5).f0), .int .i64 0]) ?_ 1 _ rfl; (with_reducible repeat (first | refine blk_drewN ?_ _ | refine blk_drew ?_ | refine blk_alloc ?_ _)); refine blk_put (cs := #[.int .i64 0, .int .i64 0]) ?_ 0 _ rfl; (with_reducible repeat (first | refine blk_drewN ?_ _ | refine blk_drew ?_ | refine blk_alloc ?_ _)); exact BKk.out) hb); replace HB := hs HB hb; (try clear hb); (try clear hb2); (try clear hk); (try clear hi)) | ((with_reducible refine gate_dst (N := 49) rfl ?_); (try (refine gate_guard (by rfl) ?_; dsimp only)); refine be_ (N := 49) (cs := #[.int .i64 0, .int .i64 0]) (t := 23) ?_; intro gbl hg w331 hbox hb; have BKl := Aside0.mk (hbox); have GWl := ge_ HB hg; have GEl := ge_ HB hg; obtain ⟨Na_l, Nl_a⟩ := nq_ BKa hg; obtain ⟨Nb_l, Nl_b⟩ := nq_ BKb hg; obtain ⟨Nc_l, Nl_c⟩ := nq_ BKc hg; obtain ⟨Nd_l, Nl_d⟩ := nq_ BKd hg; obtain ⟨Ne_l, Nl_e⟩ := nq_ BKe hg; obtain ⟨Nf_l, Nl_f⟩ := nq_ BKf hg; obtain ⟨Ng_l, Nl_g⟩ := nq_ BKg hg; obtain ⟨Nk_l, Nl_k⟩ := nq_ BKk hg; replace HO_34 := Aside0.mk (Kd.R_below (Kd.R_elderB (by (with_reducible repeat (first | apply Kd.R_alloc | apply Kd.R_drewN | apply Kd.R_drew)); exact HO_34.out) gbl (Nat.le_of_eq hg.symm)) hb); replace HO_42 := Aside0.mk (Kd.R_below (Kd.R_elderB (by (with_reducible repeat (first | apply Kd.R_alloc | apply Kd.R_drewN | apply Kd.R_drew)); exact HO_42.out) gbl (Nat.le_of_eq hg.symm)) hb); replace HO_314 := Aside0.mk (Kd.R_below (Kd.R_elderB (by (with_reducible repeat (first | apply Kd.R_alloc | apply Kd.R_drewN | apply Kd.R_drew)); exact HO_314.out) gbl (Nat.le_of_eq hg.symm)) hb); replace BKa := bb BKa hb; replace BKb := bb BKb hb; replace BKc := bb BKc hb; replace BKd := bb BKd hb; replace BKe := bb BKe hb; replace BKf := bb BKf hb; replace BKg := bb BKg hb; replace BKk := bb BKk hb; replace HB := hs HB hb; clear hb hbox hg; obtain ⟨hnb332, hnc332⟩ := nn_ Nl_a; obtain ⟨hnb333, hnc333⟩ := nn_ Nl_b; obtain ⟨hnb334, hnc334⟩ := nn_ Nl_c; obtain ⟨hnb335, hnc335⟩ := nn_ Nl_d; obtain ⟨hnb336, hnc336⟩ := nn_ Nl_e; obtain ⟨hnb337, hnc337⟩ := nn_ Nl_f; obtain ⟨hnb338, hnc338⟩ := nn_ Nl_g; obtain ⟨hnb339, hnc339⟩ := nn_ Nl_k; have hcz340_0 := cz_ BKl 0 (.int .i64 0); have hcz340_1 := cz_ BKl 1 (.int .i64 0); have hfz340_0 := blk_frozen BKl.out 0; have hfz340_1 := blk_frozen BKl.out 1; have hcz341_0 := cz_ BKk 0 (.int .i64 ((rd_T23 t494 x316_5).f0)); have hcz341_1 := cz_ BKk 1 (.int .i64 ((rd_T23 t494 x316_5).f1)); have hfz341_0 := blk_frozen BKk.out 0; have hfz341_1 := blk_frozen BKk.out 1))
                     go_roundg k5
                     case measure => have := HJ10.out; have := HJ100.out; have := HJ235.out; have := HJ271.out; have := HK5.out; omega
                     case rel => exact ⟨(x46_5), (wrap64 (x316_5 + 1)), (by first | rfl | (simp; done) | (simp [*]; done)), (by first | rfl | (simp; done) | (simp [*]; done)), H', ⟨by have := HJ10.out; have := HJ100.out; have := HJ235.out; have := HJ271.out; have := HK5.out; omega⟩, ⟨by (with_reducible repeat (first | apply Kd.R_alloc | apply Kd.R_drewN | apply Kd.R_drew)); exact Kd.R_mono (Kd.R_far (p := ⟨gbl, 1, none⟩) (Kd.R_far (p := ⟨gbl, 0, none⟩) (Kd.R_mono HO_34.out (fun k_ hk => (⟨hk, hk.2⟩ : _ ∧ k_ ≠ gbl))) (fun _ hk => hk.2) (.int .i64 t518)) (fun _ hk => hk.2) (.int .i64 t519)) (fun _ hk => ⟨hk.1.1.1.1, ⟨hk.1.1.1.2.1, ⟨hk.1.1.1.2.2.1, hk.1.1.1.2.2.2⟩⟩⟩)⟩, ⟨by (with_reducible repeat (first | apply Kd.R_alloc | apply Kd.R_drewN | apply Kd.R_drew)); exact Kd.R_mono (Kd.R_far (p := ⟨gbl, 1, none⟩) (Kd.R_far (p := ⟨gbl, 0, none⟩) (Kd.R_mono HO_42.out (fun k_ hk => (⟨hk, hk.2⟩ : _ ∧ k_ ≠ gbl))) (fun _ hk => hk.2) (.int .i64 t518)) (fun _ hk => hk.2) (.int .i64 t519)) (fun _ hk => ⟨hk.1.1.1.1, ⟨hk.1.1.1.2.1, ⟨hk.1.1.1.2.2.1, ⟨hk.1.1.1.2.2.2.1, hk.1.1.1.2.2.2.2⟩⟩⟩⟩)⟩, ⟨by (with_reducible repeat (first | apply Kd.R_alloc | apply Kd.R_drewN | apply Kd.R_drew)); exact Kd.R_mono (Kd.R_far (p := ⟨gbl, 1, none⟩) (Kd.R_far (p := ⟨gbl, 0, none⟩) (Kd.R_mono HO_314.out (fun k_ hk => (⟨hk, hk.2⟩ : _ ∧ k_ ≠ gbl))) (fun _ hk => hk.2) (.int .i64 t518)) (fun _ hk => hk.2) (.int .i64 t519)) (fun _ hk => ⟨hk.1.1.1.1, ⟨hk.1.1.1.2.1, ⟨hk.1.1.1.2.2.1, hk.1.1.1.2.2.2⟩⟩⟩)⟩, bk_ BKa, bk_ BKb, bk_ BKc, bk_ BKd, bk_ BKe, bk_ BKf, bk_ BKg, hb_ HB⟩
                  ·
                   replace c298 := Bool.eq_false_iff.mpr c298
                   subst c298
                   have H1 : (none) = some r := by rw [if_neg (show ¬ (false = true) by decide)] at H; exact H
                   clear H
                   have H := H1
                   clear H1
                   exact absurd H (by simp)
                 ·
                  rw [if_neg c296] at H
                  exact absurd H (by simp)
                ·
                 rw [if_neg c295] at H
                 exact absurd H (by simp)
               ·
                rw [if_neg c294] at H
                have c294b0 : decide (x316_5 < (t494.length : Int)) = false := decide_eq_false c294
                clear c294
                (first | rw [c294b0] | (simp only [i64_w, i32_w]; rw [c294b0]) | skip)
                have HC342 := Aside0.mk H
                clear H
                go_upto_region 43 with (fail)
                go_cut [350] from 313 to 350 (fun v350 wc => ∃ (kq : Nat) (x350_341 : Bool), v350 = .bool x350_341 ∧ Aside0 (j7 kq a2 a3 t506 x350_341 a4_0 a4_1 a4_2 a4_3 a5_0 a5_1 a5_2 a5_3 = some r) ∧ Aside0 (kq ≤ k5) ∧ Aside0 (Kd.R k23 23 wc w.heap.size (fun k_ => k_ ≠ gba ∧ k_ ≠ gbd ∧ k_ ≠ gbe) v508 t506) ∧ Aside0 (wc.heap[gba]? = some (.cells #[.int .i64 a1_0, .int .i64 a1_1] 23 (0, 0))) ∧ Aside0 (wc.heap[gbb]? = some (.cells #[.int .i64 a4_0, .int .i64 a4_1, .int .i64 a4_2, .int .i64 a4_3] 25 (0, 0))) ∧ Aside0 (wc.heap[gbc]? = some (.cells #[.int .i64 a5_0, .int .i64 a5_1, .int .i64 a5_2, .int .i64 a5_3] 25 (0, 0))) ∧ Aside0 (wc.heap[gbd]? = some (.cells #[.int .i64 t447, .int .i64 t448] 23 (0, 0))) ∧ Aside0 (wc.heap[gbe]? = some (.cells #[.int .i64 t451, .int .i64 t452] 23 (0, 0))) ∧ Aside0 (wc.heap[gbf]? = some (.cells #[.int .i64 t455, .int .i64 t456, .int .i64 t457, .int .i64 t458] 25 (0, 0))) ∧ Aside0 (wc.heap[gbg]? = some (.cells #[.int .i64 t461, .int .i64 t462, .int .i64 t463, .int .i64 t464] 25 (0, 0))) ∧ Aside0 (Below w.heap.size w wc))
                case first => as_aux_lemma =>
                 have H := HC342.out
                 clear HC342
                 by_cases c343 : (t494.length : Int) = (wrap64 ((wrap64 (a2 * a2)) - 1))
                 ·
                  rw [if_pos c343] at H
                  have c343b0 : ((t494.length : Int) == (wrap64 ((wrap64 (a2 * a2)) - 1))) = true := beq_iff_eq.mpr c343
                  have c343b1 : ((t494.length : Int) != (wrap64 ((wrap64 (a2 * a2)) - 1))) = false := bne_eq_false_iff_eq.mpr c343
                  clear c343
                  (first | rw [c343b0] | (simp only [i64_w, i32_w]; rw [c343b0]) | skip)
                  replace H := Option.bind_eq_some_iff.mp H
                  obtain ⟨t522, A3440, H⟩ := H
                  try dsimp only at H
                  have A344 := Aside0.mk A3440
                  clear A3440
                  by_cases c345 : t522 = true
                  ·
                   subst c345
                   have H1 : (j7 k5 a2 a3 t506 (x46_5 != t502) a4_0 a4_1 a4_2 a4_3 a5_0 a5_1 a5_2 a5_3) = some r := by rw [if_pos rfl] at H; exact H
                   clear H
                   have H := H1
                   clear H1
                   as_aux_lemma =>
                    have H' := Aside0.mk H
                    clear H
                    go_wp2_with (first | (go_at_call 15; refine calls_of_args (args' := #[.slice Ao293 t494.length co293]) (by first | rfl) ?_; (with_reducible refine (laws_wRises.calls k5 _ _ t494 true _ ?side1 ?side2 A344.out).mono ?_); (case side1 => repeat (first | exact (Kd.R_reads' HO_34.out).2.2 | (with_reducible refine Kd.C_alloc ?_ _) | (with_reducible refine Kd.C_drewN ?_ _) | (with_reducible refine Kd.C_drew ?_))); (case side2 => exact (Kd.R_reads' HO_34.out).2.1); rintro e w' ⟨rfl, ⟨nd, rfl⟩⟩))
                    go_meet
                    case rel => exact ⟨_, ((x46_5 != t502)), (by first | rfl | (simp; done) | (simp [*]; done)), H', ⟨by have := HJ10.out; have := HJ100.out; have := HJ235.out; have := HJ271.out; have := HK5.out; first | omega | exact Nat.le_refl _⟩, ⟨by (with_reducible repeat (first | apply Kd.R_alloc | apply Kd.R_drewN | apply Kd.R_drew)); exact Kd.R_mono HO_42.out (fun _ hk => ⟨hk.2.2.1, ⟨hk.2.2.2.1, hk.2.2.2.2⟩⟩)⟩, bk_ BKa, bk_ BKb, bk_ BKc, bk_ BKd, bk_ BKe, bk_ BKf, bk_ BKg, hb_ HB⟩
                  ·
                   replace c345 := Bool.eq_false_iff.mpr c345
                   subst c345
                   have H1 : (none) = some r := by rw [if_neg (show ¬ (false = true) by decide)] at H; exact H
                   clear H
                   have H := H1
                   clear H1
                   exact absurd H (by simp)
                 ·
                  rw [if_neg c343] at H
                  exact absurd H (by simp)
                case rest => as_aux_lemma =>
                 clear HC342
                 try clear c100
                 try clear c290
                 try clear c292
                 try clear c294
                 try clear c294b0
                 obtain ⟨kq, x350_341, rfl, HA, HJ341, HO_42, BKa, BKb, BKc, BKd, BKe, BKf, BKg, HB⟩ := hcut
                 cases kq with
                 | zero => exact absurd HA.out (by simp [j7])
                 | succ kj341 =>
                  have H := HA.out
                  clear HA
                  simp only [j7] at H
                  by_cases c346 : x350_341 = true
                  ·
                   subst c346
                   have H1 : (none) = some r := by rw [if_pos rfl] at H; exact H
                   clear H
                   have H := H1
                   clear H1
                   exact absurd H (by simp)
                  ·
                   replace c346 := Bool.eq_false_iff.mpr c346
                   subst c346
                   have H1 : (l1 kj341 a2 a3 t506 t506 (t506.length : Int) 0 a4_0 a4_1 a4_2 a4_3 a5_0 a5_1 a5_2 a5_3) = some r := by rw [if_neg (show ¬ (false = true) by decide)] at H; exact H
                   clear H
                   have H := H1
                   clear H1
                   have H' := Aside0.mk H
                   clear H
                   obtain ⟨Ao347, co347, eo347⟩ := Kd.R_slice HO_42.out
                   subst eo347
                   go_wp2
                   go_loopg [353] kj341 (fun kq v353 w' => ∃ (x353_7 : Int), v353 = .int .i64 x353_7 ∧ Aside0 (l1 kq a2 a3 t506 t506 (t506.length : Int) x353_7 a4_0 a4_1 a4_2 a4_3 a5_0 a5_1 a5_2 a5_3 = some r) ∧ Aside0 (kq ≤ kj341) ∧ Aside0 (Kd.R k23 23 w' w.heap.size (fun k_ => k_ ≠ gba ∧ k_ ≠ gbd ∧ k_ ≠ gbe) (.slice Ao347 t506.length co347) t506) ∧ Aside0 (Kd.R k23 23 w' w.heap.size (fun k_ => k_ ≠ gba ∧ k_ ≠ gbd ∧ k_ ≠ gbe) (.slice Ao347 t506.length co347) t506) ∧ Aside0 (w'.heap[gba]? = some (.cells #[.int .i64 a1_0, .int .i64 a1_1] 23 (0, 0))) ∧ Aside0 (w'.heap[gbb]? = some (.cells #[.int .i64 a4_0, .int .i64 a4_1, .int .i64 a4_2, .int .i64 a4_3] 25 (0, 0))) ∧ Aside0 (w'.heap[gbc]? = some (.cells #[.int .i64 a5_0, .int .i64 a5_1, .int .i64 a5_2, .int .i64 a5_3] 25 (0, 0))) ∧ Aside0 (w'.heap[gbd]? = some (.cells #[.int .i64 t447, .int .i64 t448] 23 (0, 0))) ∧ Aside0 (w'.heap[gbe]? = some (.cells #[.int .i64 t451, .int .i64 t452] 23 (0, 0))) ∧ Aside0 (w'.heap[gbf]? = some (.cells #[.int .i64 t455, .int .i64 t456, .int .i64 t457, .int .i64 t458] 25 (0, 0))) ∧ Aside0 (w'.heap[gbg]? = some (.cells #[.int .i64 t461, .int .i64 t462, .int .i64 t463, .int .i64 t464] 25 (0, 0))) ∧ Aside0 (Below w.heap.size w w'))
                   case atStart => exact ⟨(0), (by first | rfl | (simp; done) | (simp [*]; done)), H', ⟨Nat.le_refl _⟩, ⟨by (with_reducible repeat (first | apply Kd.R_alloc | apply Kd.R_drewN | apply Kd.R_drew)); exact HO_42.out⟩, ⟨by (with_reducible repeat (first | apply Kd.R_alloc | apply Kd.R_drewN | apply Kd.R_drew)); exact HO_42.out⟩, bk_ BKa, bk_ BKb, bk_ BKc, bk_ BKd, bk_ BKe, bk_ BKf, bk_ BKg, hb_ HB⟩
                   case round => as_aux_lemma =>
                    clear H'
                    try clear c100
                    try clear c290
                    try clear c292
                    try clear c294
                    try clear c294b0
                    try clear c346
                    obtain ⟨x353_7, rfl, HA, HK7, HO_42, HO_351, BKa, BKb, BKc, BKd, BKe, BKf, BKg, HB⟩ := hrel
                    cases gk with
                    | zero => exact absurd HA.out (by simp [l1])
                    | succ k7 =>
                     have H := HA.out
                     clear HA
                     simp only [l1] at H
                     by_cases c348 : x353_7 < (t506.length : Int)
                     ·
                      rw [if_pos c348] at H
                      have c348b0 : decide (x353_7 < (t506.length : Int)) = true := decide_eq_true c348
                      clear c348
                      by_cases c349 : 0 ≤ x353_7
                      ·
                       rw [if_pos c349] at H
                       have c349b0 : decide (0 ≤ x353_7) = true := decide_eq_true c349
                       clear c349
                       by_cases c350 : x353_7 < (t506.length : Int)
                       ·
                        rw [if_pos c350] at H
                        have c350b0 : decide (x353_7 < (t506.length : Int)) = true := decide_eq_true c350
                        clear c350
                        replace H := Option.bind_eq_some_iff.mp H
                        obtain ⟨⟨t526, t527, t528, t529, t530⟩, A3510, H⟩ := H
                        try dsimp only at H
                        have A351 := Aside0.mk A3510
                        clear A3510
                        replace H := Option.bind_eq_some_iff.mp H
                        obtain ⟨⟨t532, t533, t534, t535, t536⟩, A3520, H⟩ := H
                        try dsimp only at H
                        have A352 := Aside0.mk A3520
                        clear A3520
                        by_cases c353 : t530 = true
                        ·
                         subst c353
                         have H1 : (if t536 = true then (if ((!(t532 == t526) || (!(t533 == t527))) || ((!(t534 == t528) || (!(t535 == t529))))) = true then (none) else (l1 k7 a2 a3 t506 t506 (t506.length : Int) (wrap64 (x353_7 + 1)) a4_0 a4_1 a4_2 a4_3 a5_0 a5_1 a5_2 a5_3)) else (none)) = some r := by rw [if_pos rfl] at H; exact H
                         clear H
                         have H := H1
                         clear H1
                         by_cases c354 : t536 = true
                         ·
                          subst c354
                          have H1 : (if ((!(t532 == t526) || (!(t533 == t527))) || ((!(t534 == t528) || (!(t535 == t529))))) = true then (none) else (l1 k7 a2 a3 t506 t506 (t506.length : Int) (wrap64 (x353_7 + 1)) a4_0 a4_1 a4_2 a4_3 a5_0 a5_1 a5_2 a5_3)) = some r := by rw [if_pos rfl] at H; exact H
                          clear H
                          have H := H1
                          clear H1
                          by_cases c355 : ((!(t532 == t526) || (!(t533 == t527))) || ((!(t534 == t528) || (!(t535 == t529))))) = true
                          ·
                           rw [if_pos c355] at H
                           exact absurd H (by simp)
                          ·
                           rw [if_neg c355] at H
                           have c355b0 : ((!(t532 == t526) || (!(t533 == t527))) || ((!(t534 == t528) || (!(t535 == t529))))) = false := by simpa using c355
                           clear c355
                           as_aux_lemma =>
                            have H' := Aside0.mk H
                            clear H
                            have p524 : 0 ≤ (x353_7 : Int) := of_decide_eq_true (by first | (with_reducible assumption) | assumption)
                            have q524 : x353_7 < (t506.length : Int) := of_decide_eq_true (by first | (with_reducible assumption) | assumption)
                            obtain ⟨ad524, e524, hx524_0, hx524_1⟩ := at_T23 (Kd.R_reads' HO_351.out).2.2 x353_7 p524 q524
                            cases e524
                            replace p524 := eq_true p524
                            replace q524 := eq_true q524
                            go_wp2_with (first | ((with_reducible refine gate_dst (N := 52) rfl ?_); (try (refine gate_guard (by rfl) ?_; dsimp only)); refine be_ (N := 52) (cs := #[.int .i64 0, .int .i64 0]) (t := 23) ?_; intro gbm hg w356 hbox hb; have BKm := Aside0.mk (hbox); have GWm := ge_ HB hg; have GEm := ge_ HB hg; obtain ⟨Na_m, Nm_a⟩ := nq_ BKa hg; obtain ⟨Nb_m, Nm_b⟩ := nq_ BKb hg; obtain ⟨Nc_m, Nm_c⟩ := nq_ BKc hg; obtain ⟨Nd_m, Nm_d⟩ := nq_ BKd hg; obtain ⟨Ne_m, Nm_e⟩ := nq_ BKe hg; obtain ⟨Nf_m, Nm_f⟩ := nq_ BKf hg; obtain ⟨Ng_m, Nm_g⟩ := nq_ BKg hg; replace HO_42 := Aside0.mk (Kd.R_below (Kd.R_elderB (by (with_reducible repeat (first | apply Kd.R_alloc | apply Kd.R_drewN | apply Kd.R_drew)); exact HO_42.out) gbm (Nat.le_of_eq hg.symm)) hb); replace HO_351 := Aside0.mk (Kd.R_below (Kd.R_elderB (by (with_reducible repeat (first | apply Kd.R_alloc | apply Kd.R_drewN | apply Kd.R_drew)); exact HO_351.out) gbm (Nat.le_of_eq hg.symm)) hb); replace BKa := bb BKa hb; replace BKb := bb BKb hb; replace BKc := bb BKc hb; replace BKd := bb BKd hb; replace BKe := bb BKe hb; replace BKf := bb BKf hb; replace BKg := bb BKg hb; replace HB := hs HB hb; clear hb hbox hg; obtain ⟨hnb357, hnc357⟩ := nn_ Nm_a; obtain ⟨hnb358, hnc358⟩ := nn_ Nm_b; obtain ⟨hnb359, hnc359⟩ := nn_ Nm_c; obtain ⟨hnb360, hnc360⟩ := nn_ Nm_d; obtain ⟨hnb361, hnc361⟩ := nn_ Nm_e; obtain ⟨hnb362, hnc362⟩ := nn_ Nm_f; obtain ⟨hnb363, hnc363⟩ := nn_ Nm_g; have hcz364_0 := cz_ BKm 0 (.int .i64 0); have hcz364_1 := cz_ BKm 1 (.int .i64 0); have hfz364_0 := blk_frozen BKm.out 0; have hfz364_1 := blk_frozen BKm.out 1) | ((with_reducible refine gate_callee (f := 7) rfl ?_); refine gs_ (some 360) Try.func7 #[.int .i64 a2, .agg #[.int .i64 ((rd_T23 t506 x353_7).f0), .int .i64 ((rd_T23 t506 x353_7).f1)]] ?_; (with_reducible refine (impl_SeenOf.calls k7 a2 ((rd_T23 t506 x353_7).f0) ((rd_T23 t506 x353_7).f1) t526 t527 t528 t529 true _ A351.out).mono ?_); rintro e w365 ⟨rfl, hb⟩; refine ⟨_, rfl, ?_⟩; replace HO_42 := hr_ ⟨(Kd.R_mono (Kd.R_far (p := ⟨gbm, 1, none⟩) (Kd.R_far (p := ⟨gbm, 0, none⟩) (Kd.R_mono HO_42.out (fun k_ hk => (⟨hk, hk.2⟩ : _ ∧ k_ ≠ gbm))) (fun _ hk => hk.2) (.int .i64 ((rd_T23 t506 x353_7).f0))) (fun _ hk => hk.2) (.int .i64 ((rd_T23 t506 x353_7).f1))) (fun _ h_ => h_.1))⟩ hb; replace HO_351 := hr_ ⟨(Kd.R_mono (Kd.R_far (p := ⟨gbm, 1, none⟩) (Kd.R_far (p := ⟨gbm, 0, none⟩) (Kd.R_mono HO_351.out (fun k_ hk => (⟨hk, hk.2⟩ : _ ∧ k_ ≠ gbm))) (fun _ hk => hk.2) (.int .i64 ((rd_T23 t506 x353_7).f0))) (fun _ hk => hk.2) (.int .i64 ((rd_T23 t506 x353_7).f1))) (fun _ h_ => h_.1))⟩ hb; replace BKa := bb BKa hb; replace BKb := bb BKb hb; replace BKc := bb BKc hb; replace BKd := bb BKd hb; replace BKe := bb BKe hb; replace BKf := bb BKf hb; replace BKg := bb BKg hb; replace BKm := Aside0.mk (blk_below (g := gbm) (o := .cells #[.int .i64 ((rd_T23 t506 x353_7).f0), .int .i64 ((rd_T23 t506 x353_7).f1)] 23 (0, 0)) (by (with_reducible repeat (first | refine blk_drewN ?_ _ | refine blk_drew ?_ | refine blk_alloc ?_ _)); refine blk_put (cs := #[.int .i64 ((rd_T23 t506 x353_7).f0), .int .i64 0]) ?_ 1 _ rfl; (with_reducible repeat (first | refine blk_drewN ?_ _ | refine blk_drew ?_ | refine blk_alloc ?_ _)); refine blk_put (cs := #[.int .i64 0, .int .i64 0]) ?_ 0 _ rfl; (with_reducible repeat (first | refine blk_drewN ?_ _ | refine blk_drew ?_ | refine blk_alloc ?_ _)); exact BKm.out) hb); replace HB := hs HB hb; (try clear hb); (try clear hb2); (try clear hk); (try clear hi)) | ((with_reducible refine gate_dst (N := 53) rfl ?_); (try (refine gate_guard (by rfl) ?_; dsimp only)); refine be_ (N := 53) (cs := #[.int .i64 0, .int .i64 0, .int .i64 0, .int .i64 0]) (t := 25) ?_; intro gbn hg w366 hbox hb; have BKn := Aside0.mk (hbox); have GWn := ge_ HB hg; have GEn := ge_ HB hg; obtain ⟨Na_n, Nn_a⟩ := nq_ BKa hg; obtain ⟨Nb_n, Nn_b⟩ := nq_ BKb hg; obtain ⟨Nc_n, Nn_c⟩ := nq_ BKc hg; obtain ⟨Nd_n, Nn_d⟩ := nq_ BKd hg; obtain ⟨Ne_n, Nn_e⟩ := nq_ BKe hg; obtain ⟨Nf_n, Nn_f⟩ := nq_ BKf hg; obtain ⟨Ng_n, Nn_g⟩ := nq_ BKg hg; obtain ⟨Nm_n, Nn_m⟩ := nq_ BKm hg; replace HO_42 := hr_ HO_42 hb; replace HO_351 := hr_ HO_351 hb; replace BKa := bb BKa hb; replace BKb := bb BKb hb; replace BKc := bb BKc hb; replace BKd := bb BKd hb; replace BKe := bb BKe hb; replace BKf := bb BKf hb; replace BKg := bb BKg hb; replace BKm := bb BKm hb; replace HB := hs HB hb; clear hb hbox hg; obtain ⟨hnb367, hnc367⟩ := nn_ Nn_a; obtain ⟨hnb368, hnc368⟩ := nn_ Nn_b; obtain ⟨hnb369, hnc369⟩ := nn_ Nn_c; obtain ⟨hnb370, hnc370⟩ := nn_ Nn_d; obtain ⟨hnb371, hnc371⟩ := nn_ Nn_e; obtain ⟨hnb372, hnc372⟩ := nn_ Nn_f; obtain ⟨hnb373, hnc373⟩ := nn_ Nn_g; obtain ⟨hnb374, hnc374⟩ := nn_ Nn_m; have hcz375_0 := cz_ BKn 0 (.int .i64 0); have hcz375_1 := cz_ BKn 1 (.int .i64 0); have hcz375_2 := cz_ BKn 2 (.int .i64 0); have hcz375_3 := cz_ BKn 3 (.int .i64 0); have hfz375_0 := blk_frozen BKn.out 0; have hfz375_1 := blk_frozen BKn.out 1; have hfz375_2 := blk_frozen BKn.out 2; have hfz375_3 := blk_frozen BKn.out 3) | ((with_reducible refine gate_callee (f := 23) rfl ?_); refine gs_ (some 365) Try.func23 #[.agg #[.int .i64 t526, .int .i64 t527, .int .i64 t528, .int .i64 t529]] ?_; (with_reducible refine (impl_MirrorSeen.calls k7 t526 t527 t528 t529 t532 t533 t534 t535 true _ A352.out).mono ?_); rintro e w376 ⟨rfl, hb⟩; refine ⟨_, rfl, ?_⟩; replace HO_42 := hr_ ⟨(Kd.R_mono (Kd.R_far (p := ⟨gbn, 3, none⟩) (Kd.R_far (p := ⟨gbn, 2, none⟩) (Kd.R_far (p := ⟨gbn, 1, none⟩) (Kd.R_far (p := ⟨gbn, 0, none⟩) (Kd.R_types HO_42.out BKn.out (by decide)) (fun _ hk => hk.2) (.int .i64 t526)) (fun _ hk => hk.2) (.int .i64 t527)) (fun _ hk => hk.2) (.int .i64 t528)) (fun _ hk => hk.2) (.int .i64 t529)) (fun _ h_ => h_.1))⟩ hb; replace HO_351 := hr_ ⟨(Kd.R_mono (Kd.R_far (p := ⟨gbn, 3, none⟩) (Kd.R_far (p := ⟨gbn, 2, none⟩) (Kd.R_far (p := ⟨gbn, 1, none⟩) (Kd.R_far (p := ⟨gbn, 0, none⟩) (Kd.R_types HO_351.out BKn.out (by decide)) (fun _ hk => hk.2) (.int .i64 t526)) (fun _ hk => hk.2) (.int .i64 t527)) (fun _ hk => hk.2) (.int .i64 t528)) (fun _ hk => hk.2) (.int .i64 t529)) (fun _ h_ => h_.1))⟩ hb; replace BKa := bb BKa hb; replace BKb := bb BKb hb; replace BKc := bb BKc hb; replace BKd := bb BKd hb; replace BKe := bb BKe hb; replace BKf := bb BKf hb; replace BKg := bb BKg hb; replace BKm := bb BKm hb; replace BKn := Aside0.mk (blk_below (g := gbn) (o := .cells #[.int .i64 t526, .int .i64 t527, .int .i64 t528, .int .i64 t529] 25 (0, 0)) (by (with_reducible repeat (first | refine blk_drewN ?_ _ | refine blk_drew ?_ | refine blk_alloc ?_ _)); refine blk_put (cs := #[.int .i64 t526, .int .i64 t527, .int .i64 t528, .int .i64 0]) ?_ 3 _ rfl; (with_reducible repeat (first | refine blk_drewN ?_ _ | refine blk_drew ?_ | refine blk_alloc ?_ _)); refine blk_put (cs := #[.int .i64 t526, .int .i64 t527, .int .i64 0, .int .i64 0]) ?_ 2 _ rfl; (with_reducible repeat (first | refine blk_drewN ?_ _ | refine blk_drew ?_ | refine blk_alloc ?_ _)); refine blk_put (cs := #[.int .i64 t526, .int .i64 0, .int .i64 0, .int .i64 0]) ?_ 1 _ rfl; (with_reducible repeat (first | refine blk_drewN ?_ _ | refine blk_drew ?_ | refine blk_alloc ?_ _)); refine blk_put (cs := #[.int .i64 0, .int .i64 0, .int .i64 0, .int .i64 0]) ?_ 0 _ rfl; (with_reducible repeat (first | refine blk_drewN ?_ _ | refine blk_drew ?_ | refine blk_alloc ?_ _)); exact BKn.out) hb); replace HB := hs HB hb; (try clear hb); (try clear hb2); (try clear hk); (try clear hi)) | ((with_reducible refine gate_dst (N := 55) rfl ?_); (try (refine gate_guard (by rfl) ?_; dsimp only)); refine be_ (N := 55) (cs := #[.int .i64 0, .int .i64 0, .int .i64 0, .int .i64 0]) (t := 25) ?_; intro gbo hg w377 hbox hb; have BKo := Aside0.mk (hbox); have GWo := ge_ HB hg; have GEo := ge_ HB hg; obtain ⟨Na_o, No_a⟩ := nq_ BKa hg; obtain ⟨Nb_o, No_b⟩ := nq_ BKb hg; obtain ⟨Nc_o, No_c⟩ := nq_ BKc hg; obtain ⟨Nd_o, No_d⟩ := nq_ BKd hg; obtain ⟨Ne_o, No_e⟩ := nq_ BKe hg; obtain ⟨Nf_o, No_f⟩ := nq_ BKf hg; obtain ⟨Ng_o, No_g⟩ := nq_ BKg hg; obtain ⟨Nm_o, No_m⟩ := nq_ BKm hg; obtain ⟨Nn_o, No_n⟩ := nq_ BKn hg; replace HO_42 := hr_ HO_42 hb; replace HO_351 := hr_ HO_351 hb; replace BKa := bb BKa hb; replace BKb := bb BKb hb; replace BKc := bb BKc hb; replace BKd := bb BKd hb; replace BKe := bb BKe hb; replace BKf := bb BKf hb; replace BKg := bb BKg hb; replace BKm := bb BKm hb; replace BKn := bb BKn hb; replace HB := hs HB hb; clear hb hbox hg; obtain ⟨hnb378, hnc378⟩ := nn_ No_a; obtain ⟨hnb379, hnc379⟩ := nn_ No_b; obtain ⟨hnb380, hnc380⟩ := nn_ No_c; obtain ⟨hnb381, hnc381⟩ := nn_ No_d; obtain ⟨hnb382, hnc382⟩ := nn_ No_e; obtain ⟨hnb383, hnc383⟩ := nn_ No_f; obtain ⟨hnb384, hnc384⟩ := nn_ No_g; obtain ⟨hnb385, hnc385⟩ := nn_ No_m; obtain ⟨hnb386, hnc386⟩ := nn_ No_n; have hcz387_0 := cz_ BKo 0 (.int .i64 0); have hcz387_1 := cz_ BKo 1 (.int .i64 0); have hcz387_2 := cz_ BKo 2 (.int .i64 0); have hcz387_3 := cz_ BKo 3 (.int .i64 0); have hfz387_0 := blk_frozen BKo.out 0; have hfz387_1 := blk_frozen BKo.out 1; have hfz387_2 := blk_frozen BKo.out 2; have hfz387_3 := blk_frozen BKo.out 3; have hcz388_0 := cz_ BKn 0 (.int .i64 t526); have hcz388_1 := cz_ BKn 1 (.int .i64 t527); have hcz388_2 := cz_ BKn 2 (.int .i64 t528); have hcz388_3 := cz_ BKn 3 (.int .i64 t529); have hfz388_0 := blk_frozen BKn.out 0; have hfz388_1 := blk_frozen BKn.out 1; have hfz388_2 := blk_frozen BKn.out 2; have hfz388_3 := blk_frozen BKn.out 3))
                            go_roundg k7
                            case measure => have := HJ10.out; have := HJ100.out; have := HJ235.out; have := HJ271.out; have := HK5.out; have := HJ341.out; have := HK7.out; omega
                            case rel => exact ⟨(wrap64 (x353_7 + 1)), (by first | rfl | (simp; done) | (simp [*]; done)), H', ⟨by have := HJ10.out; have := HJ100.out; have := HJ235.out; have := HJ271.out; have := HK5.out; have := HJ341.out; have := HK7.out; omega⟩, ⟨by (with_reducible repeat (first | apply Kd.R_alloc | apply Kd.R_drewN | apply Kd.R_drew)); exact Kd.R_mono (Kd.R_far (p := ⟨gbo, 3, none⟩) (Kd.R_far (p := ⟨gbo, 2, none⟩) (Kd.R_far (p := ⟨gbo, 1, none⟩) (Kd.R_far (p := ⟨gbo, 0, none⟩) (Kd.R_types HO_42.out BKo.out (by decide)) (fun _ hk => hk.2) (.int .i64 t532)) (fun _ hk => hk.2) (.int .i64 t533)) (fun _ hk => hk.2) (.int .i64 t534)) (fun _ hk => hk.2) (.int .i64 t535)) (fun _ hk => ⟨hk.1.1.1, ⟨hk.1.1.2.1, hk.1.1.2.2⟩⟩)⟩, ⟨by (with_reducible repeat (first | apply Kd.R_alloc | apply Kd.R_drewN | apply Kd.R_drew)); exact Kd.R_mono (Kd.R_far (p := ⟨gbo, 3, none⟩) (Kd.R_far (p := ⟨gbo, 2, none⟩) (Kd.R_far (p := ⟨gbo, 1, none⟩) (Kd.R_far (p := ⟨gbo, 0, none⟩) (Kd.R_types HO_351.out BKo.out (by decide)) (fun _ hk => hk.2) (.int .i64 t532)) (fun _ hk => hk.2) (.int .i64 t533)) (fun _ hk => hk.2) (.int .i64 t534)) (fun _ hk => hk.2) (.int .i64 t535)) (fun _ hk => ⟨hk.1.1.1, ⟨hk.1.1.2.1, hk.1.1.2.2⟩⟩)⟩, bk_ BKa, bk_ BKb, bk_ BKc, bk_ BKd, bk_ BKe, bk_ BKf, bk_ BKg, hb_ HB⟩
                         ·
                          replace c354 := Bool.eq_false_iff.mpr c354
                          subst c354
                          have H1 : (none) = some r := by rw [if_neg (show ¬ (false = true) by decide)] at H; exact H
                          clear H
                          have H := H1
                          clear H1
                          exact absurd H (by simp)
                        ·
                         replace c353 := Bool.eq_false_iff.mpr c353
                         subst c353
                         have H1 : (none) = some r := by rw [if_neg (show ¬ (false = true) by decide)] at H; exact H
                         clear H
                         have H := H1
                         clear H1
                         exact absurd H (by simp)
                       ·
                        rw [if_neg c350] at H
                        exact absurd H (by simp)
                      ·
                       rw [if_neg c349] at H
                       exact absurd H (by simp)
                     ·
                      rw [if_neg c348] at H
                      have c348b0 : decide (x353_7 < (t506.length : Int)) = false := decide_eq_false c348
                      clear c348
                      replace H := Option.bind_eq_some_iff.mp H
                      obtain ⟨t523, A3890, H⟩ := H
                      try dsimp only at H
                      have A389 := Aside0.mk A3890
                      clear A3890
                      by_cases c390 : t523 = true
                      ·
                       subst c390
                       have H1 : (if (t506.length : Int) = 2 then (j9 k7 a3 a4_0 a4_1 a4_2 a4_3 a5_0 a5_1 a5_2 a5_3) else (none)) = some r := by rw [if_pos rfl] at H; exact H
                       clear H
                       have H := H1
                       clear H1
                       by_cases c391 : (t506.length : Int) = 2
                       ·
                        rw [if_pos c391] at H
                        have c391b0 : ((t506.length : Int) == 2) = true := beq_iff_eq.mpr c391
                        have c391b1 : ((t506.length : Int) != 2) = false := bne_eq_false_iff_eq.mpr c391
                        clear c391
                        as_aux_lemma =>
                         have H' := Aside0.mk H
                         clear H
                         go_wp2_with (first | ((with_reducible refine gate_callee (f := 15) rfl ?_); refine gs_ (some 381) Try.func15 #[.slice Ao347 t506.length co347] ?_; (with_reducible refine (laws_wRises.calls k7 _ _ t506 true _ ?side1 ?side2 A389.out).mono ?_); (case side1 => repeat (first | exact (Kd.R_reads' HO_42.out).2.2 | (with_reducible refine Kd.C_alloc ?_ _) | (with_reducible refine Kd.C_drewN ?_ _) | (with_reducible refine Kd.C_drew ?_))); (case side2 => exact (Kd.R_reads' HO_42.out).2.1); rintro e w' ⟨rfl, ⟨nd, rfl⟩⟩; refine ⟨_, rfl, ?_⟩))
                         go_meet
                         case rel => exact ⟨_, H', ⟨by have := HJ10.out; have := HJ100.out; have := HJ235.out; have := HJ271.out; have := HK5.out; have := HJ341.out; have := HK7.out; first | omega | exact Nat.le_refl _⟩, bk_ BKa, bk_ BKb, bk_ BKc, bk_ BKd, bk_ BKe, bk_ BKf, bk_ BKg, hb_ HB⟩
                       ·
                        rw [if_neg c391] at H
                        exact absurd H (by simp)
                      ·
                       replace c390 := Bool.eq_false_iff.mpr c390
                       subst c390
                       have H1 : (none) = some r := by rw [if_neg (show ¬ (false = true) by decide)] at H; exact H
                       clear H
                       have H := H1
                       clear H1
                       exact absurd H (by simp)
            ·
             replace c292 := Bool.eq_false_iff.mpr c292
             subst c292
             have H1 : (j9 kj271 a3 a4_0 a4_1 a4_2 a4_3 a5_0 a5_1 a5_2 a5_3) = some r := by rw [if_neg (show ¬ (false = true) by decide)] at H; exact H
             clear H
             have H := H1
             clear H1
             as_aux_lemma =>
              have H' := Aside0.mk H
              clear H
              go_wp2
              go_meet
              case rel => exact ⟨_, H', ⟨by have := HJ10.out; have := HJ100.out; have := HJ235.out; have := HJ271.out; first | omega | exact Nat.le_refl _⟩, bk_ BKa, bk_ BKb, bk_ BKc, bk_ BKd, bk_ BKe, bk_ BKf, bk_ BKg, hb_ HB⟩
           case rest => as_aux_lemma =>
            clear HC291
            try clear c100
            try clear c290
            obtain ⟨kq, HA, HJ290, BKa, BKb, BKc, BKd, BKe, BKf, BKg, HB⟩ := hcut
            cases kq with
            | zero => exact absurd HA.out (by simp [j9])
            | succ kj290 =>
             have H := HA.out
             clear HA
             simp only [j9] at H
             replace H := Option.bind_eq_some_iff.mp H
             obtain ⟨⟨t538, t539, t540⟩, A3920, H⟩ := H
             try dsimp only at H
             have A392 := Aside0.mk A3920
             clear A3920
             replace H := Option.bind_eq_some_iff.mp H
             obtain ⟨⟨t542, t543, t544⟩, A3930, H⟩ := H
             try dsimp only at H
             have A393 := Aside0.mk A3930
             clear A3930
             replace H := Option.bind_eq_some_iff.mp H
             obtain ⟨⟨t546, t547⟩, A3940, H⟩ := H
             try dsimp only at H
             have A394 := Aside0.mk A3940
             clear A3940
             replace H := Option.bind_eq_some_iff.mp H
             obtain ⟨⟨t548, t549⟩, A3950, H⟩ := H
             try dsimp only at H
             have A395 := Aside0.mk A3950
             clear A3950
             replace H := Option.bind_eq_some_iff.mp H
             obtain ⟨⟨t550, t553⟩, A3960, H⟩ := H
             try dsimp only at H
             have A396 := Aside0.mk A3960
             clear A3960
             replace H := Option.bind_eq_some_iff.mp H
             obtain ⟨⟨t554, t557⟩, A3970, H⟩ := H
             try dsimp only at H
             have A397 := Aside0.mk A3970
             clear A3970
             have HC398 := Aside0.mk H
             clear H
             obtain ⟨hnb399, hnc399⟩ := nn_ Nb_a
             obtain ⟨hnb400, hnc400⟩ := nn_ Nb_c
             obtain ⟨hnb401, hnc401⟩ := nn_ Nb_d
             obtain ⟨hnb402, hnc402⟩ := nn_ Nb_e
             obtain ⟨hnb403, hnc403⟩ := nn_ Nb_f
             obtain ⟨hnb404, hnc404⟩ := nn_ Nb_g
             have hcz405_0 := cz_ BKb 0 (.int .i64 a4_0)
             have hcz405_1 := cz_ BKb 1 (.int .i64 a4_1)
             have hcz405_2 := cz_ BKb 2 (.int .i64 a4_2)
             have hcz405_3 := cz_ BKb 3 (.int .i64 a4_3)
             have hfz405_0 := blk_frozen BKb.out 0
             have hfz405_1 := blk_frozen BKb.out 1
             have hfz405_2 := blk_frozen BKb.out 2
             have hfz405_3 := blk_frozen BKb.out 3
             go_upto_region 61 with (first | ((with_reducible refine gate_callee (f := 10) rfl ?_); refine gs_ (some 391) Try.func10 #[.int .i64 a3, .agg #[.int .i64 a4_0, .int .i64 a4_1, .int .i64 a4_2, .int .i64 a4_3]] ?_; (with_reducible refine (impl_TimeSeen.calls kj290 a3 a4_0 a4_1 a4_2 a4_3 t538 t539 t540 _ A392.out).mono ?_); rintro e w406 ⟨rfl, hb⟩; refine ⟨_, rfl, ?_⟩; replace BKa := bb BKa hb; replace BKb := bb BKb hb; replace BKc := bb BKc hb; replace BKd := bb BKd hb; replace BKe := bb BKe hb; replace BKf := bb BKf hb; replace BKg := bb BKg hb; replace HB := hs HB hb; (try clear hb); (try clear hb2); (try clear hk); (try clear hi)) | ((with_reducible refine gate_dst (N := 57) rfl ?_); (try (refine gate_guard (by rfl) ?_; dsimp only)); refine be_ (N := 57) (cs := #[.int .i64 0, .int .i64 0]) (t := 23) ?_; intro gbp hg w407 hbox hb; have BKp := Aside0.mk (hbox); have GWp := ge_ HB hg; have GEp := ge_ HB hg; obtain ⟨Na_p, Np_a⟩ := nq_ BKa hg; obtain ⟨Nb_p, Np_b⟩ := nq_ BKb hg; obtain ⟨Nc_p, Np_c⟩ := nq_ BKc hg; obtain ⟨Nd_p, Np_d⟩ := nq_ BKd hg; obtain ⟨Ne_p, Np_e⟩ := nq_ BKe hg; obtain ⟨Nf_p, Np_f⟩ := nq_ BKf hg; obtain ⟨Ng_p, Np_g⟩ := nq_ BKg hg; replace BKa := bb BKa hb; replace BKb := bb BKb hb; replace BKc := bb BKc hb; replace BKd := bb BKd hb; replace BKe := bb BKe hb; replace BKf := bb BKf hb; replace BKg := bb BKg hb; replace HB := hs HB hb; clear hb hbox hg; obtain ⟨hnb408, hnc408⟩ := nn_ Np_a; obtain ⟨hnb409, hnc409⟩ := nn_ Np_b; obtain ⟨hnb410, hnc410⟩ := nn_ Np_c; obtain ⟨hnb411, hnc411⟩ := nn_ Np_d; obtain ⟨hnb412, hnc412⟩ := nn_ Np_e; obtain ⟨hnb413, hnc413⟩ := nn_ Np_f; obtain ⟨hnb414, hnc414⟩ := nn_ Np_g; have hcz415_0 := cz_ BKp 0 (.int .i64 0); have hcz415_1 := cz_ BKp 1 (.int .i64 0); have hfz415_0 := blk_frozen BKp.out 0; have hfz415_1 := blk_frozen BKp.out 1; have hcz416_0 := cz_ BKb 0 (.int .i64 a4_0); have hcz416_1 := cz_ BKb 1 (.int .i64 a4_1); have hcz416_2 := cz_ BKb 2 (.int .i64 a4_2); have hcz416_3 := cz_ BKb 3 (.int .i64 a4_3); have hfz416_0 := blk_frozen BKb.out 0; have hfz416_1 := blk_frozen BKb.out 1; have hfz416_2 := blk_frozen BKb.out 2; have hfz416_3 := blk_frozen BKb.out 3) | ((with_reducible refine gate_callee (f := 24) rfl ?_); refine gs_ (some 397) Try.func24 #[.int .i64 a3, .agg #[.int .i64 a4_0, .int .i64 a4_1, .int .i64 a4_2, .int .i64 a4_3]] ?_; (with_reducible refine (spec_TimeSeen.calls kj290 a3 a4_0 a4_1 a4_2 a4_3 t542 t543 t544 _ A393.out).mono ?_); rintro e w417 ⟨rfl, hb⟩; refine ⟨_, rfl, ?_⟩; replace BKa := bb BKa hb; replace BKb := bb BKb hb; replace BKc := bb BKc hb; replace BKd := bb BKd hb; replace BKe := bb BKe hb; replace BKf := bb BKf hb; replace BKg := bb BKg hb; replace BKp := Aside0.mk (blk_below (g := gbp) (o := .cells #[.int .i64 t538, .int .i64 t539] 23 (0, 0)) (by (with_reducible repeat (first | refine blk_drewN ?_ _ | refine blk_drew ?_ | refine blk_alloc ?_ _)); refine blk_put (cs := #[.int .i64 t538, .int .i64 0]) ?_ 1 _ rfl; (with_reducible repeat (first | refine blk_drewN ?_ _ | refine blk_drew ?_ | refine blk_alloc ?_ _)); refine blk_put (cs := #[.int .i64 0, .int .i64 0]) ?_ 0 _ rfl; (with_reducible repeat (first | refine blk_drewN ?_ _ | refine blk_drew ?_ | refine blk_alloc ?_ _)); exact BKp.out) hb); replace HB := hs HB hb; (try clear hb); (try clear hb2); (try clear hk); (try clear hi)) | ((with_reducible refine gate_dst (N := 59) rfl ?_); (try (refine gate_guard (by rfl) ?_; dsimp only)); refine be_ (N := 59) (cs := #[.int .i64 0, .int .i64 0]) (t := 23) ?_; intro gbq hg w418 hbox hb; have BKq := Aside0.mk (hbox); have GWq := ge_ HB hg; have GEq := ge_ HB hg; obtain ⟨Na_q, Nq_a⟩ := nq_ BKa hg; obtain ⟨Nb_q, Nq_b⟩ := nq_ BKb hg; obtain ⟨Nc_q, Nq_c⟩ := nq_ BKc hg; obtain ⟨Nd_q, Nq_d⟩ := nq_ BKd hg; obtain ⟨Ne_q, Nq_e⟩ := nq_ BKe hg; obtain ⟨Nf_q, Nq_f⟩ := nq_ BKf hg; obtain ⟨Ng_q, Nq_g⟩ := nq_ BKg hg; obtain ⟨Np_q, Nq_p⟩ := nq_ BKp hg; replace BKa := bb BKa hb; replace BKb := bb BKb hb; replace BKc := bb BKc hb; replace BKd := bb BKd hb; replace BKe := bb BKe hb; replace BKf := bb BKf hb; replace BKg := bb BKg hb; replace BKp := bb BKp hb; replace HB := hs HB hb; clear hb hbox hg; obtain ⟨hnb419, hnc419⟩ := nn_ Nq_a; obtain ⟨hnb420, hnc420⟩ := nn_ Nq_b; obtain ⟨hnb421, hnc421⟩ := nn_ Nq_c; obtain ⟨hnb422, hnc422⟩ := nn_ Nq_d; obtain ⟨hnb423, hnc423⟩ := nn_ Nq_e; obtain ⟨hnb424, hnc424⟩ := nn_ Nq_f; obtain ⟨hnb425, hnc425⟩ := nn_ Nq_g; obtain ⟨hnb426, hnc426⟩ := nn_ Nq_p; have hcz427_0 := cz_ BKq 0 (.int .i64 0); have hcz427_1 := cz_ BKq 1 (.int .i64 0); have hfz427_0 := blk_frozen BKq.out 0; have hfz427_1 := blk_frozen BKq.out 1; have hcz428_0 := cz_ BKb 0 (.int .i64 a4_0); have hcz428_1 := cz_ BKb 1 (.int .i64 a4_1); have hcz428_2 := cz_ BKb 2 (.int .i64 a4_2); have hcz428_3 := cz_ BKb 3 (.int .i64 a4_3); have hfz428_0 := blk_frozen BKb.out 0; have hfz428_1 := blk_frozen BKb.out 1; have hfz428_2 := blk_frozen BKb.out 2; have hfz428_3 := blk_frozen BKb.out 3) | ((with_reducible refine gate_callee (f := 9) rfl ?_); refine gs_ (some 403) Try.func9 #[.int .i64 a3, .agg #[.int .i64 a4_0, .int .i64 a4_1, .int .i64 a4_2, .int .i64 a4_3]] ?_; (with_reducible refine (impl_IsTrueSeen.calls kj290 a3 a4_0 a4_1 a4_2 a4_3 t546 t547 _ A394.out).mono ?_); rintro e w429 ⟨rfl, hb⟩; refine ⟨_, rfl, ?_⟩; replace BKa := bb BKa hb; replace BKb := bb BKb hb; replace BKc := bb BKc hb; replace BKd := bb BKd hb; replace BKe := bb BKe hb; replace BKf := bb BKf hb; replace BKg := bb BKg hb; replace BKp := bb BKp hb; replace BKq := Aside0.mk (blk_below (g := gbq) (o := .cells #[.int .i64 t542, .int .i64 t543] 23 (0, 0)) (by (with_reducible repeat (first | refine blk_drewN ?_ _ | refine blk_drew ?_ | refine blk_alloc ?_ _)); refine blk_put (cs := #[.int .i64 t542, .int .i64 0]) ?_ 1 _ rfl; (with_reducible repeat (first | refine blk_drewN ?_ _ | refine blk_drew ?_ | refine blk_alloc ?_ _)); refine blk_put (cs := #[.int .i64 0, .int .i64 0]) ?_ 0 _ rfl; (with_reducible repeat (first | refine blk_drewN ?_ _ | refine blk_drew ?_ | refine blk_alloc ?_ _)); exact BKq.out) hb); replace HB := hs HB hb; (try clear hb); (try clear hb2); (try clear hk); (try clear hi); have hcz430_0 := cz_ BKb 0 (.int .i64 a4_0); have hcz430_1 := cz_ BKb 1 (.int .i64 a4_1); have hcz430_2 := cz_ BKb 2 (.int .i64 a4_2); have hcz430_3 := cz_ BKb 3 (.int .i64 a4_3); have hfz430_0 := blk_frozen BKb.out 0; have hfz430_1 := blk_frozen BKb.out 1; have hfz430_2 := blk_frozen BKb.out 2; have hfz430_3 := blk_frozen BKb.out 3) | ((with_reducible refine gate_callee (f := 25) rfl ?_); refine gs_ (some 409) Try.func25 #[.int .i64 a3, .agg #[.int .i64 a4_0, .int .i64 a4_1, .int .i64 a4_2, .int .i64 a4_3]] ?_; (with_reducible refine (spec_IsTrueSeen.calls kj290 a3 a4_0 a4_1 a4_2 a4_3 t548 t549 _ A395.out).mono ?_); rintro e w431 ⟨rfl, hb⟩; refine ⟨_, rfl, ?_⟩; replace BKa := bb BKa hb; replace BKb := bb BKb hb; replace BKc := bb BKc hb; replace BKd := bb BKd hb; replace BKe := bb BKe hb; replace BKf := bb BKf hb; replace BKg := bb BKg hb; replace BKp := bb BKp hb; replace BKq := bb BKq hb; replace HB := hs HB hb; (try clear hb); (try clear hb2); (try clear hk); (try clear hi); have hcz432_0 := cz_ BKb 0 (.int .i64 a4_0); have hcz432_1 := cz_ BKb 1 (.int .i64 a4_1); have hcz432_2 := cz_ BKb 2 (.int .i64 a4_2); have hcz432_3 := cz_ BKb 3 (.int .i64 a4_3); have hfz432_0 := blk_frozen BKb.out 0; have hfz432_1 := blk_frozen BKb.out 1; have hfz432_2 := blk_frozen BKb.out 2; have hfz432_3 := blk_frozen BKb.out 3) | ((with_reducible refine gate_callee (f := 12) rfl ?_); refine gs_ (some 415) Try.func12 #[.int .i64 a3, .agg #[.int .i64 a4_0, .int .i64 a4_1, .int .i64 a4_2, .int .i64 a4_3]] ?_; (with_reducible refine (impl_TimesAlike.calls kj290 a3 a4_0 a4_1 a4_2 a4_3 t550 t553 _ A396.out).mono ?_); rintro e w433 ⟨v551, rfl, ho0, hb⟩; refine ⟨_, rfl, ?_⟩; have HO552 := Aside0.mk (Kd.R_lower (Kd.R_newB (Kd.R_newB (Kd.R_newB (Kd.R_newB (Kd.R_newB ho0 (bq_ BKa)) (bq_ BKd)) (bq_ BKe)) (bq_ BKp)) (bq_ BKq)) (bs_ HB)); replace BKa := bb BKa hb; replace BKb := bb BKb hb; replace BKc := bb BKc hb; replace BKd := bb BKd hb; replace BKe := bb BKe hb; replace BKf := bb BKf hb; replace BKg := bb BKg hb; replace BKp := bb BKp hb; replace BKq := bb BKq hb; replace HB := hs HB hb; (try clear hb); (try clear hb2); (try clear hk); (try clear hi); (try clear ho0); have hcz434_0 := cz_ BKb 0 (.int .i64 a4_0); have hcz434_1 := cz_ BKb 1 (.int .i64 a4_1); have hcz434_2 := cz_ BKb 2 (.int .i64 a4_2); have hcz434_3 := cz_ BKb 3 (.int .i64 a4_3); have hfz434_0 := blk_frozen BKb.out 0; have hfz434_1 := blk_frozen BKb.out 1; have hfz434_2 := blk_frozen BKb.out 2; have hfz434_3 := blk_frozen BKb.out 3) | ((with_reducible refine gate_callee (f := 26) rfl ?_); refine gs_ (some 421) Try.func26 #[.int .i64 a3, .agg #[.int .i64 a4_0, .int .i64 a4_1, .int .i64 a4_2, .int .i64 a4_3]] ?_; (with_reducible refine (spec_TimesAlike.calls kj290 a3 a4_0 a4_1 a4_2 a4_3 t554 t557 _ A397.out).mono ?_); rintro e w435 ⟨v555, rfl, ho0, hb⟩; refine ⟨_, rfl, ?_⟩; have HO556 := Aside0.mk (Kd.R_lower (Kd.R_newB (Kd.R_newB (Kd.R_newB (Kd.R_newB (Kd.R_newB (Kd.R_new' ho0 (Kd.R_lt (by (with_reducible repeat (first | apply Kd.R_alloc | apply Kd.R_drewN | apply Kd.R_drew)); exact HO552.out))) (bq_ BKa)) (bq_ BKd)) (bq_ BKe)) (bq_ BKp)) (bq_ BKq)) (bs_ HB)); replace HO552 := Aside0.mk (Kd.R_elder' (by (with_reducible repeat (first | apply Kd.R_alloc | apply Kd.R_drewN | apply Kd.R_drew)); exact HO552.out) (Kd.R_base ho0) hb); replace BKa := bb BKa hb; replace BKb := bb BKb hb; replace BKc := bb BKc hb; replace BKd := bb BKd hb; replace BKe := bb BKe hb; replace BKf := bb BKf hb; replace BKg := bb BKg hb; replace BKp := bb BKp hb; replace BKq := bb BKq hb; replace HB := hs HB hb; (try clear hb); (try clear hb2); (try clear hk); (try clear hi); (try clear ho0)))
             (try simp only [Act.put, s1, s2, s3])
             go_cut [465] from 351 to 465 (fun v465 wc => ∃ (kq : Nat) (x465_397 : Bool), v465 = .bool x465_397 ∧ Aside0 (j10 kq x465_397 a5_0 a5_1 a5_2 a5_3 = some r) ∧ Aside0 (kq ≤ kj290) ∧ Aside0 (wc.heap[gba]? = some (.cells #[.int .i64 a1_0, .int .i64 a1_1] 23 (0, 0))) ∧ Aside0 (wc.heap[gbb]? = some (.cells #[.int .i64 a4_0, .int .i64 a4_1, .int .i64 a4_2, .int .i64 a4_3] 25 (0, 0))) ∧ Aside0 (wc.heap[gbc]? = some (.cells #[.int .i64 a5_0, .int .i64 a5_1, .int .i64 a5_2, .int .i64 a5_3] 25 (0, 0))) ∧ Aside0 (wc.heap[gbd]? = some (.cells #[.int .i64 t447, .int .i64 t448] 23 (0, 0))) ∧ Aside0 (wc.heap[gbe]? = some (.cells #[.int .i64 t451, .int .i64 t452] 23 (0, 0))) ∧ Aside0 (wc.heap[gbf]? = some (.cells #[.int .i64 t455, .int .i64 t456, .int .i64 t457, .int .i64 t458] 25 (0, 0))) ∧ Aside0 (wc.heap[gbg]? = some (.cells #[.int .i64 t461, .int .i64 t462, .int .i64 t463, .int .i64 t464] 25 (0, 0))) ∧ Aside0 (wc.heap[gbp]? = some (.cells #[.int .i64 t538, .int .i64 t539] 23 (0, 0))) ∧ Aside0 (wc.heap[gbq]? = some (.cells #[.int .i64 t542, .int .i64 t543] 23 (0, 0))) ∧ Aside0 (Below w.heap.size w wc))
             case first => as_aux_lemma =>
              have H := HC398.out
              clear HC398
              by_cases c436 : (t540 != t544) = true
              ·
               rw [if_pos c436] at H
               exact absurd H (by simp)
              ·
               rw [if_neg c436] at H
               have c436b0 : (t540 != t544) = false := by simpa using c436
               (try (have c436b1 : decide (t540 = t544) = true := by simpa using c436))
               (try (have c436b2 : (t540 == t544) = true := by simpa using c436))
               clear c436
               (first | rw [c436b0] | (simp only [i64_w, i32_w]; rw [c436b0]) | skip)
               by_cases c437 : (!(t538 == t542) || (!(t539 == t543))) = true
               ·
                rw [if_pos c437] at H
                exact absurd H (by simp)
               ·
                rw [if_neg c437] at H
                have c437b0 : (!(t538 == t542) || (!(t539 == t543))) = false := by simpa using c437
                clear c437
                by_cases c438 : (t547 != t549) = true
                ·
                 rw [if_pos c438] at H
                 exact absurd H (by simp)
                ·
                 rw [if_neg c438] at H
                 have c438b0 : (t547 != t549) = false := by simpa using c438
                 (try (have c438b1 : decide (t547 = t549) = true := by simpa using c438))
                 (try (have c438b2 : (t547 == t549) = true := by simpa using c438))
                 clear c438
                 by_cases c439 : (t546 != t548) = true
                 ·
                  rw [if_pos c439] at H
                  exact absurd H (by simp)
                 ·
                  rw [if_neg c439] at H
                  have c439b0 : (t546 != t548) = false := by simpa using c439
                  (try (have c439b1 : decide (t546 = t548) = true := by simpa using c439))
                  (try (have c439b2 : (t546 == t548) = true := by simpa using c439))
                  clear c439
                  by_cases c440 : (t553 != t557) = true
                  ·
                   rw [if_pos c440] at H
                   exact absurd H (by simp)
                  ·
                   rw [if_neg c440] at H
                   have c440b0 : (t553 != t557) = false := by simpa using c440
                   (try (have c440b1 : decide (t553 = t557) = true := by simpa using c440))
                   (try (have c440b2 : (t553 == t557) = true := by simpa using c440))
                   clear c440
                   replace H := Option.bind_eq_some_iff.mp H
                   obtain ⟨t558, A4410, H⟩ := H
                   try dsimp only at H
                   have A441 := Aside0.mk A4410
                   clear A4410
                   by_cases c442 : t558 = true
                   ·
                    subst c442
                    have H1 : (if t547 = true then (if (t540 != t546) = true then (none) else (j10 kj290 (t553 != t547) a5_0 a5_1 a5_2 a5_3)) else (if (t540 != false) = true then (none) else (j10 kj290 (t553 != t547) a5_0 a5_1 a5_2 a5_3))) = some r := by rw [if_pos rfl] at H; exact H
                    clear H
                    have H := H1
                    clear H1
                    by_cases c443 : t547 = true
                    ·
                     subst c443
                     have H1 : (if (t540 != t546) = true then (none) else (j10 kj290 (t553 != true) a5_0 a5_1 a5_2 a5_3)) = some r := by rw [if_pos rfl] at H; exact H
                     clear H
                     have H := H1
                     clear H1
                     by_cases c444 : (t540 != t546) = true
                     ·
                      rw [if_pos c444] at H
                      exact absurd H (by simp)
                     ·
                      rw [if_neg c444] at H
                      have c444b0 : (t540 != t546) = false := by simpa using c444
                      (try (have c444b1 : decide (t540 = t546) = true := by simpa using c444))
                      (try (have c444b2 : (t540 == t546) = true := by simpa using c444))
                      clear c444
                      as_aux_lemma =>
                       have H' := Aside0.mk H
                       clear H
                       obtain ⟨hnb445, hnc445⟩ := nn_ Np_a
                       obtain ⟨hnb446, hnc446⟩ := nn_ Np_b
                       obtain ⟨hnb447, hnc447⟩ := nn_ Np_c
                       obtain ⟨hnb448, hnc448⟩ := nn_ Np_d
                       obtain ⟨hnb449, hnc449⟩ := nn_ Np_e
                       obtain ⟨hnb450, hnc450⟩ := nn_ Np_f
                       obtain ⟨hnb451, hnc451⟩ := nn_ Np_g
                       obtain ⟨hnb452, hnc452⟩ := nn_ Np_q
                       have hcz453_0 := cz_ BKp 0 (.int .i64 t538)
                       have hcz453_1 := cz_ BKp 1 (.int .i64 t539)
                       have hfz453_0 := blk_frozen BKp.out 0
                       have hfz453_1 := blk_frozen BKp.out 1
                       obtain ⟨hnb454, hnc454⟩ := nn_ Nq_a
                       obtain ⟨hnb455, hnc455⟩ := nn_ Nq_b
                       obtain ⟨hnb456, hnc456⟩ := nn_ Nq_c
                       obtain ⟨hnb457, hnc457⟩ := nn_ Nq_d
                       obtain ⟨hnb458, hnc458⟩ := nn_ Nq_e
                       obtain ⟨hnb459, hnc459⟩ := nn_ Nq_f
                       obtain ⟨hnb460, hnc460⟩ := nn_ Nq_g
                       have hcz461_0 := cz_ BKq 0 (.int .i64 t542)
                       have hcz461_1 := cz_ BKq 1 (.int .i64 t543)
                       have hfz461_0 := blk_frozen BKq.out 0
                       have hfz461_1 := blk_frozen BKq.out 1
                       obtain ⟨Ao462, co462, eo462⟩ := Kd.R_slice HO552.out
                       subst eo462
                       obtain ⟨Ao463, co463, eo463⟩ := Kd.R_slice HO556.out
                       subst eo463
                       go_wp2_with (first | (go_at_call 22; refine calls_of_args (args' := #[.slice Ao462 t550.length co462, .slice Ao463 t554.length co463]) (by first | rfl) ?_; (with_reducible refine (laws_wTurns.calls kj290 _ _ t550 _ _ t554 true _ ?side1 ?side2 ?side3 ?side4 A441.out).mono ?_); (case side1 => repeat (first | exact (Kd.R_reads' HO552.out).2.2 | (with_reducible refine Kd.C_alloc ?_ _) | (with_reducible refine Kd.C_drewN ?_ _) | (with_reducible refine Kd.C_drew ?_))); (case side2 => exact (Kd.R_reads' HO552.out).2.1); (case side3 => repeat (first | exact (Kd.R_reads' HO556.out).2.2 | (with_reducible refine Kd.C_alloc ?_ _) | (with_reducible refine Kd.C_drewN ?_ _) | (with_reducible refine Kd.C_drew ?_))); (case side4 => exact (Kd.R_reads' HO556.out).2.1); rintro e w' ⟨rfl, ⟨nd, rfl⟩⟩))
                       go_meet
                       case rel => exact ⟨_, ((t553 != true)), (by first | rfl | (simp; done) | (simp [*]; done)), H', ⟨by have := HJ10.out; have := HJ100.out; have := HJ235.out; have := HJ271.out; have := HJ290.out; first | omega | exact Nat.le_refl _⟩, bk_ BKa, bk_ BKb, bk_ BKc, bk_ BKd, bk_ BKe, bk_ BKf, bk_ BKg, bk_ BKp, bk_ BKq, hb_ HB⟩
                    ·
                     replace c443 := Bool.eq_false_iff.mpr c443
                     subst c443
                     have H1 : (if (t540 != false) = true then (none) else (j10 kj290 (t553 != false) a5_0 a5_1 a5_2 a5_3)) = some r := by rw [if_neg (show ¬ (false = true) by decide)] at H; exact H
                     clear H
                     have H := H1
                     clear H1
                     by_cases c464 : (t540 != false) = true
                     ·
                      rw [if_pos c464] at H
                      exact absurd H (by simp)
                     ·
                      rw [if_neg c464] at H
                      have c464b0 : (t540 != false) = false := by simpa using c464
                      (try (have c464b1 : decide (t540 = false) = true := by simpa using c464))
                      (try (have c464b2 : (t540 == false) = true := by simpa using c464))
                      clear c464
                      as_aux_lemma =>
                       have H' := Aside0.mk H
                       clear H
                       obtain ⟨hnb465, hnc465⟩ := nn_ Np_a
                       obtain ⟨hnb466, hnc466⟩ := nn_ Np_b
                       obtain ⟨hnb467, hnc467⟩ := nn_ Np_c
                       obtain ⟨hnb468, hnc468⟩ := nn_ Np_d
                       obtain ⟨hnb469, hnc469⟩ := nn_ Np_e
                       obtain ⟨hnb470, hnc470⟩ := nn_ Np_f
                       obtain ⟨hnb471, hnc471⟩ := nn_ Np_g
                       obtain ⟨hnb472, hnc472⟩ := nn_ Np_q
                       have hcz473_0 := cz_ BKp 0 (.int .i64 t538)
                       have hcz473_1 := cz_ BKp 1 (.int .i64 t539)
                       have hfz473_0 := blk_frozen BKp.out 0
                       have hfz473_1 := blk_frozen BKp.out 1
                       obtain ⟨hnb474, hnc474⟩ := nn_ Nq_a
                       obtain ⟨hnb475, hnc475⟩ := nn_ Nq_b
                       obtain ⟨hnb476, hnc476⟩ := nn_ Nq_c
                       obtain ⟨hnb477, hnc477⟩ := nn_ Nq_d
                       obtain ⟨hnb478, hnc478⟩ := nn_ Nq_e
                       obtain ⟨hnb479, hnc479⟩ := nn_ Nq_f
                       obtain ⟨hnb480, hnc480⟩ := nn_ Nq_g
                       have hcz481_0 := cz_ BKq 0 (.int .i64 t542)
                       have hcz481_1 := cz_ BKq 1 (.int .i64 t543)
                       have hfz481_0 := blk_frozen BKq.out 0
                       have hfz481_1 := blk_frozen BKq.out 1
                       obtain ⟨Ao482, co482, eo482⟩ := Kd.R_slice HO552.out
                       subst eo482
                       obtain ⟨Ao483, co483, eo483⟩ := Kd.R_slice HO556.out
                       subst eo483
                       go_wp2_with (first | (go_at_call 22; refine calls_of_args (args' := #[.slice Ao482 t550.length co482, .slice Ao483 t554.length co483]) (by first | rfl) ?_; (with_reducible refine (laws_wTurns.calls kj290 _ _ t550 _ _ t554 true _ ?side1 ?side2 ?side3 ?side4 A441.out).mono ?_); (case side1 => repeat (first | exact (Kd.R_reads' HO552.out).2.2 | (with_reducible refine Kd.C_alloc ?_ _) | (with_reducible refine Kd.C_drewN ?_ _) | (with_reducible refine Kd.C_drew ?_))); (case side2 => exact (Kd.R_reads' HO552.out).2.1); (case side3 => repeat (first | exact (Kd.R_reads' HO556.out).2.2 | (with_reducible refine Kd.C_alloc ?_ _) | (with_reducible refine Kd.C_drewN ?_ _) | (with_reducible refine Kd.C_drew ?_))); (case side4 => exact (Kd.R_reads' HO556.out).2.1); rintro e w' ⟨rfl, ⟨nd, rfl⟩⟩))
                       go_meet
                       case rel => exact ⟨_, ((t553 != false)), (by first | rfl | (simp; done) | (simp [*]; done)), H', ⟨by have := HJ10.out; have := HJ100.out; have := HJ235.out; have := HJ271.out; have := HJ290.out; first | omega | exact Nat.le_refl _⟩, bk_ BKa, bk_ BKb, bk_ BKc, bk_ BKd, bk_ BKe, bk_ BKf, bk_ BKg, bk_ BKp, bk_ BKq, hb_ HB⟩
                   ·
                    replace c442 := Bool.eq_false_iff.mpr c442
                    subst c442
                    have H1 : (none) = some r := by rw [if_neg (show ¬ (false = true) by decide)] at H; exact H
                    clear H
                    have H := H1
                    clear H1
                    exact absurd H (by simp)
             case rest => as_aux_lemma =>
              clear HC398
              try clear c290
              try clear hcz405_0
              try clear hcz405_1
              try clear hcz405_2
              try clear hcz405_3
              try clear hfz405_0
              try clear hfz405_1
              try clear hfz405_2
              try clear hfz405_3
              obtain ⟨kq, x465_397, rfl, HA, HJ397, BKa, BKb, BKc, BKd, BKe, BKf, BKg, BKp, BKq, HB⟩ := hcut
              cases kq with
              | zero => exact absurd HA.out (by simp [j10])
              | succ kj397 =>
               have H := HA.out
               clear HA
               simp only [j10] at H
               by_cases c484 : x465_397 = true
               ·
                subst c484
                have H1 : (none) = some r := by rw [if_pos rfl] at H; exact H
                clear H
                have H := H1
                clear H1
                exact absurd H (by simp)
               ·
                replace c484 := Bool.eq_false_iff.mpr c484
                subst c484
                have H1 : ((impl_ExchangeSeen.f kj397 a5_0 a5_1 a5_2 a5_3).bind fun bt559 => ((spec_ExchangeSeen.f kj397 a5_0 a5_1 a5_2 a5_3).bind fun bt565 => (if (bt559.2.2.2.2 != bt565.2.2.2.2) = true then (none) else (if ((!(bt559.1 == bt565.1) || (!(bt559.2.1 == bt565.2.1))) || ((!(bt559.2.2.1 == bt565.2.2.1) || (!(bt559.2.2.2.1 == bt565.2.2.2.1))))) = true then (none) else ((impl_IsSeen.f kj397 a5_0 a5_1 a5_2 a5_3).bind fun t571 => (if (bt559.2.2.2.2 != t571) = true then (none) else ((impl_IsSeen.f kj397 a5_0 a5_1 a5_2 a5_3).bind fun t572 => ((spec_IsSeen.f kj397 a5_0 a5_1 a5_2 a5_3).bind fun t573 => (if (t572 != t573) = true then (none) else (some true)))))))))) = some r := by rw [if_neg (show ¬ (false = true) by decide)] at H; exact H
                clear H
                have H := H1
                clear H1
                replace H := Option.bind_eq_some_iff.mp H
                obtain ⟨⟨t559, t560, t561, t562, t563⟩, A4850, H⟩ := H
                try dsimp only at H
                have A485 := Aside0.mk A4850
                clear A4850
                replace H := Option.bind_eq_some_iff.mp H
                obtain ⟨⟨t565, t566, t567, t568, t569⟩, A4860, H⟩ := H
                try dsimp only at H
                have A486 := Aside0.mk A4860
                clear A4860
                by_cases c487 : (t563 != t569) = true
                ·
                 rw [if_pos c487] at H
                 exact absurd H (by simp)
                ·
                 rw [if_neg c487] at H
                 have c487b0 : (t563 != t569) = false := by simpa using c487
                 (try (have c487b1 : decide (t563 = t569) = true := by simpa using c487))
                 (try (have c487b2 : (t563 == t569) = true := by simpa using c487))
                 clear c487
                 by_cases c488 : ((!(t559 == t565) || (!(t560 == t566))) || ((!(t561 == t567) || (!(t562 == t568))))) = true
                 ·
                  rw [if_pos c488] at H
                  exact absurd H (by simp)
                 ·
                  rw [if_neg c488] at H
                  have c488b0 : ((!(t559 == t565) || (!(t560 == t566))) || ((!(t561 == t567) || (!(t562 == t568))))) = false := by simpa using c488
                  clear c488
                  replace H := Option.bind_eq_some_iff.mp H
                  obtain ⟨t571, A4890, H⟩ := H
                  try dsimp only at H
                  have A489 := Aside0.mk A4890
                  clear A4890
                  by_cases c490 : (t563 != t571) = true
                  ·
                   rw [if_pos c490] at H
                   exact absurd H (by simp)
                  ·
                   rw [if_neg c490] at H
                   have c490b0 : (t563 != t571) = false := by simpa using c490
                   (try (have c490b1 : decide (t563 = t571) = true := by simpa using c490))
                   (try (have c490b2 : (t563 == t571) = true := by simpa using c490))
                   clear c490
                   replace H := Option.bind_eq_some_iff.mp H
                   obtain ⟨t572, A4910, H⟩ := H
                   try dsimp only at H
                   have A491 := Aside0.mk A4910
                   clear A4910
                   replace H := Option.bind_eq_some_iff.mp H
                   obtain ⟨t573, A4920, H⟩ := H
                   try dsimp only at H
                   have A492 := Aside0.mk A4920
                   clear A4920
                   by_cases c493 : (t572 != t573) = true
                   ·
                    rw [if_pos c493] at H
                    exact absurd H (by simp)
                   ·
                    rw [if_neg c493] at H
                    have c493b0 : (t572 != t573) = false := by simpa using c493
                    (try (have c493b1 : decide (t572 = t573) = true := by simpa using c493))
                    (try (have c493b2 : (t572 == t573) = true := by simpa using c493))
                    clear c493
                    as_aux_lemma =>
                     obtain rfl := Option.some.inj H
                     obtain ⟨hnb494, hnc494⟩ := nn_ Nc_a
                     obtain ⟨hnb495, hnc495⟩ := nn_ Nc_b
                     obtain ⟨hnb496, hnc496⟩ := nn_ Nc_d
                     obtain ⟨hnb497, hnc497⟩ := nn_ Nc_e
                     obtain ⟨hnb498, hnc498⟩ := nn_ Nc_f
                     obtain ⟨hnb499, hnc499⟩ := nn_ Nc_g
                     obtain ⟨hnb500, hnc500⟩ := nn_ Nc_p
                     obtain ⟨hnb501, hnc501⟩ := nn_ Nc_q
                     have hcz502_0 := cz_ BKc 0 (.int .i64 a5_0)
                     have hcz502_1 := cz_ BKc 1 (.int .i64 a5_1)
                     have hcz502_2 := cz_ BKc 2 (.int .i64 a5_2)
                     have hcz502_3 := cz_ BKc 3 (.int .i64 a5_3)
                     have hfz502_0 := blk_frozen BKc.out 0
                     have hfz502_1 := blk_frozen BKc.out 1
                     have hfz502_2 := blk_frozen BKc.out 2
                     have hfz502_3 := blk_frozen BKc.out 3
                     try go_wp2_with (first | ((with_reducible refine gate_callee (f := 11) rfl ?_); refine gs_ (some 468) Try.func11 #[.agg #[.int .i64 a5_0, .int .i64 a5_1, .int .i64 a5_2, .int .i64 a5_3]] ?_; (with_reducible refine (impl_ExchangeSeen.calls kj397 a5_0 a5_1 a5_2 a5_3 t559 t560 t561 t562 t563 _ A485.out).mono ?_); rintro e w503 ⟨rfl, hb⟩; refine ⟨_, rfl, ?_⟩; replace BKa := bb BKa hb; replace BKb := bb BKb hb; replace BKc := bb BKc hb; replace BKd := bb BKd hb; replace BKe := bb BKe hb; replace BKf := bb BKf hb; replace BKg := bb BKg hb; replace BKp := bb BKp hb; replace BKq := bb BKq hb; replace HB := hs HB hb; (try clear hb); (try clear hb2); (try clear hk); (try clear hi)) | ((with_reducible refine gate_dst (N := 69) rfl ?_); (try (refine gate_guard (by rfl) ?_; dsimp only)); refine be_ (N := 69) (cs := #[.int .i64 0, .int .i64 0, .int .i64 0, .int .i64 0]) (t := 25) ?_; intro gbr hg w504 hbox hb; have BKr := Aside0.mk (hbox); have GWr := ge_ HB hg; have GEr := ge_ HB hg; obtain ⟨Na_r, Nr_a⟩ := nq_ BKa hg; obtain ⟨Nb_r, Nr_b⟩ := nq_ BKb hg; obtain ⟨Nc_r, Nr_c⟩ := nq_ BKc hg; obtain ⟨Nd_r, Nr_d⟩ := nq_ BKd hg; obtain ⟨Ne_r, Nr_e⟩ := nq_ BKe hg; obtain ⟨Nf_r, Nr_f⟩ := nq_ BKf hg; obtain ⟨Ng_r, Nr_g⟩ := nq_ BKg hg; obtain ⟨Np_r, Nr_p⟩ := nq_ BKp hg; obtain ⟨Nq_r, Nr_q⟩ := nq_ BKq hg; replace BKa := bb BKa hb; replace BKb := bb BKb hb; replace BKc := bb BKc hb; replace BKd := bb BKd hb; replace BKe := bb BKe hb; replace BKf := bb BKf hb; replace BKg := bb BKg hb; replace BKp := bb BKp hb; replace BKq := bb BKq hb; replace HB := hs HB hb; clear hb hbox hg; obtain ⟨hnb505, hnc505⟩ := nn_ Nr_a; obtain ⟨hnb506, hnc506⟩ := nn_ Nr_b; obtain ⟨hnb507, hnc507⟩ := nn_ Nr_c; obtain ⟨hnb508, hnc508⟩ := nn_ Nr_d; obtain ⟨hnb509, hnc509⟩ := nn_ Nr_e; obtain ⟨hnb510, hnc510⟩ := nn_ Nr_f; obtain ⟨hnb511, hnc511⟩ := nn_ Nr_g; obtain ⟨hnb512, hnc512⟩ := nn_ Nr_p; obtain ⟨hnb513, hnc513⟩ := nn_ Nr_q; have hcz514_0 := cz_ BKr 0 (.int .i64 0); have hcz514_1 := cz_ BKr 1 (.int .i64 0); have hcz514_2 := cz_ BKr 2 (.int .i64 0); have hcz514_3 := cz_ BKr 3 (.int .i64 0); have hfz514_0 := blk_frozen BKr.out 0; have hfz514_1 := blk_frozen BKr.out 1; have hfz514_2 := blk_frozen BKr.out 2; have hfz514_3 := blk_frozen BKr.out 3; have hcz515_0 := cz_ BKc 0 (.int .i64 a5_0); have hcz515_1 := cz_ BKc 1 (.int .i64 a5_1); have hcz515_2 := cz_ BKc 2 (.int .i64 a5_2); have hcz515_3 := cz_ BKc 3 (.int .i64 a5_3); have hfz515_0 := blk_frozen BKc.out 0; have hfz515_1 := blk_frozen BKc.out 1; have hfz515_2 := blk_frozen BKc.out 2; have hfz515_3 := blk_frozen BKc.out 3) | ((with_reducible refine gate_callee (f := 27) rfl ?_); refine gs_ (some 473) Try.func27 #[.agg #[.int .i64 a5_0, .int .i64 a5_1, .int .i64 a5_2, .int .i64 a5_3]] ?_; (with_reducible refine (spec_ExchangeSeen.calls kj397 a5_0 a5_1 a5_2 a5_3 t565 t566 t567 t568 t569 _ A486.out).mono ?_); rintro e w516 ⟨rfl, hb⟩; refine ⟨_, rfl, ?_⟩; replace BKa := bb BKa hb; replace BKb := bb BKb hb; replace BKc := bb BKc hb; replace BKd := bb BKd hb; replace BKe := bb BKe hb; replace BKf := bb BKf hb; replace BKg := bb BKg hb; replace BKp := bb BKp hb; replace BKq := bb BKq hb; replace BKr := Aside0.mk (blk_below (g := gbr) (o := .cells #[.int .i64 t559, .int .i64 t560, .int .i64 t561, .int .i64 t562] 25 (0, 0)) (by (with_reducible repeat (first | refine blk_drewN ?_ _ | refine blk_drew ?_ | refine blk_alloc ?_ _)); refine blk_put (cs := #[.int .i64 t559, .int .i64 t560, .int .i64 t561, .int .i64 0]) ?_ 3 _ rfl; (with_reducible repeat (first | refine blk_drewN ?_ _ | refine blk_drew ?_ | refine blk_alloc ?_ _)); refine blk_put (cs := #[.int .i64 t559, .int .i64 t560, .int .i64 0, .int .i64 0]) ?_ 2 _ rfl; (with_reducible repeat (first | refine blk_drewN ?_ _ | refine blk_drew ?_ | refine blk_alloc ?_ _)); refine blk_put (cs := #[.int .i64 t559, .int .i64 0, .int .i64 0, .int .i64 0]) ?_ 1 _ rfl; (with_reducible repeat (first | refine blk_drewN ?_ _ | refine blk_drew ?_ | refine blk_alloc ?_ _)); refine blk_put (cs := #[.int .i64 0, .int .i64 0, .int .i64 0, .int .i64 0]) ?_ 0 _ rfl; (with_reducible repeat (first | refine blk_drewN ?_ _ | refine blk_drew ?_ | refine blk_alloc ?_ _)); exact BKr.out) hb); replace HB := hs HB hb; (try clear hb); (try clear hb2); (try clear hk); (try clear hi)) | ((with_reducible refine gate_dst (N := 71) rfl ?_); (try (refine gate_guard (by rfl) ?_; dsimp only)); refine be_ (N := 71) (cs := #[.int .i64 0, .int .i64 0, .int .i64 0, .int .i64 0]) (t := 25) ?_; intro gbs hg w517 hbox hb; have BKs := Aside0.mk (hbox); have GWs := ge_ HB hg; have GEs := ge_ HB hg; obtain ⟨Na_s, Ns_a⟩ := nq_ BKa hg; obtain ⟨Nb_s, Ns_b⟩ := nq_ BKb hg; obtain ⟨Nc_s, Ns_c⟩ := nq_ BKc hg; obtain ⟨Nd_s, Ns_d⟩ := nq_ BKd hg; obtain ⟨Ne_s, Ns_e⟩ := nq_ BKe hg; obtain ⟨Nf_s, Ns_f⟩ := nq_ BKf hg; obtain ⟨Ng_s, Ns_g⟩ := nq_ BKg hg; obtain ⟨Np_s, Ns_p⟩ := nq_ BKp hg; obtain ⟨Nq_s, Ns_q⟩ := nq_ BKq hg; obtain ⟨Nr_s, Ns_r⟩ := nq_ BKr hg; replace BKa := bb BKa hb; replace BKb := bb BKb hb; replace BKc := bb BKc hb; replace BKd := bb BKd hb; replace BKe := bb BKe hb; replace BKf := bb BKf hb; replace BKg := bb BKg hb; replace BKp := bb BKp hb; replace BKq := bb BKq hb; replace BKr := bb BKr hb; replace HB := hs HB hb; clear hb hbox hg; obtain ⟨hnb518, hnc518⟩ := nn_ Ns_a; obtain ⟨hnb519, hnc519⟩ := nn_ Ns_b; obtain ⟨hnb520, hnc520⟩ := nn_ Ns_c; obtain ⟨hnb521, hnc521⟩ := nn_ Ns_d; obtain ⟨hnb522, hnc522⟩ := nn_ Ns_e; obtain ⟨hnb523, hnc523⟩ := nn_ Ns_f; obtain ⟨hnb524, hnc524⟩ := nn_ Ns_g; obtain ⟨hnb525, hnc525⟩ := nn_ Ns_p; obtain ⟨hnb526, hnc526⟩ := nn_ Ns_q; obtain ⟨hnb527, hnc527⟩ := nn_ Ns_r; have hcz528_0 := cz_ BKs 0 (.int .i64 0); have hcz528_1 := cz_ BKs 1 (.int .i64 0); have hcz528_2 := cz_ BKs 2 (.int .i64 0); have hcz528_3 := cz_ BKs 3 (.int .i64 0); have hfz528_0 := blk_frozen BKs.out 0; have hfz528_1 := blk_frozen BKs.out 1; have hfz528_2 := blk_frozen BKs.out 2; have hfz528_3 := blk_frozen BKs.out 3))
                     have n0_ : Aside0 (((((w517.setCell ⟨gbs, 0, none⟩ (.int .i64 t565)).setCell ⟨gbs, 1, none⟩ (.int .i64 t566)).setCell ⟨gbs, 2, none⟩ (.int .i64 t567)).setCell ⟨gbs, 3, none⟩ (.int .i64 t568)).heap[gba]? = some (.cells #[.int .i64 a1_0, .int .i64 a1_1] 23 (0, 0))) := bk_ BKa
                     have n1_ : Aside0 (((((w517.setCell ⟨gbs, 0, none⟩ (.int .i64 t565)).setCell ⟨gbs, 1, none⟩ (.int .i64 t566)).setCell ⟨gbs, 2, none⟩ (.int .i64 t567)).setCell ⟨gbs, 3, none⟩ (.int .i64 t568)).heap[gbb]? = some (.cells #[.int .i64 a4_0, .int .i64 a4_1, .int .i64 a4_2, .int .i64 a4_3] 25 (0, 0))) := bk_ BKb
                     have n2_ : Aside0 (((((w517.setCell ⟨gbs, 0, none⟩ (.int .i64 t565)).setCell ⟨gbs, 1, none⟩ (.int .i64 t566)).setCell ⟨gbs, 2, none⟩ (.int .i64 t567)).setCell ⟨gbs, 3, none⟩ (.int .i64 t568)).heap[gbc]? = some (.cells #[.int .i64 a5_0, .int .i64 a5_1, .int .i64 a5_2, .int .i64 a5_3] 25 (0, 0))) := bk_ BKc
                     have n3_ : Aside0 (((((w517.setCell ⟨gbs, 0, none⟩ (.int .i64 t565)).setCell ⟨gbs, 1, none⟩ (.int .i64 t566)).setCell ⟨gbs, 2, none⟩ (.int .i64 t567)).setCell ⟨gbs, 3, none⟩ (.int .i64 t568)).heap[gbd]? = some (.cells #[.int .i64 t447, .int .i64 t448] 23 (0, 0))) := bk_ BKd
                     have n4_ : Aside0 (((((w517.setCell ⟨gbs, 0, none⟩ (.int .i64 t565)).setCell ⟨gbs, 1, none⟩ (.int .i64 t566)).setCell ⟨gbs, 2, none⟩ (.int .i64 t567)).setCell ⟨gbs, 3, none⟩ (.int .i64 t568)).heap[gbe]? = some (.cells #[.int .i64 t451, .int .i64 t452] 23 (0, 0))) := bk_ BKe
                     have n5_ : Aside0 (((((w517.setCell ⟨gbs, 0, none⟩ (.int .i64 t565)).setCell ⟨gbs, 1, none⟩ (.int .i64 t566)).setCell ⟨gbs, 2, none⟩ (.int .i64 t567)).setCell ⟨gbs, 3, none⟩ (.int .i64 t568)).heap[gbf]? = some (.cells #[.int .i64 t455, .int .i64 t456, .int .i64 t457, .int .i64 t458] 25 (0, 0))) := bk_ BKf
                     have n6_ : Aside0 (((((w517.setCell ⟨gbs, 0, none⟩ (.int .i64 t565)).setCell ⟨gbs, 1, none⟩ (.int .i64 t566)).setCell ⟨gbs, 2, none⟩ (.int .i64 t567)).setCell ⟨gbs, 3, none⟩ (.int .i64 t568)).heap[gbg]? = some (.cells #[.int .i64 t461, .int .i64 t462, .int .i64 t463, .int .i64 t464] 25 (0, 0))) := bk_ BKg
                     have n7_ : Aside0 (((((w517.setCell ⟨gbs, 0, none⟩ (.int .i64 t565)).setCell ⟨gbs, 1, none⟩ (.int .i64 t566)).setCell ⟨gbs, 2, none⟩ (.int .i64 t567)).setCell ⟨gbs, 3, none⟩ (.int .i64 t568)).heap[gbp]? = some (.cells #[.int .i64 t538, .int .i64 t539] 23 (0, 0))) := bk_ BKp
                     have n8_ : Aside0 (((((w517.setCell ⟨gbs, 0, none⟩ (.int .i64 t565)).setCell ⟨gbs, 1, none⟩ (.int .i64 t566)).setCell ⟨gbs, 2, none⟩ (.int .i64 t567)).setCell ⟨gbs, 3, none⟩ (.int .i64 t568)).heap[gbq]? = some (.cells #[.int .i64 t542, .int .i64 t543] 23 (0, 0))) := bk_ BKq
                     have n9_ : Aside0 (((((w517.setCell ⟨gbs, 0, none⟩ (.int .i64 t565)).setCell ⟨gbs, 1, none⟩ (.int .i64 t566)).setCell ⟨gbs, 2, none⟩ (.int .i64 t567)).setCell ⟨gbs, 3, none⟩ (.int .i64 t568)).heap[gbr]? = some (.cells #[.int .i64 t559, .int .i64 t560, .int .i64 t561, .int .i64 t562] 25 (0, 0))) := bk_ BKr
                     have n10_ : Aside0 (((((w517.setCell ⟨gbs, 0, none⟩ (.int .i64 t565)).setCell ⟨gbs, 1, none⟩ (.int .i64 t566)).setCell ⟨gbs, 2, none⟩ (.int .i64 t567)).setCell ⟨gbs, 3, none⟩ (.int .i64 t568)).heap[gbs]? = some (.cells #[.int .i64 t565, .int .i64 t566, .int .i64 t567, .int .i64 t568] 25 (0, 0))) := ⟨by (with_reducible repeat (first | refine blk_drewN ?_ _ | refine blk_drew ?_ | refine blk_alloc ?_ _)); refine blk_put (cs := #[.int .i64 t565, .int .i64 t566, .int .i64 t567, .int .i64 0]) ?_ 3 _ rfl; (with_reducible repeat (first | refine blk_drewN ?_ _ | refine blk_drew ?_ | refine blk_alloc ?_ _)); refine blk_put (cs := #[.int .i64 t565, .int .i64 t566, .int .i64 0, .int .i64 0]) ?_ 2 _ rfl; (with_reducible repeat (first | refine blk_drewN ?_ _ | refine blk_drew ?_ | refine blk_alloc ?_ _)); refine blk_put (cs := #[.int .i64 t565, .int .i64 0, .int .i64 0, .int .i64 0]) ?_ 1 _ rfl; (with_reducible repeat (first | refine blk_drewN ?_ _ | refine blk_drew ?_ | refine blk_alloc ?_ _)); refine blk_put (cs := #[.int .i64 0, .int .i64 0, .int .i64 0, .int .i64 0]) ?_ 0 _ rfl; (with_reducible repeat (first | refine blk_drewN ?_ _ | refine blk_drew ?_ | refine blk_alloc ?_ _)); exact BKs.out⟩
                     have n11_ : Aside0 (Below w.heap.size w ((((w517.setCell ⟨gbs, 0, none⟩ (.int .i64 t565)).setCell ⟨gbs, 1, none⟩ (.int .i64 t566)).setCell ⟨gbs, 2, none⟩ (.int .i64 t567)).setCell ⟨gbs, 3, none⟩ (.int .i64 t568))) := hb_ HB
                     (try clear BKa)
                     (try clear BKb)
                     (try clear BKc)
                     (try clear BKd)
                     (try clear BKe)
                     (try clear BKf)
                     (try clear BKg)
                     (try clear BKp)
                     (try clear BKq)
                     (try clear BKr)
                     (try clear BKs)
                     (try clear HB)
                     generalize ((((w517.setCell ⟨gbs, 0, none⟩ (.int .i64 t565)).setCell ⟨gbs, 1, none⟩ (.int .i64 t566)).setCell ⟨gbs, 2, none⟩ (.int .i64 t567)).setCell ⟨gbs, 3, none⟩ (.int .i64 t568)) = w529 at n0_ n1_ n2_ n3_ n4_ n5_ n6_ n7_ n8_ n9_ n10_ n11_ ⊢
                     have BKa := n0_
                     have BKb := n1_
                     have BKc := n2_
                     have BKd := n3_
                     have BKe := n4_
                     have BKf := n5_
                     have BKg := n6_
                     have BKp := n7_
                     have BKq := n8_
                     have BKr := n9_
                     have BKs := n10_
                     have HB := n11_
                     clear n0_ n1_ n2_ n3_ n4_ n5_ n6_ n7_ n8_ n9_ n10_ n11_
                     replace BKa := Aside0.mk (blk_drew BKa.out)
                     replace BKb := Aside0.mk (blk_drew BKb.out)
                     replace BKc := Aside0.mk (blk_drew BKc.out)
                     replace BKd := Aside0.mk (blk_drew BKd.out)
                     replace BKe := Aside0.mk (blk_drew BKe.out)
                     replace BKf := Aside0.mk (blk_drew BKf.out)
                     replace BKg := Aside0.mk (blk_drew BKg.out)
                     replace BKp := Aside0.mk (blk_drew BKp.out)
                     replace BKq := Aside0.mk (blk_drew BKq.out)
                     replace BKr := Aside0.mk (blk_drew BKr.out)
                     replace BKs := Aside0.mk (blk_drew BKs.out)
                     replace HB := Aside0.mk (below_drew1 HB.out)
                     refine start_ (n := 21) (S := fun w' => w'.cell? ⟨gbr, 0, none⟩ = some (.int .i64 t559) ∧ w'.cell? ⟨gbr, 1, none⟩ = some (.int .i64 t560) ∧ w'.cell? ⟨gbr, 2, none⟩ = some (.int .i64 t561) ∧ w'.cell? ⟨gbr, 3, none⟩ = some (.int .i64 t562) ∧ w'.cell? ⟨gbs, 0, none⟩ = some (.int .i64 t565) ∧ w'.cell? ⟨gbs, 1, none⟩ = some (.int .i64 t566) ∧ w'.cell? ⟨gbs, 2, none⟩ = some (.int .i64 t567) ∧ w'.cell? ⟨gbs, 3, none⟩ = some (.int .i64 t568) ∧ w'.cell? ⟨gbc, 0, none⟩ = some (.int .i64 a5_0) ∧ w'.cell? ⟨gbc, 1, none⟩ = some (.int .i64 a5_1) ∧ w'.cell? ⟨gbc, 2, none⟩ = some (.int .i64 a5_2) ∧ w'.cell? ⟨gbc, 3, none⟩ = some (.int .i64 a5_3)) (ds := []) (bl true [0, 21]) (by kernel_rfl) rfl rfl ⟨(blk_cell BKr.out 0).trans rfl, (blk_cell BKr.out 1).trans rfl, (blk_cell BKr.out 2).trans rfl, (blk_cell BKr.out 3).trans rfl, (blk_cell BKs.out 0).trans rfl, (blk_cell BKs.out 1).trans rfl, (blk_cell BKs.out 2).trans rfl, (blk_cell BKs.out 3).trans rfl, (blk_cell BKc.out 0).trans rfl, (blk_cell BKc.out 1).trans rfl, (blk_cell BKc.out 2).trans rfl, (blk_cell BKc.out 3).trans rfl⟩ (fun hHeld => ?_); refine with_tabW laws_FnSeenTrueOfAll.tab65 laws_FnSeenTrueOfAll.bits65 (fun HT_ HW_ => ?_)
                     generalize w529.drew = w530 at BKa BKb BKc BKd BKe BKf BKg BKp BKq BKr BKs HB hHeld ⊢
                     refine pu_ 0 (some 476) HT_.out ?_
                     refine pu_ 1 (some 477) HT_.out ?_
                     refine pu_ 2 (some 478) HT_.out ?_
                     refine pu_ 3 (some 479) HT_.out ?_
                     refine take_ (i := 4) (N := some 480) (v := ?_) (a' := ?_) (bl true [5, 16]) rfl rfl (take_ofW HT_.out HW_.out (by kernel_rfl)) (fun _ _ _ h => h) (Or.inl ⟨by rfl, ?_⟩) hHeld ?_ ?_
                     rotate_left
                     ·
                      rintro w' ⟨s0, s1, s2, s3, s4, s5, s6, s7, s8, s9, s10, s11⟩
                      go_simp
                      with_reducible rfl
                     rotate_left
                     ·
                      simp only [Act.put, s1, s2, s3, i64_w, i32_w]
                      rfl
                     refine take_ (i := 5) (N := some 481) (v := ?_) (a' := ?_) (bl true [6, 15]) rfl rfl (take_ofW HT_.out HW_.out (by kernel_rfl)) (fun _ _ _ h => h) (Or.inl ⟨by rfl, ?_⟩) hHeld ?_ ?_
                     rotate_left
                     ·
                      rintro w' ⟨s0, s1, s2, s3, s4, s5, s6, s7, s8, s9, s10, s11⟩
                      go_simp
                      with_reducible rfl
                     rotate_left
                     ·
                      simp only [Act.put, s1, s2, s3, i64_w, i32_w]
                      rfl
                     refine pu_ 6 (some 482) HT_.out ?_
                     refine pu_ 7 (some 483) HT_.out ?_
                     refine pu_ 8 (some 484) HT_.out ?_
                     refine pu_ 9 (some 485) HT_.out ?_
                     refine take_ (i := 10) (N := some 486) (v := ?_) (a' := ?_) (bl true [11, 10]) rfl rfl (take_ofW HT_.out HW_.out (by kernel_rfl)) (fun _ _ _ h => h) (Or.inl ⟨by rfl, ?_⟩) hHeld ?_ ?_
                     rotate_left
                     ·
                      rintro w' ⟨s0, s1, s2, s3, s4, s5, s6, s7, s8, s9, s10, s11⟩
                      go_simp
                      with_reducible rfl
                     rotate_left
                     ·
                      simp only [Act.put, s1, s2, s3, i64_w, i32_w]
                      rfl
                     refine one_ (i := 11) (N := some 487) (bl true [12, 9]) rfl rfl (one_of HT_.out (by kernel_rfl)) (by decide) (fun K hK => ?_)
                     refine goes_ Try.func13 (by kernel_rfl) rfl #[.agg #[.int .i64 a5_0, .int .i64 a5_1, .int .i64 a5_2, .int .i64 a5_3]] (by rfl) rfl rfl (by (try simp only [List.map_toArray, List.map_cons, List.map_nil]); first | done | rfl | (simp only [List.length_drop, List.length_take]; rfl)) ?_
                     with_reducible refine (impl_IsSeen.calls kj397 a5_0 a5_1 a5_2 a5_3 t571 _ A489.out).mono ?_
                     rintro e w531 ⟨rfl, hb⟩
                     refine ⟨_, rfl, ?_⟩
                     replace BKa := bb BKa hb
                     replace BKb := bb BKb hb
                     replace BKc := bb BKc hb
                     replace BKd := bb BKd hb
                     replace BKe := bb BKe hb
                     replace BKf := bb BKf hb
                     replace BKg := bb BKg hb
                     replace BKp := bb BKp hb
                     replace BKq := bb BKq hb
                     replace BKr := bb BKr hb
                     replace BKs := bb BKs hb
                     replace HB := hs HB hb
                     (try clear hb)
                     (try clear hb2)
                     (try clear hk)
                     (try clear hi)
                     refine hK.out _ _ ⟨(blk_cell BKr.out 0).trans rfl, (blk_cell BKr.out 1).trans rfl, (blk_cell BKr.out 2).trans rfl, (blk_cell BKr.out 3).trans rfl, (blk_cell BKs.out 0).trans rfl, (blk_cell BKs.out 1).trans rfl, (blk_cell BKs.out 2).trans rfl, (blk_cell BKs.out 3).trans rfl, (blk_cell BKc.out 0).trans rfl, (blk_cell BKc.out 1).trans rfl, (blk_cell BKc.out 2).trans rfl, (blk_cell BKc.out 3).trans rfl⟩ (fun hHeld => ?_)
                     clear hK K
                     refine norm_ (a' := ?_) ?_ ?_
                     rotate_left
                     ·
                      show Act.put _ (some 487) _ = _
                      simp only [Act.put, s1, s2, s3, i64_w, i32_w]
                      rfl
                     refine pu_ 12 (some 488) HT_.out ?_
                     refine pu_ 13 (some 489) HT_.out ?_
                     refine pu_ 14 (some 490) HT_.out ?_
                     refine take_ (i := 15) (N := some 491) (v := ?_) (a' := ?_) (bl true [16, 5]) rfl rfl (take_ofW HT_.out HW_.out (by kernel_rfl)) (fun _ _ _ h => h) (Or.inl ⟨by rfl, ?_⟩) hHeld ?_ ?_
                     rotate_left
                     ·
                      rintro w' ⟨s0, s1, s2, s3, s4, s5, s6, s7, s8, s9, s10, s11⟩
                      go_simp
                      with_reducible rfl
                     rotate_left
                     ·
                      simp only [Act.put, s1, s2, s3, i64_w, i32_w]
                      rfl
                     refine take_ (i := 17) (N := some 493) (v := ?_) (a' := ?_) (bl true [16, 1, 1, 3]) rfl rfl (take_ofW HT_.out HW_.out (by kernel_rfl)) (fun _ _ _ h => h) (Or.inl ⟨by rfl, ?_⟩) hHeld ?_ ?_
                     rotate_left
                     ·
                      rintro w' ⟨s0, s1, s2, s3, s4, s5, s6, s7, s8, s9, s10, s11⟩
                      go_simp
                      with_reducible rfl
                     rotate_left
                     ·
                      simp only [Act.put, s1, s2, s3, i64_w, i32_w]
                      rfl
                     refine one_ (i := 16) (N := some 492) (bl true [18, 3]) rfl rfl (one_of HT_.out (by kernel_rfl)) (by decide) (fun K hK => ?_)
                     refine goes_ Try.func13 (by kernel_rfl) rfl #[.agg #[.int .i64 a5_0, .int .i64 a5_1, .int .i64 a5_2, .int .i64 a5_3]] (by rfl) rfl rfl (by (try simp only [List.map_toArray, List.map_cons, List.map_nil]); first | done | rfl | (simp only [List.length_drop, List.length_take]; rfl)) ?_
                     with_reducible refine (impl_IsSeen.calls kj397 a5_0 a5_1 a5_2 a5_3 t572 _ A491.out).mono ?_
                     rintro e w532 ⟨rfl, hb⟩
                     refine ⟨_, rfl, ?_⟩
                     replace BKa := bb BKa hb
                     replace BKb := bb BKb hb
                     replace BKc := bb BKc hb
                     replace BKd := bb BKd hb
                     replace BKe := bb BKe hb
                     replace BKf := bb BKf hb
                     replace BKg := bb BKg hb
                     replace BKp := bb BKp hb
                     replace BKq := bb BKq hb
                     replace BKr := bb BKr hb
                     replace BKs := bb BKs hb
                     replace HB := hs HB hb
                     (try clear hb)
                     (try clear hb2)
                     (try clear hk)
                     (try clear hi)
                     refine hK.out _ _ ⟨(blk_cell BKr.out 0).trans rfl, (blk_cell BKr.out 1).trans rfl, (blk_cell BKr.out 2).trans rfl, (blk_cell BKr.out 3).trans rfl, (blk_cell BKs.out 0).trans rfl, (blk_cell BKs.out 1).trans rfl, (blk_cell BKs.out 2).trans rfl, (blk_cell BKs.out 3).trans rfl, (blk_cell BKc.out 0).trans rfl, (blk_cell BKc.out 1).trans rfl, (blk_cell BKc.out 2).trans rfl, (blk_cell BKc.out 3).trans rfl⟩ (fun hHeld => ?_)
                     clear hK K
                     refine norm_ (a' := ?_) ?_ ?_
                     rotate_left
                     ·
                      show Act.put _ (some 492) _ = _
                      simp only [Act.put, s1, s2, s3, i64_w, i32_w]
                      rfl
                     refine one_ (i := 18) (N := some 494) (bl true [19, 2]) rfl rfl (one_of HT_.out (by kernel_rfl)) (by decide) (fun K hK => ?_)
                     refine goes_ Try.func28 (by kernel_rfl) rfl #[.agg #[.int .i64 a5_0, .int .i64 a5_1, .int .i64 a5_2, .int .i64 a5_3]] (by rfl) rfl rfl (by (try simp only [List.map_toArray, List.map_cons, List.map_nil]); first | done | rfl | (simp only [List.length_drop, List.length_take]; rfl)) ?_
                     with_reducible refine (spec_IsSeen.calls kj397 a5_0 a5_1 a5_2 a5_3 t573 _ A492.out).mono ?_
                     rintro e w533 ⟨rfl, hb⟩
                     refine ⟨_, rfl, ?_⟩
                     replace BKa := bb BKa hb
                     replace BKb := bb BKb hb
                     replace BKc := bb BKc hb
                     replace BKd := bb BKd hb
                     replace BKe := bb BKe hb
                     replace BKf := bb BKf hb
                     replace BKg := bb BKg hb
                     replace BKp := bb BKp hb
                     replace BKq := bb BKq hb
                     replace BKr := bb BKr hb
                     replace BKs := bb BKs hb
                     replace HB := hs HB hb
                     (try clear hb)
                     (try clear hb2)
                     (try clear hk)
                     (try clear hi)
                     refine hK.out _ _ ⟨(blk_cell BKr.out 0).trans rfl, (blk_cell BKr.out 1).trans rfl, (blk_cell BKr.out 2).trans rfl, (blk_cell BKr.out 3).trans rfl, (blk_cell BKs.out 0).trans rfl, (blk_cell BKs.out 1).trans rfl, (blk_cell BKs.out 2).trans rfl, (blk_cell BKs.out 3).trans rfl, (blk_cell BKc.out 0).trans rfl, (blk_cell BKc.out 1).trans rfl, (blk_cell BKc.out 2).trans rfl, (blk_cell BKc.out 3).trans rfl⟩ (fun hHeld => ?_)
                     clear hK K
                     refine norm_ (a' := ?_) ?_ ?_
                     rotate_left
                     ·
                      show Act.put _ (some 494) _ = _
                      simp only [Act.put, s1, s2, s3, i64_w, i32_w]
                      rfl
                     refine pu_ 19 (some 495) HT_.out ?_
                     refine pu_ 20 (some 496) HT_.out ?_
                     refine done_ (done_of HT_.out (by kernel_rfl)) ?_
                     try go_wp2
                     go_ret
                     exact ⟨by first | rfl | (simp [errW_none, errW_some] <;> rfl) | (simp [*, errW_none, errW_some] <;> rfl), (ho_ HB)⟩

end Go.Proofs.Ytkfcaldjepmffaa.GFnSeenTrueOfAll
