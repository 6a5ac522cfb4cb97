import Derived.Test.YtkfcaldjepmffaaGFnDialsTurnedOfAllx15
namespace Go.Proofs.Ytkfcaldjepmffaa.GFnDialsTurnedOfAll
open Go.RowKit Go.Proofs.YtkfcaldjepmffaaW.PrintWords Go.Proofs.YtkfcaldjepmffaaW.PrintLast Go.Proofs.YtkfcaldjepmffaaW.PrintMore
attribute [local go_sem] max2_int min2_int max_two min_two max_three min_three max_four min_four   -- for this text's walks alone
set_option linter.unusedVariables false
set_option linter.unusedSimpArgs false

attribute [local go_sem high] eqA23 eqA25
open laws_FnDialsTurnedOfAll
set_option maxHeartbeats 32000000 in
set_option maxRecDepth 100000 in
theorem laws_FnDialsTurnedOfAll.calls (k : Nat) (a0 : Int) (a1_0 : Int) (a1_1 : Int) (a1_2 : Int) (a1_3 : Int) (a2 : Int) (a3_0 : Int) (a3_1 : Int) (a4 : Int) (a5_0 : Int) (a5_1 : Int) (a5_2 : Int) (a5_3 : Int) (a6_0 : Int) (a6_1 : Int) (a6_2 : Int) (a6_3 : Int) (a7_0 : Int) (a7_1 : Int) (a7_2 : Int) (a7_3 : Int) (a8_0 : Int) (a8_1 : Int) (r : Bool) (w : World) (h : laws_FnDialsTurnedOfAll.f k a0 a1_0 a1_1 a1_2 a1_3 a2 a3_0 a3_1 a4 a5_0 a5_1 a5_2 a5_3 a6_0 a6_1 a6_2 a6_3 a7_0 a7_1 a7_2 a7_3 a8_0 a8_1 = some r) :
  Calls Try.prog 4 #[.int .i64 a0, .agg #[.int .i64 a1_0, .int .i64 a1_1, .int .i64 a1_2, .int .i64 a1_3], .int .i64 a2, .agg #[.int .i64 a3_0, .int .i64 a3_1], .int .i64 a4, .agg #[.int .i64 a5_0, .int .i64 a5_1, .int .i64 a5_2, .int .i64 a5_3], .agg #[.int .i64 a6_0, .int .i64 a6_1, .int .i64 a6_2, .int .i64 a6_3], .agg #[.int .i64 a7_0, .int .i64 a7_1, .int .i64 a7_2, .int .i64 a7_3], .agg #[.int .i64 a8_0, .int .i64 a8_1]] w fun e w' => e = .returned (.bool r) ∧ Below w.heap.size w w' := by
 have hu25 := Try.underlying25
 have hu23 := Try.underlying23
 have HB := Aside0.mk (Below.refl w.heap.size w)
 have H : ((impl_TimesTurned.f k a0 a1_0 a1_1 a1_2 a1_3).bind fun bt458 => ((spec_TimesTurned.f k a0 a1_0 a1_1 a1_2 a1_3).bind fun bt462 => ((impl_TurnsOfDial.f k a0 a1_0 a1_1 a1_2 a1_3).bind fun bt466 => ((spec_TurnsOfDial.f k a0 a1_0 a1_1 a1_2 a1_3).bind fun bt470 => (if (bt458.2 != bt462.2) = true then (none) else ((laws_wTurns.f k bt458.1 bt462.1).bind fun t474 => (if t474 = true then (if (bt466.2 != bt470.2) = true then (none) else ((laws_wTurns.f k bt466.1 bt470.1).bind fun t475 => (if t475 = true then (if bt466.2 = true then (j0 k a0 a2 a4 bt458.1 bt458.2 bt466.1 bt466.2 (!bt458.2) a1_0 a1_1 a1_2 a1_3 a3_0 a3_1 a5_0 a5_1 a5_2 a5_3 a6_0 a6_1 a6_2 a6_3 a7_0 a7_1 a7_2 a7_3 a8_0 a8_1) else (j0 k a0 a2 a4 bt458.1 bt458.2 bt466.1 bt466.2 false a1_0 a1_1 a1_2 a1_3 a3_0 a3_1 a5_0 a5_1 a5_2 a5_3 a6_0 a6_1 a6_2 a6_3 a7_0 a7_1 a7_2 a7_3 a8_0 a8_1)) else (none)))) else (none)))))))) = some r := h
 clear h
 replace H := Option.bind_eq_some_iff.mp H
 obtain ⟨⟨t458, t461⟩, A100, H⟩ := H
 try dsimp only at H
 have A10 := Aside0.mk A100
 clear A100
 replace H := Option.bind_eq_some_iff.mp H
 obtain ⟨⟨t462, t465⟩, A110, H⟩ := H
 try dsimp only at H
 have A11 := Aside0.mk A110
 clear A110
 replace H := Option.bind_eq_some_iff.mp H
 obtain ⟨⟨t466, t469⟩, A120, H⟩ := H
 try dsimp only at H
 have A12 := Aside0.mk A120
 clear A120
 replace H := Option.bind_eq_some_iff.mp H
 obtain ⟨⟨t470, t473⟩, A130, H⟩ := H
 try dsimp only at H
 have A13 := Aside0.mk A130
 clear A130
 have HC14 := Aside0.mk H
 clear H
 go_enter Try.func4, Try.ntmps4
 go_upto_region 5 with (first | ((with_reducible refine gate_dst (N := 10) rfl ?_); (try (refine gate_guard (by rfl) ?_; dsimp only)); refine be_ (N := 10) (cs := #[.int .i64 a1_0, .int .i64 a1_1, .int .i64 a1_2, .int .i64 a1_3]) (t := 25) ?_; intro gba hg w15 hbox hb; have BKa := Aside0.mk (hbox); have GWa := ge_ HB hg; have GEa := ge_ HB hg; replace HB := hs HB hb; clear hb hbox hg) | ((with_reducible refine gate_dst (N := 12) rfl ?_); (try (refine gate_guard (by rfl) ?_; dsimp only)); refine be_ (N := 12) (cs := #[.int .i64 a3_0, .int .i64 a3_1]) (t := 23) ?_; intro gbb hg w16 hbox hb; have BKb := Aside0.mk (hbox); have GWb := ge_ HB hg; have GEb := ge_ HB hg; obtain ⟨Na_b, Nb_a⟩ := nq_ BKa hg; replace BKa := bb BKa hb; replace HB := hs HB hb; clear hb hbox hg) | ((with_reducible refine gate_dst (N := 14) rfl ?_); (try (refine gate_guard (by rfl) ?_; dsimp only)); refine be_ (N := 14) (cs := #[.int .i64 a5_0, .int .i64 a5_1, .int .i64 a5_2, .int .i64 a5_3]) (t := 25) ?_; intro gbc hg w17 hbox hb; have BKc := Aside0.mk (hbox); have GWc := ge_ HB hg; have GEc := ge_ HB hg; obtain ⟨Na_c, Nc_a⟩ := nq_ BKa hg; obtain ⟨Nb_c, Nc_b⟩ := nq_ BKb hg; replace BKa := bb BKa hb; replace BKb := bb BKb hb; replace HB := hs HB hb; clear hb hbox hg) | ((with_reducible refine gate_dst (N := 15) rfl ?_); (try (refine gate_guard (by rfl) ?_; dsimp only)); refine be_ (N := 15) (cs := #[.int .i64 a6_0, .int .i64 a6_1, .int .i64 a6_2, .int .i64 a6_3]) (t := 25) ?_; intro gbd hg w18 hbox hb; have BKd := Aside0.mk (hbox); have GWd := ge_ HB hg; have GEd := ge_ HB hg; obtain ⟨Na_d, Nd_a⟩ := nq_ BKa hg; obtain ⟨Nb_d, Nd_b⟩ := nq_ BKb hg; obtain ⟨Nc_d, Nd_c⟩ := nq_ BKc hg; replace BKa := bb BKa hb; replace BKb := bb BKb hb; replace BKc := bb BKc hb; replace HB := hs HB hb; clear hb hbox hg) | ((with_reducible refine gate_dst (N := 16) rfl ?_); (try (refine gate_guard (by rfl) ?_; dsimp only)); refine be_ (N := 16) (cs := #[.int .i64 a7_0, .int .i64 a7_1, .int .i64 a7_2, .int .i64 a7_3]) (t := 25) ?_; intro gbe hg w19 hbox hb; have BKe := Aside0.mk (hbox); have GWe := ge_ HB hg; have GEe := ge_ HB hg; obtain ⟨Na_e, Ne_a⟩ := nq_ BKa hg; obtain ⟨Nb_e, Ne_b⟩ := nq_ BKb hg; obtain ⟨Nc_e, Ne_c⟩ := nq_ BKc hg; obtain ⟨Nd_e, Ne_d⟩ := nq_ BKd hg; replace BKa := bb BKa hb; replace BKb := bb BKb hb; replace BKc := bb BKc hb; replace BKd := bb BKd hb; replace HB := hs HB hb; clear hb hbox hg) | ((with_reducible refine gate_dst (N := 17) rfl ?_); (try (refine gate_guard (by rfl) ?_; dsimp only)); refine be_ (N := 17) (cs := #[.int .i64 a8_0, .int .i64 a8_1]) (t := 23) ?_; intro gbf hg w20 hbox hb; have BKf := Aside0.mk (hbox); have GWf := ge_ HB hg; have GEf := ge_ HB hg; obtain ⟨Na_f, Nf_a⟩ := nq_ BKa hg; obtain ⟨Nb_f, Nf_b⟩ := nq_ BKb hg; obtain ⟨Nc_f, Nf_c⟩ := nq_ BKc hg; obtain ⟨Nd_f, Nf_d⟩ := nq_ BKd hg; obtain ⟨Ne_f, Nf_e⟩ := nq_ BKe hg; replace BKa := bb BKa hb; replace BKb := bb BKb hb; replace BKc := bb BKc hb; replace BKd := bb BKd hb; replace BKe := bb BKe hb; replace HB := hs HB hb; clear hb hbox hg; obtain ⟨hnb21, hnc21⟩ := nn_ Na_b; obtain ⟨hnb22, hnc22⟩ := nn_ Na_c; obtain ⟨hnb23, hnc23⟩ := nn_ Na_d; obtain ⟨hnb24, hnc24⟩ := nn_ Na_e; obtain ⟨hnb25, hnc25⟩ := nn_ Na_f; have hcz26_0 := cz_ BKa 0 (.int .i64 a1_0); have hcz26_1 := cz_ BKa 1 (.int .i64 a1_1); have hcz26_2 := cz_ BKa 2 (.int .i64 a1_2); have hcz26_3 := cz_ BKa 3 (.int .i64 a1_3); have hfz26_0 := blk_frozen BKa.out 0; have hfz26_1 := blk_frozen BKa.out 1; have hfz26_2 := blk_frozen BKa.out 2; have hfz26_3 := blk_frozen BKa.out 3) | ((with_reducible refine gate_callee (f := 29) rfl ?_); refine gs_ (some 72) Try.func29 #[.int .i64 a0, .agg #[.int .i64 a1_0, .int .i64 a1_1, .int .i64 a1_2, .int .i64 a1_3]] ?_; (with_reducible refine (impl_TimesTurned.calls k a0 a1_0 a1_1 a1_2 a1_3 t458 t461 _ A10.out).mono ?_); rintro e w27 ⟨v459, rfl, ho0, hb⟩; refine ⟨_, rfl, ?_⟩; have HO460 := Aside0.mk (Kd.R_lower (Kd.R_newB (Kd.R_newB ho0 (bq_ BKb)) (bq_ BKf)) (bs_ HB)); replace BKa := bb BKa hb; replace BKb := bb BKb hb; replace BKc := bb BKc hb; replace BKd := bb BKd hb; replace BKe := bb BKe hb; replace BKf := bb BKf hb; replace HB := hs HB hb; (try clear hb); (try clear hb2); (try clear hk); (try clear hi); (try clear ho0); have hcz28_0 := cz_ BKa 0 (.int .i64 a1_0); have hcz28_1 := cz_ BKa 1 (.int .i64 a1_1); have hcz28_2 := cz_ BKa 2 (.int .i64 a1_2); have hcz28_3 := cz_ BKa 3 (.int .i64 a1_3); have hfz28_0 := blk_frozen BKa.out 0; have hfz28_1 := blk_frozen BKa.out 1; have hfz28_2 := blk_frozen BKa.out 2; have hfz28_3 := blk_frozen BKa.out 3) | ((with_reducible refine gate_callee (f := 30) rfl ?_); refine gs_ (some 78) Try.func30 #[.int .i64 a0, .agg #[.int .i64 a1_0, .int .i64 a1_1, .int .i64 a1_2, .int .i64 a1_3]] ?_; (with_reducible refine (spec_TimesTurned.calls k a0 a1_0 a1_1 a1_2 a1_3 t462 t465 _ A11.out).mono ?_); rintro e w29 ⟨v463, rfl, ho0, hb⟩; refine ⟨_, rfl, ?_⟩; have HO464 := Aside0.mk (Kd.R_lower (Kd.R_newB (Kd.R_newB (Kd.R_new' ho0 (Kd.R_lt (by (with_reducible repeat (first | apply Kd.R_alloc | apply Kd.R_drewN | apply Kd.R_drew)); exact HO460.out))) (bq_ BKb)) (bq_ BKf)) (bs_ HB)); replace HO460 := Aside0.mk (Kd.R_elder' (by (with_reducible repeat (first | apply Kd.R_alloc | apply Kd.R_drewN | apply Kd.R_drew)); exact HO460.out) (Kd.R_base ho0) hb); replace BKa := bb BKa hb; replace BKb := bb BKb hb; replace BKc := bb BKc hb; replace BKd := bb BKd hb; replace BKe := bb BKe hb; replace BKf := bb BKf hb; replace HB := hs HB hb; (try clear hb); (try clear hb2); (try clear hk); (try clear hi); (try clear ho0); have hcz30_0 := cz_ BKa 0 (.int .i64 a1_0); have hcz30_1 := cz_ BKa 1 (.int .i64 a1_1); have hcz30_2 := cz_ BKa 2 (.int .i64 a1_2); have hcz30_3 := cz_ BKa 3 (.int .i64 a1_3); have hfz30_0 := blk_frozen BKa.out 0; have hfz30_1 := blk_frozen BKa.out 1; have hfz30_2 := blk_frozen BKa.out 2; have hfz30_3 := blk_frozen BKa.out 3) | ((with_reducible refine gate_callee (f := 31) rfl ?_); refine gs_ (some 84) Try.func31 #[.int .i64 a0, .agg #[.int .i64 a1_0, .int .i64 a1_1, .int .i64 a1_2, .int .i64 a1_3]] ?_; (with_reducible refine (impl_TurnsOfDial.calls k a0 a1_0 a1_1 a1_2 a1_3 t466 t469 _ A12.out).mono ?_); rintro e w31 ⟨v467, rfl, ho0, hb⟩; refine ⟨_, rfl, ?_⟩; have hx_ := Kd.R_new' (Kd.R_new' ho0 (Kd.R_lt (by (with_reducible repeat (first | apply Kd.R_alloc | apply Kd.R_drewN | apply Kd.R_drew)); exact HO460.out))) (Kd.R_lt (by (with_reducible repeat (first | apply Kd.R_alloc | apply Kd.R_drewN | apply Kd.R_drew)); exact HO464.out)); have HO468 := Aside0.mk (Kd.R_lower (Kd.R_newB (Kd.R_newB hx_ (bq_ BKb)) (bq_ BKf)) (bs_ HB)); replace HO460 := Aside0.mk (Kd.R_elder' (by (with_reducible repeat (first | apply Kd.R_alloc | apply Kd.R_drewN | apply Kd.R_drew)); exact HO460.out) (Kd.R_base ho0) hb); replace HO464 := Aside0.mk (Kd.R_elder' (by (with_reducible repeat (first | apply Kd.R_alloc | apply Kd.R_drewN | apply Kd.R_drew)); exact HO464.out) (Kd.R_base ho0) hb); replace BKa := bb BKa hb; replace BKb := bb BKb hb; replace BKc := bb BKc hb; replace BKd := bb BKd hb; replace BKe := bb BKe hb; replace BKf := bb BKf hb; replace HB := hs HB hb; (try clear hb); (try clear hb2); (try clear hk); (try clear hi); (try clear ho0); have hcz32_0 := cz_ BKa 0 (.int .i64 a1_0); have hcz32_1 := cz_ BKa 1 (.int .i64 a1_1); have hcz32_2 := cz_ BKa 2 (.int .i64 a1_2); have hcz32_3 := cz_ BKa 3 (.int .i64 a1_3); have hfz32_0 := blk_frozen BKa.out 0; have hfz32_1 := blk_frozen BKa.out 1; have hfz32_2 := blk_frozen BKa.out 2; have hfz32_3 := blk_frozen BKa.out 3) | ((with_reducible refine gate_callee (f := 32) rfl ?_); refine gs_ (some 90) Try.func32 #[.int .i64 a0, .agg #[.int .i64 a1_0, .int .i64 a1_1, .int .i64 a1_2, .int .i64 a1_3]] ?_; (with_reducible refine (spec_TurnsOfDial.calls k a0 a1_0 a1_1 a1_2 a1_3 t470 t473 _ A13.out).mono ?_); rintro e w33 ⟨v471, rfl, ho0, hb⟩; refine ⟨_, rfl, ?_⟩; have hx_ := Kd.R_new' (Kd.R_new' (Kd.R_new' ho0 (Kd.R_lt (by (with_reducible repeat (first | apply Kd.R_alloc | apply Kd.R_drewN | apply Kd.R_drew)); exact HO460.out))) (Kd.R_lt (by (with_reducible repeat (first | apply Kd.R_alloc | apply Kd.R_drewN | apply Kd.R_drew)); exact HO464.out))) (Kd.R_lt (by (with_reducible repeat (first | apply Kd.R_alloc | apply Kd.R_drewN | apply Kd.R_drew)); exact HO468.out)); have HO472 := Aside0.mk (Kd.R_lower (Kd.R_newB (Kd.R_newB hx_ (bq_ BKb)) (bq_ BKf)) (bs_ HB)); replace HO460 := Aside0.mk (Kd.R_elder' (by (with_reducible repeat (first | apply Kd.R_alloc | apply Kd.R_drewN | apply Kd.R_drew)); exact HO460.out) (Kd.R_base ho0) hb); replace HO464 := Aside0.mk (Kd.R_elder' (by (with_reducible repeat (first | apply Kd.R_alloc | apply Kd.R_drewN | apply Kd.R_drew)); exact HO464.out) (Kd.R_base ho0) hb); replace HO468 := Aside0.mk (Kd.R_elder' (by (with_reducible repeat (first | apply Kd.R_alloc | apply Kd.R_drewN | apply Kd.R_drew)); exact HO468.out) (Kd.R_base ho0) hb); replace BKa := bb BKa hb; replace BKb := bb BKb hb; replace BKc := bb BKc hb; replace BKd := bb BKd hb; replace BKe := bb BKe hb; replace BKf := bb BKf hb; replace HB := hs HB hb; (try clear hb); (try clear hb2); (try clear hk); (try clear hi); (try clear ho0)))
 (try simp only [Act.put, s1, s2, s3])
 go_cut [119] from 69 to 119 (fun v119 wc => ∃ (kq : Nat) (x119_13 : Bool), v119 = .bool x119_13 ∧ Aside0 (j0 kq a0 a2 a4 t458 t461 t466 t469 x119_13 a1_0 a1_1 a1_2 a1_3 a3_0 a3_1 a5_0 a5_1 a5_2 a5_3 a6_0 a6_1 a6_2 a6_3 a7_0 a7_1 a7_2 a7_3 a8_0 a8_1 = some r) ∧ Aside0 (kq ≤ k) ∧ Aside0 (Kd.R k23 23 wc w.heap.size (fun k_ => some k_ ≠ (v467 : Value).ownBlock ∧ k_ ≠ gbb ∧ k_ ≠ gbf) v459 t458) ∧ Aside0 (Kd.R k23 23 wc w.heap.size (fun k_ => some k_ ≠ (v459 : Value).ownBlock ∧ k_ ≠ gbb ∧ k_ ≠ gbf) v467 t466) ∧ Aside0 (wc.heap[gba]? = some (.cells #[.int .i64 a1_0, .int .i64 a1_1, .int .i64 a1_2, .int .i64 a1_3] 25 (0, 0))) ∧ Aside0 (wc.heap[gbb]? = some (.cells #[.int .i64 a3_0, .int .i64 a3_1] 23 (0, 0))) ∧ Aside0 (wc.heap[gbc]? = some (.cells #[.int .i64 a5_0, .int .i64 a5_1, .int .i64 a5_2, .int .i64 a5_3] 25 (0, 0))) ∧ Aside0 (wc.heap[gbd]? = some (.cells #[.int .i64 a6_0, .int .i64 a6_1, .int .i64 a6_2, .int .i64 a6_3] 25 (0, 0))) ∧ Aside0 (wc.heap[gbe]? = some (.cells #[.int .i64 a7_0, .int .i64 a7_1, .int .i64 a7_2, .int .i64 a7_3] 25 (0, 0))) ∧ Aside0 (wc.heap[gbf]? = some (.cells #[.int .i64 a8_0, .int .i64 a8_1] 23 (0, 0))) ∧ Aside0 (Below w.heap.size w wc))
 case first => as_aux_lemma =>
  have H := HC14.out
  clear HC14
  by_cases c34 : (t461 != t465) = true
  ·
   rw [if_pos c34] at H
   exact absurd H (by simp)
  ·
   rw [if_neg c34] at H
   have c34b0 : (t461 != t465) = false := by simpa using c34
   (try (have c34b1 : decide (t461 = t465) = true := by simpa using c34))
   (try (have c34b2 : (t461 == t465) = true := by simpa using c34))
   clear c34
   (first | rw [c34b0] | (simp only [i64_w, i32_w]; rw [c34b0]) | skip)
   replace H := Option.bind_eq_some_iff.mp H
   obtain ⟨t474, A350, H⟩ := H
   try dsimp only at H
   have A35 := Aside0.mk A350
   clear A350
   by_cases c36 : t474 = true
   ·
    subst c36
    have H1 : (if (t469 != t473) = true then (none) else ((laws_wTurns.f k t466 t470).bind fun t475 => (if t475 = true then (if t469 = true then (j0 k a0 a2 a4 t458 t461 t466 t469 (!t461) a1_0 a1_1 a1_2 a1_3 a3_0 a3_1 a5_0 a5_1 a5_2 a5_3 a6_0 a6_1 a6_2 a6_3 a7_0 a7_1 a7_2 a7_3 a8_0 a8_1) else (j0 k a0 a2 a4 t458 t461 t466 t469 false a1_0 a1_1 a1_2 a1_3 a3_0 a3_1 a5_0 a5_1 a5_2 a5_3 a6_0 a6_1 a6_2 a6_3 a7_0 a7_1 a7_2 a7_3 a8_0 a8_1)) else (none)))) = some r := by rw [if_pos rfl] at H; exact H
    clear H
    have H := H1
    clear H1
    by_cases c37 : (t469 != t473) = true
    ·
     rw [if_pos c37] at H
     exact absurd H (by simp)
    ·
     rw [if_neg c37] at H
     have c37b0 : (t469 != t473) = false := by simpa using c37
     (try (have c37b1 : decide (t469 = t473) = true := by simpa using c37))
     (try (have c37b2 : (t469 == t473) = true := by simpa using c37))
     clear c37
     replace H := Option.bind_eq_some_iff.mp H
     obtain ⟨t475, A380, H⟩ := H
     try dsimp only at H
     have A38 := Aside0.mk A380
     clear A380
     by_cases c39 : t475 = true
     ·
      subst c39
      have H1 : (if t469 = true then (j0 k a0 a2 a4 t458 t461 t466 t469 (!t461) a1_0 a1_1 a1_2 a1_3 a3_0 a3_1 a5_0 a5_1 a5_2 a5_3 a6_0 a6_1 a6_2 a6_3 a7_0 a7_1 a7_2 a7_3 a8_0 a8_1) else (j0 k a0 a2 a4 t458 t461 t466 t469 false a1_0 a1_1 a1_2 a1_3 a3_0 a3_1 a5_0 a5_1 a5_2 a5_3 a6_0 a6_1 a6_2 a6_3 a7_0 a7_1 a7_2 a7_3 a8_0 a8_1)) = some r := by rw [if_pos rfl] at H; exact H
      clear H
      have H := H1
      clear H1
      by_cases c40 : t469 = true
      ·
       subst c40
       have H1 : (j0 k a0 a2 a4 t458 t461 t466 true (!t461) a1_0 a1_1 a1_2 a1_3 a3_0 a3_1 a5_0 a5_1 a5_2 a5_3 a6_0 a6_1 a6_2 a6_3 a7_0 a7_1 a7_2 a7_3 a8_0 a8_1) = some r := by rw [if_pos rfl] at H; exact H
       clear H
       have H := H1
       clear H1
       as_aux_lemma =>
        have H' := Aside0.mk H
        clear H
        obtain ⟨Ao41, co41, eo41⟩ := Kd.R_slice HO460.out
        subst eo41
        obtain ⟨Ao42, co42, eo42⟩ := Kd.R_slice HO464.out
        subst eo42
        go_wp2_with (first | (go_at_call 22; refine calls_of_args (args' := #[.slice Ao41 t458.length co41, .slice Ao42 t462.length co42]) (by first | rfl) ?_; (with_reducible refine (laws_wTurns.calls k _ _ t458 _ _ t462 true _ ?side1 ?side2 ?side3 ?side4 A35.out).mono ?_); (case side1 => repeat (first | exact (Kd.R_reads' HO460.out).2.2 | (with_reducible refine Kd.C_alloc ?_ _) | (with_reducible refine Kd.C_drewN ?_ _) | (with_reducible refine Kd.C_drew ?_))); (case side2 => exact (Kd.R_reads' HO460.out).2.1); (case side3 => repeat (first | exact (Kd.R_reads' HO464.out).2.2 | (with_reducible refine Kd.C_alloc ?_ _) | (with_reducible refine Kd.C_drewN ?_ _) | (with_reducible refine Kd.C_drew ?_))); (case side4 => exact (Kd.R_reads' HO464.out).2.1); rintro e w' ⟨rfl, ⟨nd, rfl⟩⟩; obtain ⟨Ao43, co43, eo43⟩ := Kd.R_slice HO468.out; subst eo43; obtain ⟨Ao44, co44, eo44⟩ := Kd.R_slice HO472.out; subst eo44) | (go_at_call 22; refine calls_of_args (args' := #[.slice Ao43 t466.length co43, .slice Ao44 t470.length co44]) (by first | rfl) ?_; (with_reducible refine (laws_wTurns.calls k _ _ t466 _ _ t470 true _ ?side1 ?side2 ?side3 ?side4 A38.out).mono ?_); (case side1 => repeat (first | exact (Kd.R_reads' HO468.out).2.2 | (with_reducible refine Kd.C_alloc ?_ _) | (with_reducible refine Kd.C_drewN ?_ _) | (with_reducible refine Kd.C_drew ?_))); (case side2 => exact (Kd.R_reads' HO468.out).2.1); (case side3 => repeat (first | exact (Kd.R_reads' HO472.out).2.2 | (with_reducible refine Kd.C_alloc ?_ _) | (with_reducible refine Kd.C_drewN ?_ _) | (with_reducible refine Kd.C_drew ?_))); (case side4 => exact (Kd.R_reads' HO472.out).2.1); rintro e w' ⟨rfl, ⟨nd, rfl⟩⟩))
        go_meet
        case rel => exact ⟨_, (!t461), (by first | rfl | (simp; done) | (simp [*]; done)), H', ⟨by first | omega | exact Nat.le_refl _⟩, ⟨by (with_reducible repeat (first | apply Kd.R_alloc | apply Kd.R_drewN | apply Kd.R_drew)); exact Kd.R_mono HO460.out (fun _ hk => ⟨hk.1.2, ⟨hk.1.1.1.1.2, hk.1.1.1.2⟩⟩)⟩, ⟨by (with_reducible repeat (first | apply Kd.R_alloc | apply Kd.R_drewN | apply Kd.R_drew)); exact Kd.R_mono HO468.out (fun _ hk => ⟨hk.1.1.1.1.2, ⟨hk.1.1.2, hk.1.2⟩⟩)⟩, bk_ BKa, bk_ BKb, bk_ BKc, bk_ BKd, bk_ BKe, bk_ BKf, hb_ HB⟩
      ·
       replace c40 := Bool.eq_false_iff.mpr c40
       subst c40
       have H1 : (j0 k a0 a2 a4 t458 t461 t466 false false a1_0 a1_1 a1_2 a1_3 a3_0 a3_1 a5_0 a5_1 a5_2 a5_3 a6_0 a6_1 a6_2 a6_3 a7_0 a7_1 a7_2 a7_3 a8_0 a8_1) = some r := by rw [if_neg (show ¬ (false = true) by decide)] at H; exact H
       clear H
       have H := H1
       clear H1
       as_aux_lemma =>
        have H' := Aside0.mk H
        clear H
        obtain ⟨Ao45, co45, eo45⟩ := Kd.R_slice HO460.out
        subst eo45
        obtain ⟨Ao46, co46, eo46⟩ := Kd.R_slice HO464.out
        subst eo46
        go_wp2_with (first | (go_at_call 22; refine calls_of_args (args' := #[.slice Ao45 t458.length co45, .slice Ao46 t462.length co46]) (by first | rfl) ?_; (with_reducible refine (laws_wTurns.calls k _ _ t458 _ _ t462 true _ ?side1 ?side2 ?side3 ?side4 A35.out).mono ?_); (case side1 => repeat (first | exact (Kd.R_reads' HO460.out).2.2 | (with_reducible refine Kd.C_alloc ?_ _) | (with_reducible refine Kd.C_drewN ?_ _) | (with_reducible refine Kd.C_drew ?_))); (case side2 => exact (Kd.R_reads' HO460.out).2.1); (case side3 => repeat (first | exact (Kd.R_reads' HO464.out).2.2 | (with_reducible refine Kd.C_alloc ?_ _) | (with_reducible refine Kd.C_drewN ?_ _) | (with_reducible refine Kd.C_drew ?_))); (case side4 => exact (Kd.R_reads' HO464.out).2.1); rintro e w' ⟨rfl, ⟨nd, rfl⟩⟩; obtain ⟨Ao47, co47, eo47⟩ := Kd.R_slice HO468.out; subst eo47; obtain ⟨Ao48, co48, eo48⟩ := Kd.R_slice HO472.out; subst eo48) | (go_at_call 22; refine calls_of_args (args' := #[.slice Ao47 t466.length co47, .slice Ao48 t470.length co48]) (by first | rfl) ?_; (with_reducible refine (laws_wTurns.calls k _ _ t466 _ _ t470 true _ ?side1 ?side2 ?side3 ?side4 A38.out).mono ?_); (case side1 => repeat (first | exact (Kd.R_reads' HO468.out).2.2 | (with_reducible refine Kd.C_alloc ?_ _) | (with_reducible refine Kd.C_drewN ?_ _) | (with_reducible refine Kd.C_drew ?_))); (case side2 => exact (Kd.R_reads' HO468.out).2.1); (case side3 => repeat (first | exact (Kd.R_reads' HO472.out).2.2 | (with_reducible refine Kd.C_alloc ?_ _) | (with_reducible refine Kd.C_drewN ?_ _) | (with_reducible refine Kd.C_drew ?_))); (case side4 => exact (Kd.R_reads' HO472.out).2.1); rintro e w' ⟨rfl, ⟨nd, rfl⟩⟩))
        go_meet
        case rel => exact ⟨_, (false), (by first | rfl | (simp; done) | (simp [*]; done)), H', ⟨by first | omega | exact Nat.le_refl _⟩, ⟨by (with_reducible repeat (first | apply Kd.R_alloc | apply Kd.R_drewN | apply Kd.R_drew)); exact Kd.R_mono HO460.out (fun _ hk => ⟨hk.1.2, ⟨hk.1.1.1.1.2, hk.1.1.1.2⟩⟩)⟩, ⟨by (with_reducible repeat (first | apply Kd.R_alloc | apply Kd.R_drewN | apply Kd.R_drew)); exact Kd.R_mono HO468.out (fun _ hk => ⟨hk.1.1.1.1.2, ⟨hk.1.1.2, hk.1.2⟩⟩)⟩, bk_ BKa, bk_ BKb, bk_ BKc, bk_ BKd, bk_ BKe, bk_ BKf, hb_ HB⟩
     ·
      replace c39 := Bool.eq_false_iff.mpr c39
      subst c39
      have H1 : (none) = some r := by rw [if_neg (show ¬ (false = true) by decide)] at H; exact H
      clear H
      have H := H1
      clear H1
      exact absurd H (by simp)
   ·
    replace c36 := Bool.eq_false_iff.mpr c36
    subst c36
    have H1 : (none) = some r := by rw [if_neg (show ¬ (false = true) by decide)] at H; exact H
    clear H
    have H := H1
    clear H1
    exact absurd H (by simp)
 case rest => as_aux_lemma =>
  clear HC14
  obtain ⟨kq, x119_13, rfl, HA, HJ13, HO_19, HO_23, BKa, BKb, BKc, BKd, BKe, BKf, HB⟩ := hcut
  cases kq with
  | zero => exact absurd HA.out (by simp [j0])
  | succ kj13 =>
   have H := HA.out
   clear HA
   simp only [j0] at H
   by_cases c49 : x119_13 = true
   ·
    subst c49
    have H1 : (none) = some r := by rw [if_pos rfl] at H; exact H
    clear H
    have H := H1
    clear H1
    exact absurd H (by simp)
   ·
    replace c49 := Bool.eq_false_iff.mpr c49
    subst c49
    have H1 : (if t461 = true then (if (t458.length : Int) = (wrap64 (a0 - 1)) then ((laws_wRises.f kj13 t458).bind fun t476 => (j1 kj13 a0 a2 a4 t458 t466 t469 (!t476) a1_0 a1_1 a1_2 a1_3 a3_0 a3_1 a5_0 a5_1 a5_2 a5_3 a6_0 a6_1 a6_2 a6_3 a7_0 a7_1 a7_2 a7_3 a8_0 a8_1)) else (none)) else (j1 kj13 a0 a2 a4 t458 t466 t469 false a1_0 a1_1 a1_2 a1_3 a3_0 a3_1 a5_0 a5_1 a5_2 a5_3 a6_0 a6_1 a6_2 a6_3 a7_0 a7_1 a7_2 a7_3 a8_0 a8_1)) = some r := by rw [if_neg (show ¬ (false = true) by decide)] at H; exact H
    clear H
    have H := H1
    clear H1
    have HC50 := Aside0.mk H
    clear H
    go_upto_region 7 with (fail)
    go_cut [132] from 120 to 132 (fun v132 wc => ∃ (kq : Nat) (x132_49 : Bool), v132 = .bool x132_49 ∧ Aside0 (j1 kq a0 a2 a4 t458 t466 t469 x132_49 a1_0 a1_1 a1_2 a1_3 a3_0 a3_1 a5_0 a5_1 a5_2 a5_3 a6_0 a6_1 a6_2 a6_3 a7_0 a7_1 a7_2 a7_3 a8_0 a8_1 = some r) ∧ Aside0 (kq ≤ kj13) ∧ Aside0 (Kd.R k23 23 wc w.heap.size (fun k_ => some k_ ≠ (v467 : Value).ownBlock ∧ k_ ≠ gbb ∧ k_ ≠ gbf) v459 t458) ∧ Aside0 (Kd.R k23 23 wc w.heap.size (fun k_ => some k_ ≠ (v459 : Value).ownBlock ∧ k_ ≠ gbb ∧ k_ ≠ gbf) v467 t466) ∧ Aside0 (wc.heap[gba]? = some (.cells #[.int .i64 a1_0, .int .i64 a1_1, .int .i64 a1_2, .int .i64 a1_3] 25 (0, 0))) ∧ Aside0 (wc.heap[gbb]? = some (.cells #[.int .i64 a3_0, .int .i64 a3_1] 23 (0, 0))) ∧ Aside0 (wc.heap[gbc]? = some (.cells #[.int .i64 a5_0, .int .i64 a5_1, .int .i64 a5_2, .int .i64 a5_3] 25 (0, 0))) ∧ Aside0 (wc.heap[gbd]? = some (.cells #[.int .i64 a6_0, .int .i64 a6_1, .int .i64 a6_2, .int .i64 a6_3] 25 (0, 0))) ∧ Aside0 (wc.heap[gbe]? = some (.cells #[.int .i64 a7_0, .int .i64 a7_1, .int .i64 a7_2, .int .i64 a7_3] 25 (0, 0))) ∧ Aside0 (wc.heap[gbf]? = some (.cells #[.int .i64 a8_0, .int .i64 a8_1] 23 (0, 0))) ∧ Aside0 (Below w.heap.size w wc))
    case first => as_aux_lemma =>
     have H := HC50.out
     clear HC50
     by_cases c51 : t461 = true
     ·
      subst c51
      have H1 : (if (t458.length : Int) = (wrap64 (a0 - 1)) then ((laws_wRises.f kj13 t458).bind fun t476 => (j1 kj13 a0 a2 a4 t458 t466 t469 (!t476) a1_0 a1_1 a1_2 a1_3 a3_0 a3_1 a5_0 a5_1 a5_2 a5_3 a6_0 a6_1 a6_2 a6_3 a7_0 a7_1 a7_2 a7_3 a8_0 a8_1)) else (none)) = some r := by rw [if_pos rfl] at H; exact H
      clear H
      have H := H1
      clear H1
      by_cases c52 : (t458.length : Int) = (wrap64 (a0 - 1))
      ·
       rw [if_pos c52] at H
       have c52b0 : ((t458.length : Int) == (wrap64 (a0 - 1))) = true := beq_iff_eq.mpr c52
       have c52b1 : ((t458.length : Int) != (wrap64 (a0 - 1))) = false := bne_eq_false_iff_eq.mpr c52
       clear c52
       (first | rw [c52b0] | (simp only [i64_w, i32_w]; rw [c52b0]) | skip)
       replace H := Option.bind_eq_some_iff.mp H
       obtain ⟨t476, A530, H⟩ := H
       try dsimp only at H
       have A53 := Aside0.mk A530
       clear A530
       as_aux_lemma =>
        have H' := Aside0.mk H
        clear H
        obtain ⟨Ao54, co54, eo54⟩ := Kd.R_slice HO_19.out
        subst eo54
        go_wp2_with (first | (go_at_call 15; refine calls_of_args (args' := #[.slice Ao54 t458.length co54]) (by first | rfl) ?_; (with_reducible refine (laws_wRises.calls kj13 _ _ t458 t476 _ ?side1 ?side2 A53.out).mono ?_); (case side1 => repeat (first | exact (Kd.R_reads' HO_19.out).2.2 | (with_reducible refine Kd.C_alloc ?_ _) | (with_reducible refine Kd.C_drewN ?_ _) | (with_reducible refine Kd.C_drew ?_))); (case side2 => exact (Kd.R_reads' HO_19.out).2.1); rintro e w' ⟨rfl, ⟨nd, rfl⟩⟩))
        go_meet
        case rel => exact ⟨_, (!t476), (by first | rfl | (simp; done) | (simp [*]; done)), H', ⟨by have := HJ13.out; first | omega | exact Nat.le_refl _⟩, ⟨by (with_reducible repeat (first | apply Kd.R_alloc | apply Kd.R_drewN | apply Kd.R_drew)); exact HO_19.out⟩, ⟨by (with_reducible repeat (first | apply Kd.R_alloc | apply Kd.R_drewN | apply Kd.R_drew)); exact HO_23.out⟩, bk_ BKa, bk_ BKb, bk_ BKc, bk_ BKd, bk_ BKe, bk_ BKf, hb_ HB⟩
      ·
       rw [if_neg c52] at H
       exact absurd H (by simp)
     ·
      replace c51 := Bool.eq_false_iff.mpr c51
      subst c51
      have H1 : (j1 kj13 a0 a2 a4 t458 t466 t469 false a1_0 a1_1 a1_2 a1_3 a3_0 a3_1 a5_0 a5_1 a5_2 a5_3 a6_0 a6_1 a6_2 a6_3 a7_0 a7_1 a7_2 a7_3 a8_0 a8_1) = some r := by rw [if_neg (show ¬ (false = true) by decide)] at H; exact H
      clear H
      have H := H1
      clear H1
      as_aux_lemma =>
       have H' := Aside0.mk H
       clear H
       go_wp2
       go_meet
       case rel => exact ⟨_, (false), (by first | rfl | (simp; done) | (simp [*]; done)), H', ⟨by have := HJ13.out; first | omega | exact Nat.le_refl _⟩, ⟨by (with_reducible repeat (first | apply Kd.R_alloc | apply Kd.R_drewN | apply Kd.R_drew)); exact HO_19.out⟩, ⟨by (with_reducible repeat (first | apply Kd.R_alloc | apply Kd.R_drewN | apply Kd.R_drew)); exact HO_23.out⟩, bk_ BKa, bk_ BKb, bk_ BKc, bk_ BKd, bk_ BKe, bk_ BKf, hb_ HB⟩
    case rest => as_aux_lemma =>
     clear HC50
     try clear c49
     obtain ⟨kq, x132_49, rfl, HA, HJ49, HO_19, HO_23, BKa, BKb, BKc, BKd, BKe, BKf, HB⟩ := hcut
     cases kq with
     | zero => exact absurd HA.out (by simp [j1])
     | succ kj49 =>
      have H := HA.out
      clear HA
      simp only [j1] at H
      by_cases c55 : x132_49 = true
      ·
       subst c55
       have H1 : (none) = some r := by rw [if_pos rfl] at H; exact H
       clear H
       have H := H1
       clear H1
       exact absurd H (by simp)
      ·
       replace c55 := Bool.eq_false_iff.mpr c55
       subst c55
       have H1 : (if t469 = true then (l0 kj49 a0 a2 a4 t458 t466 t458 (t458.length : Int) 0 a1_0 a1_1 a1_2 a1_3 a3_0 a3_1 a5_0 a5_1 a5_2 a5_3 a6_0 a6_1 a6_2 a6_3 a7_0 a7_1 a7_2 a7_3 a8_0 a8_1) else (j3 kj49 a2 a4 a3_0 a3_1 a5_0 a5_1 a5_2 a5_3 a6_0 a6_1 a6_2 a6_3 a7_0 a7_1 a7_2 a7_3 a8_0 a8_1)) = some r := by rw [if_neg (show ¬ (false = true) by decide)] at H; exact H
       clear H
       have H := H1
       clear H1
       have HC56 := Aside0.mk H
       clear H
       go_upto_if 133 with (fail)
       go_cut [] from 133 to 276 (fun wc => ∃ (kq : Nat), Aside0 (j3 kq a2 a4 a3_0 a3_1 a5_0 a5_1 a5_2 a5_3 a6_0 a6_1 a6_2 a6_3 a7_0 a7_1 a7_2 a7_3 a8_0 a8_1 = some r) ∧ Aside0 (kq ≤ kj49) ∧ Aside0 (wc.heap[gba]? = some (.cells #[.int .i64 a1_0, .int .i64 a1_1, .int .i64 a1_2, .int .i64 a1_3] 25 (0, 0))) ∧ Aside0 (wc.heap[gbb]? = some (.cells #[.int .i64 a3_0, .int .i64 a3_1] 23 (0, 0))) ∧ Aside0 (wc.heap[gbc]? = some (.cells #[.int .i64 a5_0, .int .i64 a5_1, .int .i64 a5_2, .int .i64 a5_3] 25 (0, 0))) ∧ Aside0 (wc.heap[gbd]? = some (.cells #[.int .i64 a6_0, .int .i64 a6_1, .int .i64 a6_2, .int .i64 a6_3] 25 (0, 0))) ∧ Aside0 (wc.heap[gbe]? = some (.cells #[.int .i64 a7_0, .int .i64 a7_1, .int .i64 a7_2, .int .i64 a7_3] 25 (0, 0))) ∧ Aside0 (wc.heap[gbf]? = some (.cells #[.int .i64 a8_0, .int .i64 a8_1] 23 (0, 0))) ∧ Aside0 (Below w.heap.size w wc))
       case first => as_aux_lemma =>
        have H := HC56.out
        clear HC56
        by_cases c57 : t469 = true
        ·
         subst c57
         have H1 : (l0 kj49 a0 a2 a4 t458 t466 t458 (t458.length : Int) 0 a1_0 a1_1 a1_2 a1_3 a3_0 a3_1 a5_0 a5_1 a5_2 a5_3 a6_0 a6_1 a6_2 a6_3 a7_0 a7_1 a7_2 a7_3 a8_0 a8_1) = some r := by rw [if_pos rfl] at H; exact H
         clear H
         have H := H1
         clear H1
         have H' := Aside0.mk H
         clear H
         obtain ⟨Ao58, co58, eo58⟩ := Kd.R_slice HO_19.out
         subst eo58
         go_wp2
         go_loopg [136] kj49 (fun kq v136 w' => ∃ (x136_3 : Int), v136 = .int .i64 x136_3 ∧ Aside0 (l0 kq a0 a2 a4 t458 t466 t458 (t458.length : Int) x136_3 a1_0 a1_1 a1_2 a1_3 a3_0 a3_1 a5_0 a5_1 a5_2 a5_3 a6_0 a6_1 a6_2 a6_3 a7_0 a7_1 a7_2 a7_3 a8_0 a8_1 = some r) ∧ Aside0 (kq ≤ kj49) ∧ Aside0 (Kd.R k23 23 w' w.heap.size (fun k_ => some k_ ≠ (v467 : Value).ownBlock ∧ k_ ≠ gbb ∧ k_ ≠ gbf) (.slice Ao58 t458.length co58) t458) ∧ Aside0 (Kd.R k23 23 w' w.heap.size (fun k_ => some k_ ≠ ((.slice Ao58 t458.length co58) : Value).ownBlock ∧ some k_ ≠ ((.slice Ao58 t458.length co58) : Value).ownBlock ∧ k_ ≠ gbb ∧ k_ ≠ gbf) v467 t466) ∧ Aside0 (Kd.R k23 23 w' w.heap.size (fun k_ => some k_ ≠ (v467 : Value).ownBlock ∧ k_ ≠ gbb ∧ k_ ≠ gbf) (.slice Ao58 t458.length co58) t458) ∧ Aside0 (w'.heap[gba]? = some (.cells #[.int .i64 a1_0, .int .i64 a1_1, .int .i64 a1_2, .int .i64 a1_3] 25 (0, 0))) ∧ Aside0 (w'.heap[gbb]? = some (.cells #[.int .i64 a3_0, .int .i64 a3_1] 23 (0, 0))) ∧ Aside0 (w'.heap[gbc]? = some (.cells #[.int .i64 a5_0, .int .i64 a5_1, .int .i64 a5_2, .int .i64 a5_3] 25 (0, 0))) ∧ Aside0 (w'.heap[gbd]? = some (.cells #[.int .i64 a6_0, .int .i64 a6_1, .int .i64 a6_2, .int .i64 a6_3] 25 (0, 0))) ∧ Aside0 (w'.heap[gbe]? = some (.cells #[.int .i64 a7_0, .int .i64 a7_1, .int .i64 a7_2, .int .i64 a7_3] 25 (0, 0))) ∧ Aside0 (w'.heap[gbf]? = some (.cells #[.int .i64 a8_0, .int .i64 a8_1] 23 (0, 0))) ∧ Aside0 (Below w.heap.size w w'))
         case atStart => exact ⟨(0), (by first | rfl | (simp; done) | (simp [*]; done)), H', ⟨Nat.le_refl _⟩, ⟨by (with_reducible repeat (first | apply Kd.R_alloc | apply Kd.R_drewN | apply Kd.R_drew)); exact HO_19.out⟩, ⟨by (with_reducible repeat (first | apply Kd.R_alloc | apply Kd.R_drewN | apply Kd.R_drew)); exact Kd.R_mono HO_23.out (fun _ hk => ⟨hk.1, ⟨hk.1, ⟨hk.2.1, hk.2.2⟩⟩⟩)⟩, ⟨by (with_reducible repeat (first | apply Kd.R_alloc | apply Kd.R_drewN | apply Kd.R_drew)); exact HO_19.out⟩, bk_ BKa, bk_ BKb, bk_ BKc, bk_ BKd, bk_ BKe, bk_ BKf, hb_ HB⟩
         case round => as_aux_lemma =>
          clear H'
          try clear c49
          try clear c55
          try clear c57
          obtain ⟨x136_3, rfl, HA, HK3, HO_19, HO_23, HO_134, BKa, BKb, BKc, BKd, BKe, BKf, HB⟩ := hrel
          cases gk with
          | zero => exact absurd HA.out (by simp [l0])
          | succ k3 =>
           have H := HA.out
           clear HA
           simp only [l0] at H
           by_cases c59 : x136_3 < (t458.length : Int)
           ·
            rw [if_pos c59] at H
            have c59b0 : decide (x136_3 < (t458.length : Int)) = true := decide_eq_true c59
            clear c59
            (first | rw [c59b0] | (simp only [i64_w, i32_w]; rw [c59b0]) | skip)
            by_cases c60 : 0 ≤ x136_3
            ·
             rw [if_pos c60] at H
             have c60b0 : decide (0 ≤ x136_3) = true := decide_eq_true c60
             clear c60
             by_cases c61 : x136_3 < (t458.length : Int)
             ·
              rw [if_pos c61] at H
              have c61b0 : decide (x136_3 < (t458.length : Int)) = true := decide_eq_true c61
              clear c61
              replace H := Option.bind_eq_some_iff.mp H
              obtain ⟨⟨t479, t480, t481, t482, t483⟩, A620, H⟩ := H
              try dsimp only at H
              have A62 := Aside0.mk A620
              clear A620
              by_cases c63 : x136_3 < (t466.length : Int)
              ·
               rw [if_pos c63] at H
               have c63b0 : decide (x136_3 < (t466.length : Int)) = true := decide_eq_true c63
               clear c63
               replace H := Option.bind_eq_some_iff.mp H
               obtain ⟨⟨t486, t487, t488, t489, t490⟩, A640, H⟩ := H
               try dsimp only at H
               have A64 := Aside0.mk A640
               clear A640
               by_cases c65 : t483 = true
               ·
                subst c65
                have H1 : (if t490 = true then (if ((!(t486 == a1_0) || (!(t487 == a1_1))) || ((!(t488 == a1_2) || (!(t489 == a1_3))))) = true then (none) else (l0 k3 a0 a2 a4 t458 t466 t458 (t458.length : Int) (wrap64 (x136_3 + 1)) a1_0 a1_1 a1_2 a1_3 a3_0 a3_1 a5_0 a5_1 a5_2 a5_3 a6_0 a6_1 a6_2 a6_3 a7_0 a7_1 a7_2 a7_3 a8_0 a8_1)) else (l0 k3 a0 a2 a4 t458 t466 t458 (t458.length : Int) (wrap64 (x136_3 + 1)) a1_0 a1_1 a1_2 a1_3 a3_0 a3_1 a5_0 a5_1 a5_2 a5_3 a6_0 a6_1 a6_2 a6_3 a7_0 a7_1 a7_2 a7_3 a8_0 a8_1)) = some r := by rw [if_pos rfl] at H; exact H
                clear H
                have H := H1
                clear H1
                by_cases c66 : t490 = true
                ·
                 subst c66
                 have H1 : (if ((!(t486 == a1_0) || (!(t487 == a1_1))) || ((!(t488 == a1_2) || (!(t489 == a1_3))))) = true then (none) else (l0 k3 a0 a2 a4 t458 t466 t458 (t458.length : Int) (wrap64 (x136_3 + 1)) a1_0 a1_1 a1_2 a1_3 a3_0 a3_1 a5_0 a5_1 a5_2 a5_3 a6_0 a6_1 a6_2 a6_3 a7_0 a7_1 a7_2 a7_3 a8_0 a8_1)) = some r := by rw [if_pos rfl] at H; exact H
                 clear H
                 have H := H1
                 clear H1
                 by_cases c67 : ((!(t486 == a1_0) || (!(t487 == a1_1))) || ((!(t488 == a1_2) || (!(t489 == a1_3))))) = true
                 ·
                  rw [if_pos c67] at H
                  exact absurd H (by simp)
                 ·
                  rw [if_neg c67] at H
                  have c67b0 : ((!(t486 == a1_0) || (!(t487 == a1_1))) || ((!(t488 == a1_2) || (!(t489 == a1_3))))) = false := by simpa using c67
                  clear c67
                  as_aux_lemma =>
                   have H' := Aside0.mk H
                   clear H
                   have p477 : 0 ≤ (x136_3 : Int) := of_decide_eq_true (by first | (with_reducible assumption) | assumption)
                   have q477 : x136_3 < (t458.length : Int) := of_decide_eq_true (by first | (with_reducible assumption) | assumption)
                   obtain ⟨ad477, e477, hx477_0, hx477_1⟩ := at_T23 (Kd.R_reads' HO_134.out).2.2 x136_3 p477 q477
                   cases e477
                   replace p477 := eq_true p477
                   replace q477 := eq_true q477
                   try go_wp2_with (first | ((with_reducible refine gate_dst (N := 28) rfl ?_); (try (refine gate_guard (by rfl) ?_; dsimp only)); refine be_ (N := 28) (cs := #[.int .i64 0, .int .i64 0]) (t := 23) ?_; intro gbg hg w68 hbox hb; have BKg := Aside0.mk (hbox); have GWg := ge_ HB hg; have GEg := ge_ HB hg; obtain ⟨Na_g, Ng_a⟩ := nq_ BKa hg; obtain ⟨Nb_g, Ng_b⟩ := nq_ BKb hg; obtain ⟨Nc_g, Ng_c⟩ := nq_ BKc hg; obtain ⟨Nd_g, Ng_d⟩ := nq_ BKd hg; obtain ⟨Ne_g, Ng_e⟩ := nq_ BKe hg; obtain ⟨Nf_g, Ng_f⟩ := nq_ BKf hg; replace HO_19 := Aside0.mk (Kd.R_below (Kd.R_elderB (by (with_reducible repeat (first | apply Kd.R_alloc | apply Kd.R_drewN | apply Kd.R_drew)); exact HO_19.out) gbg (Nat.le_of_eq hg.symm)) hb); replace HO_23 := Aside0.mk (Kd.R_below (Kd.R_elderB (by (with_reducible repeat (first | apply Kd.R_alloc | apply Kd.R_drewN | apply Kd.R_drew)); exact HO_23.out) gbg (Nat.le_of_eq hg.symm)) hb); replace HO_134 := Aside0.mk (Kd.R_below (Kd.R_elderB (by (with_reducible repeat (first | apply Kd.R_alloc | apply Kd.R_drewN | apply Kd.R_drew)); exact HO_134.out) gbg (Nat.le_of_eq hg.symm)) hb); replace BKa := bb BKa hb; replace BKb := bb BKb hb; replace BKc := bb BKc hb; replace BKd := bb BKd hb; replace BKe := bb BKe hb; replace BKf := bb BKf hb; replace HB := hs HB hb; clear hb hbox hg; obtain ⟨hnb69, hnc69⟩ := nn_ Ng_a; obtain ⟨hnb70, hnc70⟩ := nn_ Ng_b; obtain ⟨hnb71, hnc71⟩ := nn_ Ng_c; obtain ⟨hnb72, hnc72⟩ := nn_ Ng_d; obtain ⟨hnb73, hnc73⟩ := nn_ Ng_e; obtain ⟨hnb74, hnc74⟩ := nn_ Ng_f; have hcz75_0 := cz_ BKg 0 (.int .i64 0); have hcz75_1 := cz_ BKg 1 (.int .i64 0); have hfz75_0 := blk_frozen BKg.out 0; have hfz75_1 := blk_frozen BKg.out 1) | ((with_reducible refine gate_callee (f := 7) rfl ?_); refine gs_ (some 144) Try.func7 #[.int .i64 a0, .agg #[.int .i64 ((rd_T23 t458 x136_3).f0), .int .i64 ((rd_T23 t458 x136_3).f1)]] ?_; (with_reducible refine (impl_SeenOf.calls k3 a0 ((rd_T23 t458 x136_3).f0) ((rd_T23 t458 x136_3).f1) t479 t480 t481 t482 true _ A62.out).mono ?_); rintro e w76 ⟨rfl, hb⟩; refine ⟨_, rfl, ?_⟩; replace HO_19 := hr_ ⟨(Kd.R_mono (Kd.R_far (p := ⟨gbg, 1, none⟩) (Kd.R_far (p := ⟨gbg, 0, none⟩) (Kd.R_mono HO_19.out (fun k_ hk => (⟨hk, hk.2⟩ : _ ∧ k_ ≠ gbg))) (fun _ hk => hk.2) (.int .i64 ((rd_T23 t458 x136_3).f0))) (fun _ hk => hk.2) (.int .i64 ((rd_T23 t458 x136_3).f1))) (fun _ h_ => h_.1))⟩ hb; replace HO_23 := hr_ ⟨(Kd.R_mono (Kd.R_far (p := ⟨gbg, 1, none⟩) (Kd.R_far (p := ⟨gbg, 0, none⟩) (Kd.R_mono HO_23.out (fun k_ hk => (⟨hk, hk.2⟩ : _ ∧ k_ ≠ gbg))) (fun _ hk => hk.2) (.int .i64 ((rd_T23 t458 x136_3).f0))) (fun _ hk => hk.2) (.int .i64 ((rd_T23 t458 x136_3).f1))) (fun _ h_ => h_.1))⟩ hb; replace HO_134 := hr_ ⟨(Kd.R_mono (Kd.R_far (p := ⟨gbg, 1, none⟩) (Kd.R_far (p := ⟨gbg, 0, none⟩) (Kd.R_mono HO_134.out (fun k_ hk => (⟨hk, hk.2⟩ : _ ∧ k_ ≠ gbg))) (fun _ hk => hk.2) (.int .i64 ((rd_T23 t458 x136_3).f0))) (fun _ hk => hk.2) (.int .i64 ((rd_T23 t458 x136_3).f1))) (fun _ h_ => h_.1))⟩ hb; replace BKa := bb BKa hb; replace BKb := bb BKb hb; replace BKc := bb BKc hb; replace BKd := bb BKd hb; replace BKe := bb BKe hb; replace BKf := bb BKf hb; replace BKg := Aside0.mk (blk_below (g := gbg) (o := .cells #[.int .i64 ((rd_T23 t458 x136_3).f0), .int .i64 ((rd_T23 t458 x136_3).f1)] 23 (0, 0)) (by (with_reducible repeat (first | refine blk_drewN ?_ _ | refine blk_drew ?_ | refine blk_alloc ?_ _)); refine blk_put (cs := #[.int .i64 ((rd_T23 t458 x136_3).f0), .int .i64 0]) ?_ 1 _ rfl; (with_reducible repeat (first | refine blk_drewN ?_ _ | refine blk_drew ?_ | refine blk_alloc ?_ _)); refine blk_put (cs := #[.int .i64 0, .int .i64 0]) ?_ 0 _ rfl; (with_reducible repeat (first | refine blk_drewN ?_ _ | refine blk_drew ?_ | refine blk_alloc ?_ _)); exact BKg.out) hb); replace HB := hs HB hb; (try clear hb); (try clear hb2); (try clear hk); (try clear hi)) | ((with_reducible refine gate_dst (N := 29) rfl ?_); (try (refine gate_guard (by rfl) ?_; dsimp only)); refine be_ (N := 29) (cs := #[.int .i64 0, .int .i64 0, .int .i64 0, .int .i64 0]) (t := 25) ?_; intro gbh hg w77 hbox hb; have BKh := Aside0.mk (hbox); have GWh := ge_ HB hg; have GEh := ge_ HB hg; obtain ⟨Na_h, Nh_a⟩ := nq_ BKa hg; obtain ⟨Nb_h, Nh_b⟩ := nq_ BKb hg; obtain ⟨Nc_h, Nh_c⟩ := nq_ BKc hg; obtain ⟨Nd_h, Nh_d⟩ := nq_ BKd hg; obtain ⟨Ne_h, Nh_e⟩ := nq_ BKe hg; obtain ⟨Nf_h, Nh_f⟩ := nq_ BKf hg; obtain ⟨Ng_h, Nh_g⟩ := nq_ BKg hg; replace HO_19 := hr_ HO_19 hb; replace HO_23 := hr_ HO_23 hb; replace HO_134 := hr_ HO_134 hb; replace BKa := bb BKa hb; replace BKb := bb BKb hb; replace BKc := bb BKc hb; replace BKd := bb BKd hb; replace BKe := bb BKe hb; replace BKf := bb BKf hb; replace BKg := bb BKg hb; replace HB := hs HB hb; clear hb hbox hg; obtain ⟨hnb78, hnc78⟩ := nn_ Nh_a; obtain ⟨hnb79, hnc79⟩ := nn_ Nh_b; obtain ⟨hnb80, hnc80⟩ := nn_ Nh_c; obtain ⟨hnb81, hnc81⟩ := nn_ Nh_d; obtain ⟨hnb82, hnc82⟩ := nn_ Nh_e; obtain ⟨hnb83, hnc83⟩ := nn_ Nh_f; obtain ⟨hnb84, hnc84⟩ := nn_ Nh_g; have hcz85_0 := cz_ BKh 0 (.int .i64 0); have hcz85_1 := cz_ BKh 1 (.int .i64 0); have hcz85_2 := cz_ BKh 2 (.int .i64 0); have hcz85_3 := cz_ BKh 3 (.int .i64 0); have hfz85_0 := blk_frozen BKh.out 0; have hfz85_1 := blk_frozen BKh.out 1; have hfz85_2 := blk_frozen BKh.out 2; have hfz85_3 := blk_frozen BKh.out 3))
                   have n0_ : Aside0 (Kd.R k23 23 ((((w77.setCell ⟨gbh, 0, none⟩ (.int .i64 t479)).setCell ⟨gbh, 1, none⟩ (.int .i64 t480)).setCell ⟨gbh, 2, none⟩ (.int .i64 t481)).setCell ⟨gbh, 3, none⟩ (.int .i64 t482)) w.heap.size (fun k_ => some k_ ≠ (v467 : Value).ownBlock ∧ k_ ≠ gbb ∧ k_ ≠ gbf ∧ k_ ≠ gbg) (.slice (some ad477) t458.length co58) t458) := ⟨by (with_reducible repeat (first | apply Kd.R_alloc | apply Kd.R_drewN | apply Kd.R_drew)); exact Kd.R_mono (Kd.R_far (p := ⟨gbh, 3, none⟩) (Kd.R_far (p := ⟨gbh, 2, none⟩) (Kd.R_far (p := ⟨gbh, 1, none⟩) (Kd.R_far (p := ⟨gbh, 0, none⟩) (Kd.R_types HO_19.out BKh.out (by decide)) (fun _ hk => hk.2) (.int .i64 t479)) (fun _ hk => hk.2) (.int .i64 t480)) (fun _ hk => hk.2) (.int .i64 t481)) (fun _ hk => hk.2) (.int .i64 t482)) (fun _ hk => ⟨hk.1.1.1, ⟨hk.1.1.2.1, ⟨hk.1.1.2.2, hk.1.2⟩⟩⟩)⟩
                   have n1_ : Aside0 (Kd.R k23 23 ((((w77.setCell ⟨gbh, 0, none⟩ (.int .i64 t479)).setCell ⟨gbh, 1, none⟩ (.int .i64 t480)).setCell ⟨gbh, 2, none⟩ (.int .i64 t481)).setCell ⟨gbh, 3, none⟩ (.int .i64 t482)) w.heap.size (fun k_ => some k_ ≠ (.slice (some ad477) t458.length co58 : Value).ownBlock ∧ some k_ ≠ (.slice (some ad477) t458.length co58 : Value).ownBlock ∧ k_ ≠ gbb ∧ k_ ≠ gbf ∧ k_ ≠ gbg) v467 t466) := ⟨by (with_reducible repeat (first | apply Kd.R_alloc | apply Kd.R_drewN | apply Kd.R_drew)); exact Kd.R_mono (Kd.R_far (p := ⟨gbh, 3, none⟩) (Kd.R_far (p := ⟨gbh, 2, none⟩) (Kd.R_far (p := ⟨gbh, 1, none⟩) (Kd.R_far (p := ⟨gbh, 0, none⟩) (Kd.R_types HO_23.out BKh.out (by decide)) (fun _ hk => hk.2) (.int .i64 t479)) (fun _ hk => hk.2) (.int .i64 t480)) (fun _ hk => hk.2) (.int .i64 t481)) (fun _ hk => hk.2) (.int .i64 t482)) (fun _ hk => ⟨hk.1.1.1, ⟨hk.1.1.2.1, ⟨hk.1.1.2.2.1, ⟨hk.1.1.2.2.2, hk.1.2⟩⟩⟩⟩)⟩
                   have n2_ : Aside0 (Kd.R k23 23 ((((w77.setCell ⟨gbh, 0, none⟩ (.int .i64 t479)).setCell ⟨gbh, 1, none⟩ (.int .i64 t480)).setCell ⟨gbh, 2, none⟩ (.int .i64 t481)).setCell ⟨gbh, 3, none⟩ (.int .i64 t482)) w.heap.size (fun k_ => some k_ ≠ (v467 : Value).ownBlock ∧ k_ ≠ gbb ∧ k_ ≠ gbf ∧ k_ ≠ gbg) (.slice (some ad477) t458.length co58) t458) := ⟨by (with_reducible repeat (first | apply Kd.R_alloc | apply Kd.R_drewN | apply Kd.R_drew)); exact Kd.R_mono (Kd.R_far (p := ⟨gbh, 3, none⟩) (Kd.R_far (p := ⟨gbh, 2, none⟩) (Kd.R_far (p := ⟨gbh, 1, none⟩) (Kd.R_far (p := ⟨gbh, 0, none⟩) (Kd.R_types HO_134.out BKh.out (by decide)) (fun _ hk => hk.2) (.int .i64 t479)) (fun _ hk => hk.2) (.int .i64 t480)) (fun _ hk => hk.2) (.int .i64 t481)) (fun _ hk => hk.2) (.int .i64 t482)) (fun _ hk => ⟨hk.1.1.1, ⟨hk.1.1.2.1, ⟨hk.1.1.2.2, hk.1.2⟩⟩⟩)⟩
                   have n3_ : Aside0 (((((w77.setCell ⟨gbh, 0, none⟩ (.int .i64 t479)).setCell ⟨gbh, 1, none⟩ (.int .i64 t480)).setCell ⟨gbh, 2, none⟩ (.int .i64 t481)).setCell ⟨gbh, 3, none⟩ (.int .i64 t482)).heap[gba]? = some (.cells #[.int .i64 a1_0, .int .i64 a1_1, .int .i64 a1_2, .int .i64 a1_3] 25 (0, 0))) := bk_ BKa
                   have n4_ : Aside0 (((((w77.setCell ⟨gbh, 0, none⟩ (.int .i64 t479)).setCell ⟨gbh, 1, none⟩ (.int .i64 t480)).setCell ⟨gbh, 2, none⟩ (.int .i64 t481)).setCell ⟨gbh, 3, none⟩ (.int .i64 t482)).heap[gbb]? = some (.cells #[.int .i64 a3_0, .int .i64 a3_1] 23 (0, 0))) := bk_ BKb
                   have n5_ : Aside0 (((((w77.setCell ⟨gbh, 0, none⟩ (.int .i64 t479)).setCell ⟨gbh, 1, none⟩ (.int .i64 t480)).setCell ⟨gbh, 2, none⟩ (.int .i64 t481)).setCell ⟨gbh, 3, none⟩ (.int .i64 t482)).heap[gbc]? = some (.cells #[.int .i64 a5_0, .int .i64 a5_1, .int .i64 a5_2, .int .i64 a5_3] 25 (0, 0))) := bk_ BKc
                   have n6_ : Aside0 (((((w77.setCell ⟨gbh, 0, none⟩ (.int .i64 t479)).setCell ⟨gbh, 1, none⟩ (.int .i64 t480)).setCell ⟨gbh, 2, none⟩ (.int .i64 t481)).setCell ⟨gbh, 3, none⟩ (.int .i64 t482)).heap[gbd]? = some (.cells #[.int .i64 a6_0, .int .i64 a6_1, .int .i64 a6_2, .int .i64 a6_3] 25 (0, 0))) := bk_ BKd
                   have n7_ : Aside0 (((((w77.setCell ⟨gbh, 0, none⟩ (.int .i64 t479)).setCell ⟨gbh, 1, none⟩ (.int .i64 t480)).setCell ⟨gbh, 2, none⟩ (.int .i64 t481)).setCell ⟨gbh, 3, none⟩ (.int .i64 t482)).heap[gbe]? = some (.cells #[.int .i64 a7_0, .int .i64 a7_1, .int .i64 a7_2, .int .i64 a7_3] 25 (0, 0))) := bk_ BKe
                   have n8_ : Aside0 (((((w77.setCell ⟨gbh, 0, none⟩ (.int .i64 t479)).setCell ⟨gbh, 1, none⟩ (.int .i64 t480)).setCell ⟨gbh, 2, none⟩ (.int .i64 t481)).setCell ⟨gbh, 3, none⟩ (.int .i64 t482)).heap[gbf]? = some (.cells #[.int .i64 a8_0, .int .i64 a8_1] 23 (0, 0))) := bk_ BKf
                   have n9_ : Aside0 (((((w77.setCell ⟨gbh, 0, none⟩ (.int .i64 t479)).setCell ⟨gbh, 1, none⟩ (.int .i64 t480)).setCell ⟨gbh, 2, none⟩ (.int .i64 t481)).setCell ⟨gbh, 3, none⟩ (.int .i64 t482)).heap[gbg]? = some (.cells #[.int .i64 ((rd_T23 t458 x136_3).f0), .int .i64 ((rd_T23 t458 x136_3).f1)] 23 (0, 0))) := bk_ BKg
                   have n10_ : Aside0 (((((w77.setCell ⟨gbh, 0, none⟩ (.int .i64 t479)).setCell ⟨gbh, 1, none⟩ (.int .i64 t480)).setCell ⟨gbh, 2, none⟩ (.int .i64 t481)).setCell ⟨gbh, 3, none⟩ (.int .i64 t482)).heap[gbh]? = some (.cells #[.int .i64 t479, .int .i64 t480, .int .i64 t481, .int .i64 t482] 25 (0, 0))) := ⟨by (with_reducible repeat (first | refine blk_drewN ?_ _ | refine blk_drew ?_ | refine blk_alloc ?_ _)); refine blk_put (cs := #[.int .i64 t479, .int .i64 t480, .int .i64 t481, .int .i64 0]) ?_ 3 _ rfl; (with_reducible repeat (first | refine blk_drewN ?_ _ | refine blk_drew ?_ | refine blk_alloc ?_ _)); refine blk_put (cs := #[.int .i64 t479, .int .i64 t480, .int .i64 0, .int .i64 0]) ?_ 2 _ rfl; (with_reducible repeat (first | refine blk_drewN ?_ _ | refine blk_drew ?_ | refine blk_alloc ?_ _)); refine blk_put (cs := #[.int .i64 t479, .int .i64 0, .int .i64 0, .int .i64 0]) ?_ 1 _ rfl; (with_reducible repeat (first | refine blk_drewN ?_ _ | refine blk_drew ?_ | refine blk_alloc ?_ _)); refine blk_put (cs := #[.int .i64 0, .int .i64 0, .int .i64 0, .int .i64 0]) ?_ 0 _ rfl; (with_reducible repeat (first | refine blk_drewN ?_ _ | refine blk_drew ?_ | refine blk_alloc ?_ _)); exact BKh.out⟩
                   have n11_ : Aside0 (Below w.heap.size w ((((w77.setCell ⟨gbh, 0, none⟩ (.int .i64 t479)).setCell ⟨gbh, 1, none⟩ (.int .i64 t480)).setCell ⟨gbh, 2, none⟩ (.int .i64 t481)).setCell ⟨gbh, 3, none⟩ (.int .i64 t482))) := hb_ HB
                   (try clear HO_19)
                   (try clear HO_23)
                   (try clear HO_134)
                   (try clear BKa)
                   (try clear BKb)
                   (try clear BKc)
                   (try clear BKd)
                   (try clear BKe)
                   (try clear BKf)
                   (try clear BKg)
                   (try clear BKh)
                   (try clear HB)
                   generalize ((((w77.setCell ⟨gbh, 0, none⟩ (.int .i64 t479)).setCell ⟨gbh, 1, none⟩ (.int .i64 t480)).setCell ⟨gbh, 2, none⟩ (.int .i64 t481)).setCell ⟨gbh, 3, none⟩ (.int .i64 t482)) = w86 at n0_ n1_ n2_ n3_ n4_ n5_ n6_ n7_ n8_ n9_ n10_ n11_ ⊢
                   have HO_19 := n0_
                   have HO_23 := n1_
                   have HO_134 := n2_
                   have BKa := n3_
                   have BKb := n4_
                   have BKc := n5_
                   have BKd := n6_
                   have BKe := n7_
                   have BKf := n8_
                   have BKg := n9_
                   have BKh := n10_
                   have HB := n11_
                   clear n0_ n1_ n2_ n3_ n4_ n5_ n6_ n7_ n8_ n9_ n10_ n11_
                   replace HO_19 := Aside0.mk (Kd.R_drew HO_19.out)
                   replace HO_23 := Aside0.mk (Kd.R_drew HO_23.out)
                   replace HO_134 := Aside0.mk (Kd.R_drew HO_134.out)
                   replace BKa := Aside0.mk (blk_drew BKa.out)
                   replace BKb := Aside0.mk (blk_drew BKb.out)
                   replace BKc := Aside0.mk (blk_drew BKc.out)
                   replace BKd := Aside0.mk (blk_drew BKd.out)
                   replace BKe := Aside0.mk (blk_drew BKe.out)
                   replace BKf := Aside0.mk (blk_drew BKf.out)
                   replace BKg := Aside0.mk (blk_drew BKg.out)
                   replace BKh := Aside0.mk (blk_drew BKh.out)
                   replace HB := Aside0.mk (below_drew1 HB.out)
                   obtain ⟨Ao88, co88, eo88⟩ := Kd.R_slice HO_23.out
                   (first | subst eo88 | (injection eo88 with f1_ f2_ f3_; have f4_ := f1_.symm; have f5_ := f3_.symm; clear f1_ f2_ f3_; subst f4_; subst f5_))
                   have p485 : 0 ≤ (x136_3 : Int) := of_decide_eq_true (by first | (with_reducible assumption) | assumption)
                   have q485 : x136_3 < (t466.length : Int) := of_decide_eq_true (by first | (with_reducible assumption) | assumption)
                   obtain ⟨ad485, e485, hx485_0, hx485_1⟩ := at_T23 (Kd.R_reads' HO_23.out).2.2 x136_3 p485 q485
                   cases e485
                   replace p485 := eq_true p485
                   replace q485 := eq_true q485
                   refine start_ (n := 12) (S := fun w' => w'.cell? ⟨gbh, 0, none⟩ = some (.int .i64 t479) ∧ w'.cell? ⟨gbh, 1, none⟩ = some (.int .i64 t480) ∧ w'.cell? ⟨gbh, 2, none⟩ = some (.int .i64 t481) ∧ w'.cell? ⟨gbh, 3, none⟩ = some (.int .i64 t482) ∧ w'.cell? (ad485.add ((x136_3).toNat * 2)) = some (.int .i64 ((rd_T23 t466 x136_3).f0)) ∧ w'.cell? ⟨(ad485.add ((x136_3).toNat * 2)).block, (ad485.add ((x136_3).toNat * 2)).off + 1, none⟩ = some (.int .i64 ((rd_T23 t466 x136_3).f1))) (ds := []) (bl true [0, 12]) (by kernel_rfl) rfl rfl ⟨(blk_cell BKh.out 0).trans rfl, (blk_cell BKh.out 1).trans rfl, (blk_cell BKh.out 2).trans rfl, (blk_cell BKh.out 3).trans rfl, hx485_0, hx485_1⟩ (fun hHeld => ?_); refine with_tabW laws_FnDialsTurnedOfAll.tab14 laws_FnDialsTurnedOfAll.bits14 (fun HT_ HW_ => ?_)
                   generalize w86.drew = w87 at HO_19 HO_23 HO_134 BKa BKb BKc BKd BKe BKf BKg BKh HB hx485_0 hx485_1 hHeld ⊢
                   refine pu_ 1 (some 149) HT_.out ?_
                   refine pu_ 2 (some 150) HT_.out ?_
                   refine pu_ 3 (some 151) HT_.out ?_
                   refine take_ (i := 0) (N := some 148) (v := ?_) (a' := ?_) (bl true [4, 8]) rfl rfl (take_ofW HT_.out HW_.out (by kernel_rfl)) (fun _ _ _ h => h) (Or.inl ⟨by rfl, ?_⟩) hHeld ?_ ?_
                   rotate_left
                   ·
                    rintro w' ⟨s0, s1, s2, s3, s4, s5⟩
                    go_simp
                    with_reducible rfl
                   rotate_left
                   ·
                    simp only [Act.put, s1, s2, s3, i64_w, i32_w]
                    rfl
                   refine take_ (i := 4) (N := some 152) (v := ?_) (a' := ?_) (bl true [5, 7]) rfl rfl (take_ofW HT_.out HW_.out (by kernel_rfl)) (fun _ _ _ h => h) (Or.inl ⟨by rfl, ?_⟩) hHeld ?_ ?_
                   rotate_left
                   ·
                    rintro w' ⟨s0, s1, s2, s3, s4, s5⟩
                    go_simp
                    with_reducible rfl
                   rotate_left
                   ·
                    simp only [Act.put, s1, s2, s3, i64_w, i32_w]
                    rfl
                   refine join_ (σ := Nat) 2 (bl true [10, 2]) (fun s_ => [(153, .tuple #[.agg #[.int .i64 t486, .int .i64 t487, .int .i64 t488, .int .i64 t489], .bool true]), (31, .pointer (some ⟨s_, 0, none⟩)), (147, .tuple #[.agg #[.int .i64 t486, .int .i64 t487, .int .i64 t488, .int .i64 t489], .bool true]), (154, .agg #[.int .i64 t486, .int .i64 t487, .int .i64 t488, .int .i64 t489]), (155, .bool true)]) (fun s_ w' => (w'.cell? ⟨gbh, 0, none⟩ = some (.int .i64 t479) ∧ w'.cell? ⟨gbh, 1, none⟩ = some (.int .i64 t480) ∧ w'.cell? ⟨gbh, 2, none⟩ = some (.int .i64 t481) ∧ w'.cell? ⟨gbh, 3, none⟩ = some (.int .i64 t482) ∧ w'.cell? (ad485.add ((x136_3).toNat * 2)) = some (.int .i64 ((rd_T23 t466 x136_3).f0)) ∧ w'.cell? ⟨(ad485.add ((x136_3).toNat * 2)).block, (ad485.add ((x136_3).toNat * 2)).off + 1, none⟩ = some (.int .i64 ((rd_T23 t466 x136_3).f1))) ∧ (Kd.R k23 23 w' w.heap.size (fun k_ => some k_ ≠ (.slice (some ad485) t466.length co88 : Value).ownBlock ∧ k_ ≠ gbb ∧ k_ ≠ gbf ∧ k_ ≠ gbg) (.slice (some ad477) t458.length co58) t458) ∧ (Kd.R k23 23 w' w.heap.size (fun k_ => some k_ ≠ (.slice (some ad485) t466.length co88 : Value).ownBlock ∧ k_ ≠ gbb ∧ k_ ≠ gbf ∧ k_ ≠ gbg) (.slice (some ad477) t458.length co58) t458) ∧ (Kd.R k23 23 w' w.heap.size (fun k_ => some k_ ≠ (.slice (some ad477) t458.length co58 : Value).ownBlock ∧ some k_ ≠ (.slice (some ad477) t458.length co58 : Value).ownBlock ∧ k_ ≠ gbb ∧ k_ ≠ gbf ∧ k_ ≠ gbg) (.slice (some ad485) t466.length co88) t466) ∧ (w'.heap[gba]? = some (.cells #[.int .i64 a1_0, .int .i64 a1_1, .int .i64 a1_2, .int .i64 a1_3] 25 (0, 0))) ∧ (w'.heap[gbb]? = some (.cells #[.int .i64 a3_0, .int .i64 a3_1] 23 (0, 0))) ∧ (w'.heap[gbc]? = some (.cells #[.int .i64 a5_0, .int .i64 a5_1, .int .i64 a5_2, .int .i64 a5_3] 25 (0, 0))) ∧ (w'.heap[gbd]? = some (.cells #[.int .i64 a6_0, .int .i64 a6_1, .int .i64 a6_2, .int .i64 a6_3] 25 (0, 0))) ∧ (w'.heap[gbe]? = some (.cells #[.int .i64 a7_0, .int .i64 a7_1, .int .i64 a7_2, .int .i64 a7_3] 25 (0, 0))) ∧ (w'.heap[gbf]? = some (.cells #[.int .i64 a8_0, .int .i64 a8_1] 23 (0, 0))) ∧ (w'.heap[gbg]? = some (.cells #[.int .i64 ((rd_T23 t458 x136_3).f0), .int .i64 ((rd_T23 t458 x136_3).f1)] 23 (0, 0))) ∧ (w'.heap[gbh]? = some (.cells #[.int .i64 t479, .int .i64 t480, .int .i64 t481, .int .i64 t482] 25 (0, 0))) ∧ (w'.heap[s_]? = some (.cells #[.int .i64 0, .int .i64 0, .int .i64 0, .int .i64 0] 25 (0, 0))) ∧ (w.heap.size ≤ s_) ∧ (w.heap.size ≤ s_) ∧ (gba ≠ s_) ∧ (s_ ≠ gba) ∧ (gbb ≠ s_) ∧ (s_ ≠ gbb) ∧ (gbc ≠ s_) ∧ (s_ ≠ gbc) ∧ (gbd ≠ s_) ∧ (s_ ≠ gbd) ∧ (gbe ≠ s_) ∧ (s_ ≠ gbe) ∧ (gbf ≠ s_) ∧ (s_ ≠ gbf) ∧ (gbg ≠ s_) ∧ (s_ ≠ gbg) ∧ (gbh ≠ s_) ∧ (s_ ≠ gbh) ∧ (Below w.heap.size w w')) ?_ ?_
                   rotate_left
                   ·
                    intro hCont
                    refine two_ (i := 5) (j := 9) (Ni := some 153) (Nj := some 31) (bl true [6, 6]) (bl true [5, 4, 1, 2]) rfl rfl rfl rfl (two_of HT_.out (by kernel_rfl)) (by decide) (by decide) (fun K hK => ?_) (fun K hK => ?_)
                    ·
                     skip
                     refine goes_ Try.func33 (by kernel_rfl) rfl #[.agg #[.int .i64 t479, .int .i64 t480, .int .i64 t481, .int .i64 t482], .agg #[.int .i64 ((rd_T23 t466 x136_3).f0), .int .i64 ((rd_T23 t466 x136_3).f1)]] (by rfl) rfl rfl (by (try simp only [List.map_toArray, List.map_cons, List.map_nil]); first | done | rfl | (simp only [List.length_drop, List.length_take]; rfl)) ?_
                     with_reducible refine (impl_TurnSeen.calls k3 t479 t480 t481 t482 ((rd_T23 t466 x136_3).f0) ((rd_T23 t466 x136_3).f1) t486 t487 t488 t489 true _ A64.out).mono ?_
                     rintro e w89 ⟨rfl, hb⟩
                     have HS4_ := (hb.cell (World.block_lt_of_cell? _ _ (hHeld.2.2.2.2.1))).trans (hHeld.2.2.2.2.1)
                     have HS5_ := (hb.cell (World.block_lt_of_cell? _ _ (hHeld.2.2.2.2.2))).trans (hHeld.2.2.2.2.2)
                     refine ⟨_, rfl, ?_⟩
                     replace HO_19 := hr_ HO_19 hb
                     replace HO_23 := hr_ HO_23 hb
                     replace HO_134 := hr_ HO_134 hb
                     replace BKa := bb BKa hb
                     replace BKb := bb BKb hb
                     replace BKc := bb BKc hb
                     replace BKd := bb BKd hb
                     replace BKe := bb BKe hb
                     replace BKf := bb BKf hb
                     replace BKg := bb BKg hb
                     replace BKh := bb BKh hb
                     replace HB := hs HB hb
                     (try clear hb)
                     (try clear hb2)
                     (try clear hk)
                     (try clear hi)
                     refine hK.out _ _ ⟨(blk_cell BKh.out 0).trans rfl, (blk_cell BKh.out 1).trans rfl, (blk_cell BKh.out 2).trans rfl, (blk_cell BKh.out 3).trans rfl, HS4_, HS5_⟩ (fun hHeld => ?_)
                     clear hK K
                     refine norm_ (a' := ?_) ?_ ?_
                     rotate_left
                     ·
                      show Act.put _ (some 153) _ = _
                      simp only [Act.put, s1, s2, s3, i64_w, i32_w]
                      rfl
                     refine pu_ 6 (some 147) HT_.out ?_
                     refine pu_ 7 (some 154) HT_.out ?_
                     refine pu_ 8 (some 155) HT_.out ?_
                     refine one_ (i := 9) (N := some 31) (bl true [10, 2]) rfl rfl (one_of HT_.out (by kernel_rfl)) (by decide) (fun K hK => ?_)
                     refine box_step ?hg (N := 31) ?hd (cs := #[.int .i64 0, .int .i64 0, .int .i64 0, .int .i64 0]) (t := 25) ?hr ?_; (case hd => rfl); (case hg => rfl); (case hr => first | (go_simp; done) | (go_simp; rfl))
                     intro gbi hg w90 hbox hb
                     have HS4_ := (hb.cell (World.block_lt_of_cell? _ _ (hHeld.2.2.2.2.1))).trans (hHeld.2.2.2.2.1)
                     have HS5_ := (hb.cell (World.block_lt_of_cell? _ _ (hHeld.2.2.2.2.2))).trans (hHeld.2.2.2.2.2)
                     have BKi := Aside0.mk (hbox)
                     have GWi := ge_ HB hg
                     have GEi := ge_ HB hg
                     obtain ⟨Na_i, Ni_a⟩ := nq_ BKa hg
                     obtain ⟨Nb_i, Ni_b⟩ := nq_ BKb hg
                     obtain ⟨Nc_i, Ni_c⟩ := nq_ BKc hg
                     obtain ⟨Nd_i, Ni_d⟩ := nq_ BKd hg
                     obtain ⟨Ne_i, Ni_e⟩ := nq_ BKe hg
                     obtain ⟨Nf_i, Ni_f⟩ := nq_ BKf hg
                     obtain ⟨Ng_i, Ni_g⟩ := nq_ BKg hg
                     obtain ⟨Nh_i, Ni_h⟩ := nq_ BKh hg
                     replace HO_19 := hr_ HO_19 hb
                     replace HO_23 := hr_ HO_23 hb
                     replace HO_134 := hr_ HO_134 hb
                     replace BKa := bb BKa hb
                     replace BKb := bb BKb hb
                     replace BKc := bb BKc hb
                     replace BKd := bb BKd hb
                     replace BKe := bb BKe hb
                     replace BKf := bb BKf hb
                     replace BKg := bb BKg hb
                     replace BKh := bb BKh hb
                     replace HB := hs HB hb
                     clear hb hbox hg
                     refine hK.out _ _ ⟨(blk_cell BKh.out 0).trans rfl, (blk_cell BKh.out 1).trans rfl, (blk_cell BKh.out 2).trans rfl, (blk_cell BKh.out 3).trans rfl, HS4_, HS5_⟩ (fun hHeld => ?_)
                     clear hK K
                     refine norm_ (a' := ?_) ?_ ?_
                     rotate_left
                     ·
                      show Act.put _ (some 31) _ = _
                      simp only [Act.put, s1, s2, s3, i64_w, i32_w]
                      rfl
                     exact norm_ (by simp only [putAll, Act.put, s1, s2, s3]) (hCont (gbi) _ ⟨hHeld, (by (with_reducible repeat (first | apply Kd.R_alloc | apply Kd.R_drewN | apply Kd.R_drew)); exact HO_134.out), (by (with_reducible repeat (first | apply Kd.R_alloc | apply Kd.R_drewN | apply Kd.R_drew)); exact HO_19.out), (by (with_reducible repeat (first | apply Kd.R_alloc | apply Kd.R_drewN | apply Kd.R_drew)); exact Kd.R_mono HO_23.out (fun _ hk => ⟨hk.2.1, ⟨hk.1, ⟨hk.2.2.1, ⟨hk.2.2.2.1, hk.2.2.2.2⟩⟩⟩⟩)), (by (with_reducible repeat (first | refine blk_drewN ?_ _ | refine blk_drew ?_ | refine blk_alloc ?_ _)); exact BKa.out), (by (with_reducible repeat (first | refine blk_drewN ?_ _ | refine blk_drew ?_ | refine blk_alloc ?_ _)); exact BKb.out), (by (with_reducible repeat (first | refine blk_drewN ?_ _ | refine blk_drew ?_ | refine blk_alloc ?_ _)); exact BKc.out), (by (with_reducible repeat (first | refine blk_drewN ?_ _ | refine blk_drew ?_ | refine blk_alloc ?_ _)); exact BKd.out), (by (with_reducible repeat (first | refine blk_drewN ?_ _ | refine blk_drew ?_ | refine blk_alloc ?_ _)); exact BKe.out), (by (with_reducible repeat (first | refine blk_drewN ?_ _ | refine blk_drew ?_ | refine blk_alloc ?_ _)); exact BKf.out), (by (with_reducible repeat (first | refine blk_drewN ?_ _ | refine blk_drew ?_ | refine blk_alloc ?_ _)); exact BKg.out), (by (with_reducible repeat (first | refine blk_drewN ?_ _ | refine blk_drew ?_ | refine blk_alloc ?_ _)); exact BKh.out), (by (with_reducible repeat (first | refine blk_drewN ?_ _ | refine blk_drew ?_ | refine blk_alloc ?_ _)); exact BKi.out), GWi.out, GEi.out, Na_i.out, Ni_a.out, Nb_i.out, Ni_b.out, Nc_i.out, Ni_c.out, Nd_i.out, Ni_d.out, Ne_i.out, Ni_e.out, Nf_i.out, Ni_f.out, Ng_i.out, Ni_g.out, Nh_i.out, Ni_h.out, (ho_ HB)⟩)
                    ·
                     skip
                     refine box_step ?hg (N := 31) ?hd (cs := #[.int .i64 0, .int .i64 0, .int .i64 0, .int .i64 0]) (t := 25) ?hr ?_; (case hd => rfl); (case hg => rfl); (case hr => first | (go_simp; done) | (go_simp; rfl))
                     intro gbi hg w89 hbox hb
                     have HS4_ := (hb.cell (World.block_lt_of_cell? _ _ (hHeld.2.2.2.2.1))).trans (hHeld.2.2.2.2.1)
                     have HS5_ := (hb.cell (World.block_lt_of_cell? _ _ (hHeld.2.2.2.2.2))).trans (hHeld.2.2.2.2.2)
                     have BKi := Aside0.mk (hbox)
                     have GWi := ge_ HB hg
                     have GEi := ge_ HB hg
                     obtain ⟨Na_i, Ni_a⟩ := nq_ BKa hg
                     obtain ⟨Nb_i, Ni_b⟩ := nq_ BKb hg
                     obtain ⟨Nc_i, Ni_c⟩ := nq_ BKc hg
                     obtain ⟨Nd_i, Ni_d⟩ := nq_ BKd hg
                     obtain ⟨Ne_i, Ni_e⟩ := nq_ BKe hg
                     obtain ⟨Nf_i, Ni_f⟩ := nq_ BKf hg
                     obtain ⟨Ng_i, Ni_g⟩ := nq_ BKg hg
                     obtain ⟨Nh_i, Ni_h⟩ := nq_ BKh hg
                     replace HO_19 := hr_ HO_19 hb
                     replace HO_23 := hr_ HO_23 hb
                     replace HO_134 := hr_ HO_134 hb
                     replace BKa := bb BKa hb
                     replace BKb := bb BKb hb
                     replace BKc := bb BKc hb
                     replace BKd := bb BKd hb
                     replace BKe := bb BKe hb
                     replace BKf := bb BKf hb
                     replace BKg := bb BKg hb
                     replace BKh := bb BKh hb
                     replace HB := hs HB hb
                     clear hb hbox hg
                     refine hK.out _ _ ⟨(blk_cell BKh.out 0).trans rfl, (blk_cell BKh.out 1).trans rfl, (blk_cell BKh.out 2).trans rfl, (blk_cell BKh.out 3).trans rfl, HS4_, HS5_⟩ (fun hHeld => ?_)
                     clear hK K
                     refine norm_ (a' := ?_) ?_ ?_
                     rotate_left
                     ·
                      show Act.put _ (some 31) _ = _
                      simp only [Act.put, s1, s2, s3, i64_w, i32_w]
                      rfl
                     refine one_ (i := 5) (N := some 153) (bl true [6, 3, 1, 2]) rfl rfl (one_of HT_.out (by kernel_rfl)) (by decide) (fun K hK => ?_)
                     refine goes_ Try.func33 (by kernel_rfl) rfl #[.agg #[.int .i64 t479, .int .i64 t480, .int .i64 t481, .int .i64 t482], .agg #[.int .i64 ((rd_T23 t466 x136_3).f0), .int .i64 ((rd_T23 t466 x136_3).f1)]] (by rfl) rfl rfl (by (try simp only [List.map_toArray, List.map_cons, List.map_nil]); first | done | rfl | (simp only [List.length_drop, List.length_take]; rfl)) ?_
                     with_reducible refine (impl_TurnSeen.calls k3 t479 t480 t481 t482 ((rd_T23 t466 x136_3).f0) ((rd_T23 t466 x136_3).f1) t486 t487 t488 t489 true _ A64.out).mono ?_
                     rintro e w90 ⟨rfl, hb⟩
                     have HS4_ := (hb.cell (World.block_lt_of_cell? _ _ (hHeld.2.2.2.2.1))).trans (hHeld.2.2.2.2.1)
                     have HS5_ := (hb.cell (World.block_lt_of_cell? _ _ (hHeld.2.2.2.2.2))).trans (hHeld.2.2.2.2.2)
                     refine ⟨_, rfl, ?_⟩
                     replace HO_19 := hr_ HO_19 hb
                     replace HO_23 := hr_ HO_23 hb
                     replace HO_134 := hr_ HO_134 hb
                     replace BKa := bb BKa hb
                     replace BKb := bb BKb hb
                     replace BKc := bb BKc hb
                     replace BKd := bb BKd hb
                     replace BKe := bb BKe hb
                     replace BKf := bb BKf hb
                     replace BKg := bb BKg hb
                     replace BKh := bb BKh hb
                     replace BKi := bb BKi hb
                     replace HB := hs HB hb
                     (try clear hb)
                     (try clear hb2)
                     (try clear hk)
                     (try clear hi)
                     refine hK.out _ _ ⟨(blk_cell BKh.out 0).trans rfl, (blk_cell BKh.out 1).trans rfl, (blk_cell BKh.out 2).trans rfl, (blk_cell BKh.out 3).trans rfl, HS4_, HS5_⟩ (fun hHeld => ?_)
                     clear hK K
                     refine norm_ (a' := ?_) ?_ ?_
                     rotate_left
                     ·
                      show Act.put _ (some 153) _ = _
                      simp only [Act.put, s1, s2, s3, i64_w, i32_w]
                      rfl
                     refine pu_ 6 (some 147) HT_.out ?_
                     refine pu_ 7 (some 154) HT_.out ?_
                     refine pu_ 8 (some 155) HT_.out ?_
                     exact norm_ (by simp only [putAll, Act.put, s1, s2, s3]) (hCont (gbi) _ ⟨hHeld, (by (with_reducible repeat (first | apply Kd.R_alloc | apply Kd.R_drewN | apply Kd.R_drew)); exact HO_134.out), (by (with_reducible repeat (first | apply Kd.R_alloc | apply Kd.R_drewN | apply Kd.R_drew)); exact HO_19.out), (by (with_reducible repeat (first | apply Kd.R_alloc | apply Kd.R_drewN | apply Kd.R_drew)); exact Kd.R_mono HO_23.out (fun _ hk => ⟨hk.2.1, ⟨hk.1, ⟨hk.2.2.1, ⟨hk.2.2.2.1, hk.2.2.2.2⟩⟩⟩⟩)), (by (with_reducible repeat (first | refine blk_drewN ?_ _ | refine blk_drew ?_ | refine blk_alloc ?_ _)); exact BKa.out), (by (with_reducible repeat (first | refine blk_drewN ?_ _ | refine blk_drew ?_ | refine blk_alloc ?_ _)); exact BKb.out), (by (with_reducible repeat (first | refine blk_drewN ?_ _ | refine blk_drew ?_ | refine blk_alloc ?_ _)); exact BKc.out), (by (with_reducible repeat (first | refine blk_drewN ?_ _ | refine blk_drew ?_ | refine blk_alloc ?_ _)); exact BKd.out), (by (with_reducible repeat (first | refine blk_drewN ?_ _ | refine blk_drew ?_ | refine blk_alloc ?_ _)); exact BKe.out), (by (with_reducible repeat (first | refine blk_drewN ?_ _ | refine blk_drew ?_ | refine blk_alloc ?_ _)); exact BKf.out), (by (with_reducible repeat (first | refine blk_drewN ?_ _ | refine blk_drew ?_ | refine blk_alloc ?_ _)); exact BKg.out), (by (with_reducible repeat (first | refine blk_drewN ?_ _ | refine blk_drew ?_ | refine blk_alloc ?_ _)); exact BKh.out), (by (with_reducible repeat (first | refine blk_drewN ?_ _ | refine blk_drew ?_ | refine blk_alloc ?_ _)); exact BKi.out), GWi.out, GEi.out, Na_i.out, Ni_a.out, Nb_i.out, Ni_b.out, Nc_i.out, Ni_c.out, Nd_i.out, Ni_d.out, Ne_i.out, Ni_e.out, Nf_i.out, Ni_f.out, Ng_i.out, Ni_g.out, Nh_i.out, Ni_h.out, (ho_ HB)⟩)
                   rintro gbi w91 ⟨hS_, h0_, h1_, h2_, h3_, h4_, h5_, h6_, h7_, h8_, h9_, h10_, h11_, h12_, h13_, h14_, h15_, h16_, h17_, h18_, h19_, h20_, h21_, h22_, h23_, h24_, h25_, h26_, h27_, h28_, h29_, h30_⟩
                   have n0_ : Aside0 (Kd.R k23 23 w91 w.heap.size (fun k_ => some k_ ≠ (.slice (some ad485) t466.length co88 : Value).ownBlock ∧ k_ ≠ gbb ∧ k_ ≠ gbf ∧ k_ ≠ gbg) (.slice (some ad477) t458.length co58) t458) := ⟨h0_⟩
                   have n1_ : Aside0 (Kd.R k23 23 w91 w.heap.size (fun k_ => some k_ ≠ (.slice (some ad485) t466.length co88 : Value).ownBlock ∧ k_ ≠ gbb ∧ k_ ≠ gbf ∧ k_ ≠ gbg) (.slice (some ad477) t458.length co58) t458) := ⟨h1_⟩
                   have n2_ : Aside0 (Kd.R k23 23 w91 w.heap.size (fun k_ => some k_ ≠ (.slice (some ad477) t458.length co58 : Value).ownBlock ∧ some k_ ≠ (.slice (some ad477) t458.length co58 : Value).ownBlock ∧ k_ ≠ gbb ∧ k_ ≠ gbf ∧ k_ ≠ gbg) (.slice (some ad485) t466.length co88) t466) := ⟨h2_⟩
                   have n3_ : Aside0 (w91.heap[gba]? = some (.cells #[.int .i64 a1_0, .int .i64 a1_1, .int .i64 a1_2, .int .i64 a1_3] 25 (0, 0))) := ⟨h3_⟩
                   have n4_ : Aside0 (w91.heap[gbb]? = some (.cells #[.int .i64 a3_0, .int .i64 a3_1] 23 (0, 0))) := ⟨h4_⟩
                   have n5_ : Aside0 (w91.heap[gbc]? = some (.cells #[.int .i64 a5_0, .int .i64 a5_1, .int .i64 a5_2, .int .i64 a5_3] 25 (0, 0))) := ⟨h5_⟩
                   have n6_ : Aside0 (w91.heap[gbd]? = some (.cells #[.int .i64 a6_0, .int .i64 a6_1, .int .i64 a6_2, .int .i64 a6_3] 25 (0, 0))) := ⟨h6_⟩
                   have n7_ : Aside0 (w91.heap[gbe]? = some (.cells #[.int .i64 a7_0, .int .i64 a7_1, .int .i64 a7_2, .int .i64 a7_3] 25 (0, 0))) := ⟨h7_⟩
                   have n8_ : Aside0 (w91.heap[gbf]? = some (.cells #[.int .i64 a8_0, .int .i64 a8_1] 23 (0, 0))) := ⟨h8_⟩
                   have n9_ : Aside0 (w91.heap[gbg]? = some (.cells #[.int .i64 ((rd_T23 t458 x136_3).f0), .int .i64 ((rd_T23 t458 x136_3).f1)] 23 (0, 0))) := ⟨h9_⟩
                   have n10_ : Aside0 (w91.heap[gbh]? = some (.cells #[.int .i64 t479, .int .i64 t480, .int .i64 t481, .int .i64 t482] 25 (0, 0))) := ⟨h10_⟩
                   have n11_ : Aside0 (w91.heap[gbi]? = some (.cells #[.int .i64 0, .int .i64 0, .int .i64 0, .int .i64 0] 25 (0, 0))) := ⟨h11_⟩
                   have n12_ : Aside0 (w.heap.size ≤ gbi) := ⟨h12_⟩
                   have n13_ : Aside0 (w.heap.size ≤ gbi) := ⟨h13_⟩
                   have n14_ : Aside0 (gba ≠ gbi) := ⟨h14_⟩
                   have n15_ : Aside0 (gbi ≠ gba) := ⟨h15_⟩
                   have n16_ : Aside0 (gbb ≠ gbi) := ⟨h16_⟩
                   have n17_ : Aside0 (gbi ≠ gbb) := ⟨h17_⟩
                   have n18_ : Aside0 (gbc ≠ gbi) := ⟨h18_⟩
                   have n19_ : Aside0 (gbi ≠ gbc) := ⟨h19_⟩
                   have n20_ : Aside0 (gbd ≠ gbi) := ⟨h20_⟩
                   have n21_ : Aside0 (gbi ≠ gbd) := ⟨h21_⟩
                   have n22_ : Aside0 (gbe ≠ gbi) := ⟨h22_⟩
                   have n23_ : Aside0 (gbi ≠ gbe) := ⟨h23_⟩
                   have n24_ : Aside0 (gbf ≠ gbi) := ⟨h24_⟩
                   have n25_ : Aside0 (gbi ≠ gbf) := ⟨h25_⟩
                   have n26_ : Aside0 (gbg ≠ gbi) := ⟨h26_⟩
                   have n27_ : Aside0 (gbi ≠ gbg) := ⟨h27_⟩
                   have n28_ : Aside0 (gbh ≠ gbi) := ⟨h28_⟩
                   have n29_ : Aside0 (gbi ≠ gbh) := ⟨h29_⟩
                   have n30_ : Aside0 (Below w.heap.size w w91) := ⟨h30_⟩
                   clear HO_19
                   clear HO_23
                   clear HO_134
                   clear BKa
                   clear BKb
                   clear BKc
                   clear BKd
                   clear BKe
                   clear BKf
                   clear BKg
                   clear BKh
                   clear HB
                   clear h0_ h1_ h2_ h3_ h4_ h5_ h6_ h7_ h8_ h9_ h10_ h11_ h12_ h13_ h14_ h15_ h16_ h17_ h18_ h19_ h20_ h21_ h22_ h23_ h24_ h25_ h26_ h27_ h28_ h29_ h30_
                   have HO_134 := n0_
                   have HO_19 := n1_
                   have HO_23 := n2_
                   have BKa := n3_
                   have BKb := n4_
                   have BKc := n5_
                   have BKd := n6_
                   have BKe := n7_
                   have BKf := n8_
                   have BKg := n9_
                   have BKh := n10_
                   have BKi := n11_
                   have GWi := n12_
                   have GEi := n13_
                   have Na_i := n14_
                   have Ni_a := n15_
                   have Nb_i := n16_
                   have Ni_b := n17_
                   have Nc_i := n18_
                   have Ni_c := n19_
                   have Nd_i := n20_
                   have Ni_d := n21_
                   have Ne_i := n22_
                   have Ni_e := n23_
                   have Nf_i := n24_
                   have Ni_f := n25_
                   have Ng_i := n26_
                   have Ni_g := n27_
                   have Nh_i := n28_
                   have Ni_h := n29_
                   have HB := n30_
                   clear n0_ n1_ n2_ n3_ n4_ n5_ n6_ n7_ n8_ n9_ n10_ n11_ n12_ n13_ n14_ n15_ n16_ n17_ n18_ n19_ n20_ n21_ n22_ n23_ n24_ n25_ n26_ n27_ n28_ n29_ n30_
                   have hHeld : w91.cell? ⟨gbh, 0, none⟩ = some (.int .i64 t479) ∧ w91.cell? ⟨gbh, 1, none⟩ = some (.int .i64 t480) ∧ w91.cell? ⟨gbh, 2, none⟩ = some (.int .i64 t481) ∧ w91.cell? ⟨gbh, 3, none⟩ = some (.int .i64 t482) ∧ w91.cell? (ad485.add ((x136_3).toNat * 2)) = some (.int .i64 ((rd_T23 t466 x136_3).f0)) ∧ w91.cell? ⟨(ad485.add ((x136_3).toNat * 2)).block, (ad485.add ((x136_3).toNat * 2)).off + 1, none⟩ = some (.int .i64 ((rd_T23 t466 x136_3).f1)) := hS_
                   refine norm_ (a' := ?_) ?_ ?_
                   rotate_left
                   ·
                    simp only [putAll, Act.put, s1, s2, s3]
                    rfl
                   refine one_ (i := 10) (N := none) (bl true [11, 1]) rfl rfl (one_of HT_.out (by kernel_rfl)) (by decide) (fun K hK => ?_)
                   have hs92 : w91.cell? ⟨gbi, 0, none⟩ = some (.int .i64 0) := (blk_cell BKi.out 0).trans rfl
                   have hfs92 := blk_frozen BKi.out 0
                   have hns92_0 := Na_i.out
                   have hns92_1 := Nb_i.out
                   have hns92_2 := Nc_i.out
                   have hns92_3 := Nd_i.out
                   have hns92_4 := Ne_i.out
                   have hns92_5 := Nf_i.out
                   have hns92_6 := Ng_i.out
                   have hns92_7 := Nh_i.out
                   have hms92_0 := Ni_a.out
                   have hms92_1 := Ni_b.out
                   have hms92_2 := Ni_c.out
                   have hms92_3 := Ni_d.out
                   have hms92_4 := Ni_e.out
                   have hms92_5 := Ni_f.out
                   have hms92_6 := Ni_g.out
                   have hms92_7 := Ni_h.out
                   have hs93 : w91.cell? ⟨gbi, 1, none⟩ = some (.int .i64 0) := (blk_cell BKi.out 1).trans rfl
                   have hfs93 := blk_frozen BKi.out 1
                   have hns93_0 := Na_i.out
                   have hns93_1 := Nb_i.out
                   have hns93_2 := Nc_i.out
                   have hns93_3 := Nd_i.out
                   have hns93_4 := Ne_i.out
                   have hns93_5 := Nf_i.out
                   have hns93_6 := Ng_i.out
                   have hns93_7 := Nh_i.out
                   have hms93_0 := Ni_a.out
                   have hms93_1 := Ni_b.out
                   have hms93_2 := Ni_c.out
                   have hms93_3 := Ni_d.out
                   have hms93_4 := Ni_e.out
                   have hms93_5 := Ni_f.out
                   have hms93_6 := Ni_g.out
                   have hms93_7 := Ni_h.out
                   have hs94 : w91.cell? ⟨gbi, 2, none⟩ = some (.int .i64 0) := (blk_cell BKi.out 2).trans rfl
                   have hfs94 := blk_frozen BKi.out 2
                   have hns94_0 := Na_i.out
                   have hns94_1 := Nb_i.out
                   have hns94_2 := Nc_i.out
                   have hns94_3 := Nd_i.out
                   have hns94_4 := Ne_i.out
                   have hns94_5 := Nf_i.out
                   have hns94_6 := Ng_i.out
                   have hns94_7 := Nh_i.out
                   have hms94_0 := Ni_a.out
                   have hms94_1 := Ni_b.out
                   have hms94_2 := Ni_c.out
                   have hms94_3 := Ni_d.out
                   have hms94_4 := Ni_e.out
                   have hms94_5 := Ni_f.out
                   have hms94_6 := Ni_g.out
                   have hms94_7 := Ni_h.out
                   have hs95 : w91.cell? ⟨gbi, 3, none⟩ = some (.int .i64 0) := (blk_cell BKi.out 3).trans rfl
                   have hfs95 := blk_frozen BKi.out 3
                   have hns95_0 := Na_i.out
                   have hns95_1 := Nb_i.out
                   have hns95_2 := Nc_i.out
                   have hns95_3 := Nd_i.out
                   have hns95_4 := Ne_i.out
                   have hns95_5 := Nf_i.out
                   have hns95_6 := Ng_i.out
                   have hns95_7 := Nh_i.out
                   have hms95_0 := Ni_a.out
                   have hms95_1 := Ni_b.out
                   have hms95_2 := Ni_c.out
                   have hms95_3 := Ni_d.out
                   have hms95_4 := Ni_e.out
                   have hms95_5 := Ni_f.out
                   have hms95_6 := Ni_g.out
                   have hms95_7 := Ni_h.out
                   refine skip_ (w1 := ?_) (by rfl) rfl ?_ ?_
                   rotate_left
                   ·
                    go_simp
                    rfl
                   refine hK.out _ _ ⟨((cell_far (p := ⟨gbi, _, none⟩) Nh_i.out _).trans (((cell_far (p := ⟨gbi, _, none⟩) Nh_i.out _).trans (((cell_far (p := ⟨gbi, _, none⟩) Nh_i.out _).trans (((cell_far (p := ⟨gbi, _, none⟩) Nh_i.out _).trans (hHeld.1)))))))), ((cell_far (p := ⟨gbi, _, none⟩) Nh_i.out _).trans (((cell_far (p := ⟨gbi, _, none⟩) Nh_i.out _).trans (((cell_far (p := ⟨gbi, _, none⟩) Nh_i.out _).trans (((cell_far (p := ⟨gbi, _, none⟩) Nh_i.out _).trans (hHeld.2.1)))))))), ((cell_far (p := ⟨gbi, _, none⟩) Nh_i.out _).trans (((cell_far (p := ⟨gbi, _, none⟩) Nh_i.out _).trans (((cell_far (p := ⟨gbi, _, none⟩) Nh_i.out _).trans (((cell_far (p := ⟨gbi, _, none⟩) Nh_i.out _).trans (hHeld.2.2.1)))))))), ((cell_far (p := ⟨gbi, _, none⟩) Nh_i.out _).trans (((cell_far (p := ⟨gbi, _, none⟩) Nh_i.out _).trans (((cell_far (p := ⟨gbi, _, none⟩) Nh_i.out _).trans (((cell_far (p := ⟨gbi, _, none⟩) Nh_i.out _).trans (hHeld.2.2.2.1)))))))), ((cell_far (p := ⟨gbi, _, none⟩) (by first | exact Kd.own_blk (Kd.R_ne HO_23.out BKi.out (by decide)) | (rw [add_block]; exact Kd.own_blk (Kd.R_ne HO_23.out BKi.out (by decide))) | (show (Addr.add _ _).block ≠ _; rw [add_block]; exact Kd.own_blk (Kd.R_ne HO_23.out BKi.out (by decide))) | (dsimp only; exact Kd.own_blk (Kd.R_ne HO_23.out BKi.out (by decide)))) _).trans (((cell_far (p := ⟨gbi, _, none⟩) (by first | exact Kd.own_blk (Kd.R_ne HO_23.out BKi.out (by decide)) | (rw [add_block]; exact Kd.own_blk (Kd.R_ne HO_23.out BKi.out (by decide))) | (show (Addr.add _ _).block ≠ _; rw [add_block]; exact Kd.own_blk (Kd.R_ne HO_23.out BKi.out (by decide))) | (dsimp only; exact Kd.own_blk (Kd.R_ne HO_23.out BKi.out (by decide)))) _).trans (((cell_far (p := ⟨gbi, _, none⟩) (by first | exact Kd.own_blk (Kd.R_ne HO_23.out BKi.out (by decide)) | (rw [add_block]; exact Kd.own_blk (Kd.R_ne HO_23.out BKi.out (by decide))) | (show (Addr.add _ _).block ≠ _; rw [add_block]; exact Kd.own_blk (Kd.R_ne HO_23.out BKi.out (by decide))) | (dsimp only; exact Kd.own_blk (Kd.R_ne HO_23.out BKi.out (by decide)))) _).trans (((cell_far (p := ⟨gbi, _, none⟩) (by first | exact Kd.own_blk (Kd.R_ne HO_23.out BKi.out (by decide)) | (rw [add_block]; exact Kd.own_blk (Kd.R_ne HO_23.out BKi.out (by decide))) | (show (Addr.add _ _).block ≠ _; rw [add_block]; exact Kd.own_blk (Kd.R_ne HO_23.out BKi.out (by decide))) | (dsimp only; exact Kd.own_blk (Kd.R_ne HO_23.out BKi.out (by decide)))) _).trans (hHeld.2.2.2.2.1)))))))), ((cell_far (p := ⟨gbi, _, none⟩) (by first | exact Kd.own_blk (Kd.R_ne HO_23.out BKi.out (by decide)) | (rw [add_block]; exact Kd.own_blk (Kd.R_ne HO_23.out BKi.out (by decide))) | (show (Addr.add _ _).block ≠ _; rw [add_block]; exact Kd.own_blk (Kd.R_ne HO_23.out BKi.out (by decide))) | (dsimp only; exact Kd.own_blk (Kd.R_ne HO_23.out BKi.out (by decide)))) _).trans (((cell_far (p := ⟨gbi, _, none⟩) (by first | exact Kd.own_blk (Kd.R_ne HO_23.out BKi.out (by decide)) | (rw [add_block]; exact Kd.own_blk (Kd.R_ne HO_23.out BKi.out (by decide))) | (show (Addr.add _ _).block ≠ _; rw [add_block]; exact Kd.own_blk (Kd.R_ne HO_23.out BKi.out (by decide))) | (dsimp only; exact Kd.own_blk (Kd.R_ne HO_23.out BKi.out (by decide)))) _).trans (((cell_far (p := ⟨gbi, _, none⟩) (by first | exact Kd.own_blk (Kd.R_ne HO_23.out BKi.out (by decide)) | (rw [add_block]; exact Kd.own_blk (Kd.R_ne HO_23.out BKi.out (by decide))) | (show (Addr.add _ _).block ≠ _; rw [add_block]; exact Kd.own_blk (Kd.R_ne HO_23.out BKi.out (by decide))) | (dsimp only; exact Kd.own_blk (Kd.R_ne HO_23.out BKi.out (by decide)))) _).trans (((cell_far (p := ⟨gbi, _, none⟩) (by first | exact Kd.own_blk (Kd.R_ne HO_23.out BKi.out (by decide)) | (rw [add_block]; exact Kd.own_blk (Kd.R_ne HO_23.out BKi.out (by decide))) | (show (Addr.add _ _).block ≠ _; rw [add_block]; exact Kd.own_blk (Kd.R_ne HO_23.out BKi.out (by decide))) | (dsimp only; exact Kd.own_blk (Kd.R_ne HO_23.out BKi.out (by decide)))) _).trans (hHeld.2.2.2.2.2))))))))⟩ (fun hHeld => ?_)
                   clear hK K
                   refine pu_ 11 (some 32) HT_.out ?_
                   refine done_ (done_of HT_.out (by kernel_rfl)) ?_
                   obtain ⟨hnb96, hnc96⟩ := nn_ Ni_a
                   obtain ⟨hnb97, hnc97⟩ := nn_ Ni_b
                   obtain ⟨hnb98, hnc98⟩ := nn_ Ni_c
                   obtain ⟨hnb99, hnc99⟩ := nn_ Ni_d
                   obtain ⟨hnb100, hnc100⟩ := nn_ Ni_e
                   obtain ⟨hnb101, hnc101⟩ := nn_ Ni_f
                   obtain ⟨hnb102, hnc102⟩ := nn_ Ni_g
                   obtain ⟨hnb103, hnc103⟩ := nn_ Ni_h
                   have hcz104_0 := cz_ BKi 0 (.int .i64 0)
                   have hcz104_1 := cz_ BKi 1 (.int .i64 0)
                   have hcz104_2 := cz_ BKi 2 (.int .i64 0)
                   have hcz104_3 := cz_ BKi 3 (.int .i64 0)
                   have hfz104_0 := blk_frozen BKi.out 0
                   have hfz104_1 := blk_frozen BKi.out 1
                   have hfz104_2 := blk_frozen BKi.out 2
                   have hfz104_3 := blk_frozen BKi.out 3
                   obtain ⟨hnb105, hnc105⟩ := nn_ Na_b
                   obtain ⟨hnb106, hnc106⟩ := nn_ Na_c
                   obtain ⟨hnb107, hnc107⟩ := nn_ Na_d
                   obtain ⟨hnb108, hnc108⟩ := nn_ Na_e
                   obtain ⟨hnb109, hnc109⟩ := nn_ Na_f
                   have hcz110_0 := cz_ BKa 0 (.int .i64 a1_0)
                   have hcz110_1 := cz_ BKa 1 (.int .i64 a1_1)
                   have hcz110_2 := cz_ BKa 2 (.int .i64 a1_2)
                   have hcz110_3 := cz_ BKa 3 (.int .i64 a1_3)
                   have hfz110_0 := blk_frozen BKa.out 0
                   have hfz110_1 := blk_frozen BKa.out 1
                   have hfz110_2 := blk_frozen BKa.out 2
                   have hfz110_3 := blk_frozen BKa.out 3
                   try go_wp2
                   go_roundg k3
                   case measure => have := HJ13.out; have := HJ49.out; have := HK3.out; omega
                   case rel => exact ⟨(wrap64 (x136_3 + 1)), (by first | rfl | (simp; done) | (simp [*]; done)), H', ⟨by have := HJ13.out; have := HJ49.out; have := HK3.out; omega⟩, ⟨by (with_reducible repeat (first | apply Kd.R_alloc | apply Kd.R_drewN | apply Kd.R_drew)); exact Kd.R_mono (Kd.R_far (p := ⟨gbi, 3, none⟩) (Kd.R_far (p := ⟨gbi, 2, none⟩) (Kd.R_far (p := ⟨gbi, 1, none⟩) (Kd.R_far (p := ⟨gbi, 0, none⟩) (Kd.R_types HO_19.out BKi.out (by decide)) (fun _ hk => hk.2) (.int .i64 t486)) (fun _ hk => hk.2) (.int .i64 t487)) (fun _ hk => hk.2) (.int .i64 t488)) (fun _ hk => hk.2) (.int .i64 t489)) (fun _ hk => ⟨hk.1.1, ⟨hk.1.2.1, hk.1.2.2.1⟩⟩)⟩, ⟨by (with_reducible repeat (first | apply Kd.R_alloc | apply Kd.R_drewN | apply Kd.R_drew)); exact Kd.R_mono (Kd.R_far (p := ⟨gbi, 3, none⟩) (Kd.R_far (p := ⟨gbi, 2, none⟩) (Kd.R_far (p := ⟨gbi, 1, none⟩) (Kd.R_far (p := ⟨gbi, 0, none⟩) (Kd.R_types HO_23.out BKi.out (by decide)) (fun _ hk => hk.2) (.int .i64 t486)) (fun _ hk => hk.2) (.int .i64 t487)) (fun _ hk => hk.2) (.int .i64 t488)) (fun _ hk => hk.2) (.int .i64 t489)) (fun _ hk => ⟨hk.1.2.1, ⟨hk.1.1, ⟨hk.1.2.2.1, hk.1.2.2.2.1⟩⟩⟩)⟩, ⟨by (with_reducible repeat (first | apply Kd.R_alloc | apply Kd.R_drewN | apply Kd.R_drew)); exact Kd.R_mono (Kd.R_far (p := ⟨gbi, 3, none⟩) (Kd.R_far (p := ⟨gbi, 2, none⟩) (Kd.R_far (p := ⟨gbi, 1, none⟩) (Kd.R_far (p := ⟨gbi, 0, none⟩) (Kd.R_types HO_134.out BKi.out (by decide)) (fun _ hk => hk.2) (.int .i64 t486)) (fun _ hk => hk.2) (.int .i64 t487)) (fun _ hk => hk.2) (.int .i64 t488)) (fun _ hk => hk.2) (.int .i64 t489)) (fun _ hk => ⟨hk.1.1, ⟨hk.1.2.1, hk.1.2.2.1⟩⟩)⟩, bk_ BKa, bk_ BKb, bk_ BKc, bk_ BKd, bk_ BKe, bk_ BKf, hb_ HB⟩
                ·
                 replace c66 := Bool.eq_false_iff.mpr c66
                 subst c66
                 have H1 : (l0 k3 a0 a2 a4 t458 t466 t458 (t458.length : Int) (wrap64 (x136_3 + 1)) a1_0 a1_1 a1_2 a1_3 a3_0 a3_1 a5_0 a5_1 a5_2 a5_3 a6_0 a6_1 a6_2 a6_3 a7_0 a7_1 a7_2 a7_3 a8_0 a8_1) = some r := by rw [if_neg (show ¬ (false = true) by decide)] at H; exact H
                 clear H
                 have H := H1
                 clear H1
                 as_aux_lemma =>
                  have H' := Aside0.mk H
                  clear H
                  have p477 : 0 ≤ (x136_3 : Int) := of_decide_eq_true (by first | (with_reducible assumption) | assumption)
                  have q477 : x136_3 < (t458.length : Int) := of_decide_eq_true (by first | (with_reducible assumption) | assumption)
                  obtain ⟨ad477, e477, hx477_0, hx477_1⟩ := at_T23 (Kd.R_reads' HO_134.out).2.2 x136_3 p477 q477
                  cases e477
                  replace p477 := eq_true p477
                  replace q477 := eq_true q477
                  try go_wp2_with (first | ((with_reducible refine gate_dst (N := 28) rfl ?_); (try (refine gate_guard (by rfl) ?_; dsimp only)); refine be_ (N := 28) (cs := #[.int .i64 0, .int .i64 0]) (t := 23) ?_; intro gbg hg w111 hbox hb; have BKg := Aside0.mk (hbox); have GWg := ge_ HB hg; have GEg := ge_ HB hg; obtain ⟨Na_g, Ng_a⟩ := nq_ BKa hg; obtain ⟨Nb_g, Ng_b⟩ := nq_ BKb hg; obtain ⟨Nc_g, Ng_c⟩ := nq_ BKc hg; obtain ⟨Nd_g, Ng_d⟩ := nq_ BKd hg; obtain ⟨Ne_g, Ng_e⟩ := nq_ BKe hg; obtain ⟨Nf_g, Ng_f⟩ := nq_ BKf hg; replace HO_19 := Aside0.mk (Kd.R_below (Kd.R_elderB (by (with_reducible repeat (first | apply Kd.R_alloc | apply Kd.R_drewN | apply Kd.R_drew)); exact HO_19.out) gbg (Nat.le_of_eq hg.symm)) hb); replace HO_23 := Aside0.mk (Kd.R_below (Kd.R_elderB (by (with_reducible repeat (first | apply Kd.R_alloc | apply Kd.R_drewN | apply Kd.R_drew)); exact HO_23.out) gbg (Nat.le_of_eq hg.symm)) hb); replace HO_134 := Aside0.mk (Kd.R_below (Kd.R_elderB (by (with_reducible repeat (first | apply Kd.R_alloc | apply Kd.R_drewN | apply Kd.R_drew)); exact HO_134.out) gbg (Nat.le_of_eq hg.symm)) hb); replace BKa := bb BKa hb; replace BKb := bb BKb hb; replace BKc := bb BKc hb; replace BKd := bb BKd hb; replace BKe := bb BKe hb; replace BKf := bb BKf hb; replace HB := hs HB hb; clear hb hbox hg; obtain ⟨hnb112, hnc112⟩ := nn_ Ng_a; obtain ⟨hnb113, hnc113⟩ := nn_ Ng_b; obtain ⟨hnb114, hnc114⟩ := nn_ Ng_c; obtain ⟨hnb115, hnc115⟩ := nn_ Ng_d; obtain ⟨hnb116, hnc116⟩ := nn_ Ng_e; obtain ⟨hnb117, hnc117⟩ := nn_ Ng_f; have hcz118_0 := cz_ BKg 0 (.int .i64 0); have hcz118_1 := cz_ BKg 1 (.int .i64 0); have hfz118_0 := blk_frozen BKg.out 0; have hfz118_1 := blk_frozen BKg.out 1) | ((with_reducible refine gate_callee (f := 7) rfl ?_); refine gs_ (some 144) Try.func7 #[.int .i64 a0, .agg #[.int .i64 ((rd_T23 t458 x136_3).f0), .int .i64 ((rd_T23 t458 x136_3).f1)]] ?_; (with_reducible refine (impl_SeenOf.calls k3 a0 ((rd_T23 t458 x136_3).f0) ((rd_T23 t458 x136_3).f1) t479 t480 t481 t482 true _ A62.out).mono ?_); rintro e w119 ⟨rfl, hb⟩; refine ⟨_, rfl, ?_⟩; replace HO_19 := hr_ ⟨(Kd.R_mono (Kd.R_far (p := ⟨gbg, 1, none⟩) (Kd.R_far (p := ⟨gbg, 0, none⟩) (Kd.R_mono HO_19.out (fun k_ hk => (⟨hk, hk.2⟩ : _ ∧ k_ ≠ gbg))) (fun _ hk => hk.2) (.int .i64 ((rd_T23 t458 x136_3).f0))) (fun _ hk => hk.2) (.int .i64 ((rd_T23 t458 x136_3).f1))) (fun _ h_ => h_.1))⟩ hb; replace HO_23 := hr_ ⟨(Kd.R_mono (Kd.R_far (p := ⟨gbg, 1, none⟩) (Kd.R_far (p := ⟨gbg, 0, none⟩) (Kd.R_mono HO_23.out (fun k_ hk => (⟨hk, hk.2⟩ : _ ∧ k_ ≠ gbg))) (fun _ hk => hk.2) (.int .i64 ((rd_T23 t458 x136_3).f0))) (fun _ hk => hk.2) (.int .i64 ((rd_T23 t458 x136_3).f1))) (fun _ h_ => h_.1))⟩ hb; replace HO_134 := hr_ ⟨(Kd.R_mono (Kd.R_far (p := ⟨gbg, 1, none⟩) (Kd.R_far (p := ⟨gbg, 0, none⟩) (Kd.R_mono HO_134.out (fun k_ hk => (⟨hk, hk.2⟩ : _ ∧ k_ ≠ gbg))) (fun _ hk => hk.2) (.int .i64 ((rd_T23 t458 x136_3).f0))) (fun _ hk => hk.2) (.int .i64 ((rd_T23 t458 x136_3).f1))) (fun _ h_ => h_.1))⟩ hb; replace BKa := bb BKa hb; replace BKb := bb BKb hb; replace BKc := bb BKc hb; replace BKd := bb BKd hb; replace BKe := bb BKe hb; replace BKf := bb BKf hb; replace BKg := Aside0.mk (blk_below (g := gbg) (o := .cells #[.int .i64 ((rd_T23 t458 x136_3).f0), .int .i64 ((rd_T23 t458 x136_3).f1)] 23 (0, 0)) (by (with_reducible repeat (first | refine blk_drewN ?_ _ | refine blk_drew ?_ | refine blk_alloc ?_ _)); refine blk_put (cs := #[.int .i64 ((rd_T23 t458 x136_3).f0), .int .i64 0]) ?_ 1 _ rfl; (with_reducible repeat (first | refine blk_drewN ?_ _ | refine blk_drew ?_ | refine blk_alloc ?_ _)); refine blk_put (cs := #[.int .i64 0, .int .i64 0]) ?_ 0 _ rfl; (with_reducible repeat (first | refine blk_drewN ?_ _ | refine blk_drew ?_ | refine blk_alloc ?_ _)); exact BKg.out) hb); replace HB := hs HB hb; (try clear hb); (try clear hb2); (try clear hk); (try clear hi)) | ((with_reducible refine gate_dst (N := 29) rfl ?_); (try (refine gate_guard (by rfl) ?_; dsimp only)); refine be_ (N := 29) (cs := #[.int .i64 0, .int .i64 0, .int .i64 0, .int .i64 0]) (t := 25) ?_; intro gbh hg w120 hbox hb; have BKh := Aside0.mk (hbox); have GWh := ge_ HB hg; have GEh := ge_ HB hg; obtain ⟨Na_h, Nh_a⟩ := nq_ BKa hg; obtain ⟨Nb_h, Nh_b⟩ := nq_ BKb hg; obtain ⟨Nc_h, Nh_c⟩ := nq_ BKc hg; obtain ⟨Nd_h, Nh_d⟩ := nq_ BKd hg; obtain ⟨Ne_h, Nh_e⟩ := nq_ BKe hg; obtain ⟨Nf_h, Nh_f⟩ := nq_ BKf hg; obtain ⟨Ng_h, Nh_g⟩ := nq_ BKg hg; replace HO_19 := hr_ HO_19 hb; replace HO_23 := hr_ HO_23 hb; replace HO_134 := hr_ HO_134 hb; replace BKa := bb BKa hb; replace BKb := bb BKb hb; replace BKc := bb BKc hb; replace BKd := bb BKd hb; replace BKe := bb BKe hb; replace BKf := bb BKf hb; replace BKg := bb BKg hb; replace HB := hs HB hb; clear hb hbox hg; obtain ⟨hnb121, hnc121⟩ := nn_ Nh_a; obtain ⟨hnb122, hnc122⟩ := nn_ Nh_b; obtain ⟨hnb123, hnc123⟩ := nn_ Nh_c; obtain ⟨hnb124, hnc124⟩ := nn_ Nh_d; obtain ⟨hnb125, hnc125⟩ := nn_ Nh_e; obtain ⟨hnb126, hnc126⟩ := nn_ Nh_f; obtain ⟨hnb127, hnc127⟩ := nn_ Nh_g; have hcz128_0 := cz_ BKh 0 (.int .i64 0); have hcz128_1 := cz_ BKh 1 (.int .i64 0); have hcz128_2 := cz_ BKh 2 (.int .i64 0); have hcz128_3 := cz_ BKh 3 (.int .i64 0); have hfz128_0 := blk_frozen BKh.out 0; have hfz128_1 := blk_frozen BKh.out 1; have hfz128_2 := blk_frozen BKh.out 2; have hfz128_3 := blk_frozen BKh.out 3))
                  have n0_ : Aside0 (Kd.R k23 23 ((((w120.setCell ⟨gbh, 0, none⟩ (.int .i64 t479)).setCell ⟨gbh, 1, none⟩ (.int .i64 t480)).setCell ⟨gbh, 2, none⟩ (.int .i64 t481)).setCell ⟨gbh, 3, none⟩ (.int .i64 t482)) w.heap.size (fun k_ => some k_ ≠ (v467 : Value).ownBlock ∧ k_ ≠ gbb ∧ k_ ≠ gbf ∧ k_ ≠ gbg) (.slice (some ad477) t458.length co58) t458) := ⟨by (with_reducible repeat (first | apply Kd.R_alloc | apply Kd.R_drewN | apply Kd.R_drew)); exact Kd.R_mono (Kd.R_far (p := ⟨gbh, 3, none⟩) (Kd.R_far (p := ⟨gbh, 2, none⟩) (Kd.R_far (p := ⟨gbh, 1, none⟩) (Kd.R_far (p := ⟨gbh, 0, none⟩) (Kd.R_types HO_19.out BKh.out (by decide)) (fun _ hk => hk.2) (.int .i64 t479)) (fun _ hk => hk.2) (.int .i64 t480)) (fun _ hk => hk.2) (.int .i64 t481)) (fun _ hk => hk.2) (.int .i64 t482)) (fun _ hk => ⟨hk.1.1.1, ⟨hk.1.1.2.1, ⟨hk.1.1.2.2, hk.1.2⟩⟩⟩)⟩
                  have n1_ : Aside0 (Kd.R k23 23 ((((w120.setCell ⟨gbh, 0, none⟩ (.int .i64 t479)).setCell ⟨gbh, 1, none⟩ (.int .i64 t480)).setCell ⟨gbh, 2, none⟩ (.int .i64 t481)).setCell ⟨gbh, 3, none⟩ (.int .i64 t482)) w.heap.size (fun k_ => some k_ ≠ (.slice (some ad477) t458.length co58 : Value).ownBlock ∧ some k_ ≠ (.slice (some ad477) t458.length co58 : Value).ownBlock ∧ k_ ≠ gbb ∧ k_ ≠ gbf ∧ k_ ≠ gbg) v467 t466) := ⟨by (with_reducible repeat (first | apply Kd.R_alloc | apply Kd.R_drewN | apply Kd.R_drew)); exact Kd.R_mono (Kd.R_far (p := ⟨gbh, 3, none⟩) (Kd.R_far (p := ⟨gbh, 2, none⟩) (Kd.R_far (p := ⟨gbh, 1, none⟩) (Kd.R_far (p := ⟨gbh, 0, none⟩) (Kd.R_types HO_23.out BKh.out (by decide)) (fun _ hk => hk.2) (.int .i64 t479)) (fun _ hk => hk.2) (.int .i64 t480)) (fun _ hk => hk.2) (.int .i64 t481)) (fun _ hk => hk.2) (.int .i64 t482)) (fun _ hk => ⟨hk.1.1.1, ⟨hk.1.1.2.1, ⟨hk.1.1.2.2.1, ⟨hk.1.1.2.2.2, hk.1.2⟩⟩⟩⟩)⟩
                  have n2_ : Aside0 (Kd.R k23 23 ((((w120.setCell ⟨gbh, 0, none⟩ (.int .i64 t479)).setCell ⟨gbh, 1, none⟩ (.int .i64 t480)).setCell ⟨gbh, 2, none⟩ (.int .i64 t481)).setCell ⟨gbh, 3, none⟩ (.int .i64 t482)) w.heap.size (fun k_ => some k_ ≠ (v467 : Value).ownBlock ∧ k_ ≠ gbb ∧ k_ ≠ gbf ∧ k_ ≠ gbg) (.slice (some ad477) t458.length co58) t458) := ⟨by (with_reducible repeat (first | apply Kd.R_alloc | apply Kd.R_drewN | apply Kd.R_drew)); exact Kd.R_mono (Kd.R_far (p := ⟨gbh, 3, none⟩) (Kd.R_far (p := ⟨gbh, 2, none⟩) (Kd.R_far (p := ⟨gbh, 1, none⟩) (Kd.R_far (p := ⟨gbh, 0, none⟩) (Kd.R_types HO_134.out BKh.out (by decide)) (fun _ hk => hk.2) (.int .i64 t479)) (fun _ hk => hk.2) (.int .i64 t480)) (fun _ hk => hk.2) (.int .i64 t481)) (fun _ hk => hk.2) (.int .i64 t482)) (fun _ hk => ⟨hk.1.1.1, ⟨hk.1.1.2.1, ⟨hk.1.1.2.2, hk.1.2⟩⟩⟩)⟩
                  have n3_ : Aside0 (((((w120.setCell ⟨gbh, 0, none⟩ (.int .i64 t479)).setCell ⟨gbh, 1, none⟩ (.int .i64 t480)).setCell ⟨gbh, 2, none⟩ (.int .i64 t481)).setCell ⟨gbh, 3, none⟩ (.int .i64 t482)).heap[gba]? = some (.cells #[.int .i64 a1_0, .int .i64 a1_1, .int .i64 a1_2, .int .i64 a1_3] 25 (0, 0))) := bk_ BKa
                  have n4_ : Aside0 (((((w120.setCell ⟨gbh, 0, none⟩ (.int .i64 t479)).setCell ⟨gbh, 1, none⟩ (.int .i64 t480)).setCell ⟨gbh, 2, none⟩ (.int .i64 t481)).setCell ⟨gbh, 3, none⟩ (.int .i64 t482)).heap[gbb]? = some (.cells #[.int .i64 a3_0, .int .i64 a3_1] 23 (0, 0))) := bk_ BKb
                  have n5_ : Aside0 (((((w120.setCell ⟨gbh, 0, none⟩ (.int .i64 t479)).setCell ⟨gbh, 1, none⟩ (.int .i64 t480)).setCell ⟨gbh, 2, none⟩ (.int .i64 t481)).setCell ⟨gbh, 3, none⟩ (.int .i64 t482)).heap[gbc]? = some (.cells #[.int .i64 a5_0, .int .i64 a5_1, .int .i64 a5_2, .int .i64 a5_3] 25 (0, 0))) := bk_ BKc
                  have n6_ : Aside0 (((((w120.setCell ⟨gbh, 0, none⟩ (.int .i64 t479)).setCell ⟨gbh, 1, none⟩ (.int .i64 t480)).setCell ⟨gbh, 2, none⟩ (.int .i64 t481)).setCell ⟨gbh, 3, none⟩ (.int .i64 t482)).heap[gbd]? = some (.cells #[.int .i64 a6_0, .int .i64 a6_1, .int .i64 a6_2, .int .i64 a6_3] 25 (0, 0))) := bk_ BKd
                  have n7_ : Aside0 (((((w120.setCell ⟨gbh, 0, none⟩ (.int .i64 t479)).setCell ⟨gbh, 1, none⟩ (.int .i64 t480)).setCell ⟨gbh, 2, none⟩ (.int .i64 t481)).setCell ⟨gbh, 3, none⟩ (.int .i64 t482)).heap[gbe]? = some (.cells #[.int .i64 a7_0, .int .i64 a7_1, .int .i64 a7_2, .int .i64 a7_3] 25 (0, 0))) := bk_ BKe
                  have n8_ : Aside0 (((((w120.setCell ⟨gbh, 0, none⟩ (.int .i64 t479)).setCell ⟨gbh, 1, none⟩ (.int .i64 t480)).setCell ⟨gbh, 2, none⟩ (.int .i64 t481)).setCell ⟨gbh, 3, none⟩ (.int .i64 t482)).heap[gbf]? = some (.cells #[.int .i64 a8_0, .int .i64 a8_1] 23 (0, 0))) := bk_ BKf
                  have n9_ : Aside0 (((((w120.setCell ⟨gbh, 0, none⟩ (.int .i64 t479)).setCell ⟨gbh, 1, none⟩ (.int .i64 t480)).setCell ⟨gbh, 2, none⟩ (.int .i64 t481)).setCell ⟨gbh, 3, none⟩ (.int .i64 t482)).heap[gbg]? = some (.cells #[.int .i64 ((rd_T23 t458 x136_3).f0), .int .i64 ((rd_T23 t458 x136_3).f1)] 23 (0, 0))) := bk_ BKg
                  have n10_ : Aside0 (((((w120.setCell ⟨gbh, 0, none⟩ (.int .i64 t479)).setCell ⟨gbh, 1, none⟩ (.int .i64 t480)).setCell ⟨gbh, 2, none⟩ (.int .i64 t481)).setCell ⟨gbh, 3, none⟩ (.int .i64 t482)).heap[gbh]? = some (.cells #[.int .i64 t479, .int .i64 t480, .int .i64 t481, .int .i64 t482] 25 (0, 0))) := ⟨by (with_reducible repeat (first | refine blk_drewN ?_ _ | refine blk_drew ?_ | refine blk_alloc ?_ _)); refine blk_put (cs := #[.int .i64 t479, .int .i64 t480, .int .i64 t481, .int .i64 0]) ?_ 3 _ rfl; (with_reducible repeat (first | refine blk_drewN ?_ _ | refine blk_drew ?_ | refine blk_alloc ?_ _)); refine blk_put (cs := #[.int .i64 t479, .int .i64 t480, .int .i64 0, .int .i64 0]) ?_ 2 _ rfl; (with_reducible repeat (first | refine blk_drewN ?_ _ | refine blk_drew ?_ | refine blk_alloc ?_ _)); refine blk_put (cs := #[.int .i64 t479, .int .i64 0, .int .i64 0, .int .i64 0]) ?_ 1 _ rfl; (with_reducible repeat (first | refine blk_drewN ?_ _ | refine blk_drew ?_ | refine blk_alloc ?_ _)); refine blk_put (cs := #[.int .i64 0, .int .i64 0, .int .i64 0, .int .i64 0]) ?_ 0 _ rfl; (with_reducible repeat (first | refine blk_drewN ?_ _ | refine blk_drew ?_ | refine blk_alloc ?_ _)); exact BKh.out⟩
                  have n11_ : Aside0 (Below w.heap.size w ((((w120.setCell ⟨gbh, 0, none⟩ (.int .i64 t479)).setCell ⟨gbh, 1, none⟩ (.int .i64 t480)).setCell ⟨gbh, 2, none⟩ (.int .i64 t481)).setCell ⟨gbh, 3, none⟩ (.int .i64 t482))) := hb_ HB
                  (try clear HO_19)
                  (try clear HO_23)
                  (try clear HO_134)
                  (try clear BKa)
                  (try clear BKb)
                  (try clear BKc)
                  (try clear BKd)
                  (try clear BKe)
                  (try clear BKf)
                  (try clear BKg)
                  (try clear BKh)
                  (try clear HB)
                  generalize ((((w120.setCell ⟨gbh, 0, none⟩ (.int .i64 t479)).setCell ⟨gbh, 1, none⟩ (.int .i64 t480)).setCell ⟨gbh, 2, none⟩ (.int .i64 t481)).setCell ⟨gbh, 3, none⟩ (.int .i64 t482)) = w129 at n0_ n1_ n2_ n3_ n4_ n5_ n6_ n7_ n8_ n9_ n10_ n11_ ⊢
                  have HO_19 := n0_
                  have HO_23 := n1_
                  have HO_134 := n2_
                  have BKa := n3_
                  have BKb := n4_
                  have BKc := n5_
                  have BKd := n6_
                  have BKe := n7_
                  have BKf := n8_
                  have BKg := n9_
                  have BKh := n10_
                  have HB := n11_
                  clear n0_ n1_ n2_ n3_ n4_ n5_ n6_ n7_ n8_ n9_ n10_ n11_
                  replace HO_19 := Aside0.mk (Kd.R_drew HO_19.out)
                  replace HO_23 := Aside0.mk (Kd.R_drew HO_23.out)
                  replace HO_134 := Aside0.mk (Kd.R_drew HO_134.out)
                  replace BKa := Aside0.mk (blk_drew BKa.out)
                  replace BKb := Aside0.mk (blk_drew BKb.out)
                  replace BKc := Aside0.mk (blk_drew BKc.out)
                  replace BKd := Aside0.mk (blk_drew BKd.out)
                  replace BKe := Aside0.mk (blk_drew BKe.out)
                  replace BKf := Aside0.mk (blk_drew BKf.out)
                  replace BKg := Aside0.mk (blk_drew BKg.out)
                  replace BKh := Aside0.mk (blk_drew BKh.out)
                  replace HB := Aside0.mk (below_drew1 HB.out)
                  obtain ⟨Ao131, co131, eo131⟩ := Kd.R_slice HO_23.out
                  (first | subst eo131 | (injection eo131 with f1_ f2_ f3_; have f4_ := f1_.symm; have f5_ := f3_.symm; clear f1_ f2_ f3_; subst f4_; subst f5_))
                  have p485 : 0 ≤ (x136_3 : Int) := of_decide_eq_true (by first | (with_reducible assumption) | assumption)
                  have q485 : x136_3 < (t466.length : Int) := of_decide_eq_true (by first | (with_reducible assumption) | assumption)
                  obtain ⟨ad485, e485, hx485_0, hx485_1⟩ := at_T23 (Kd.R_reads' HO_23.out).2.2 x136_3 p485 q485
                  cases e485
                  replace p485 := eq_true p485
                  replace q485 := eq_true q485
                  refine start_ (n := 12) (S := fun w' => w'.cell? ⟨gbh, 0, none⟩ = some (.int .i64 t479) ∧ w'.cell? ⟨gbh, 1, none⟩ = some (.int .i64 t480) ∧ w'.cell? ⟨gbh, 2, none⟩ = some (.int .i64 t481) ∧ w'.cell? ⟨gbh, 3, none⟩ = some (.int .i64 t482) ∧ w'.cell? (ad485.add ((x136_3).toNat * 2)) = some (.int .i64 ((rd_T23 t466 x136_3).f0)) ∧ w'.cell? ⟨(ad485.add ((x136_3).toNat * 2)).block, (ad485.add ((x136_3).toNat * 2)).off + 1, none⟩ = some (.int .i64 ((rd_T23 t466 x136_3).f1))) (ds := []) (bl true [0, 12]) (by kernel_rfl) rfl rfl ⟨(blk_cell BKh.out 0).trans rfl, (blk_cell BKh.out 1).trans rfl, (blk_cell BKh.out 2).trans rfl, (blk_cell BKh.out 3).trans rfl, hx485_0, hx485_1⟩ (fun hHeld => ?_); refine with_tabW laws_FnDialsTurnedOfAll.tab14 laws_FnDialsTurnedOfAll.bits14 (fun HT_ HW_ => ?_)
                  generalize w129.drew = w130 at HO_19 HO_23 HO_134 BKa BKb BKc BKd BKe BKf BKg BKh HB hx485_0 hx485_1 hHeld ⊢
                  refine pu_ 1 (some 149) HT_.out ?_
                  refine pu_ 2 (some 150) HT_.out ?_
                  refine pu_ 3 (some 151) HT_.out ?_
                  refine take_ (i := 0) (N := some 148) (v := ?_) (a' := ?_) (bl true [4, 8]) rfl rfl (take_ofW HT_.out HW_.out (by kernel_rfl)) (fun _ _ _ h => h) (Or.inl ⟨by rfl, ?_⟩) hHeld ?_ ?_
                  rotate_left
                  ·
                   rintro w' ⟨s0, s1, s2, s3, s4, s5⟩
                   go_simp
                   with_reducible rfl
                  rotate_left
                  ·
                   simp only [Act.put, s1, s2, s3, i64_w, i32_w]
                   rfl
                  refine take_ (i := 4) (N := some 152) (v := ?_) (a' := ?_) (bl true [5, 7]) rfl rfl (take_ofW HT_.out HW_.out (by kernel_rfl)) (fun _ _ _ h => h) (Or.inl ⟨by rfl, ?_⟩) hHeld ?_ ?_
                  rotate_left
                  ·
                   rintro w' ⟨s0, s1, s2, s3, s4, s5⟩
                   go_simp
                   with_reducible rfl
                  rotate_left
                  ·
                   simp only [Act.put, s1, s2, s3, i64_w, i32_w]
                   rfl
                  refine join_ (σ := Nat) 2 (bl true [10, 2]) (fun s_ => [(153, .tuple #[.agg #[.int .i64 t486, .int .i64 t487, .int .i64 t488, .int .i64 t489], .bool false]), (31, .pointer (some ⟨s_, 0, none⟩)), (147, .tuple #[.agg #[.int .i64 t486, .int .i64 t487, .int .i64 t488, .int .i64 t489], .bool false]), (154, .agg #[.int .i64 t486, .int .i64 t487, .int .i64 t488, .int .i64 t489]), (155, .bool false)]) (fun s_ w' => (w'.cell? ⟨gbh, 0, none⟩ = some (.int .i64 t479) ∧ w'.cell? ⟨gbh, 1, none⟩ = some (.int .i64 t480) ∧ w'.cell? ⟨gbh, 2, none⟩ = some (.int .i64 t481) ∧ w'.cell? ⟨gbh, 3, none⟩ = some (.int .i64 t482) ∧ w'.cell? (ad485.add ((x136_3).toNat * 2)) = some (.int .i64 ((rd_T23 t466 x136_3).f0)) ∧ w'.cell? ⟨(ad485.add ((x136_3).toNat * 2)).block, (ad485.add ((x136_3).toNat * 2)).off + 1, none⟩ = some (.int .i64 ((rd_T23 t466 x136_3).f1))) ∧ (Kd.R k23 23 w' w.heap.size (fun k_ => some k_ ≠ (.slice (some ad485) t466.length co131 : Value).ownBlock ∧ k_ ≠ gbb ∧ k_ ≠ gbf ∧ k_ ≠ gbg) (.slice (some ad477) t458.length co58) t458) ∧ (Kd.R k23 23 w' w.heap.size (fun k_ => some k_ ≠ (.slice (some ad485) t466.length co131 : Value).ownBlock ∧ k_ ≠ gbb ∧ k_ ≠ gbf ∧ k_ ≠ gbg) (.slice (some ad477) t458.length co58) t458) ∧ (Kd.R k23 23 w' w.heap.size (fun k_ => some k_ ≠ (.slice (some ad477) t458.length co58 : Value).ownBlock ∧ some k_ ≠ (.slice (some ad477) t458.length co58 : Value).ownBlock ∧ k_ ≠ gbb ∧ k_ ≠ gbf ∧ k_ ≠ gbg) (.slice (some ad485) t466.length co131) t466) ∧ (w'.heap[gba]? = some (.cells #[.int .i64 a1_0, .int .i64 a1_1, .int .i64 a1_2, .int .i64 a1_3] 25 (0, 0))) ∧ (w'.heap[gbb]? = some (.cells #[.int .i64 a3_0, .int .i64 a3_1] 23 (0, 0))) ∧ (w'.heap[gbc]? = some (.cells #[.int .i64 a5_0, .int .i64 a5_1, .int .i64 a5_2, .int .i64 a5_3] 25 (0, 0))) ∧ (w'.heap[gbd]? = some (.cells #[.int .i64 a6_0, .int .i64 a6_1, .int .i64 a6_2, .int .i64 a6_3] 25 (0, 0))) ∧ (w'.heap[gbe]? = some (.cells #[.int .i64 a7_0, .int .i64 a7_1, .int .i64 a7_2, .int .i64 a7_3] 25 (0, 0))) ∧ (w'.heap[gbf]? = some (.cells #[.int .i64 a8_0, .int .i64 a8_1] 23 (0, 0))) ∧ (w'.heap[gbg]? = some (.cells #[.int .i64 ((rd_T23 t458 x136_3).f0), .int .i64 ((rd_T23 t458 x136_3).f1)] 23 (0, 0))) ∧ (w'.heap[gbh]? = some (.cells #[.int .i64 t479, .int .i64 t480, .int .i64 t481, .int .i64 t482] 25 (0, 0))) ∧ (w'.heap[s_]? = some (.cells #[.int .i64 0, .int .i64 0, .int .i64 0, .int .i64 0] 25 (0, 0))) ∧ (w.heap.size ≤ s_) ∧ (w.heap.size ≤ s_) ∧ (gba ≠ s_) ∧ (s_ ≠ gba) ∧ (gbb ≠ s_) ∧ (s_ ≠ gbb) ∧ (gbc ≠ s_) ∧ (s_ ≠ gbc) ∧ (gbd ≠ s_) ∧ (s_ ≠ gbd) ∧ (gbe ≠ s_) ∧ (s_ ≠ gbe) ∧ (gbf ≠ s_) ∧ (s_ ≠ gbf) ∧ (gbg ≠ s_) ∧ (s_ ≠ gbg) ∧ (gbh ≠ s_) ∧ (s_ ≠ gbh) ∧ (Below w.heap.size w w')) ?_ ?_
                  rotate_left
                  ·
                   intro hCont
                   refine two_ (i := 5) (j := 9) (Ni := some 153) (Nj := some 31) (bl true [6, 6]) (bl true [5, 4, 1, 2]) rfl rfl rfl rfl (two_of HT_.out (by kernel_rfl)) (by decide) (by decide) (fun K hK => ?_) (fun K hK => ?_)
                   ·
                    skip
                    refine goes_ Try.func33 (by kernel_rfl) rfl #[.agg #[.int .i64 t479, .int .i64 t480, .int .i64 t481, .int .i64 t482], .agg #[.int .i64 ((rd_T23 t466 x136_3).f0), .int .i64 ((rd_T23 t466 x136_3).f1)]] (by rfl) rfl rfl (by (try simp only [List.map_toArray, List.map_cons, List.map_nil]); first | done | rfl | (simp only [List.length_drop, List.length_take]; rfl)) ?_
                    with_reducible refine (impl_TurnSeen.calls k3 t479 t480 t481 t482 ((rd_T23 t466 x136_3).f0) ((rd_T23 t466 x136_3).f1) t486 t487 t488 t489 false _ A64.out).mono ?_
                    rintro e w132 ⟨rfl, hb⟩
                    have HS4_ := (hb.cell (World.block_lt_of_cell? _ _ (hHeld.2.2.2.2.1))).trans (hHeld.2.2.2.2.1)
                    have HS5_ := (hb.cell (World.block_lt_of_cell? _ _ (hHeld.2.2.2.2.2))).trans (hHeld.2.2.2.2.2)
                    refine ⟨_, rfl, ?_⟩
                    replace HO_19 := hr_ HO_19 hb
                    replace HO_23 := hr_ HO_23 hb
                    replace HO_134 := hr_ HO_134 hb
                    replace BKa := bb BKa hb
                    replace BKb := bb BKb hb
                    replace BKc := bb BKc hb
                    replace BKd := bb BKd hb
                    replace BKe := bb BKe hb
                    replace BKf := bb BKf hb
                    replace BKg := bb BKg hb
                    replace BKh := bb BKh hb
                    replace HB := hs HB hb
                    (try clear hb)
                    (try clear hb2)
                    (try clear hk)
                    (try clear hi)
                    refine hK.out _ _ ⟨(blk_cell BKh.out 0).trans rfl, (blk_cell BKh.out 1).trans rfl, (blk_cell BKh.out 2).trans rfl, (blk_cell BKh.out 3).trans rfl, HS4_, HS5_⟩ (fun hHeld => ?_)
                    clear hK K
                    refine norm_ (a' := ?_) ?_ ?_
                    rotate_left
                    ·
                     show Act.put _ (some 153) _ = _
                     simp only [Act.put, s1, s2, s3, i64_w, i32_w]
                     rfl
                    refine pu_ 6 (some 147) HT_.out ?_
                    refine pu_ 7 (some 154) HT_.out ?_
                    refine pu_ 8 (some 155) HT_.out ?_
                    refine one_ (i := 9) (N := some 31) (bl true [10, 2]) rfl rfl (one_of HT_.out (by kernel_rfl)) (by decide) (fun K hK => ?_)
                    refine box_step ?hg (N := 31) ?hd (cs := #[.int .i64 0, .int .i64 0, .int .i64 0, .int .i64 0]) (t := 25) ?hr ?_; (case hd => rfl); (case hg => rfl); (case hr => first | (go_simp; done) | (go_simp; rfl))
                    intro gbi hg w133 hbox hb
                    have HS4_ := (hb.cell (World.block_lt_of_cell? _ _ (hHeld.2.2.2.2.1))).trans (hHeld.2.2.2.2.1)
                    have HS5_ := (hb.cell (World.block_lt_of_cell? _ _ (hHeld.2.2.2.2.2))).trans (hHeld.2.2.2.2.2)
                    have BKi := Aside0.mk (hbox)
                    have GWi := ge_ HB hg
                    have GEi := ge_ HB hg
                    obtain ⟨Na_i, Ni_a⟩ := nq_ BKa hg
                    obtain ⟨Nb_i, Ni_b⟩ := nq_ BKb hg
                    obtain ⟨Nc_i, Ni_c⟩ := nq_ BKc hg
                    obtain ⟨Nd_i, Ni_d⟩ := nq_ BKd hg
                    obtain ⟨Ne_i, Ni_e⟩ := nq_ BKe hg
                    obtain ⟨Nf_i, Ni_f⟩ := nq_ BKf hg
                    obtain ⟨Ng_i, Ni_g⟩ := nq_ BKg hg
                    obtain ⟨Nh_i, Ni_h⟩ := nq_ BKh hg
                    replace HO_19 := hr_ HO_19 hb
                    replace HO_23 := hr_ HO_23 hb
                    replace HO_134 := hr_ HO_134 hb
                    replace BKa := bb BKa hb
                    replace BKb := bb BKb hb
                    replace BKc := bb BKc hb
                    replace BKd := bb BKd hb
                    replace BKe := bb BKe hb
                    replace BKf := bb BKf hb
                    replace BKg := bb BKg hb
                    replace BKh := bb BKh hb
                    replace HB := hs HB hb
                    clear hb hbox hg
                    refine hK.out _ _ ⟨(blk_cell BKh.out 0).trans rfl, (blk_cell BKh.out 1).trans rfl, (blk_cell BKh.out 2).trans rfl, (blk_cell BKh.out 3).trans rfl, HS4_, HS5_⟩ (fun hHeld => ?_)
                    clear hK K
                    refine norm_ (a' := ?_) ?_ ?_
                    rotate_left
                    ·
                     show Act.put _ (some 31) _ = _
                     simp only [Act.put, s1, s2, s3, i64_w, i32_w]
                     rfl
                    exact norm_ (by simp only [putAll, Act.put, s1, s2, s3]) (hCont (gbi) _ ⟨hHeld, (by (with_reducible repeat (first | apply Kd.R_alloc | apply Kd.R_drewN | apply Kd.R_drew)); exact HO_134.out), (by (with_reducible repeat (first | apply Kd.R_alloc | apply Kd.R_drewN | apply Kd.R_drew)); exact HO_19.out), (by (with_reducible repeat (first | apply Kd.R_alloc | apply Kd.R_drewN | apply Kd.R_drew)); exact Kd.R_mono HO_23.out (fun _ hk => ⟨hk.2.1, ⟨hk.1, ⟨hk.2.2.1, ⟨hk.2.2.2.1, hk.2.2.2.2⟩⟩⟩⟩)), (by (with_reducible repeat (first | refine blk_drewN ?_ _ | refine blk_drew ?_ | refine blk_alloc ?_ _)); exact BKa.out), (by (with_reducible repeat (first | refine blk_drewN ?_ _ | refine blk_drew ?_ | refine blk_alloc ?_ _)); exact BKb.out), (by (with_reducible repeat (first | refine blk_drewN ?_ _ | refine blk_drew ?_ | refine blk_alloc ?_ _)); exact BKc.out), (by (with_reducible repeat (first | refine blk_drewN ?_ _ | refine blk_drew ?_ | refine blk_alloc ?_ _)); exact BKd.out), (by (with_reducible repeat (first | refine blk_drewN ?_ _ | refine blk_drew ?_ | refine blk_alloc ?_ _)); exact BKe.out), (by (with_reducible repeat (first | refine blk_drewN ?_ _ | refine blk_drew ?_ | refine blk_alloc ?_ _)); exact BKf.out), (by (with_reducible repeat (first | refine blk_drewN ?_ _ | refine blk_drew ?_ | refine blk_alloc ?_ _)); exact BKg.out), (by (with_reducible repeat (first | refine blk_drewN ?_ _ | refine blk_drew ?_ | refine blk_alloc ?_ _)); exact BKh.out), (by (with_reducible repeat (first | refine blk_drewN ?_ _ | refine blk_drew ?_ | refine blk_alloc ?_ _)); exact BKi.out), GWi.out, GEi.out, Na_i.out, Ni_a.out, Nb_i.out, Ni_b.out, Nc_i.out, Ni_c.out, Nd_i.out, Ni_d.out, Ne_i.out, Ni_e.out, Nf_i.out, Ni_f.out, Ng_i.out, Ni_g.out, Nh_i.out, Ni_h.out, (ho_ HB)⟩)
                   ·
                    skip
                    refine box_step ?hg (N := 31) ?hd (cs := #[.int .i64 0, .int .i64 0, .int .i64 0, .int .i64 0]) (t := 25) ?hr ?_; (case hd => rfl); (case hg => rfl); (case hr => first | (go_simp; done) | (go_simp; rfl))
                    intro gbi hg w132 hbox hb
                    have HS4_ := (hb.cell (World.block_lt_of_cell? _ _ (hHeld.2.2.2.2.1))).trans (hHeld.2.2.2.2.1)
                    have HS5_ := (hb.cell (World.block_lt_of_cell? _ _ (hHeld.2.2.2.2.2))).trans (hHeld.2.2.2.2.2)
                    have BKi := Aside0.mk (hbox)
                    have GWi := ge_ HB hg
                    have GEi := ge_ HB hg
                    obtain ⟨Na_i, Ni_a⟩ := nq_ BKa hg
                    obtain ⟨Nb_i, Ni_b⟩ := nq_ BKb hg
                    obtain ⟨Nc_i, Ni_c⟩ := nq_ BKc hg
                    obtain ⟨Nd_i, Ni_d⟩ := nq_ BKd hg
                    obtain ⟨Ne_i, Ni_e⟩ := nq_ BKe hg
                    obtain ⟨Nf_i, Ni_f⟩ := nq_ BKf hg
                    obtain ⟨Ng_i, Ni_g⟩ := nq_ BKg hg
                    obtain ⟨Nh_i, Ni_h⟩ := nq_ BKh hg
                    replace HO_19 := hr_ HO_19 hb
                    replace HO_23 := hr_ HO_23 hb
                    replace HO_134 := hr_ HO_134 hb
                    replace BKa := bb BKa hb
                    replace BKb := bb BKb hb
                    replace BKc := bb BKc hb
                    replace BKd := bb BKd hb
                    replace BKe := bb BKe hb
                    replace BKf := bb BKf hb
                    replace BKg := bb BKg hb
                    replace BKh := bb BKh hb
                    replace HB := hs HB hb
                    clear hb hbox hg
                    refine hK.out _ _ ⟨(blk_cell BKh.out 0).trans rfl, (blk_cell BKh.out 1).trans rfl, (blk_cell BKh.out 2).trans rfl, (blk_cell BKh.out 3).trans rfl, HS4_, HS5_⟩ (fun hHeld => ?_)
                    clear hK K
                    refine norm_ (a' := ?_) ?_ ?_
                    rotate_left
                    ·
                     show Act.put _ (some 31) _ = _
                     simp only [Act.put, s1, s2, s3, i64_w, i32_w]
                     rfl
                    refine one_ (i := 5) (N := some 153) (bl true [6, 3, 1, 2]) rfl rfl (one_of HT_.out (by kernel_rfl)) (by decide) (fun K hK => ?_)
                    refine goes_ Try.func33 (by kernel_rfl) rfl #[.agg #[.int .i64 t479, .int .i64 t480, .int .i64 t481, .int .i64 t482], .agg #[.int .i64 ((rd_T23 t466 x136_3).f0), .int .i64 ((rd_T23 t466 x136_3).f1)]] (by rfl) rfl rfl (by (try simp only [List.map_toArray, List.map_cons, List.map_nil]); first | done | rfl | (simp only [List.length_drop, List.length_take]; rfl)) ?_
                    with_reducible refine (impl_TurnSeen.calls k3 t479 t480 t481 t482 ((rd_T23 t466 x136_3).f0) ((rd_T23 t466 x136_3).f1) t486 t487 t488 t489 false _ A64.out).mono ?_
                    rintro e w133 ⟨rfl, hb⟩
                    have HS4_ := (hb.cell (World.block_lt_of_cell? _ _ (hHeld.2.2.2.2.1))).trans (hHeld.2.2.2.2.1)
                    have HS5_ := (hb.cell (World.block_lt_of_cell? _ _ (hHeld.2.2.2.2.2))).trans (hHeld.2.2.2.2.2)
                    refine ⟨_, rfl, ?_⟩
                    replace HO_19 := hr_ HO_19 hb
                    replace HO_23 := hr_ HO_23 hb
                    replace HO_134 := hr_ HO_134 hb
                    replace BKa := bb BKa hb
                    replace BKb := bb BKb hb
                    replace BKc := bb BKc hb
                    replace BKd := bb BKd hb
                    replace BKe := bb BKe hb
                    replace BKf := bb BKf hb
                    replace BKg := bb BKg hb
                    replace BKh := bb BKh hb
                    replace BKi := bb BKi hb
                    replace HB := hs HB hb
                    (try clear hb)
                    (try clear hb2)
                    (try clear hk)
                    (try clear hi)
                    refine hK.out _ _ ⟨(blk_cell BKh.out 0).trans rfl, (blk_cell BKh.out 1).trans rfl, (blk_cell BKh.out 2).trans rfl, (blk_cell BKh.out 3).trans rfl, HS4_, HS5_⟩ (fun hHeld => ?_)
                    clear hK K
                    refine norm_ (a' := ?_) ?_ ?_
                    rotate_left
                    ·
                     show Act.put _ (some 153) _ = _
                     simp only [Act.put, s1, s2, s3, i64_w, i32_w]
                     rfl
                    refine pu_ 6 (some 147) HT_.out ?_
                    refine pu_ 7 (some 154) HT_.out ?_
                    refine pu_ 8 (some 155) HT_.out ?_
                    exact norm_ (by simp only [putAll, Act.put, s1, s2, s3]) (hCont (gbi) _ ⟨hHeld, (by (with_reducible repeat (first | apply Kd.R_alloc | apply Kd.R_drewN | apply Kd.R_drew)); exact HO_134.out), (by (with_reducible repeat (first | apply Kd.R_alloc | apply Kd.R_drewN | apply Kd.R_drew)); exact HO_19.out), (by (with_reducible repeat (first | apply Kd.R_alloc | apply Kd.R_drewN | apply Kd.R_drew)); exact Kd.R_mono HO_23.out (fun _ hk => ⟨hk.2.1, ⟨hk.1, ⟨hk.2.2.1, ⟨hk.2.2.2.1, hk.2.2.2.2⟩⟩⟩⟩)), (by (with_reducible repeat (first | refine blk_drewN ?_ _ | refine blk_drew ?_ | refine blk_alloc ?_ _)); exact BKa.out), (by (with_reducible repeat (first | refine blk_drewN ?_ _ | refine blk_drew ?_ | refine blk_alloc ?_ _)); exact BKb.out), (by (with_reducible repeat (first | refine blk_drewN ?_ _ | refine blk_drew ?_ | refine blk_alloc ?_ _)); exact BKc.out), (by (with_reducible repeat (first | refine blk_drewN ?_ _ | refine blk_drew ?_ | refine blk_alloc ?_ _)); exact BKd.out), (by (with_reducible repeat (first | refine blk_drewN ?_ _ | refine blk_drew ?_ | refine blk_alloc ?_ _)); exact BKe.out), (by (with_reducible repeat (first | refine blk_drewN ?_ _ | refine blk_drew ?_ | refine blk_alloc ?_ _)); exact BKf.out), (by (with_reducible repeat (first | refine blk_drewN ?_ _ | refine blk_drew ?_ | refine blk_alloc ?_ _)); exact BKg.out), (by (with_reducible repeat (first | refine blk_drewN ?_ _ | refine blk_drew ?_ | refine blk_alloc ?_ _)); exact BKh.out), (by (with_reducible repeat (first | refine blk_drewN ?_ _ | refine blk_drew ?_ | refine blk_alloc ?_ _)); exact BKi.out), GWi.out, GEi.out, Na_i.out, Ni_a.out, Nb_i.out, Ni_b.out, Nc_i.out, Ni_c.out, Nd_i.out, Ni_d.out, Ne_i.out, Ni_e.out, Nf_i.out, Ni_f.out, Ng_i.out, Ni_g.out, Nh_i.out, Ni_h.out, (ho_ HB)⟩)
                  rintro gbi w134 ⟨hS_, h0_, h1_, h2_, h3_, h4_, h5_, h6_, h7_, h8_, h9_, h10_, h11_, h12_, h13_, h14_, h15_, h16_, h17_, h18_, h19_, h20_, h21_, h22_, h23_, h24_, h25_, h26_, h27_, h28_, h29_, h30_⟩
                  have n0_ : Aside0 (Kd.R k23 23 w134 w.heap.size (fun k_ => some k_ ≠ (.slice (some ad485) t466.length co131 : Value).ownBlock ∧ k_ ≠ gbb ∧ k_ ≠ gbf ∧ k_ ≠ gbg) (.slice (some ad477) t458.length co58) t458) := ⟨h0_⟩
                  have n1_ : Aside0 (Kd.R k23 23 w134 w.heap.size (fun k_ => some k_ ≠ (.slice (some ad485) t466.length co131 : Value).ownBlock ∧ k_ ≠ gbb ∧ k_ ≠ gbf ∧ k_ ≠ gbg) (.slice (some ad477) t458.length co58) t458) := ⟨h1_⟩
                  have n2_ : Aside0 (Kd.R k23 23 w134 w.heap.size (fun k_ => some k_ ≠ (.slice (some ad477) t458.length co58 : Value).ownBlock ∧ some k_ ≠ (.slice (some ad477) t458.length co58 : Value).ownBlock ∧ k_ ≠ gbb ∧ k_ ≠ gbf ∧ k_ ≠ gbg) (.slice (some ad485) t466.length co131) t466) := ⟨h2_⟩
                  have n3_ : Aside0 (w134.heap[gba]? = some (.cells #[.int .i64 a1_0, .int .i64 a1_1, .int .i64 a1_2, .int .i64 a1_3] 25 (0, 0))) := ⟨h3_⟩
                  have n4_ : Aside0 (w134.heap[gbb]? = some (.cells #[.int .i64 a3_0, .int .i64 a3_1] 23 (0, 0))) := ⟨h4_⟩
                  have n5_ : Aside0 (w134.heap[gbc]? = some (.cells #[.int .i64 a5_0, .int .i64 a5_1, .int .i64 a5_2, .int .i64 a5_3] 25 (0, 0))) := ⟨h5_⟩
                  have n6_ : Aside0 (w134.heap[gbd]? = some (.cells #[.int .i64 a6_0, .int .i64 a6_1, .int .i64 a6_2, .int .i64 a6_3] 25 (0, 0))) := ⟨h6_⟩
                  have n7_ : Aside0 (w134.heap[gbe]? = some (.cells #[.int .i64 a7_0, .int .i64 a7_1, .int .i64 a7_2, .int .i64 a7_3] 25 (0, 0))) := ⟨h7_⟩
                  have n8_ : Aside0 (w134.heap[gbf]? = some (.cells #[.int .i64 a8_0, .int .i64 a8_1] 23 (0, 0))) := ⟨h8_⟩
                  have n9_ : Aside0 (w134.heap[gbg]? = some (.cells #[.int .i64 ((rd_T23 t458 x136_3).f0), .int .i64 ((rd_T23 t458 x136_3).f1)] 23 (0, 0))) := ⟨h9_⟩
                  have n10_ : Aside0 (w134.heap[gbh]? = some (.cells #[.int .i64 t479, .int .i64 t480, .int .i64 t481, .int .i64 t482] 25 (0, 0))) := ⟨h10_⟩
                  have n11_ : Aside0 (w134.heap[gbi]? = some (.cells #[.int .i64 0, .int .i64 0, .int .i64 0, .int .i64 0] 25 (0, 0))) := ⟨h11_⟩
                  have n12_ : Aside0 (w.heap.size ≤ gbi) := ⟨h12_⟩
                  have n13_ : Aside0 (w.heap.size ≤ gbi) := ⟨h13_⟩
                  have n14_ : Aside0 (gba ≠ gbi) := ⟨h14_⟩
                  have n15_ : Aside0 (gbi ≠ gba) := ⟨h15_⟩
                  have n16_ : Aside0 (gbb ≠ gbi) := ⟨h16_⟩
                  have n17_ : Aside0 (gbi ≠ gbb) := ⟨h17_⟩
                  have n18_ : Aside0 (gbc ≠ gbi) := ⟨h18_⟩
                  have n19_ : Aside0 (gbi ≠ gbc) := ⟨h19_⟩
                  have n20_ : Aside0 (gbd ≠ gbi) := ⟨h20_⟩
                  have n21_ : Aside0 (gbi ≠ gbd) := ⟨h21_⟩
                  have n22_ : Aside0 (gbe ≠ gbi) := ⟨h22_⟩
                  have n23_ : Aside0 (gbi ≠ gbe) := ⟨h23_⟩
                  have n24_ : Aside0 (gbf ≠ gbi) := ⟨h24_⟩
                  have n25_ : Aside0 (gbi ≠ gbf) := ⟨h25_⟩
                  have n26_ : Aside0 (gbg ≠ gbi) := ⟨h26_⟩
                  have n27_ : Aside0 (gbi ≠ gbg) := ⟨h27_⟩
                  have n28_ : Aside0 (gbh ≠ gbi) := ⟨h28_⟩
                  have n29_ : Aside0 (gbi ≠ gbh) := ⟨h29_⟩
                  have n30_ : Aside0 (Below w.heap.size w w134) := ⟨h30_⟩
                  clear HO_19
                  clear HO_23
                  clear HO_134
                  clear BKa
                  clear BKb
                  clear BKc
                  clear BKd
                  clear BKe
                  clear BKf
                  clear BKg
                  clear BKh
                  clear HB
                  clear h0_ h1_ h2_ h3_ h4_ h5_ h6_ h7_ h8_ h9_ h10_ h11_ h12_ h13_ h14_ h15_ h16_ h17_ h18_ h19_ h20_ h21_ h22_ h23_ h24_ h25_ h26_ h27_ h28_ h29_ h30_
                  have HO_134 := n0_
                  have HO_19 := n1_
                  have HO_23 := n2_
                  have BKa := n3_
                  have BKb := n4_
                  have BKc := n5_
                  have BKd := n6_
                  have BKe := n7_
                  have BKf := n8_
                  have BKg := n9_
                  have BKh := n10_
                  have BKi := n11_
                  have GWi := n12_
                  have GEi := n13_
                  have Na_i := n14_
                  have Ni_a := n15_
                  have Nb_i := n16_
                  have Ni_b := n17_
                  have Nc_i := n18_
                  have Ni_c := n19_
                  have Nd_i := n20_
                  have Ni_d := n21_
                  have Ne_i := n22_
                  have Ni_e := n23_
                  have Nf_i := n24_
                  have Ni_f := n25_
                  have Ng_i := n26_
                  have Ni_g := n27_
                  have Nh_i := n28_
                  have Ni_h := n29_
                  have HB := n30_
                  clear n0_ n1_ n2_ n3_ n4_ n5_ n6_ n7_ n8_ n9_ n10_ n11_ n12_ n13_ n14_ n15_ n16_ n17_ n18_ n19_ n20_ n21_ n22_ n23_ n24_ n25_ n26_ n27_ n28_ n29_ n30_
                  have hHeld : w134.cell? ⟨gbh, 0, none⟩ = some (.int .i64 t479) ∧ w134.cell? ⟨gbh, 1, none⟩ = some (.int .i64 t480) ∧ w134.cell? ⟨gbh, 2, none⟩ = some (.int .i64 t481) ∧ w134.cell? ⟨gbh, 3, none⟩ = some (.int .i64 t482) ∧ w134.cell? (ad485.add ((x136_3).toNat * 2)) = some (.int .i64 ((rd_T23 t466 x136_3).f0)) ∧ w134.cell? ⟨(ad485.add ((x136_3).toNat * 2)).block, (ad485.add ((x136_3).toNat * 2)).off + 1, none⟩ = some (.int .i64 ((rd_T23 t466 x136_3).f1)) := hS_
                  refine norm_ (a' := ?_) ?_ ?_
                  rotate_left
                  ·
                   simp only [putAll, Act.put, s1, s2, s3]
                   rfl
                  refine one_ (i := 10) (N := none) (bl true [11, 1]) rfl rfl (one_of HT_.out (by kernel_rfl)) (by decide) (fun K hK => ?_)
                  have hs135 : w134.cell? ⟨gbi, 0, none⟩ = some (.int .i64 0) := (blk_cell BKi.out 0).trans rfl
                  have hfs135 := blk_frozen BKi.out 0
                  have hns135_0 := Na_i.out
                  have hns135_1 := Nb_i.out
                  have hns135_2 := Nc_i.out
                  have hns135_3 := Nd_i.out
                  have hns135_4 := Ne_i.out
                  have hns135_5 := Nf_i.out
                  have hns135_6 := Ng_i.out
                  have hns135_7 := Nh_i.out
                  have hms135_0 := Ni_a.out
                  have hms135_1 := Ni_b.out
                  have hms135_2 := Ni_c.out
                  have hms135_3 := Ni_d.out
                  have hms135_4 := Ni_e.out
                  have hms135_5 := Ni_f.out
                  have hms135_6 := Ni_g.out
                  have hms135_7 := Ni_h.out
                  have hs136 : w134.cell? ⟨gbi, 1, none⟩ = some (.int .i64 0) := (blk_cell BKi.out 1).trans rfl
                  have hfs136 := blk_frozen BKi.out 1
                  have hns136_0 := Na_i.out
                  have hns136_1 := Nb_i.out
                  have hns136_2 := Nc_i.out
                  have hns136_3 := Nd_i.out
                  have hns136_4 := Ne_i.out
                  have hns136_5 := Nf_i.out
                  have hns136_6 := Ng_i.out
                  have hns136_7 := Nh_i.out
                  have hms136_0 := Ni_a.out
                  have hms136_1 := Ni_b.out
                  have hms136_2 := Ni_c.out
                  have hms136_3 := Ni_d.out
                  have hms136_4 := Ni_e.out
                  have hms136_5 := Ni_f.out
                  have hms136_6 := Ni_g.out
                  have hms136_7 := Ni_h.out
                  have hs137 : w134.cell? ⟨gbi, 2, none⟩ = some (.int .i64 0) := (blk_cell BKi.out 2).trans rfl
                  have hfs137 := blk_frozen BKi.out 2
                  have hns137_0 := Na_i.out
                  have hns137_1 := Nb_i.out
                  have hns137_2 := Nc_i.out
                  have hns137_3 := Nd_i.out
                  have hns137_4 := Ne_i.out
                  have hns137_5 := Nf_i.out
                  have hns137_6 := Ng_i.out
                  have hns137_7 := Nh_i.out
                  have hms137_0 := Ni_a.out
                  have hms137_1 := Ni_b.out
                  have hms137_2 := Ni_c.out
                  have hms137_3 := Ni_d.out
                  have hms137_4 := Ni_e.out
                  have hms137_5 := Ni_f.out
                  have hms137_6 := Ni_g.out
                  have hms137_7 := Ni_h.out
                  have hs138 : w134.cell? ⟨gbi, 3, none⟩ = some (.int .i64 0) := (blk_cell BKi.out 3).trans rfl
                  have hfs138 := blk_frozen BKi.out 3
                  have hns138_0 := Na_i.out
                  have hns138_1 := Nb_i.out
                  have hns138_2 := Nc_i.out
                  have hns138_3 := Nd_i.out
                  have hns138_4 := Ne_i.out
                  have hns138_5 := Nf_i.out
                  have hns138_6 := Ng_i.out
                  have hns138_7 := Nh_i.out
                  have hms138_0 := Ni_a.out
                  have hms138_1 := Ni_b.out
                  have hms138_2 := Ni_c.out
                  have hms138_3 := Ni_d.out
                  have hms138_4 := Ni_e.out
                  have hms138_5 := Ni_f.out
                  have hms138_6 := Ni_g.out
                  have hms138_7 := Ni_h.out
                  refine skip_ (w1 := ?_) (by rfl) rfl ?_ ?_
                  rotate_left
                  ·
                   go_simp
                   rfl
                  refine hK.out _ _ ⟨((cell_far (p := ⟨gbi, _, none⟩) Nh_i.out _).trans (((cell_far (p := ⟨gbi, _, none⟩) Nh_i.out _).trans (((cell_far (p := ⟨gbi, _, none⟩) Nh_i.out _).trans (((cell_far (p := ⟨gbi, _, none⟩) Nh_i.out _).trans (hHeld.1)))))))), ((cell_far (p := ⟨gbi, _, none⟩) Nh_i.out _).trans (((cell_far (p := ⟨gbi, _, none⟩) Nh_i.out _).trans (((cell_far (p := ⟨gbi, _, none⟩) Nh_i.out _).trans (((cell_far (p := ⟨gbi, _, none⟩) Nh_i.out _).trans (hHeld.2.1)))))))), ((cell_far (p := ⟨gbi, _, none⟩) Nh_i.out _).trans (((cell_far (p := ⟨gbi, _, none⟩) Nh_i.out _).trans (((cell_far (p := ⟨gbi, _, none⟩) Nh_i.out _).trans (((cell_far (p := ⟨gbi, _, none⟩) Nh_i.out _).trans (hHeld.2.2.1)))))))), ((cell_far (p := ⟨gbi, _, none⟩) Nh_i.out _).trans (((cell_far (p := ⟨gbi, _, none⟩) Nh_i.out _).trans (((cell_far (p := ⟨gbi, _, none⟩) Nh_i.out _).trans (((cell_far (p := ⟨gbi, _, none⟩) Nh_i.out _).trans (hHeld.2.2.2.1)))))))), ((cell_far (p := ⟨gbi, _, none⟩) (by first | exact Kd.own_blk (Kd.R_ne HO_23.out BKi.out (by decide)) | (rw [add_block]; exact Kd.own_blk (Kd.R_ne HO_23.out BKi.out (by decide))) | (show (Addr.add _ _).block ≠ _; rw [add_block]; exact Kd.own_blk (Kd.R_ne HO_23.out BKi.out (by decide))) | (dsimp only; exact Kd.own_blk (Kd.R_ne HO_23.out BKi.out (by decide)))) _).trans (((cell_far (p := ⟨gbi, _, none⟩) (by first | exact Kd.own_blk (Kd.R_ne HO_23.out BKi.out (by decide)) | (rw [add_block]; exact Kd.own_blk (Kd.R_ne HO_23.out BKi.out (by decide))) | (show (Addr.add _ _).block ≠ _; rw [add_block]; exact Kd.own_blk (Kd.R_ne HO_23.out BKi.out (by decide))) | (dsimp only; exact Kd.own_blk (Kd.R_ne HO_23.out BKi.out (by decide)))) _).trans (((cell_far (p := ⟨gbi, _, none⟩) (by first | exact Kd.own_blk (Kd.R_ne HO_23.out BKi.out (by decide)) | (rw [add_block]; exact Kd.own_blk (Kd.R_ne HO_23.out BKi.out (by decide))) | (show (Addr.add _ _).block ≠ _; rw [add_block]; exact Kd.own_blk (Kd.R_ne HO_23.out BKi.out (by decide))) | (dsimp only; exact Kd.own_blk (Kd.R_ne HO_23.out BKi.out (by decide)))) _).trans (((cell_far (p := ⟨gbi, _, none⟩) (by first | exact Kd.own_blk (Kd.R_ne HO_23.out BKi.out (by decide)) | (rw [add_block]; exact Kd.own_blk (Kd.R_ne HO_23.out BKi.out (by decide))) | (show (Addr.add _ _).block ≠ _; rw [add_block]; exact Kd.own_blk (Kd.R_ne HO_23.out BKi.out (by decide))) | (dsimp only; exact Kd.own_blk (Kd.R_ne HO_23.out BKi.out (by decide)))) _).trans (hHeld.2.2.2.2.1)))))))), ((cell_far (p := ⟨gbi, _, none⟩) (by first | exact Kd.own_blk (Kd.R_ne HO_23.out BKi.out (by decide)) | (rw [add_block]; exact Kd.own_blk (Kd.R_ne HO_23.out BKi.out (by decide))) | (show (Addr.add _ _).block ≠ _; rw [add_block]; exact Kd.own_blk (Kd.R_ne HO_23.out BKi.out (by decide))) | (dsimp only; exact Kd.own_blk (Kd.R_ne HO_23.out BKi.out (by decide)))) _).trans (((cell_far (p := ⟨gbi, _, none⟩) (by first | exact Kd.own_blk (Kd.R_ne HO_23.out BKi.out (by decide)) | (rw [add_block]; exact Kd.own_blk (Kd.R_ne HO_23.out BKi.out (by decide))) | (show (Addr.add _ _).block ≠ _; rw [add_block]; exact Kd.own_blk (Kd.R_ne HO_23.out BKi.out (by decide))) | (dsimp only; exact Kd.own_blk (Kd.R_ne HO_23.out BKi.out (by decide)))) _).trans (((cell_far (p := ⟨gbi, _, none⟩) (by first | exact Kd.own_blk (Kd.R_ne HO_23.out BKi.out (by decide)) | (rw [add_block]; exact Kd.own_blk (Kd.R_ne HO_23.out BKi.out (by decide))) | (show (Addr.add _ _).block ≠ _; rw [add_block]; exact Kd.own_blk (Kd.R_ne HO_23.out BKi.out (by decide))) | (dsimp only; exact Kd.own_blk (Kd.R_ne HO_23.out BKi.out (by decide)))) _).trans (((cell_far (p := ⟨gbi, _, none⟩) (by first | exact Kd.own_blk (Kd.R_ne HO_23.out BKi.out (by decide)) | (rw [add_block]; exact Kd.own_blk (Kd.R_ne HO_23.out BKi.out (by decide))) | (show (Addr.add _ _).block ≠ _; rw [add_block]; exact Kd.own_blk (Kd.R_ne HO_23.out BKi.out (by decide))) | (dsimp only; exact Kd.own_blk (Kd.R_ne HO_23.out BKi.out (by decide)))) _).trans (hHeld.2.2.2.2.2))))))))⟩ (fun hHeld => ?_)
                  clear hK K
                  refine pu_ 11 (some 32) HT_.out ?_
                  refine done_ (done_of HT_.out (by kernel_rfl)) ?_
                  try go_wp2
                  go_roundg k3
                  case measure => have := HJ13.out; have := HJ49.out; have := HK3.out; omega
                  case rel => exact ⟨(wrap64 (x136_3 + 1)), (by first | rfl | (simp; done) | (simp [*]; done)), H', ⟨by have := HJ13.out; have := HJ49.out; have := HK3.out; omega⟩, ⟨by (with_reducible repeat (first | apply Kd.R_alloc | apply Kd.R_drewN | apply Kd.R_drew)); exact Kd.R_mono (Kd.R_far (p := ⟨gbi, 3, none⟩) (Kd.R_far (p := ⟨gbi, 2, none⟩) (Kd.R_far (p := ⟨gbi, 1, none⟩) (Kd.R_far (p := ⟨gbi, 0, none⟩) (Kd.R_types HO_19.out BKi.out (by decide)) (fun _ hk => hk.2) (.int .i64 t486)) (fun _ hk => hk.2) (.int .i64 t487)) (fun _ hk => hk.2) (.int .i64 t488)) (fun _ hk => hk.2) (.int .i64 t489)) (fun _ hk => ⟨hk.1.1, ⟨hk.1.2.1, hk.1.2.2.1⟩⟩)⟩, ⟨by (with_reducible repeat (first | apply Kd.R_alloc | apply Kd.R_drewN | apply Kd.R_drew)); exact Kd.R_mono (Kd.R_far (p := ⟨gbi, 3, none⟩) (Kd.R_far (p := ⟨gbi, 2, none⟩) (Kd.R_far (p := ⟨gbi, 1, none⟩) (Kd.R_far (p := ⟨gbi, 0, none⟩) (Kd.R_types HO_23.out BKi.out (by decide)) (fun _ hk => hk.2) (.int .i64 t486)) (fun _ hk => hk.2) (.int .i64 t487)) (fun _ hk => hk.2) (.int .i64 t488)) (fun _ hk => hk.2) (.int .i64 t489)) (fun _ hk => ⟨hk.1.2.1, ⟨hk.1.1, ⟨hk.1.2.2.1, hk.1.2.2.2.1⟩⟩⟩)⟩, ⟨by (with_reducible repeat (first | apply Kd.R_alloc | apply Kd.R_drewN | apply Kd.R_drew)); exact Kd.R_mono (Kd.R_far (p := ⟨gbi, 3, none⟩) (Kd.R_far (p := ⟨gbi, 2, none⟩) (Kd.R_far (p := ⟨gbi, 1, none⟩) (Kd.R_far (p := ⟨gbi, 0, none⟩) (Kd.R_types HO_134.out BKi.out (by decide)) (fun _ hk => hk.2) (.int .i64 t486)) (fun _ hk => hk.2) (.int .i64 t487)) (fun _ hk => hk.2) (.int .i64 t488)) (fun _ hk => hk.2) (.int .i64 t489)) (fun _ hk => ⟨hk.1.1, ⟨hk.1.2.1, hk.1.2.2.1⟩⟩)⟩, bk_ BKa, bk_ BKb, bk_ BKc, bk_ BKd, bk_ BKe, bk_ BKf, hb_ HB⟩
               ·
                replace c65 := Bool.eq_false_iff.mpr c65
                subst c65
                have H1 : (none) = some r := by rw [if_neg (show ¬ (false = true) by decide)] at H; exact H
                clear H
                have H := H1
                clear H1
                exact absurd H (by simp)
              ·
               rw [if_neg c63] at H
               exact absurd H (by simp)
             ·
              rw [if_neg c61] at H
              exact absurd H (by simp)
            ·
             rw [if_neg c60] at H
             exact absurd H (by simp)
           ·
            rw [if_neg c59] at H
            have c59b0 : decide (x136_3 < (t458.length : Int)) = false := decide_eq_false c59
            clear c59
            (first | rw [c59b0] | (simp only [i64_w, i32_w]; rw [c59b0]) | skip)
            replace H := Option.bind_eq_some_iff.mp H
            obtain ⟨⟨t492, t493⟩, A1390, H⟩ := H
            try dsimp only at H
            have A139 := Aside0.mk A1390
            clear A1390
            by_cases c140 : t493 = true
            ·
             subst c140
             have H1 : (if t492 = true then ((laws_wHas.f k3 t458 a1_0 a1_1).bind fun t494 => (if t494 = true then (j3 k3 a2 a4 a3_0 a3_1 a5_0 a5_1 a5_2 a5_3 a6_0 a6_1 a6_2 a6_3 a7_0 a7_1 a7_2 a7_3 a8_0 a8_1) else (none))) else (j3 k3 a2 a4 a3_0 a3_1 a5_0 a5_1 a5_2 a5_3 a6_0 a6_1 a6_2 a6_3 a7_0 a7_1 a7_2 a7_3 a8_0 a8_1)) = some r := by rw [if_pos rfl] at H; exact H
             clear H
             have H := H1
             clear H1
             by_cases c141 : t492 = true
             ·
              subst c141
              have H1 : ((laws_wHas.f k3 t458 a1_0 a1_1).bind fun t494 => (if t494 = true then (j3 k3 a2 a4 a3_0 a3_1 a5_0 a5_1 a5_2 a5_3 a6_0 a6_1 a6_2 a6_3 a7_0 a7_1 a7_2 a7_3 a8_0 a8_1) else (none))) = some r := by rw [if_pos rfl] at H; exact H
              clear H
              have H := H1
              clear H1
              replace H := Option.bind_eq_some_iff.mp H
              obtain ⟨t494, A1420, H⟩ := H
              try dsimp only at H
              have A142 := Aside0.mk A1420
              clear A1420
              by_cases c143 : t494 = true
              ·
               subst c143
               have H1 : (j3 k3 a2 a4 a3_0 a3_1 a5_0 a5_1 a5_2 a5_3 a6_0 a6_1 a6_2 a6_3 a7_0 a7_1 a7_2 a7_3 a8_0 a8_1) = some r := by rw [if_pos rfl] at H; exact H
               clear H
               have H := H1
               clear H1
               as_aux_lemma =>
                have H' := Aside0.mk H
                clear H
                obtain ⟨hnb144, hnc144⟩ := nn_ Na_b
                obtain ⟨hnb145, hnc145⟩ := nn_ Na_c
                obtain ⟨hnb146, hnc146⟩ := nn_ Na_d
                obtain ⟨hnb147, hnc147⟩ := nn_ Na_e
                obtain ⟨hnb148, hnc148⟩ := nn_ Na_f
                have hcz149_0 := cz_ BKa 0 (.int .i64 a1_0)
                have hcz149_1 := cz_ BKa 1 (.int .i64 a1_1)
                have hcz149_2 := cz_ BKa 2 (.int .i64 a1_2)
                have hcz149_3 := cz_ BKa 3 (.int .i64 a1_3)
                have hfz149_0 := blk_frozen BKa.out 0
                have hfz149_1 := blk_frozen BKa.out 1
                have hfz149_2 := blk_frozen BKa.out 2
                have hfz149_3 := blk_frozen BKa.out 3
                go_wp2_with (first | ((with_reducible refine gate_callee (f := 9) rfl ?_); refine gs_ (some 170) Try.func9 #[.int .i64 a0, .agg #[.int .i64 a1_0, .int .i64 a1_1, .int .i64 a1_2, .int .i64 a1_3]] ?_; (with_reducible refine (impl_IsTrueSeen.calls k3 a0 a1_0 a1_1 a1_2 a1_3 true true _ A139.out).mono ?_); rintro e w150 ⟨rfl, hb⟩; refine ⟨_, rfl, ?_⟩; replace HO_19 := hr_ HO_19 hb; replace HO_23 := hr_ HO_23 hb; replace HO_134 := hr_ HO_134 hb; replace BKa := bb BKa hb; replace BKb := bb BKb hb; replace BKc := bb BKc hb; replace BKd := bb BKd hb; replace BKe := bb BKe hb; replace BKf := bb BKf hb; replace HB := hs HB hb; (try clear hb); (try clear hb2); (try clear hk); (try clear hi); have hcz151_0 := cz_ BKa 0 (.int .i64 a1_0); have hcz151_1 := cz_ BKa 1 (.int .i64 a1_1); have hcz151_2 := cz_ BKa 2 (.int .i64 a1_2); have hcz151_3 := cz_ BKa 3 (.int .i64 a1_3); have hfz151_0 := blk_frozen BKa.out 0; have hfz151_1 := blk_frozen BKa.out 1; have hfz151_2 := blk_frozen BKa.out 2; have hfz151_3 := blk_frozen BKa.out 3) | (go_at_call 14; refine calls_of_args (args' := #[.slice Ao58 t458.length co58, .agg #[.int .i64 a1_0, .int .i64 a1_1]]) (by first | rfl) ?_; (with_reducible refine (laws_wHas.calls k3 _ _ t458 a1_0 a1_1 true _ ?side1 ?side2 A142.out).mono ?_); (case side1 => repeat (first | exact (Kd.R_reads' HO_19.out).2.2 | (with_reducible refine Kd.C_alloc ?_ _) | (with_reducible refine Kd.C_drewN ?_ _) | (with_reducible refine Kd.C_drew ?_))); (case side2 => exact (Kd.R_reads' HO_19.out).2.1); rintro e w152 ⟨rfl, hb⟩; replace HO_19 := hr_ HO_19 hb; replace HO_23 := hr_ HO_23 hb; replace HO_134 := hr_ HO_134 hb; replace BKa := bb BKa hb; replace BKb := bb BKb hb; replace BKc := bb BKc hb; replace BKd := bb BKd hb; replace BKe := bb BKe hb; replace BKf := bb BKf hb; replace HB := hs HB hb; (try clear hb); (try clear hb2); (try clear hk); (try clear hi)))
                go_meet
                case rel => exact ⟨_, H', ⟨by have := HJ13.out; have := HJ49.out; have := HK3.out; first | omega | exact Nat.le_refl _⟩, bk_ BKa, bk_ BKb, bk_ BKc, bk_ BKd, bk_ BKe, bk_ BKf, hb_ HB⟩
              ·
               replace c143 := Bool.eq_false_iff.mpr c143
               subst c143
               have H1 : (none) = some r := by rw [if_neg (show ¬ (false = true) by decide)] at H; exact H
               clear H
               have H := H1
               clear H1
               exact absurd H (by simp)
             ·
              replace c141 := Bool.eq_false_iff.mpr c141
              subst c141
              have H1 : (j3 k3 a2 a4 a3_0 a3_1 a5_0 a5_1 a5_2 a5_3 a6_0 a6_1 a6_2 a6_3 a7_0 a7_1 a7_2 a7_3 a8_0 a8_1) = some r := by rw [if_neg (show ¬ (false = true) by decide)] at H; exact H
              clear H
              have H := H1
              clear H1
              as_aux_lemma =>
               have H' := Aside0.mk H
               clear H
               obtain ⟨hnb153, hnc153⟩ := nn_ Na_b
               obtain ⟨hnb154, hnc154⟩ := nn_ Na_c
               obtain ⟨hnb155, hnc155⟩ := nn_ Na_d
               obtain ⟨hnb156, hnc156⟩ := nn_ Na_e
               obtain ⟨hnb157, hnc157⟩ := nn_ Na_f
               have hcz158_0 := cz_ BKa 0 (.int .i64 a1_0)
               have hcz158_1 := cz_ BKa 1 (.int .i64 a1_1)
               have hcz158_2 := cz_ BKa 2 (.int .i64 a1_2)
               have hcz158_3 := cz_ BKa 3 (.int .i64 a1_3)
               have hfz158_0 := blk_frozen BKa.out 0
               have hfz158_1 := blk_frozen BKa.out 1
               have hfz158_2 := blk_frozen BKa.out 2
               have hfz158_3 := blk_frozen BKa.out 3
               go_wp2_with (first | ((with_reducible refine gate_callee (f := 9) rfl ?_); refine gs_ (some 170) Try.func9 #[.int .i64 a0, .agg #[.int .i64 a1_0, .int .i64 a1_1, .int .i64 a1_2, .int .i64 a1_3]] ?_; (with_reducible refine (impl_IsTrueSeen.calls k3 a0 a1_0 a1_1 a1_2 a1_3 false true _ A139.out).mono ?_); rintro e w159 ⟨rfl, hb⟩; refine ⟨_, rfl, ?_⟩; replace HO_19 := hr_ HO_19 hb; replace HO_23 := hr_ HO_23 hb; replace HO_134 := hr_ HO_134 hb; replace BKa := bb BKa hb; replace BKb := bb BKb hb; replace BKc := bb BKc hb; replace BKd := bb BKd hb; replace BKe := bb BKe hb; replace BKf := bb BKf hb; replace HB := hs HB hb; (try clear hb); (try clear hb2); (try clear hk); (try clear hi)))
               go_meet
               case rel => exact ⟨_, H', ⟨by have := HJ13.out; have := HJ49.out; have := HK3.out; first | omega | exact Nat.le_refl _⟩, bk_ BKa, bk_ BKb, bk_ BKc, bk_ BKd, bk_ BKe, bk_ BKf, hb_ HB⟩
            ·
             replace c140 := Bool.eq_false_iff.mpr c140
             subst c140
             have H1 : (none) = some r := by rw [if_neg (show ¬ (false = true) by decide)] at H; exact H
             clear H
             have H := H1
             clear H1
             exact absurd H (by simp)
        ·
         replace c57 := Bool.eq_false_iff.mpr c57
         subst c57
         have H1 : (j3 kj49 a2 a4 a3_0 a3_1 a5_0 a5_1 a5_2 a5_3 a6_0 a6_1 a6_2 a6_3 a7_0 a7_1 a7_2 a7_3 a8_0 a8_1) = some r := by rw [if_neg (show ¬ (false = true) by decide)] at H; exact H
         clear H
         have H := H1
         clear H1
         as_aux_lemma =>
          have H' := Aside0.mk H
          clear H
          go_wp2
          go_meet
          case rel => exact ⟨_, H', ⟨by have := HJ13.out; have := HJ49.out; first | omega | exact Nat.le_refl _⟩, bk_ BKa, bk_ BKb, bk_ BKc, bk_ BKd, bk_ BKe, bk_ BKf, hb_ HB⟩
       case rest => as_aux_lemma =>
        clear HC56
        obtain ⟨kq, HA, HJ55, BKa, BKb, BKc, BKd, BKe, BKf, HB⟩ := hcut
        cases kq with
        | zero => exact absurd HA.out (by simp [j3])
        | succ kj55 =>
         have H := HA.out
         clear HA
         simp only [j3] at H
         replace H := Option.bind_eq_some_iff.mp H
         obtain ⟨⟨t495, t498⟩, A1600, H⟩ := H
         try dsimp only at H
         have A160 := Aside0.mk A1600
         clear A1600
         replace H := Option.bind_eq_some_iff.mp H
         obtain ⟨⟨t499, t502⟩, A1610, H⟩ := H
         try dsimp only at H
         have A161 := Aside0.mk A1610
         clear A1610
         replace H := Option.bind_eq_some_iff.mp H
         obtain ⟨⟨t503, t506⟩, A1620, H⟩ := H
         try dsimp only at H
         have A162 := Aside0.mk A1620
         clear A1620
         replace H := Option.bind_eq_some_iff.mp H
         obtain ⟨⟨t507, t510⟩, A1630, H⟩ := H
         try dsimp only at H
         have A163 := Aside0.mk A1630
         clear A1630
         replace H := Option.bind_eq_some_iff.mp H
         obtain ⟨⟨t511, t512, t513, t514, t515⟩, A1640, H⟩ := H
         try dsimp only at H
         have A164 := Aside0.mk A1640
         clear A1640
         replace H := Option.bind_eq_some_iff.mp H
         obtain ⟨⟨t517, t518, t519, t520, t521⟩, A1650, H⟩ := H
         try dsimp only at H
         have A165 := Aside0.mk A1650
         clear A1650
         replace H := Option.bind_eq_some_iff.mp H
         obtain ⟨⟨t523, t524, t525, t526, t527⟩, A1660, H⟩ := H
         try dsimp only at H
         have A166 := Aside0.mk A1660
         clear A1660
         replace H := Option.bind_eq_some_iff.mp H
         obtain ⟨⟨t529, t530, t531, t532, t533⟩, A1670, H⟩ := H
         try dsimp only at H
         have A167 := Aside0.mk A1670
         clear A1670
         have HC168 := Aside0.mk H
         clear H
         obtain ⟨hnb169, hnc169⟩ := nn_ Nb_a
         obtain ⟨hnb170, hnc170⟩ := nn_ Nb_c
         obtain ⟨hnb171, hnc171⟩ := nn_ Nb_d
         obtain ⟨hnb172, hnc172⟩ := nn_ Nb_e
         obtain ⟨hnb173, hnc173⟩ := nn_ Nb_f
         have hcz174_0 := cz_ BKb 0 (.int .i64 a3_0)
         have hcz174_1 := cz_ BKb 1 (.int .i64 a3_1)
         have hfz174_0 := blk_frozen BKb.out 0
         have hfz174_1 := blk_frozen BKb.out 1
         go_upto_region 29 with (first | ((with_reducible refine gate_callee (f := 34) rfl ?_); refine gs_ (some 188) Try.func34 #[.int .i64 a2, .agg #[.int .i64 a3_0, .int .i64 a3_1]] ?_; (with_reducible refine (impl_TimesWithAngle.calls kj55 a2 a3_0 a3_1 t495 t498 _ A160.out).mono ?_); rintro e w175 ⟨v496, rfl, ho0, hb⟩; refine ⟨_, rfl, ?_⟩; have HO497 := Aside0.mk (Kd.R_lower (Kd.R_newB (Kd.R_newB ho0 (bq_ BKb)) (bq_ BKf)) (bs_ HB)); replace BKa := bb BKa hb; replace BKb := bb BKb hb; replace BKc := bb BKc hb; replace BKd := bb BKd hb; replace BKe := bb BKe hb; replace BKf := bb BKf hb; replace HB := hs HB hb; (try clear hb); (try clear hb2); (try clear hk); (try clear hi); (try clear ho0); have hcz176_0 := cz_ BKb 0 (.int .i64 a3_0); have hcz176_1 := cz_ BKb 1 (.int .i64 a3_1); have hfz176_0 := blk_frozen BKb.out 0; have hfz176_1 := blk_frozen BKb.out 1) | ((with_reducible refine gate_callee (f := 35) rfl ?_); refine gs_ (some 194) Try.func35 #[.int .i64 a2, .agg #[.int .i64 a3_0, .int .i64 a3_1]] ?_; (with_reducible refine (spec_TimesWithAngle.calls kj55 a2 a3_0 a3_1 t499 t502 _ A161.out).mono ?_); rintro e w177 ⟨v500, rfl, ho0, hb⟩; refine ⟨_, rfl, ?_⟩; have HO501 := Aside0.mk (Kd.R_lower (Kd.R_newB (Kd.R_newB (Kd.R_new' ho0 (Kd.R_lt (by (with_reducible repeat (first | apply Kd.R_alloc | apply Kd.R_drewN | apply Kd.R_drew)); exact HO497.out))) (bq_ BKb)) (bq_ BKf)) (bs_ HB)); replace HO497 := Aside0.mk (Kd.R_elder' (by (with_reducible repeat (first | apply Kd.R_alloc | apply Kd.R_drewN | apply Kd.R_drew)); exact HO497.out) (Kd.R_base ho0) hb); replace BKa := bb BKa hb; replace BKb := bb BKb hb; replace BKc := bb BKc hb; replace BKd := bb BKd hb; replace BKe := bb BKe hb; replace BKf := bb BKf hb; replace HB := hs HB hb; (try clear hb); (try clear hb2); (try clear hk); (try clear hi); (try clear ho0); obtain ⟨hnb178, hnc178⟩ := nn_ Nc_a; obtain ⟨hnb179, hnc179⟩ := nn_ Nc_d; obtain ⟨hnb180, hnc180⟩ := nn_ Nc_e; obtain ⟨hnb181, hnc181⟩ := nn_ Nc_f; have hcz182_0 := cz_ BKc 0 (.int .i64 a5_0); have hcz182_1 := cz_ BKc 1 (.int .i64 a5_1); have hcz182_2 := cz_ BKc 2 (.int .i64 a5_2); have hcz182_3 := cz_ BKc 3 (.int .i64 a5_3); have hfz182_0 := blk_frozen BKc.out 0; have hfz182_1 := blk_frozen BKc.out 1; have hfz182_2 := blk_frozen BKc.out 2; have hfz182_3 := blk_frozen BKc.out 3) | ((with_reducible refine gate_callee (f := 36) rfl ?_); refine gs_ (some 200) Try.func36 #[.int .i64 a4, .agg #[.int .i64 a5_0, .int .i64 a5_1, .int .i64 a5_2, .int .i64 a5_3]] ?_; (with_reducible refine (impl_TimesInGlass.calls kj55 a4 a5_0 a5_1 a5_2 a5_3 t503 t506 _ A162.out).mono ?_); rintro e w183 ⟨v504, rfl, ho0, hb⟩; refine ⟨_, rfl, ?_⟩; have hx_ := Kd.R_new' (Kd.R_new' ho0 (Kd.R_lt (by (with_reducible repeat (first | apply Kd.R_alloc | apply Kd.R_drewN | apply Kd.R_drew)); exact HO497.out))) (Kd.R_lt (by (with_reducible repeat (first | apply Kd.R_alloc | apply Kd.R_drewN | apply Kd.R_drew)); exact HO501.out)); have HO505 := Aside0.mk (Kd.R_lower (Kd.R_newB (Kd.R_newB hx_ (bq_ BKb)) (bq_ BKf)) (bs_ HB)); replace HO497 := Aside0.mk (Kd.R_elder' (by (with_reducible repeat (first | apply Kd.R_alloc | apply Kd.R_drewN | apply Kd.R_drew)); exact HO497.out) (Kd.R_base ho0) hb); replace HO501 := Aside0.mk (Kd.R_elder' (by (with_reducible repeat (first | apply Kd.R_alloc | apply Kd.R_drewN | apply Kd.R_drew)); exact HO501.out) (Kd.R_base ho0) hb); replace BKa := bb BKa hb; replace BKb := bb BKb hb; replace BKc := bb BKc hb; replace BKd := bb BKd hb; replace BKe := bb BKe hb; replace BKf := bb BKf hb; replace HB := hs HB hb; (try clear hb); (try clear hb2); (try clear hk); (try clear hi); (try clear ho0); have hcz184_0 := cz_ BKc 0 (.int .i64 a5_0); have hcz184_1 := cz_ BKc 1 (.int .i64 a5_1); have hcz184_2 := cz_ BKc 2 (.int .i64 a5_2); have hcz184_3 := cz_ BKc 3 (.int .i64 a5_3); have hfz184_0 := blk_frozen BKc.out 0; have hfz184_1 := blk_frozen BKc.out 1; have hfz184_2 := blk_frozen BKc.out 2; have hfz184_3 := blk_frozen BKc.out 3) | ((with_reducible refine gate_callee (f := 37) rfl ?_); refine gs_ (some 206) Try.func37 #[.int .i64 a4, .agg #[.int .i64 a5_0, .int .i64 a5_1, .int .i64 a5_2, .int .i64 a5_3]] ?_; (with_reducible refine (spec_TimesInGlass.calls kj55 a4 a5_0 a5_1 a5_2 a5_3 t507 t510 _ A163.out).mono ?_); rintro e w185 ⟨v508, rfl, ho0, hb⟩; refine ⟨_, rfl, ?_⟩; have hx_ := Kd.R_new' (Kd.R_new' (Kd.R_new' ho0 (Kd.R_lt (by (with_reducible repeat (first | apply Kd.R_alloc | apply Kd.R_drewN | apply Kd.R_drew)); exact HO497.out))) (Kd.R_lt (by (with_reducible repeat (first | apply Kd.R_alloc | apply Kd.R_drewN | apply Kd.R_drew)); exact HO501.out))) (Kd.R_lt (by (with_reducible repeat (first | apply Kd.R_alloc | apply Kd.R_drewN | apply Kd.R_drew)); exact HO505.out)); have HO509 := Aside0.mk (Kd.R_lower (Kd.R_newB (Kd.R_newB hx_ (bq_ BKb)) (bq_ BKf)) (bs_ HB)); replace HO497 := Aside0.mk (Kd.R_elder' (by (with_reducible repeat (first | apply Kd.R_alloc | apply Kd.R_drewN | apply Kd.R_drew)); exact HO497.out) (Kd.R_base ho0) hb); replace HO501 := Aside0.mk (Kd.R_elder' (by (with_reducible repeat (first | apply Kd.R_alloc | apply Kd.R_drewN | apply Kd.R_drew)); exact HO501.out) (Kd.R_base ho0) hb); replace HO505 := Aside0.mk (Kd.R_elder' (by (with_reducible repeat (first | apply Kd.R_alloc | apply Kd.R_drewN | apply Kd.R_drew)); exact HO505.out) (Kd.R_base ho0) hb); replace BKa := bb BKa hb; replace BKb := bb BKb hb; replace BKc := bb BKc hb; replace BKd := bb BKd hb; replace BKe := bb BKe hb; replace BKf := bb BKf hb; replace HB := hs HB hb; (try clear hb); (try clear hb2); (try clear hk); (try clear hi); (try clear ho0); obtain ⟨hnb186, hnc186⟩ := nn_ Nd_a; obtain ⟨hnb187, hnc187⟩ := nn_ Nd_e; obtain ⟨hnb188, hnc188⟩ := nn_ Nd_f; have hcz189_0 := cz_ BKd 0 (.int .i64 a6_0); have hcz189_1 := cz_ BKd 1 (.int .i64 a6_1); have hcz189_2 := cz_ BKd 2 (.int .i64 a6_2); have hcz189_3 := cz_ BKd 3 (.int .i64 a6_3); have hfz189_0 := blk_frozen BKd.out 0; have hfz189_1 := blk_frozen BKd.out 1; have hfz189_2 := blk_frozen BKd.out 2; have hfz189_3 := blk_frozen BKd.out 3) | ((with_reducible refine gate_callee (f := 23) rfl ?_); refine gs_ (some 211) Try.func23 #[.agg #[.int .i64 a6_0, .int .i64 a6_1, .int .i64 a6_2, .int .i64 a6_3]] ?_; (with_reducible refine (impl_MirrorSeen.calls kj55 a6_0 a6_1 a6_2 a6_3 t511 t512 t513 t514 t515 _ A164.out).mono ?_); rintro e w190 ⟨rfl, hb⟩; refine ⟨_, rfl, ?_⟩; replace HO497 := hr_ HO497 hb; replace HO501 := hr_ HO501 hb; replace HO505 := hr_ HO505 hb; replace HO509 := hr_ HO509 hb; replace BKa := bb BKa hb; replace BKb := bb BKb hb; replace BKc := bb BKc hb; replace BKd := bb BKd hb; replace BKe := bb BKe hb; replace BKf := bb BKf hb; replace HB := hs HB hb; (try clear hb); (try clear hb2); (try clear hk); (try clear hi)) | ((with_reducible refine gate_dst (N := 43) rfl ?_); (try (refine gate_guard (by rfl) ?_; dsimp only)); refine be_ (N := 43) (cs := #[.int .i64 0, .int .i64 0, .int .i64 0, .int .i64 0]) (t := 25) ?_; intro gbj hg w191 hbox hb; have BKj := Aside0.mk (hbox); have GWj := ge_ HB hg; have GEj := ge_ HB hg; obtain ⟨Na_j, Nj_a⟩ := nq_ BKa hg; obtain ⟨Nb_j, Nj_b⟩ := nq_ BKb hg; obtain ⟨Nc_j, Nj_c⟩ := nq_ BKc hg; obtain ⟨Nd_j, Nj_d⟩ := nq_ BKd hg; obtain ⟨Ne_j, Nj_e⟩ := nq_ BKe hg; obtain ⟨Nf_j, Nj_f⟩ := nq_ BKf hg; replace HO497 := hr_ HO497 hb; replace HO501 := hr_ HO501 hb; replace HO505 := hr_ HO505 hb; replace HO509 := hr_ HO509 hb; replace BKa := bb BKa hb; replace BKb := bb BKb hb; replace BKc := bb BKc hb; replace BKd := bb BKd hb; replace BKe := bb BKe hb; replace BKf := bb BKf hb; replace HB := hs HB hb; clear hb hbox hg; obtain ⟨hnb192, hnc192⟩ := nn_ Nj_a; obtain ⟨hnb193, hnc193⟩ := nn_ Nj_b; obtain ⟨hnb194, hnc194⟩ := nn_ Nj_c; obtain ⟨hnb195, hnc195⟩ := nn_ Nj_d; obtain ⟨hnb196, hnc196⟩ := nn_ Nj_e; obtain ⟨hnb197, hnc197⟩ := nn_ Nj_f; have hcz198_0 := cz_ BKj 0 (.int .i64 0); have hcz198_1 := cz_ BKj 1 (.int .i64 0); have hcz198_2 := cz_ BKj 2 (.int .i64 0); have hcz198_3 := cz_ BKj 3 (.int .i64 0); have hfz198_0 := blk_frozen BKj.out 0; have hfz198_1 := blk_frozen BKj.out 1; have hfz198_2 := blk_frozen BKj.out 2; have hfz198_3 := blk_frozen BKj.out 3; have hcz199_0 := cz_ BKd 0 (.int .i64 a6_0); have hcz199_1 := cz_ BKd 1 (.int .i64 a6_1); have hcz199_2 := cz_ BKd 2 (.int .i64 a6_2); have hcz199_3 := cz_ BKd 3 (.int .i64 a6_3); have hfz199_0 := blk_frozen BKd.out 0; have hfz199_1 := blk_frozen BKd.out 1; have hfz199_2 := blk_frozen BKd.out 2; have hfz199_3 := blk_frozen BKd.out 3) | ((with_reducible refine gate_callee (f := 38) rfl ?_); refine gs_ (some 216) Try.func38 #[.agg #[.int .i64 a6_0, .int .i64 a6_1, .int .i64 a6_2, .int .i64 a6_3]] ?_; (with_reducible refine (spec_MirrorSeen.calls kj55 a6_0 a6_1 a6_2 a6_3 t517 t518 t519 t520 t521 _ A165.out).mono ?_); rintro e w200 ⟨rfl, hb⟩; refine ⟨_, rfl, ?_⟩; replace HO497 := hr_ ⟨(Kd.R_mono (Kd.R_far (p := ⟨gbj, 3, none⟩) (Kd.R_far (p := ⟨gbj, 2, none⟩) (Kd.R_far (p := ⟨gbj, 1, none⟩) (Kd.R_far (p := ⟨gbj, 0, none⟩) (Kd.R_types HO497.out BKj.out (by decide)) (fun _ hk => hk.2) (.int .i64 t511)) (fun _ hk => hk.2) (.int .i64 t512)) (fun _ hk => hk.2) (.int .i64 t513)) (fun _ hk => hk.2) (.int .i64 t514)) (fun _ h_ => h_.1))⟩ hb; replace HO501 := hr_ ⟨(Kd.R_mono (Kd.R_far (p := ⟨gbj, 3, none⟩) (Kd.R_far (p := ⟨gbj, 2, none⟩) (Kd.R_far (p := ⟨gbj, 1, none⟩) (Kd.R_far (p := ⟨gbj, 0, none⟩) (Kd.R_types HO501.out BKj.out (by decide)) (fun _ hk => hk.2) (.int .i64 t511)) (fun _ hk => hk.2) (.int .i64 t512)) (fun _ hk => hk.2) (.int .i64 t513)) (fun _ hk => hk.2) (.int .i64 t514)) (fun _ h_ => h_.1))⟩ hb; replace HO505 := hr_ ⟨(Kd.R_mono (Kd.R_far (p := ⟨gbj, 3, none⟩) (Kd.R_far (p := ⟨gbj, 2, none⟩) (Kd.R_far (p := ⟨gbj, 1, none⟩) (Kd.R_far (p := ⟨gbj, 0, none⟩) (Kd.R_types HO505.out BKj.out (by decide)) (fun _ hk => hk.2) (.int .i64 t511)) (fun _ hk => hk.2) (.int .i64 t512)) (fun _ hk => hk.2) (.int .i64 t513)) (fun _ hk => hk.2) (.int .i64 t514)) (fun _ h_ => h_.1))⟩ hb; replace HO509 := hr_ ⟨(Kd.R_mono (Kd.R_far (p := ⟨gbj, 3, none⟩) (Kd.R_far (p := ⟨gbj, 2, none⟩) (Kd.R_far (p := ⟨gbj, 1, none⟩) (Kd.R_far (p := ⟨gbj, 0, none⟩) (Kd.R_types HO509.out BKj.out (by decide)) (fun _ hk => hk.2) (.int .i64 t511)) (fun _ hk => hk.2) (.int .i64 t512)) (fun _ hk => hk.2) (.int .i64 t513)) (fun _ hk => hk.2) (.int .i64 t514)) (fun _ h_ => h_.1))⟩ hb; replace BKa := bb BKa hb; replace BKb := bb BKb hb; replace BKc := bb BKc hb; replace BKd := bb BKd hb; replace BKe := bb BKe hb; replace BKf := bb BKf hb; replace BKj := Aside0.mk (blk_below (g := gbj) (o := .cells #[.int .i64 t511, .int .i64 t512, .int .i64 t513, .int .i64 t514] 25 (0, 0)) (by (with_reducible repeat (first | refine blk_drewN ?_ _ | refine blk_drew ?_ | refine blk_alloc ?_ _)); refine blk_put (cs := #[.int .i64 t511, .int .i64 t512, .int .i64 t513, .int .i64 0]) ?_ 3 _ rfl; (with_reducible repeat (first | refine blk_drewN ?_ _ | refine blk_drew ?_ | refine blk_alloc ?_ _)); refine blk_put (cs := #[.int .i64 t511, .int .i64 t512, .int .i64 0, .int .i64 0]) ?_ 2 _ rfl; (with_reducible repeat (first | refine blk_drewN ?_ _ | refine blk_drew ?_ | refine blk_alloc ?_ _)); refine blk_put (cs := #[.int .i64 t511, .int .i64 0, .int .i64 0, .int .i64 0]) ?_ 1 _ rfl; (with_reducible repeat (first | refine blk_drewN ?_ _ | refine blk_drew ?_ | refine blk_alloc ?_ _)); refine blk_put (cs := #[.int .i64 0, .int .i64 0, .int .i64 0, .int .i64 0]) ?_ 0 _ rfl; (with_reducible repeat (first | refine blk_drewN ?_ _ | refine blk_drew ?_ | refine blk_alloc ?_ _)); exact BKj.out) hb); replace HB := hs HB hb; (try clear hb); (try clear hb2); (try clear hk); (try clear hi)) | ((with_reducible refine gate_dst (N := 45) rfl ?_); (try (refine gate_guard (by rfl) ?_; dsimp only)); refine be_ (N := 45) (cs := #[.int .i64 0, .int .i64 0, .int .i64 0, .int .i64 0]) (t := 25) ?_; intro gbk hg w201 hbox hb; have BKk := Aside0.mk (hbox); have GWk := ge_ HB hg; have GEk := ge_ HB hg; obtain ⟨Na_k, Nk_a⟩ := nq_ BKa hg; obtain ⟨Nb_k, Nk_b⟩ := nq_ BKb hg; obtain ⟨Nc_k, Nk_c⟩ := nq_ BKc hg; obtain ⟨Nd_k, Nk_d⟩ := nq_ BKd hg; obtain ⟨Ne_k, Nk_e⟩ := nq_ BKe hg; obtain ⟨Nf_k, Nk_f⟩ := nq_ BKf hg; obtain ⟨Nj_k, Nk_j⟩ := nq_ BKj hg; replace HO497 := hr_ HO497 hb; replace HO501 := hr_ HO501 hb; replace HO505 := hr_ HO505 hb; replace HO509 := hr_ HO509 hb; replace BKa := bb BKa hb; replace BKb := bb BKb hb; replace BKc := bb BKc hb; replace BKd := bb BKd hb; replace BKe := bb BKe hb; replace BKf := bb BKf hb; replace BKj := bb BKj hb; replace HB := hs HB hb; clear hb hbox hg; obtain ⟨hnb202, hnc202⟩ := nn_ Nk_a; obtain ⟨hnb203, hnc203⟩ := nn_ Nk_b; obtain ⟨hnb204, hnc204⟩ := nn_ Nk_c; obtain ⟨hnb205, hnc205⟩ := nn_ Nk_d; obtain ⟨hnb206, hnc206⟩ := nn_ Nk_e; obtain ⟨hnb207, hnc207⟩ := nn_ Nk_f; obtain ⟨hnb208, hnc208⟩ := nn_ Nk_j; have hcz209_0 := cz_ BKk 0 (.int .i64 0); have hcz209_1 := cz_ BKk 1 (.int .i64 0); have hcz209_2 := cz_ BKk 2 (.int .i64 0); have hcz209_3 := cz_ BKk 3 (.int .i64 0); have hfz209_0 := blk_frozen BKk.out 0; have hfz209_1 := blk_frozen BKk.out 1; have hfz209_2 := blk_frozen BKk.out 2; have hfz209_3 := blk_frozen BKk.out 3; obtain ⟨hnb210, hnc210⟩ := nn_ Ne_a; obtain ⟨hnb211, hnc211⟩ := nn_ Ne_f; have hcz212_0 := cz_ BKe 0 (.int .i64 a7_0); have hcz212_1 := cz_ BKe 1 (.int .i64 a7_1); have hcz212_2 := cz_ BKe 2 (.int .i64 a7_2); have hcz212_3 := cz_ BKe 3 (.int .i64 a7_3); have hfz212_0 := blk_frozen BKe.out 0; have hfz212_1 := blk_frozen BKe.out 1; have hfz212_2 := blk_frozen BKe.out 2; have hfz212_3 := blk_frozen BKe.out 3; obtain ⟨hnb213, hnc213⟩ := nn_ Nf_a; have hcz214_0 := cz_ BKf 0 (.int .i64 a8_0); have hcz214_1 := cz_ BKf 1 (.int .i64 a8_1); have hfz214_0 := blk_frozen BKf.out 0; have hfz214_1 := blk_frozen BKf.out 1) | ((with_reducible refine gate_callee (f := 33) rfl ?_); refine gs_ (some 222) Try.func33 #[.agg #[.int .i64 a7_0, .int .i64 a7_1, .int .i64 a7_2, .int .i64 a7_3], .agg #[.int .i64 a8_0, .int .i64 a8_1]] ?_; (with_reducible refine (impl_TurnSeen.calls kj55 a7_0 a7_1 a7_2 a7_3 a8_0 a8_1 t523 t524 t525 t526 t527 _ A166.out).mono ?_); rintro e w215 ⟨rfl, hb⟩; refine ⟨_, rfl, ?_⟩; replace HO497 := hr_ ⟨(Kd.R_mono (Kd.R_far (p := ⟨gbk, 3, none⟩) (Kd.R_far (p := ⟨gbk, 2, none⟩) (Kd.R_far (p := ⟨gbk, 1, none⟩) (Kd.R_far (p := ⟨gbk, 0, none⟩) (Kd.R_types HO497.out BKk.out (by decide)) (fun _ hk => hk.2) (.int .i64 t517)) (fun _ hk => hk.2) (.int .i64 t518)) (fun _ hk => hk.2) (.int .i64 t519)) (fun _ hk => hk.2) (.int .i64 t520)) (fun _ h_ => h_.1))⟩ hb; replace HO501 := hr_ ⟨(Kd.R_mono (Kd.R_far (p := ⟨gbk, 3, none⟩) (Kd.R_far (p := ⟨gbk, 2, none⟩) (Kd.R_far (p := ⟨gbk, 1, none⟩) (Kd.R_far (p := ⟨gbk, 0, none⟩) (Kd.R_types HO501.out BKk.out (by decide)) (fun _ hk => hk.2) (.int .i64 t517)) (fun _ hk => hk.2) (.int .i64 t518)) (fun _ hk => hk.2) (.int .i64 t519)) (fun _ hk => hk.2) (.int .i64 t520)) (fun _ h_ => h_.1))⟩ hb; replace HO505 := hr_ ⟨(Kd.R_mono (Kd.R_far (p := ⟨gbk, 3, none⟩) (Kd.R_far (p := ⟨gbk, 2, none⟩) (Kd.R_far (p := ⟨gbk, 1, none⟩) (Kd.R_far (p := ⟨gbk, 0, none⟩) (Kd.R_types HO505.out BKk.out (by decide)) (fun _ hk => hk.2) (.int .i64 t517)) (fun _ hk => hk.2) (.int .i64 t518)) (fun _ hk => hk.2) (.int .i64 t519)) (fun _ hk => hk.2) (.int .i64 t520)) (fun _ h_ => h_.1))⟩ hb; replace HO509 := hr_ ⟨(Kd.R_mono (Kd.R_far (p := ⟨gbk, 3, none⟩) (Kd.R_far (p := ⟨gbk, 2, none⟩) (Kd.R_far (p := ⟨gbk, 1, none⟩) (Kd.R_far (p := ⟨gbk, 0, none⟩) (Kd.R_types HO509.out BKk.out (by decide)) (fun _ hk => hk.2) (.int .i64 t517)) (fun _ hk => hk.2) (.int .i64 t518)) (fun _ hk => hk.2) (.int .i64 t519)) (fun _ hk => hk.2) (.int .i64 t520)) (fun _ h_ => h_.1))⟩ hb; replace BKa := bb BKa hb; replace BKb := bb BKb hb; replace BKc := bb BKc hb; replace BKd := bb BKd hb; replace BKe := bb BKe hb; replace BKf := bb BKf hb; replace BKj := bb BKj hb; replace BKk := Aside0.mk (blk_below (g := gbk) (o := .cells #[.int .i64 t517, .int .i64 t518, .int .i64 t519, .int .i64 t520] 25 (0, 0)) (by (with_reducible repeat (first | refine blk_drewN ?_ _ | refine blk_drew ?_ | refine blk_alloc ?_ _)); refine blk_put (cs := #[.int .i64 t517, .int .i64 t518, .int .i64 t519, .int .i64 0]) ?_ 3 _ rfl; (with_reducible repeat (first | refine blk_drewN ?_ _ | refine blk_drew ?_ | refine blk_alloc ?_ _)); refine blk_put (cs := #[.int .i64 t517, .int .i64 t518, .int .i64 0, .int .i64 0]) ?_ 2 _ rfl; (with_reducible repeat (first | refine blk_drewN ?_ _ | refine blk_drew ?_ | refine blk_alloc ?_ _)); refine blk_put (cs := #[.int .i64 t517, .int .i64 0, .int .i64 0, .int .i64 0]) ?_ 1 _ rfl; (with_reducible repeat (first | refine blk_drewN ?_ _ | refine blk_drew ?_ | refine blk_alloc ?_ _)); refine blk_put (cs := #[.int .i64 0, .int .i64 0, .int .i64 0, .int .i64 0]) ?_ 0 _ rfl; (with_reducible repeat (first | refine blk_drewN ?_ _ | refine blk_drew ?_ | refine blk_alloc ?_ _)); exact BKk.out) hb); replace HB := hs HB hb; (try clear hb); (try clear hb2); (try clear hk); (try clear hi)) | ((with_reducible refine gate_dst (N := 47) rfl ?_); (try (refine gate_guard (by rfl) ?_; dsimp only)); refine be_ (N := 47) (cs := #[.int .i64 0, .int .i64 0, .int .i64 0, .int .i64 0]) (t := 25) ?_; intro gbl hg w216 hbox hb; have BKl := Aside0.mk (hbox); have GWl := ge_ HB hg; have GEl := ge_ HB hg; obtain ⟨Na_l, Nl_a⟩ := nq_ BKa hg; obtain ⟨Nb_l, Nl_b⟩ := nq_ BKb hg; obtain ⟨Nc_l, Nl_c⟩ := nq_ BKc hg; obtain ⟨Nd_l, Nl_d⟩ := nq_ BKd hg; obtain ⟨Ne_l, Nl_e⟩ := nq_ BKe hg; obtain ⟨Nf_l, Nl_f⟩ := nq_ BKf hg; obtain ⟨Nj_l, Nl_j⟩ := nq_ BKj hg; obtain ⟨Nk_l, Nl_k⟩ := nq_ BKk hg; replace HO497 := hr_ HO497 hb; replace HO501 := hr_ HO501 hb; replace HO505 := hr_ HO505 hb; replace HO509 := hr_ HO509 hb; replace BKa := bb BKa hb; replace BKb := bb BKb hb; replace BKc := bb BKc hb; replace BKd := bb BKd hb; replace BKe := bb BKe hb; replace BKf := bb BKf hb; replace BKj := bb BKj hb; replace BKk := bb BKk hb; replace HB := hs HB hb; clear hb hbox hg; obtain ⟨hnb217, hnc217⟩ := nn_ Nl_a; obtain ⟨hnb218, hnc218⟩ := nn_ Nl_b; obtain ⟨hnb219, hnc219⟩ := nn_ Nl_c; obtain ⟨hnb220, hnc220⟩ := nn_ Nl_d; obtain ⟨hnb221, hnc221⟩ := nn_ Nl_e; obtain ⟨hnb222, hnc222⟩ := nn_ Nl_f; obtain ⟨hnb223, hnc223⟩ := nn_ Nl_j; obtain ⟨hnb224, hnc224⟩ := nn_ Nl_k; have hcz225_0 := cz_ BKl 0 (.int .i64 0); have hcz225_1 := cz_ BKl 1 (.int .i64 0); have hcz225_2 := cz_ BKl 2 (.int .i64 0); have hcz225_3 := cz_ BKl 3 (.int .i64 0); have hfz225_0 := blk_frozen BKl.out 0; have hfz225_1 := blk_frozen BKl.out 1; have hfz225_2 := blk_frozen BKl.out 2; have hfz225_3 := blk_frozen BKl.out 3; have hcz226_0 := cz_ BKe 0 (.int .i64 a7_0); have hcz226_1 := cz_ BKe 1 (.int .i64 a7_1); have hcz226_2 := cz_ BKe 2 (.int .i64 a7_2); have hcz226_3 := cz_ BKe 3 (.int .i64 a7_3); have hfz226_0 := blk_frozen BKe.out 0; have hfz226_1 := blk_frozen BKe.out 1; have hfz226_2 := blk_frozen BKe.out 2; have hfz226_3 := blk_frozen BKe.out 3; have hcz227_0 := cz_ BKf 0 (.int .i64 a8_0); have hcz227_1 := cz_ BKf 1 (.int .i64 a8_1); have hfz227_0 := blk_frozen BKf.out 0; have hfz227_1 := blk_frozen BKf.out 1) | ((with_reducible refine gate_callee (f := 39) rfl ?_); refine gs_ (some 228) Try.func39 #[.agg #[.int .i64 a7_0, .int .i64 a7_1, .int .i64 a7_2, .int .i64 a7_3], .agg #[.int .i64 a8_0, .int .i64 a8_1]] ?_; (with_reducible refine (spec_TurnSeen.calls kj55 a7_0 a7_1 a7_2 a7_3 a8_0 a8_1 t529 t530 t531 t532 t533 _ A167.out).mono ?_); rintro e w228 ⟨rfl, hb⟩; refine ⟨_, rfl, ?_⟩; replace HO497 := hr_ ⟨(Kd.R_mono (Kd.R_far (p := ⟨gbl, 3, none⟩) (Kd.R_far (p := ⟨gbl, 2, none⟩) (Kd.R_far (p := ⟨gbl, 1, none⟩) (Kd.R_far (p := ⟨gbl, 0, none⟩) (Kd.R_types HO497.out BKl.out (by decide)) (fun _ hk => hk.2) (.int .i64 t523)) (fun _ hk => hk.2) (.int .i64 t524)) (fun _ hk => hk.2) (.int .i64 t525)) (fun _ hk => hk.2) (.int .i64 t526)) (fun _ h_ => h_.1))⟩ hb; replace HO501 := hr_ ⟨(Kd.R_mono (Kd.R_far (p := ⟨gbl, 3, none⟩) (Kd.R_far (p := ⟨gbl, 2, none⟩) (Kd.R_far (p := ⟨gbl, 1, none⟩) (Kd.R_far (p := ⟨gbl, 0, none⟩) (Kd.R_types HO501.out BKl.out (by decide)) (fun _ hk => hk.2) (.int .i64 t523)) (fun _ hk => hk.2) (.int .i64 t524)) (fun _ hk => hk.2) (.int .i64 t525)) (fun _ hk => hk.2) (.int .i64 t526)) (fun _ h_ => h_.1))⟩ hb; replace HO505 := hr_ ⟨(Kd.R_mono (Kd.R_far (p := ⟨gbl, 3, none⟩) (Kd.R_far (p := ⟨gbl, 2, none⟩) (Kd.R_far (p := ⟨gbl, 1, none⟩) (Kd.R_far (p := ⟨gbl, 0, none⟩) (Kd.R_types HO505.out BKl.out (by decide)) (fun _ hk => hk.2) (.int .i64 t523)) (fun _ hk => hk.2) (.int .i64 t524)) (fun _ hk => hk.2) (.int .i64 t525)) (fun _ hk => hk.2) (.int .i64 t526)) (fun _ h_ => h_.1))⟩ hb; replace HO509 := hr_ ⟨(Kd.R_mono (Kd.R_far (p := ⟨gbl, 3, none⟩) (Kd.R_far (p := ⟨gbl, 2, none⟩) (Kd.R_far (p := ⟨gbl, 1, none⟩) (Kd.R_far (p := ⟨gbl, 0, none⟩) (Kd.R_types HO509.out BKl.out (by decide)) (fun _ hk => hk.2) (.int .i64 t523)) (fun _ hk => hk.2) (.int .i64 t524)) (fun _ hk => hk.2) (.int .i64 t525)) (fun _ hk => hk.2) (.int .i64 t526)) (fun _ h_ => h_.1))⟩ hb; replace BKa := bb BKa hb; replace BKb := bb BKb hb; replace BKc := bb BKc hb; replace BKd := bb BKd hb; replace BKe := bb BKe hb; replace BKf := bb BKf hb; replace BKj := bb BKj hb; replace BKk := bb BKk hb; replace BKl := Aside0.mk (blk_below (g := gbl) (o := .cells #[.int .i64 t523, .int .i64 t524, .int .i64 t525, .int .i64 t526] 25 (0, 0)) (by (with_reducible repeat (first | refine blk_drewN ?_ _ | refine blk_drew ?_ | refine blk_alloc ?_ _)); refine blk_put (cs := #[.int .i64 t523, .int .i64 t524, .int .i64 t525, .int .i64 0]) ?_ 3 _ rfl; (with_reducible repeat (first | refine blk_drewN ?_ _ | refine blk_drew ?_ | refine blk_alloc ?_ _)); refine blk_put (cs := #[.int .i64 t523, .int .i64 t524, .int .i64 0, .int .i64 0]) ?_ 2 _ rfl; (with_reducible repeat (first | refine blk_drewN ?_ _ | refine blk_drew ?_ | refine blk_alloc ?_ _)); refine blk_put (cs := #[.int .i64 t523, .int .i64 0, .int .i64 0, .int .i64 0]) ?_ 1 _ rfl; (with_reducible repeat (first | refine blk_drewN ?_ _ | refine blk_drew ?_ | refine blk_alloc ?_ _)); refine blk_put (cs := #[.int .i64 0, .int .i64 0, .int .i64 0, .int .i64 0]) ?_ 0 _ rfl; (with_reducible repeat (first | refine blk_drewN ?_ _ | refine blk_drew ?_ | refine blk_alloc ?_ _)); exact BKl.out) hb); replace HB := hs HB hb; (try clear hb); (try clear hb2); (try clear hk); (try clear hi)) | ((with_reducible refine gate_dst (N := 49) rfl ?_); (try (refine gate_guard (by rfl) ?_; dsimp only)); refine be_ (N := 49) (cs := #[.int .i64 0, .int .i64 0, .int .i64 0, .int .i64 0]) (t := 25) ?_; intro gbm hg w229 hbox hb; have BKm := Aside0.mk (hbox); have GWm := ge_ HB hg; have GEm := ge_ HB hg; obtain ⟨Na_m, Nm_a⟩ := nq_ BKa hg; obtain ⟨Nb_m, Nm_b⟩ := nq_ BKb hg; obtain ⟨Nc_m, Nm_c⟩ := nq_ BKc hg; obtain ⟨Nd_m, Nm_d⟩ := nq_ BKd hg; obtain ⟨Ne_m, Nm_e⟩ := nq_ BKe hg; obtain ⟨Nf_m, Nm_f⟩ := nq_ BKf hg; obtain ⟨Nj_m, Nm_j⟩ := nq_ BKj hg; obtain ⟨Nk_m, Nm_k⟩ := nq_ BKk hg; obtain ⟨Nl_m, Nm_l⟩ := nq_ BKl hg; replace HO497 := hr_ HO497 hb; replace HO501 := hr_ HO501 hb; replace HO505 := hr_ HO505 hb; replace HO509 := hr_ HO509 hb; replace BKa := bb BKa hb; replace BKb := bb BKb hb; replace BKc := bb BKc hb; replace BKd := bb BKd hb; replace BKe := bb BKe hb; replace BKf := bb BKf hb; replace BKj := bb BKj hb; replace BKk := bb BKk hb; replace BKl := bb BKl hb; replace HB := hs HB hb; clear hb hbox hg; obtain ⟨hnb230, hnc230⟩ := nn_ Nm_a; obtain ⟨hnb231, hnc231⟩ := nn_ Nm_b; obtain ⟨hnb232, hnc232⟩ := nn_ Nm_c; obtain ⟨hnb233, hnc233⟩ := nn_ Nm_d; obtain ⟨hnb234, hnc234⟩ := nn_ Nm_e; obtain ⟨hnb235, hnc235⟩ := nn_ Nm_f; obtain ⟨hnb236, hnc236⟩ := nn_ Nm_j; obtain ⟨hnb237, hnc237⟩ := nn_ Nm_k; obtain ⟨hnb238, hnc238⟩ := nn_ Nm_l; have hcz239_0 := cz_ BKm 0 (.int .i64 0); have hcz239_1 := cz_ BKm 1 (.int .i64 0); have hcz239_2 := cz_ BKm 2 (.int .i64 0); have hcz239_3 := cz_ BKm 3 (.int .i64 0); have hfz239_0 := blk_frozen BKm.out 0; have hfz239_1 := blk_frozen BKm.out 1; have hfz239_2 := blk_frozen BKm.out 2; have hfz239_3 := blk_frozen BKm.out 3))
         (try simp only [Act.put, s1, s2, s3])
         go_cut [276] from 133 to 276 (fun v276 wc => ∃ (kq : Nat) (x276_167 : Bool), v276 = .bool x276_167 ∧ Aside0 (j4 kq a2 a4 t495 t498 t503 t506 t515 t527 x276_167 a3_0 a3_1 a5_0 a5_1 a5_2 a5_3 a6_0 a6_1 a6_2 a6_3 a7_0 a7_1 a7_2 a7_3 a8_0 a8_1 t511 t512 t513 t514 t523 t524 t525 t526 = some r) ∧ Aside0 (kq ≤ kj55) ∧ Aside0 (Kd.R k23 23 wc w.heap.size (fun k_ => some k_ ≠ (v504 : Value).ownBlock ∧ k_ ≠ gbb ∧ k_ ≠ gbf) v496 t495) ∧ Aside0 (Kd.R k23 23 wc w.heap.size (fun k_ => some k_ ≠ (v496 : Value).ownBlock ∧ k_ ≠ gbb ∧ k_ ≠ gbf) v504 t503) ∧ Aside0 (wc.heap[gba]? = some (.cells #[.int .i64 a1_0, .int .i64 a1_1, .int .i64 a1_2, .int .i64 a1_3] 25 (0, 0))) ∧ Aside0 (wc.heap[gbb]? = some (.cells #[.int .i64 a3_0, .int .i64 a3_1] 23 (0, 0))) ∧ Aside0 (wc.heap[gbc]? = some (.cells #[.int .i64 a5_0, .int .i64 a5_1, .int .i64 a5_2, .int .i64 a5_3] 25 (0, 0))) ∧ Aside0 (wc.heap[gbd]? = some (.cells #[.int .i64 a6_0, .int .i64 a6_1, .int .i64 a6_2, .int .i64 a6_3] 25 (0, 0))) ∧ Aside0 (wc.heap[gbe]? = some (.cells #[.int .i64 a7_0, .int .i64 a7_1, .int .i64 a7_2, .int .i64 a7_3] 25 (0, 0))) ∧ Aside0 (wc.heap[gbf]? = some (.cells #[.int .i64 a8_0, .int .i64 a8_1] 23 (0, 0))) ∧ Aside0 (wc.heap[gbj]? = some (.cells #[.int .i64 t511, .int .i64 t512, .int .i64 t513, .int .i64 t514] 25 (0, 0))) ∧ Aside0 (wc.heap[gbk]? = some (.cells #[.int .i64 t517, .int .i64 t518, .int .i64 t519, .int .i64 t520] 25 (0, 0))) ∧ Aside0 (wc.heap[gbl]? = some (.cells #[.int .i64 t523, .int .i64 t524, .int .i64 t525, .int .i64 t526] 25 (0, 0))) ∧ Aside0 (wc.heap[gbm]? = some (.cells #[.int .i64 t529, .int .i64 t530, .int .i64 t531, .int .i64 t532] 25 (0, 0))) ∧ Aside0 (Below w.heap.size w wc))
         case first => as_aux_lemma =>
          have H := HC168.out
          clear HC168
          by_cases c240 : (t498 != t502) = true
          ·
           rw [if_pos c240] at H
           exact absurd H (by simp)
          ·
           rw [if_neg c240] at H
           have c240b0 : (t498 != t502) = false := by simpa using c240
           (try (have c240b1 : decide (t498 = t502) = true := by simpa using c240))
           (try (have c240b2 : (t498 == t502) = true := by simpa using c240))
           clear c240
           (first | rw [c240b0] | (simp only [i64_w, i32_w]; rw [c240b0]) | skip)
           replace H := Option.bind_eq_some_iff.mp H
           obtain ⟨t535, A2410, H⟩ := H
           try dsimp only at H
           have A241 := Aside0.mk A2410
           clear A2410
           by_cases c242 : t535 = true
           ·
            subst c242
            have H1 : (if (t506 != t510) = true then (none) else ((laws_wTurns.f kj55 t503 t507).bind fun t536 => (if t536 = true then (if (t515 != t521) = true then (none) else (if ((!(t511 == t517) || (!(t512 == t518))) || ((!(t513 == t519) || (!(t514 == t520))))) = true then (none) else (if (t527 != t533) = true then (none) else (if ((!(t523 == t529) || (!(t524 == t530))) || ((!(t525 == t531) || (!(t526 == t532))))) = true then (none) else ((impl_IsSeen.f kj55 a6_0 a6_1 a6_2 a6_3).bind fun t537 => (j4 kj55 a2 a4 t495 t498 t503 t506 t515 t527 (t515 != t537) a3_0 a3_1 a5_0 a5_1 a5_2 a5_3 a6_0 a6_1 a6_2 a6_3 a7_0 a7_1 a7_2 a7_3 a8_0 a8_1 t511 t512 t513 t514 t523 t524 t525 t526)))))) else (none)))) = some r := by rw [if_pos rfl] at H; exact H
            clear H
            have H := H1
            clear H1
            by_cases c243 : (t506 != t510) = true
            ·
             rw [if_pos c243] at H
             exact absurd H (by simp)
            ·
             rw [if_neg c243] at H
             have c243b0 : (t506 != t510) = false := by simpa using c243
             (try (have c243b1 : decide (t506 = t510) = true := by simpa using c243))
             (try (have c243b2 : (t506 == t510) = true := by simpa using c243))
             clear c243
             replace H := Option.bind_eq_some_iff.mp H
             obtain ⟨t536, A2440, H⟩ := H
             try dsimp only at H
             have A244 := Aside0.mk A2440
             clear A2440
             by_cases c245 : t536 = true
             ·
              subst c245
              have H1 : (if (t515 != t521) = true then (none) else (if ((!(t511 == t517) || (!(t512 == t518))) || ((!(t513 == t519) || (!(t514 == t520))))) = true then (none) else (if (t527 != t533) = true then (none) else (if ((!(t523 == t529) || (!(t524 == t530))) || ((!(t525 == t531) || (!(t526 == t532))))) = true then (none) else ((impl_IsSeen.f kj55 a6_0 a6_1 a6_2 a6_3).bind fun t537 => (j4 kj55 a2 a4 t495 t498 t503 t506 t515 t527 (t515 != t537) a3_0 a3_1 a5_0 a5_1 a5_2 a5_3 a6_0 a6_1 a6_2 a6_3 a7_0 a7_1 a7_2 a7_3 a8_0 a8_1 t511 t512 t513 t514 t523 t524 t525 t526)))))) = some r := by rw [if_pos rfl] at H; exact H
              clear H
              have H := H1
              clear H1
              by_cases c246 : (t515 != t521) = true
              ·
               rw [if_pos c246] at H
               exact absurd H (by simp)
              ·
               rw [if_neg c246] at H
               have c246b0 : (t515 != t521) = false := by simpa using c246
               (try (have c246b1 : decide (t515 = t521) = true := by simpa using c246))
               (try (have c246b2 : (t515 == t521) = true := by simpa using c246))
               clear c246
               by_cases c247 : ((!(t511 == t517) || (!(t512 == t518))) || ((!(t513 == t519) || (!(t514 == t520))))) = true
               ·
                rw [if_pos c247] at H
                exact absurd H (by simp)
               ·
                rw [if_neg c247] at H
                have c247b0 : ((!(t511 == t517) || (!(t512 == t518))) || ((!(t513 == t519) || (!(t514 == t520))))) = false := by simpa using c247
                clear c247
                by_cases c248 : (t527 != t533) = true
                ·
                 rw [if_pos c248] at H
                 exact absurd H (by simp)
                ·
                 rw [if_neg c248] at H
                 have c248b0 : (t527 != t533) = false := by simpa using c248
                 (try (have c248b1 : decide (t527 = t533) = true := by simpa using c248))
                 (try (have c248b2 : (t527 == t533) = true := by simpa using c248))
                 clear c248
                 by_cases c249 : ((!(t523 == t529) || (!(t524 == t530))) || ((!(t525 == t531) || (!(t526 == t532))))) = true
                 ·
                  rw [if_pos c249] at H
                  exact absurd H (by simp)
                 ·
                  rw [if_neg c249] at H
                  have c249b0 : ((!(t523 == t529) || (!(t524 == t530))) || ((!(t525 == t531) || (!(t526 == t532))))) = false := by simpa using c249
                  clear c249
                  replace H := Option.bind_eq_some_iff.mp H
                  obtain ⟨t537, A2500, H⟩ := H
                  try dsimp only at H
                  have A250 := Aside0.mk A2500
                  clear A2500
                  as_aux_lemma =>
                   have H' := Aside0.mk H
                   clear H
                   obtain ⟨Ao251, co251, eo251⟩ := Kd.R_slice HO497.out
                   subst eo251
                   obtain ⟨Ao252, co252, eo252⟩ := Kd.R_slice HO501.out
                   subst eo252
                   have n0_ := Aside0.mk (Kd.R_mono (Kd.R_far (p := ⟨gbm, 3, none⟩) (Kd.R_far (p := ⟨gbm, 2, none⟩) (Kd.R_far (p := ⟨gbm, 1, none⟩) (Kd.R_far (p := ⟨gbm, 0, none⟩) (Kd.R_types HO497.out BKm.out (by decide)) (fun _ hk => hk.2) (.int .i64 t529)) (fun _ hk => hk.2) (.int .i64 t530)) (fun _ hk => hk.2) (.int .i64 t531)) (fun _ hk => hk.2) (.int .i64 t532)) (fun _ h_ => h_.1))
                   have n1_ := Aside0.mk (Kd.R_mono (Kd.R_far (p := ⟨gbm, 3, none⟩) (Kd.R_far (p := ⟨gbm, 2, none⟩) (Kd.R_far (p := ⟨gbm, 1, none⟩) (Kd.R_far (p := ⟨gbm, 0, none⟩) (Kd.R_types HO501.out BKm.out (by decide)) (fun _ hk => hk.2) (.int .i64 t529)) (fun _ hk => hk.2) (.int .i64 t530)) (fun _ hk => hk.2) (.int .i64 t531)) (fun _ hk => hk.2) (.int .i64 t532)) (fun _ h_ => h_.1))
                   have n2_ := Aside0.mk (Kd.R_mono (Kd.R_far (p := ⟨gbm, 3, none⟩) (Kd.R_far (p := ⟨gbm, 2, none⟩) (Kd.R_far (p := ⟨gbm, 1, none⟩) (Kd.R_far (p := ⟨gbm, 0, none⟩) (Kd.R_types HO505.out BKm.out (by decide)) (fun _ hk => hk.2) (.int .i64 t529)) (fun _ hk => hk.2) (.int .i64 t530)) (fun _ hk => hk.2) (.int .i64 t531)) (fun _ hk => hk.2) (.int .i64 t532)) (fun _ h_ => h_.1))
                   have n3_ := Aside0.mk (Kd.R_mono (Kd.R_far (p := ⟨gbm, 3, none⟩) (Kd.R_far (p := ⟨gbm, 2, none⟩) (Kd.R_far (p := ⟨gbm, 1, none⟩) (Kd.R_far (p := ⟨gbm, 0, none⟩) (Kd.R_types HO509.out BKm.out (by decide)) (fun _ hk => hk.2) (.int .i64 t529)) (fun _ hk => hk.2) (.int .i64 t530)) (fun _ hk => hk.2) (.int .i64 t531)) (fun _ hk => hk.2) (.int .i64 t532)) (fun _ h_ => h_.1))
                   have n4_ : Aside0 (((((w229.setCell ⟨gbm, 0, none⟩ (.int .i64 t529)).setCell ⟨gbm, 1, none⟩ (.int .i64 t530)).setCell ⟨gbm, 2, none⟩ (.int .i64 t531)).setCell ⟨gbm, 3, none⟩ (.int .i64 t532)).heap[gba]? = some (.cells #[.int .i64 a1_0, .int .i64 a1_1, .int .i64 a1_2, .int .i64 a1_3] 25 (0, 0))) := bk_ BKa
                   have n5_ : Aside0 (((((w229.setCell ⟨gbm, 0, none⟩ (.int .i64 t529)).setCell ⟨gbm, 1, none⟩ (.int .i64 t530)).setCell ⟨gbm, 2, none⟩ (.int .i64 t531)).setCell ⟨gbm, 3, none⟩ (.int .i64 t532)).heap[gbb]? = some (.cells #[.int .i64 a3_0, .int .i64 a3_1] 23 (0, 0))) := bk_ BKb
                   have n6_ : Aside0 (((((w229.setCell ⟨gbm, 0, none⟩ (.int .i64 t529)).setCell ⟨gbm, 1, none⟩ (.int .i64 t530)).setCell ⟨gbm, 2, none⟩ (.int .i64 t531)).setCell ⟨gbm, 3, none⟩ (.int .i64 t532)).heap[gbc]? = some (.cells #[.int .i64 a5_0, .int .i64 a5_1, .int .i64 a5_2, .int .i64 a5_3] 25 (0, 0))) := bk_ BKc
                   have n7_ : Aside0 (((((w229.setCell ⟨gbm, 0, none⟩ (.int .i64 t529)).setCell ⟨gbm, 1, none⟩ (.int .i64 t530)).setCell ⟨gbm, 2, none⟩ (.int .i64 t531)).setCell ⟨gbm, 3, none⟩ (.int .i64 t532)).heap[gbd]? = some (.cells #[.int .i64 a6_0, .int .i64 a6_1, .int .i64 a6_2, .int .i64 a6_3] 25 (0, 0))) := bk_ BKd
                   have n8_ : Aside0 (((((w229.setCell ⟨gbm, 0, none⟩ (.int .i64 t529)).setCell ⟨gbm, 1, none⟩ (.int .i64 t530)).setCell ⟨gbm, 2, none⟩ (.int .i64 t531)).setCell ⟨gbm, 3, none⟩ (.int .i64 t532)).heap[gbe]? = some (.cells #[.int .i64 a7_0, .int .i64 a7_1, .int .i64 a7_2, .int .i64 a7_3] 25 (0, 0))) := bk_ BKe
                   have n9_ : Aside0 (((((w229.setCell ⟨gbm, 0, none⟩ (.int .i64 t529)).setCell ⟨gbm, 1, none⟩ (.int .i64 t530)).setCell ⟨gbm, 2, none⟩ (.int .i64 t531)).setCell ⟨gbm, 3, none⟩ (.int .i64 t532)).heap[gbf]? = some (.cells #[.int .i64 a8_0, .int .i64 a8_1] 23 (0, 0))) := bk_ BKf
                   have n10_ : Aside0 (((((w229.setCell ⟨gbm, 0, none⟩ (.int .i64 t529)).setCell ⟨gbm, 1, none⟩ (.int .i64 t530)).setCell ⟨gbm, 2, none⟩ (.int .i64 t531)).setCell ⟨gbm, 3, none⟩ (.int .i64 t532)).heap[gbj]? = some (.cells #[.int .i64 t511, .int .i64 t512, .int .i64 t513, .int .i64 t514] 25 (0, 0))) := bk_ BKj
                   have n11_ : Aside0 (((((w229.setCell ⟨gbm, 0, none⟩ (.int .i64 t529)).setCell ⟨gbm, 1, none⟩ (.int .i64 t530)).setCell ⟨gbm, 2, none⟩ (.int .i64 t531)).setCell ⟨gbm, 3, none⟩ (.int .i64 t532)).heap[gbk]? = some (.cells #[.int .i64 t517, .int .i64 t518, .int .i64 t519, .int .i64 t520] 25 (0, 0))) := bk_ BKk
                   have n12_ : Aside0 (((((w229.setCell ⟨gbm, 0, none⟩ (.int .i64 t529)).setCell ⟨gbm, 1, none⟩ (.int .i64 t530)).setCell ⟨gbm, 2, none⟩ (.int .i64 t531)).setCell ⟨gbm, 3, none⟩ (.int .i64 t532)).heap[gbl]? = some (.cells #[.int .i64 t523, .int .i64 t524, .int .i64 t525, .int .i64 t526] 25 (0, 0))) := bk_ BKl
                   have n13_ : Aside0 (((((w229.setCell ⟨gbm, 0, none⟩ (.int .i64 t529)).setCell ⟨gbm, 1, none⟩ (.int .i64 t530)).setCell ⟨gbm, 2, none⟩ (.int .i64 t531)).setCell ⟨gbm, 3, none⟩ (.int .i64 t532)).heap[gbm]? = some (.cells #[.int .i64 t529, .int .i64 t530, .int .i64 t531, .int .i64 t532] 25 (0, 0))) := ⟨by (with_reducible repeat (first | refine blk_drewN ?_ _ | refine blk_drew ?_ | refine blk_alloc ?_ _)); refine blk_put (cs := #[.int .i64 t529, .int .i64 t530, .int .i64 t531, .int .i64 0]) ?_ 3 _ rfl; (with_reducible repeat (first | refine blk_drewN ?_ _ | refine blk_drew ?_ | refine blk_alloc ?_ _)); refine blk_put (cs := #[.int .i64 t529, .int .i64 t530, .int .i64 0, .int .i64 0]) ?_ 2 _ rfl; (with_reducible repeat (first | refine blk_drewN ?_ _ | refine blk_drew ?_ | refine blk_alloc ?_ _)); refine blk_put (cs := #[.int .i64 t529, .int .i64 0, .int .i64 0, .int .i64 0]) ?_ 1 _ rfl; (with_reducible repeat (first | refine blk_drewN ?_ _ | refine blk_drew ?_ | refine blk_alloc ?_ _)); refine blk_put (cs := #[.int .i64 0, .int .i64 0, .int .i64 0, .int .i64 0]) ?_ 0 _ rfl; (with_reducible repeat (first | refine blk_drewN ?_ _ | refine blk_drew ?_ | refine blk_alloc ?_ _)); exact BKm.out⟩
                   have n14_ : Aside0 (Below w.heap.size w ((((w229.setCell ⟨gbm, 0, none⟩ (.int .i64 t529)).setCell ⟨gbm, 1, none⟩ (.int .i64 t530)).setCell ⟨gbm, 2, none⟩ (.int .i64 t531)).setCell ⟨gbm, 3, none⟩ (.int .i64 t532))) := hb_ HB
                   clear HO497 HO501 HO505 HO509 BKa BKb BKc BKd BKe BKf BKj BKk BKl BKm HB
                   generalize ((((w229.setCell ⟨gbm, 0, none⟩ (.int .i64 t529)).setCell ⟨gbm, 1, none⟩ (.int .i64 t530)).setCell ⟨gbm, 2, none⟩ (.int .i64 t531)).setCell ⟨gbm, 3, none⟩ (.int .i64 t532)) = w296 at n0_ n1_ n2_ n3_ n4_ n5_ n6_ n7_ n8_ n9_ n10_ n11_ n12_ n13_ n14_ ⊢
                   have HO497 := n0_
                   have HO501 := n1_
                   have HO505 := n2_
                   have HO509 := n3_
                   have BKa := n4_
                   have BKb := n5_
                   have BKc := n6_
                   have BKd := n7_
                   have BKe := n8_
                   have BKf := n9_
                   have BKj := n10_
                   have BKk := n11_
                   have BKl := n12_
                   have BKm := n13_
                   have HB := n14_
                   clear n0_ n1_ n2_ n3_ n4_ n5_ n6_ n7_ n8_ n9_ n10_ n11_ n12_ n13_ n14_
                   go_wp2_with (first | (go_at_call 22; refine calls_of_args (args' := #[.slice Ao251 t495.length co251, .slice Ao252 t499.length co252]) (by first | rfl) ?_; (with_reducible refine (laws_wTurns.calls kj55 _ _ t495 _ _ t499 true _ ?side1 ?side2 ?side3 ?side4 A241.out).mono ?_); (case side1 => refine (Kd.R_reads' (e := 23) (base := w.heap.size) (ok := fun k_ => (((((True ∧ k_ ≠ gbb) ∧ k_ ≠ gbf) ∧ some k_ ≠ (.slice Ao252 t499.length co252 : Value).ownBlock) ∧ some k_ ≠ (v504 : Value).ownBlock) ∧ some k_ ≠ (v508 : Value).ownBlock)) (n := t495.length) (c := co251) ?_).2.2; exact (by (with_reducible repeat (first | apply Kd.R_alloc | apply Kd.R_drewN | apply Kd.R_drew)); exact HO497.out)); (case side2 => exact (Kd.R_reads' HO497.out).2.1); (case side3 => refine (Kd.R_reads' (e := 23) (base := w.heap.size) (ok := fun k_ => (((((True ∧ some k_ ≠ (.slice Ao251 t495.length co251 : Value).ownBlock) ∧ k_ ≠ gbb) ∧ k_ ≠ gbf) ∧ some k_ ≠ (v504 : Value).ownBlock) ∧ some k_ ≠ (v508 : Value).ownBlock)) (n := t499.length) (c := co252) ?_).2.2; exact (by (with_reducible repeat (first | apply Kd.R_alloc | apply Kd.R_drewN | apply Kd.R_drew)); exact HO501.out)); (case side4 => exact (Kd.R_reads' HO501.out).2.1); rintro e w' ⟨rfl, ⟨nd, rfl⟩⟩; obtain ⟨Ao253, co253, eo253⟩ := Kd.R_slice HO505.out; subst eo253; obtain ⟨Ao254, co254, eo254⟩ := Kd.R_slice HO509.out; subst eo254) | (go_at_call 22; refine calls_of_args (args' := #[.slice Ao253 t503.length co253, .slice Ao254 t507.length co254]) (by first | rfl) ?_; (with_reducible refine (laws_wTurns.calls kj55 _ _ t503 _ _ t507 true _ ?side1 ?side2 ?side3 ?side4 A244.out).mono ?_); (case side1 => refine (Kd.R_reads' (e := 23) (base := w.heap.size) (ok := fun k_ => (((((True ∧ some k_ ≠ (.slice Ao251 t495.length co251 : Value).ownBlock) ∧ some k_ ≠ (.slice Ao252 t499.length co252 : Value).ownBlock) ∧ k_ ≠ gbb) ∧ k_ ≠ gbf) ∧ some k_ ≠ (.slice Ao254 t507.length co254 : Value).ownBlock)) (n := t503.length) (c := co253) ?_).2.2; exact (by (with_reducible repeat (first | apply Kd.R_alloc | apply Kd.R_drewN | apply Kd.R_drew)); exact HO505.out)); (case side2 => exact (Kd.R_reads' HO505.out).2.1); (case side3 => refine (Kd.R_reads' (e := 23) (base := w.heap.size) (ok := fun k_ => (((((True ∧ some k_ ≠ (.slice Ao251 t495.length co251 : Value).ownBlock) ∧ some k_ ≠ (.slice Ao252 t499.length co252 : Value).ownBlock) ∧ some k_ ≠ (.slice Ao253 t503.length co253 : Value).ownBlock) ∧ k_ ≠ gbb) ∧ k_ ≠ gbf)) (n := t507.length) (c := co254) ?_).2.2; exact (by (with_reducible repeat (first | apply Kd.R_alloc | apply Kd.R_drewN | apply Kd.R_drew)); exact HO509.out)); (case side4 => exact (Kd.R_reads' HO509.out).2.1); rintro e w' ⟨rfl, ⟨nd, rfl⟩⟩; have hcz264_0 := cz_ BKj 0 (.int .i64 t511); have hcz264_1 := cz_ BKj 1 (.int .i64 t512); have hcz264_2 := cz_ BKj 2 (.int .i64 t513); have hcz264_3 := cz_ BKj 3 (.int .i64 t514); have hfz264_0 := blk_frozen BKj.out 0; have hfz264_1 := blk_frozen BKj.out 1; have hfz264_2 := blk_frozen BKj.out 2; have hfz264_3 := blk_frozen BKj.out 3; have hcz273_0 := cz_ BKk 0 (.int .i64 t517); have hcz273_1 := cz_ BKk 1 (.int .i64 t518); have hcz273_2 := cz_ BKk 2 (.int .i64 t519); have hcz273_3 := cz_ BKk 3 (.int .i64 t520); have hfz273_0 := blk_frozen BKk.out 0; have hfz273_1 := blk_frozen BKk.out 1; have hfz273_2 := blk_frozen BKk.out 2; have hfz273_3 := blk_frozen BKk.out 3; have hcz281_0 := cz_ BKl 0 (.int .i64 t523); have hcz281_1 := cz_ BKl 1 (.int .i64 t524); have hcz281_2 := cz_ BKl 2 (.int .i64 t525); have hcz281_3 := cz_ BKl 3 (.int .i64 t526); have hfz281_0 := blk_frozen BKl.out 0; have hfz281_1 := blk_frozen BKl.out 1; have hfz281_2 := blk_frozen BKl.out 2; have hfz281_3 := blk_frozen BKl.out 3; have hcz288_0 := cz_ BKm 0 (.int .i64 t529); have hcz288_1 := cz_ BKm 1 (.int .i64 t530); have hcz288_2 := cz_ BKm 2 (.int .i64 t531); have hcz288_3 := cz_ BKm 3 (.int .i64 t532); have hfz288_0 := blk_frozen BKm.out 0; have hfz288_1 := blk_frozen BKm.out 1; have hfz288_2 := blk_frozen BKm.out 2; have hfz288_3 := blk_frozen BKm.out 3; have hcz294_0 := cz_ BKd 0 (.int .i64 a6_0); have hcz294_1 := cz_ BKd 1 (.int .i64 a6_1); have hcz294_2 := cz_ BKd 2 (.int .i64 a6_2); have hcz294_3 := cz_ BKd 3 (.int .i64 a6_3); have hfz294_0 := blk_frozen BKd.out 0; have hfz294_1 := blk_frozen BKd.out 1; have hfz294_2 := blk_frozen BKd.out 2; have hfz294_3 := blk_frozen BKd.out 3) | (go_at_call 13; refine calls_of_args (args' := #[.agg #[.int .i64 a6_0, .int .i64 a6_1, .int .i64 a6_2, .int .i64 a6_3]]) (by first | rfl) ?_; (with_reducible refine (impl_IsSeen.calls kj55 a6_0 a6_1 a6_2 a6_3 t537 _ A250.out).mono ?_); rintro e w295 ⟨rfl, hb⟩; replace HO497 := hr_ HO497 hb; replace HO501 := hr_ HO501 hb; replace HO505 := hr_ HO505 hb; replace HO509 := hr_ HO509 hb; replace BKa := bb BKa hb; replace BKb := bb BKb hb; replace BKc := bb BKc hb; replace BKd := bb BKd hb; replace BKe := bb BKe hb; replace BKf := bb BKf hb; replace BKj := bb BKj hb; replace BKk := bb BKk hb; replace BKl := bb BKl hb; replace BKm := bb BKm hb; replace HB := hs HB hb; (try clear hb); (try clear hb2); (try clear hk); (try clear hi)))
                   go_meet
                   case rel => exact ⟨_, ((t515 != t537)), (by first | rfl | (simp; done) | (simp [*]; done)), H', ⟨by have := HJ13.out; have := HJ49.out; have := HJ55.out; first | omega | exact Nat.le_refl _⟩, ⟨by (with_reducible repeat (first | apply Kd.R_alloc | apply Kd.R_drewN | apply Kd.R_drew)); exact Kd.R_mono HO497.out (fun _ hk => ⟨hk.1.2, ⟨hk.1.1.1.1.2, hk.1.1.1.2⟩⟩)⟩, ⟨by (with_reducible repeat (first | apply Kd.R_alloc | apply Kd.R_drewN | apply Kd.R_drew)); exact Kd.R_mono HO505.out (fun _ hk => ⟨hk.1.1.1.1.2, ⟨hk.1.1.2, hk.1.2⟩⟩)⟩, bk_ BKa, bk_ BKb, bk_ BKc, bk_ BKd, bk_ BKe, bk_ BKf, bk_ BKj, bk_ BKk, bk_ BKl, bk_ BKm, hb_ HB⟩
             ·
              replace c245 := Bool.eq_false_iff.mpr c245
              subst c245
              have H1 : (none) = some r := by rw [if_neg (show ¬ (false = true) by decide)] at H; exact H
              clear H
              have H := H1
              clear H1
              exact absurd H (by simp)
           ·
            replace c242 := Bool.eq_false_iff.mpr c242
            subst c242
            have H1 : (none) = some r := by rw [if_neg (show ¬ (false = true) by decide)] at H; exact H
            clear H
            have H := H1
            clear H1
            exact absurd H (by simp)
         case rest => as_aux_lemma =>
          clear HC168
          try clear hcz174_0
          try clear hcz174_1
          try clear hfz174_0
          try clear hfz174_1
          obtain ⟨kq, x276_167, rfl, HA, HJ167, HO_35, HO_39, BKa, BKb, BKc, BKd, BKe, BKf, BKj, BKk, BKl, BKm, HB⟩ := hcut
          cases kq with
          | zero => exact absurd HA.out (by simp [j4])
          | succ kj167 =>
           have H := HA.out
           clear HA
           simp only [j4] at H
           by_cases c296 : x276_167 = true
           ·
            subst c296
            have H1 : (none) = some r := by rw [if_pos rfl] at H; exact H
            clear H
            have H := H1
            clear H1
            exact absurd H (by simp)
           ·
            replace c296 := Bool.eq_false_iff.mpr c296
            subst c296
            have H1 : (if t498 = true then (if (t495.length : Int) = (wrap64 (a2 - 1)) then ((laws_wRises.f kj167 t495).bind fun t538 => (j5 kj167 a2 a4 t495 t503 t506 t515 t527 (!t538) a3_0 a3_1 a5_0 a5_1 a5_2 a5_3 a6_0 a6_1 a6_2 a6_3 a7_0 a7_1 a7_2 a7_3 a8_0 a8_1 t511 t512 t513 t514 t523 t524 t525 t526)) else (none)) else (j7 kj167 a4 t503 t506 t515 t527 a5_0 a5_1 a5_2 a5_3 a6_0 a6_1 a6_2 a6_3 a7_0 a7_1 a7_2 a7_3 a8_0 a8_1 t511 t512 t513 t514 t523 t524 t525 t526)) = some r := by rw [if_neg (show ¬ (false = true) by decide)] at H; exact H
            clear H
            have H := H1
            clear H1
            have HC297 := Aside0.mk H
            clear H
            go_upto_if 277 with (fail)
            go_cut [] from 277 to 287 (fun wc => ∃ (kq : Nat), Aside0 (j7 kq a4 t503 t506 t515 t527 a5_0 a5_1 a5_2 a5_3 a6_0 a6_1 a6_2 a6_3 a7_0 a7_1 a7_2 a7_3 a8_0 a8_1 t511 t512 t513 t514 t523 t524 t525 t526 = some r) ∧ Aside0 (kq ≤ kj167) ∧ Aside0 (Kd.R k23 23 wc w.heap.size (fun k_ => k_ ≠ gbb ∧ k_ ≠ gbf) v504 t503) ∧ Aside0 (wc.heap[gba]? = some (.cells #[.int .i64 a1_0, .int .i64 a1_1, .int .i64 a1_2, .int .i64 a1_3] 25 (0, 0))) ∧ Aside0 (wc.heap[gbb]? = some (.cells #[.int .i64 a3_0, .int .i64 a3_1] 23 (0, 0))) ∧ Aside0 (wc.heap[gbc]? = some (.cells #[.int .i64 a5_0, .int .i64 a5_1, .int .i64 a5_2, .int .i64 a5_3] 25 (0, 0))) ∧ Aside0 (wc.heap[gbd]? = some (.cells #[.int .i64 a6_0, .int .i64 a6_1, .int .i64 a6_2, .int .i64 a6_3] 25 (0, 0))) ∧ Aside0 (wc.heap[gbe]? = some (.cells #[.int .i64 a7_0, .int .i64 a7_1, .int .i64 a7_2, .int .i64 a7_3] 25 (0, 0))) ∧ Aside0 (wc.heap[gbf]? = some (.cells #[.int .i64 a8_0, .int .i64 a8_1] 23 (0, 0))) ∧ Aside0 (wc.heap[gbj]? = some (.cells #[.int .i64 t511, .int .i64 t512, .int .i64 t513, .int .i64 t514] 25 (0, 0))) ∧ Aside0 (wc.heap[gbk]? = some (.cells #[.int .i64 t517, .int .i64 t518, .int .i64 t519, .int .i64 t520] 25 (0, 0))) ∧ Aside0 (wc.heap[gbl]? = some (.cells #[.int .i64 t523, .int .i64 t524, .int .i64 t525, .int .i64 t526] 25 (0, 0))) ∧ Aside0 (wc.heap[gbm]? = some (.cells #[.int .i64 t529, .int .i64 t530, .int .i64 t531, .int .i64 t532] 25 (0, 0))) ∧ Aside0 (Below w.heap.size w wc))
            case first => as_aux_lemma =>
             have H := HC297.out
             clear HC297
             by_cases c298 : t498 = true
             ·
              subst c298
              have H1 : (if (t495.length : Int) = (wrap64 (a2 - 1)) then ((laws_wRises.f kj167 t495).bind fun t538 => (j5 kj167 a2 a4 t495 t503 t506 t515 t527 (!t538) a3_0 a3_1 a5_0 a5_1 a5_2 a5_3 a6_0 a6_1 a6_2 a6_3 a7_0 a7_1 a7_2 a7_3 a8_0 a8_1 t511 t512 t513 t514 t523 t524 t525 t526)) else (none)) = some r := by rw [if_pos rfl] at H; exact H
              clear H
              have H := H1
              clear H1
              have HC299 := Aside0.mk H
              clear H
              go_upto_region 32 with (fail)
              go_cut [287] from 277 to 287 (fun v287 wc => ∃ (kq : Nat) (x287_298 : Bool), v287 = .bool x287_298 ∧ Aside0 (j5 kq a2 a4 t495 t503 t506 t515 t527 x287_298 a3_0 a3_1 a5_0 a5_1 a5_2 a5_3 a6_0 a6_1 a6_2 a6_3 a7_0 a7_1 a7_2 a7_3 a8_0 a8_1 t511 t512 t513 t514 t523 t524 t525 t526 = some r) ∧ Aside0 (kq ≤ kj167) ∧ Aside0 (Kd.R k23 23 wc w.heap.size (fun k_ => some k_ ≠ (v504 : Value).ownBlock ∧ k_ ≠ gbb ∧ k_ ≠ gbf) v496 t495) ∧ Aside0 (Kd.R k23 23 wc w.heap.size (fun k_ => some k_ ≠ (v496 : Value).ownBlock ∧ k_ ≠ gbb ∧ k_ ≠ gbf) v504 t503) ∧ Aside0 (wc.heap[gba]? = some (.cells #[.int .i64 a1_0, .int .i64 a1_1, .int .i64 a1_2, .int .i64 a1_3] 25 (0, 0))) ∧ Aside0 (wc.heap[gbb]? = some (.cells #[.int .i64 a3_0, .int .i64 a3_1] 23 (0, 0))) ∧ Aside0 (wc.heap[gbc]? = some (.cells #[.int .i64 a5_0, .int .i64 a5_1, .int .i64 a5_2, .int .i64 a5_3] 25 (0, 0))) ∧ Aside0 (wc.heap[gbd]? = some (.cells #[.int .i64 a6_0, .int .i64 a6_1, .int .i64 a6_2, .int .i64 a6_3] 25 (0, 0))) ∧ Aside0 (wc.heap[gbe]? = some (.cells #[.int .i64 a7_0, .int .i64 a7_1, .int .i64 a7_2, .int .i64 a7_3] 25 (0, 0))) ∧ Aside0 (wc.heap[gbf]? = some (.cells #[.int .i64 a8_0, .int .i64 a8_1] 23 (0, 0))) ∧ Aside0 (wc.heap[gbj]? = some (.cells #[.int .i64 t511, .int .i64 t512, .int .i64 t513, .int .i64 t514] 25 (0, 0))) ∧ Aside0 (wc.heap[gbk]? = some (.cells #[.int .i64 t517, .int .i64 t518, .int .i64 t519, .int .i64 t520] 25 (0, 0))) ∧ Aside0 (wc.heap[gbl]? = some (.cells #[.int .i64 t523, .int .i64 t524, .int .i64 t525, .int .i64 t526] 25 (0, 0))) ∧ Aside0 (wc.heap[gbm]? = some (.cells #[.int .i64 t529, .int .i64 t530, .int .i64 t531, .int .i64 t532] 25 (0, 0))) ∧ Aside0 (Below w.heap.size w wc))
              case first => as_aux_lemma =>
               have H := HC299.out
               clear HC299
               by_cases c300 : (t495.length : Int) = (wrap64 (a2 - 1))
               ·
                rw [if_pos c300] at H
                have c300b0 : ((t495.length : Int) == (wrap64 (a2 - 1))) = true := beq_iff_eq.mpr c300
                have c300b1 : ((t495.length : Int) != (wrap64 (a2 - 1))) = false := bne_eq_false_iff_eq.mpr c300
                clear c300
                (first | rw [c300b0] | (simp only [i64_w, i32_w]; rw [c300b0]) | skip)
                replace H := Option.bind_eq_some_iff.mp H
                obtain ⟨t538, A3010, H⟩ := H
                try dsimp only at H
                have A301 := Aside0.mk A3010
                clear A3010
                as_aux_lemma =>
                 have H' := Aside0.mk H
                 clear H
                 obtain ⟨Ao302, co302, eo302⟩ := Kd.R_slice HO_35.out
                 subst eo302
                 go_wp2_with (first | (go_at_call 15; refine calls_of_args (args' := #[.slice Ao302 t495.length co302]) (by first | rfl) ?_; (with_reducible refine (laws_wRises.calls kj167 _ _ t495 t538 _ ?side1 ?side2 A301.out).mono ?_); (case side1 => repeat (first | exact (Kd.R_reads' HO_35.out).2.2 | (with_reducible refine Kd.C_alloc ?_ _) | (with_reducible refine Kd.C_drewN ?_ _) | (with_reducible refine Kd.C_drew ?_))); (case side2 => exact (Kd.R_reads' HO_35.out).2.1); rintro e w' ⟨rfl, ⟨nd, rfl⟩⟩))
                 go_meet
                 case rel => exact ⟨_, (!t538), (by first | rfl | (simp; done) | (simp [*]; done)), H', ⟨by have := HJ13.out; have := HJ49.out; have := HJ55.out; have := HJ167.out; first | omega | exact Nat.le_refl _⟩, ⟨by (with_reducible repeat (first | apply Kd.R_alloc | apply Kd.R_drewN | apply Kd.R_drew)); exact HO_35.out⟩, ⟨by (with_reducible repeat (first | apply Kd.R_alloc | apply Kd.R_drewN | apply Kd.R_drew)); exact HO_39.out⟩, bk_ BKa, bk_ BKb, bk_ BKc, bk_ BKd, bk_ BKe, bk_ BKf, bk_ BKj, bk_ BKk, bk_ BKl, bk_ BKm, hb_ HB⟩
               ·
                rw [if_neg c300] at H
                exact absurd H (by simp)
              case rest => as_aux_lemma =>
               clear HC299
               try clear c296
               try clear c298
               try clear hcz174_0
               try clear hcz174_1
               try clear hfz174_0
               try clear hfz174_1
               obtain ⟨kq, x287_298, rfl, HA, HJ298, HO_35, HO_39, BKa, BKb, BKc, BKd, BKe, BKf, BKj, BKk, BKl, BKm, HB⟩ := hcut
               cases kq with
               | zero => exact absurd HA.out (by simp [j5])
               | succ kj298 =>
                have H := HA.out
                clear HA
                simp only [j5] at H
                by_cases c303 : x287_298 = true
                ·
                 subst c303
                 have H1 : (none) = some r := by rw [if_pos rfl] at H; exact H
                 clear H
                 have H := H1
                 clear H1
                 exact absurd H (by simp)
                ·
                 replace c303 := Bool.eq_false_iff.mpr c303
                 subst c303
                 have H1 : (l1 kj298 a2 a4 t503 t506 t515 t527 t495 (t495.length : Int) 0 a3_0 a3_1 a5_0 a5_1 a5_2 a5_3 a6_0 a6_1 a6_2 a6_3 a7_0 a7_1 a7_2 a7_3 a8_0 a8_1 t511 t512 t513 t514 t523 t524 t525 t526) = some r := by rw [if_neg (show ¬ (false = true) by decide)] at H; exact H
                 clear H
                 have H := H1
                 clear H1
                 have H' := Aside0.mk H
                 clear H
                 obtain ⟨Ao304, co304, eo304⟩ := Kd.R_slice HO_35.out
                 subst eo304
                 go_wp2
                 go_loopg [290] kj298 (fun kq v290 w' => ∃ (x290_6 : Int), v290 = .int .i64 x290_6 ∧ Aside0 (l1 kq a2 a4 t503 t506 t515 t527 t495 (t495.length : Int) x290_6 a3_0 a3_1 a5_0 a5_1 a5_2 a5_3 a6_0 a6_1 a6_2 a6_3 a7_0 a7_1 a7_2 a7_3 a8_0 a8_1 t511 t512 t513 t514 t523 t524 t525 t526 = some r) ∧ Aside0 (kq ≤ kj298) ∧ Aside0 (Kd.R k23 23 w' w.heap.size (fun k_ => some k_ ≠ ((.slice Ao304 t495.length co304) : Value).ownBlock ∧ k_ ≠ gbb ∧ k_ ≠ gbf) v504 t503) ∧ Aside0 (Kd.R k23 23 w' w.heap.size (fun k_ => some k_ ≠ (v504 : Value).ownBlock ∧ k_ ≠ gbb ∧ k_ ≠ gbf) (.slice Ao304 t495.length co304) t495) ∧ Aside0 (w'.heap[gba]? = some (.cells #[.int .i64 a1_0, .int .i64 a1_1, .int .i64 a1_2, .int .i64 a1_3] 25 (0, 0))) ∧ Aside0 (w'.heap[gbb]? = some (.cells #[.int .i64 a3_0, .int .i64 a3_1] 23 (0, 0))) ∧ Aside0 (w'.heap[gbc]? = some (.cells #[.int .i64 a5_0, .int .i64 a5_1, .int .i64 a5_2, .int .i64 a5_3] 25 (0, 0))) ∧ Aside0 (w'.heap[gbd]? = some (.cells #[.int .i64 a6_0, .int .i64 a6_1, .int .i64 a6_2, .int .i64 a6_3] 25 (0, 0))) ∧ Aside0 (w'.heap[gbe]? = some (.cells #[.int .i64 a7_0, .int .i64 a7_1, .int .i64 a7_2, .int .i64 a7_3] 25 (0, 0))) ∧ Aside0 (w'.heap[gbf]? = some (.cells #[.int .i64 a8_0, .int .i64 a8_1] 23 (0, 0))) ∧ Aside0 (w'.heap[gbj]? = some (.cells #[.int .i64 t511, .int .i64 t512, .int .i64 t513, .int .i64 t514] 25 (0, 0))) ∧ Aside0 (w'.heap[gbk]? = some (.cells #[.int .i64 t517, .int .i64 t518, .int .i64 t519, .int .i64 t520] 25 (0, 0))) ∧ Aside0 (w'.heap[gbl]? = some (.cells #[.int .i64 t523, .int .i64 t524, .int .i64 t525, .int .i64 t526] 25 (0, 0))) ∧ Aside0 (w'.heap[gbm]? = some (.cells #[.int .i64 t529, .int .i64 t530, .int .i64 t531, .int .i64 t532] 25 (0, 0))) ∧ Aside0 (Below w.heap.size w w'))
                 case atStart => exact ⟨(0), (by first | rfl | (simp; done) | (simp [*]; done)), H', ⟨Nat.le_refl _⟩, ⟨by (with_reducible repeat (first | apply Kd.R_alloc | apply Kd.R_drewN | apply Kd.R_drew)); exact HO_39.out⟩, ⟨by (with_reducible repeat (first | apply Kd.R_alloc | apply Kd.R_drewN | apply Kd.R_drew)); exact HO_35.out⟩, bk_ BKa, bk_ BKb, bk_ BKc, bk_ BKd, bk_ BKe, bk_ BKf, bk_ BKj, bk_ BKk, bk_ BKl, bk_ BKm, hb_ HB⟩
                 case round => as_aux_lemma =>
                  clear H'
                  try clear c296
                  try clear c298
                  try clear c303
                  try clear hcz174_0
                  try clear hcz174_1
                  try clear hfz174_0
                  try clear hfz174_1
                  obtain ⟨x290_6, rfl, HA, HK6, HO_39, HO_288, BKa, BKb, BKc, BKd, BKe, BKf, BKj, BKk, BKl, BKm, HB⟩ := hrel
                  cases gk with
                  | zero => exact absurd HA.out (by simp [l1])
                  | succ k6 =>
                   have H := HA.out
                   clear HA
                   simp only [l1] at H
                   by_cases c305 : x290_6 < (t495.length : Int)
                   ·
                    rw [if_pos c305] at H
                    have c305b0 : decide (x290_6 < (t495.length : Int)) = true := decide_eq_true c305
                    clear c305
                    by_cases c306 : 0 ≤ x290_6
                    ·
                     rw [if_pos c306] at H
                     have c306b0 : decide (0 ≤ x290_6) = true := decide_eq_true c306
                     clear c306
                     by_cases c307 : x290_6 < (t495.length : Int)
                     ·
                      rw [if_pos c307] at H
                      have c307b0 : decide (x290_6 < (t495.length : Int)) = true := decide_eq_true c307
                      clear c307
                      replace H := Option.bind_eq_some_iff.mp H
                      obtain ⟨⟨t541, t542, t543⟩, A3080, H⟩ := H
                      try dsimp only at H
                      have A308 := Aside0.mk A3080
                      clear A3080
                      by_cases c309 : t543 = true
                      ·
                       subst c309
                       have H1 : (if (!(t541 == a3_0) || (!(t542 == a3_1))) = true then (none) else (l1 k6 a2 a4 t503 t506 t515 t527 t495 (t495.length : Int) (wrap64 (x290_6 + 1)) a3_0 a3_1 a5_0 a5_1 a5_2 a5_3 a6_0 a6_1 a6_2 a6_3 a7_0 a7_1 a7_2 a7_3 a8_0 a8_1 t511 t512 t513 t514 t523 t524 t525 t526)) = some r := by rw [if_pos rfl] at H; exact H
                       clear H
                       have H := H1
                       clear H1
                       by_cases c310 : (!(t541 == a3_0) || (!(t542 == a3_1))) = true
                       ·
                        rw [if_pos c310] at H
                        exact absurd H (by simp)
                       ·
                        rw [if_neg c310] at H
                        have c310b0 : (!(t541 == a3_0) || (!(t542 == a3_1))) = false := by simpa using c310
                        clear c310
                        as_aux_lemma =>
                         have H' := Aside0.mk H
                         clear H
                         have p539 : 0 ≤ (x290_6 : Int) := of_decide_eq_true (by first | (with_reducible assumption) | assumption)
                         have q539 : x290_6 < (t495.length : Int) := of_decide_eq_true (by first | (with_reducible assumption) | assumption)
                         obtain ⟨ad539, e539, hx539_0, hx539_1⟩ := at_T23 (Kd.R_reads' HO_288.out).2.2 x290_6 p539 q539
                         cases e539
                         replace p539 := eq_true p539
                         replace q539 := eq_true q539
                         go_wp2_with (first | ((with_reducible refine gate_dst (N := 52) rfl ?_); (try (refine gate_guard (by rfl) ?_; dsimp only)); refine be_ (N := 52) (cs := #[.int .i64 0, .int .i64 0]) (t := 23) ?_; intro gbn hg w311 hbox hb; have BKn := Aside0.mk (hbox); have GWn := ge_ HB hg; have GEn := ge_ HB hg; obtain ⟨Na_n, Nn_a⟩ := nq_ BKa hg; obtain ⟨Nb_n, Nn_b⟩ := nq_ BKb hg; obtain ⟨Nc_n, Nn_c⟩ := nq_ BKc hg; obtain ⟨Nd_n, Nn_d⟩ := nq_ BKd hg; obtain ⟨Ne_n, Nn_e⟩ := nq_ BKe hg; obtain ⟨Nf_n, Nn_f⟩ := nq_ BKf hg; obtain ⟨Nj_n, Nn_j⟩ := nq_ BKj hg; obtain ⟨Nk_n, Nn_k⟩ := nq_ BKk hg; obtain ⟨Nl_n, Nn_l⟩ := nq_ BKl hg; obtain ⟨Nm_n, Nn_m⟩ := nq_ BKm hg; replace HO_39 := Aside0.mk (Kd.R_below (Kd.R_elderB (by (with_reducible repeat (first | apply Kd.R_alloc | apply Kd.R_drewN | apply Kd.R_drew)); exact HO_39.out) gbn (Nat.le_of_eq hg.symm)) hb); replace HO_288 := Aside0.mk (Kd.R_below (Kd.R_elderB (by (with_reducible repeat (first | apply Kd.R_alloc | apply Kd.R_drewN | apply Kd.R_drew)); exact HO_288.out) gbn (Nat.le_of_eq hg.symm)) hb); replace BKa := bb BKa hb; replace BKb := bb BKb hb; replace BKc := bb BKc hb; replace BKd := bb BKd hb; replace BKe := bb BKe hb; replace BKf := bb BKf hb; replace BKj := bb BKj hb; replace BKk := bb BKk hb; replace BKl := bb BKl hb; replace BKm := bb BKm hb; replace HB := hs HB hb; clear hb hbox hg; obtain ⟨hnb312, hnc312⟩ := nn_ Nn_a; obtain ⟨hnb313, hnc313⟩ := nn_ Nn_b; obtain ⟨hnb314, hnc314⟩ := nn_ Nn_c; obtain ⟨hnb315, hnc315⟩ := nn_ Nn_d; obtain ⟨hnb316, hnc316⟩ := nn_ Nn_e; obtain ⟨hnb317, hnc317⟩ := nn_ Nn_f; obtain ⟨hnb318, hnc318⟩ := nn_ Nn_j; obtain ⟨hnb319, hnc319⟩ := nn_ Nn_k; obtain ⟨hnb320, hnc320⟩ := nn_ Nn_l; obtain ⟨hnb321, hnc321⟩ := nn_ Nn_m; have hcz322_0 := cz_ BKn 0 (.int .i64 0); have hcz322_1 := cz_ BKn 1 (.int .i64 0); have hfz322_0 := blk_frozen BKn.out 0; have hfz322_1 := blk_frozen BKn.out 1) | ((with_reducible refine gate_callee (f := 40) rfl ?_); refine gs_ (some 297) Try.func40 #[.int .i64 a2, .agg #[.int .i64 ((rd_T23 t495 x290_6).f0), .int .i64 ((rd_T23 t495 x290_6).f1)]] ?_; (with_reducible refine (impl_AngleOf.calls k6 a2 ((rd_T23 t495 x290_6).f0) ((rd_T23 t495 x290_6).f1) t541 t542 true _ A308.out).mono ?_); rintro e w323 ⟨rfl, hb⟩; refine ⟨_, rfl, ?_⟩; replace HO_39 := hr_ ⟨(Kd.R_mono (Kd.R_far (p := ⟨gbn, 1, none⟩) (Kd.R_far (p := ⟨gbn, 0, none⟩) (Kd.R_mono HO_39.out (fun k_ hk => (⟨hk, hk.2⟩ : _ ∧ k_ ≠ gbn))) (fun _ hk => hk.2) (.int .i64 ((rd_T23 t495 x290_6).f0))) (fun _ hk => hk.2) (.int .i64 ((rd_T23 t495 x290_6).f1))) (fun _ h_ => h_.1))⟩ hb; replace HO_288 := hr_ ⟨(Kd.R_mono (Kd.R_far (p := ⟨gbn, 1, none⟩) (Kd.R_far (p := ⟨gbn, 0, none⟩) (Kd.R_mono HO_288.out (fun k_ hk => (⟨hk, hk.2⟩ : _ ∧ k_ ≠ gbn))) (fun _ hk => hk.2) (.int .i64 ((rd_T23 t495 x290_6).f0))) (fun _ hk => hk.2) (.int .i64 ((rd_T23 t495 x290_6).f1))) (fun _ h_ => h_.1))⟩ hb; replace BKa := bb BKa hb; replace BKb := bb BKb hb; replace BKc := bb BKc hb; replace BKd := bb BKd hb; replace BKe := bb BKe hb; replace BKf := bb BKf hb; replace BKj := bb BKj hb; replace BKk := bb BKk hb; replace BKl := bb BKl hb; replace BKm := bb BKm hb; replace BKn := Aside0.mk (blk_below (g := gbn) (o := .cells #[.int .i64 ((rd_T23 t495 x290_6).f0), .int .i64 ((rd_T23 t495 x290_6).f1)] 23 (0, 0)) (by (with_reducible repeat (first | refine blk_drewN ?_ _ | refine blk_drew ?_ | refine blk_alloc ?_ _)); refine blk_put (cs := #[.int .i64 ((rd_T23 t495 x290_6).f0), .int .i64 0]) ?_ 1 _ rfl; (with_reducible repeat (first | refine blk_drewN ?_ _ | refine blk_drew ?_ | refine blk_alloc ?_ _)); refine blk_put (cs := #[.int .i64 0, .int .i64 0]) ?_ 0 _ rfl; (with_reducible repeat (first | refine blk_drewN ?_ _ | refine blk_drew ?_ | refine blk_alloc ?_ _)); exact BKn.out) hb); replace HB := hs HB hb; (try clear hb); (try clear hb2); (try clear hk); (try clear hi)) | ((with_reducible refine gate_dst (N := 53) rfl ?_); (try (refine gate_guard (by rfl) ?_; dsimp only)); refine be_ (N := 53) (cs := #[.int .i64 0, .int .i64 0]) (t := 23) ?_; intro gbo hg w324 hbox hb; have BKo := Aside0.mk (hbox); have GWo := ge_ HB hg; have GEo := ge_ HB hg; obtain ⟨Na_o, No_a⟩ := nq_ BKa hg; obtain ⟨Nb_o, No_b⟩ := nq_ BKb hg; obtain ⟨Nc_o, No_c⟩ := nq_ BKc hg; obtain ⟨Nd_o, No_d⟩ := nq_ BKd hg; obtain ⟨Ne_o, No_e⟩ := nq_ BKe hg; obtain ⟨Nf_o, No_f⟩ := nq_ BKf hg; obtain ⟨Nj_o, No_j⟩ := nq_ BKj hg; obtain ⟨Nk_o, No_k⟩ := nq_ BKk hg; obtain ⟨Nl_o, No_l⟩ := nq_ BKl hg; obtain ⟨Nm_o, No_m⟩ := nq_ BKm hg; obtain ⟨Nn_o, No_n⟩ := nq_ BKn hg; replace HO_39 := Aside0.mk (Kd.R_below (Kd.R_elderB (by (with_reducible repeat (first | apply Kd.R_alloc | apply Kd.R_drewN | apply Kd.R_drew)); exact HO_39.out) gbo (Nat.le_of_eq hg.symm)) hb); replace HO_288 := Aside0.mk (Kd.R_below (Kd.R_elderB (by (with_reducible repeat (first | apply Kd.R_alloc | apply Kd.R_drewN | apply Kd.R_drew)); exact HO_288.out) gbo (Nat.le_of_eq hg.symm)) hb); replace BKa := bb BKa hb; replace BKb := bb BKb hb; replace BKc := bb BKc hb; replace BKd := bb BKd hb; replace BKe := bb BKe hb; replace BKf := bb BKf hb; replace BKj := bb BKj hb; replace BKk := bb BKk hb; replace BKl := bb BKl hb; replace BKm := bb BKm hb; replace BKn := bb BKn hb; replace HB := hs HB hb; clear hb hbox hg; obtain ⟨hnb325, hnc325⟩ := nn_ No_a; obtain ⟨hnb326, hnc326⟩ := nn_ No_b; obtain ⟨hnb327, hnc327⟩ := nn_ No_c; obtain ⟨hnb328, hnc328⟩ := nn_ No_d; obtain ⟨hnb329, hnc329⟩ := nn_ No_e; obtain ⟨hnb330, hnc330⟩ := nn_ No_f; obtain ⟨hnb331, hnc331⟩ := nn_ No_j; obtain ⟨hnb332, hnc332⟩ := nn_ No_k; obtain ⟨hnb333, hnc333⟩ := nn_ No_l; obtain ⟨hnb334, hnc334⟩ := nn_ No_m; obtain ⟨hnb335, hnc335⟩ := nn_ No_n; have hcz336_0 := cz_ BKo 0 (.int .i64 0); have hcz336_1 := cz_ BKo 1 (.int .i64 0); have hfz336_0 := blk_frozen BKo.out 0; have hfz336_1 := blk_frozen BKo.out 1; obtain ⟨hnb337, hnc337⟩ := nn_ Nb_a; obtain ⟨hnb338, hnc338⟩ := nn_ Nb_c; obtain ⟨hnb339, hnc339⟩ := nn_ Nb_d; obtain ⟨hnb340, hnc340⟩ := nn_ Nb_e; obtain ⟨hnb341, hnc341⟩ := nn_ Nb_f; obtain ⟨hnb342, hnc342⟩ := nn_ Nb_j; obtain ⟨hnb343, hnc343⟩ := nn_ Nb_k; obtain ⟨hnb344, hnc344⟩ := nn_ Nb_l; obtain ⟨hnb345, hnc345⟩ := nn_ Nb_m; have hcz346_0 := cz_ BKb 0 (.int .i64 a3_0); have hcz346_1 := cz_ BKb 1 (.int .i64 a3_1); have hfz346_0 := blk_frozen BKb.out 0; have hfz346_1 := blk_frozen BKb.out 1))
                         go_roundg k6
                         case measure => have := HJ13.out; have := HJ49.out; have := HJ55.out; have := HJ167.out; have := HJ298.out; have := HK6.out; omega
                         case rel => exact ⟨(wrap64 (x290_6 + 1)), (by first | rfl | (simp; done) | (simp [*]; done)), H', ⟨by have := HJ13.out; have := HJ49.out; have := HJ55.out; have := HJ167.out; have := HJ298.out; have := HK6.out; omega⟩, ⟨by (with_reducible repeat (first | apply Kd.R_alloc | apply Kd.R_drewN | apply Kd.R_drew)); exact Kd.R_mono (Kd.R_far (p := ⟨gbo, 1, none⟩) (Kd.R_far (p := ⟨gbo, 0, none⟩) (Kd.R_mono HO_39.out (fun k_ hk => (⟨hk, hk.2⟩ : _ ∧ k_ ≠ gbo))) (fun _ hk => hk.2) (.int .i64 t541)) (fun _ hk => hk.2) (.int .i64 t542)) (fun _ hk => ⟨hk.1.1.1.1, ⟨hk.1.1.1.2.1, hk.1.1.1.2.2⟩⟩)⟩, ⟨by (with_reducible repeat (first | apply Kd.R_alloc | apply Kd.R_drewN | apply Kd.R_drew)); exact Kd.R_mono (Kd.R_far (p := ⟨gbo, 1, none⟩) (Kd.R_far (p := ⟨gbo, 0, none⟩) (Kd.R_mono HO_288.out (fun k_ hk => (⟨hk, hk.2⟩ : _ ∧ k_ ≠ gbo))) (fun _ hk => hk.2) (.int .i64 t541)) (fun _ hk => hk.2) (.int .i64 t542)) (fun _ hk => ⟨hk.1.1.1.1, ⟨hk.1.1.1.2.1, hk.1.1.1.2.2⟩⟩)⟩, bk_ BKa, bk_ BKb, bk_ BKc, bk_ BKd, bk_ BKe, bk_ BKf, bk_ BKj, bk_ BKk, bk_ BKl, bk_ BKm, hb_ HB⟩
                      ·
                       replace c309 := Bool.eq_false_iff.mpr c309
                       subst c309
                       have H1 : (none) = some r := by rw [if_neg (show ¬ (false = true) by decide)] at H; exact H
                       clear H
                       have H := H1
                       clear H1
                       exact absurd H (by simp)
                     ·
                      rw [if_neg c307] at H
                      exact absurd H (by simp)
                    ·
                     rw [if_neg c306] at H
                     exact absurd H (by simp)
                   ·
                    rw [if_neg c305] at H
                    have c305b0 : decide (x290_6 < (t495.length : Int)) = false := decide_eq_false c305
                    clear c305
                    as_aux_lemma =>
                     have H' := Aside0.mk H
                     clear H
                     go_wp2
                     go_meet
                     case rel => exact ⟨_, H', ⟨by have := HJ13.out; have := HJ49.out; have := HJ55.out; have := HJ167.out; have := HJ298.out; have := HK6.out; first | omega | exact Nat.le_refl _⟩, ⟨by (with_reducible repeat (first | apply Kd.R_alloc | apply Kd.R_drewN | apply Kd.R_drew)); exact Kd.R_mono HO_39.out (fun _ hk => ⟨hk.2.1, hk.2.2⟩)⟩, bk_ BKa, bk_ BKb, bk_ BKc, bk_ BKd, bk_ BKe, bk_ BKf, bk_ BKj, bk_ BKk, bk_ BKl, bk_ BKm, hb_ HB⟩
             ·
              replace c298 := Bool.eq_false_iff.mpr c298
              subst c298
              have H1 : (j7 kj167 a4 t503 t506 t515 t527 a5_0 a5_1 a5_2 a5_3 a6_0 a6_1 a6_2 a6_3 a7_0 a7_1 a7_2 a7_3 a8_0 a8_1 t511 t512 t513 t514 t523 t524 t525 t526) = some r := by rw [if_neg (show ¬ (false = true) by decide)] at H; exact H
              clear H
              have H := H1
              clear H1
              as_aux_lemma =>
               have H' := Aside0.mk H
               clear H
               go_wp2
               go_meet
               case rel => exact ⟨_, H', ⟨by have := HJ13.out; have := HJ49.out; have := HJ55.out; have := HJ167.out; first | omega | exact Nat.le_refl _⟩, ⟨by (with_reducible repeat (first | apply Kd.R_alloc | apply Kd.R_drewN | apply Kd.R_drew)); exact Kd.R_mono HO_39.out (fun _ hk => ⟨hk.2.1, hk.2.2⟩)⟩, bk_ BKa, bk_ BKb, bk_ BKc, bk_ BKd, bk_ BKe, bk_ BKf, bk_ BKj, bk_ BKk, bk_ BKl, bk_ BKm, hb_ HB⟩
            case rest => as_aux_lemma =>
             clear HC297
             try clear c296
             try clear hcz174_0
             try clear hcz174_1
             try clear hfz174_0
             try clear hfz174_1
             obtain ⟨kq, HA, HJ296, HO_39, BKa, BKb, BKc, BKd, BKe, BKf, BKj, BKk, BKl, BKm, HB⟩ := hcut
             cases kq with
             | zero => exact absurd HA.out (by simp [j7])
             | succ kj296 =>
              have H := HA.out
              clear HA
              simp only [j7] at H
              have HC347 := Aside0.mk H
              clear H
              go_upto_if 308 with (fail)
              go_cut [] from 288 to 342 (fun wc => ∃ (kq : Nat), Aside0 (j10 kq t515 t527 a6_0 a6_1 a6_2 a6_3 a7_0 a7_1 a7_2 a7_3 a8_0 a8_1 t511 t512 t513 t514 t523 t524 t525 t526 = some r) ∧ Aside0 (kq ≤ kj296) ∧ Aside0 (wc.heap[gba]? = some (.cells #[.int .i64 a1_0, .int .i64 a1_1, .int .i64 a1_2, .int .i64 a1_3] 25 (0, 0))) ∧ Aside0 (wc.heap[gbb]? = some (.cells #[.int .i64 a3_0, .int .i64 a3_1] 23 (0, 0))) ∧ Aside0 (wc.heap[gbc]? = some (.cells #[.int .i64 a5_0, .int .i64 a5_1, .int .i64 a5_2, .int .i64 a5_3] 25 (0, 0))) ∧ Aside0 (wc.heap[gbd]? = some (.cells #[.int .i64 a6_0, .int .i64 a6_1, .int .i64 a6_2, .int .i64 a6_3] 25 (0, 0))) ∧ Aside0 (wc.heap[gbe]? = some (.cells #[.int .i64 a7_0, .int .i64 a7_1, .int .i64 a7_2, .int .i64 a7_3] 25 (0, 0))) ∧ Aside0 (wc.heap[gbf]? = some (.cells #[.int .i64 a8_0, .int .i64 a8_1] 23 (0, 0))) ∧ Aside0 (wc.heap[gbj]? = some (.cells #[.int .i64 t511, .int .i64 t512, .int .i64 t513, .int .i64 t514] 25 (0, 0))) ∧ Aside0 (wc.heap[gbk]? = some (.cells #[.int .i64 t517, .int .i64 t518, .int .i64 t519, .int .i64 t520] 25 (0, 0))) ∧ Aside0 (wc.heap[gbl]? = some (.cells #[.int .i64 t523, .int .i64 t524, .int .i64 t525, .int .i64 t526] 25 (0, 0))) ∧ Aside0 (wc.heap[gbm]? = some (.cells #[.int .i64 t529, .int .i64 t530, .int .i64 t531, .int .i64 t532] 25 (0, 0))) ∧ Aside0 (Below w.heap.size w wc))
              case first => as_aux_lemma =>
               have H := HC347.out
               clear HC347
               by_cases c348 : t506 = true
               ·
                subst c348
                have H1 : ((impl_MirrorSeen.f kj296 a5_0 a5_1 a5_2 a5_3).bind fun bt545 => ((impl_TimesInGlass.f kj296 a4 bt545.1 bt545.2.1 bt545.2.2.1 bt545.2.2.2.1).bind fun bt551 => (if bt545.2.2.2.2 = true then (if bt551.2 = true then (if (bt551.1.length : Int) = (t503.length : Int) then (if (t503.length : Int) > 2 then (none) else ((laws_wRises.f kj296 t503).bind fun t555 => (j8 kj296 t503 t515 t527 (!t555) a6_0 a6_1 a6_2 a6_3 a7_0 a7_1 a7_2 a7_3 a8_0 a8_1 t511 t512 t513 t514 t523 t524 t525 t526))) else (none)) else (none)) else (none)))) = some r := by rw [if_pos rfl] at H; exact H
                clear H
                have H := H1
                clear H1
                replace H := Option.bind_eq_some_iff.mp H
                obtain ⟨⟨t545, t546, t547, t548, t549⟩, A3490, H⟩ := H
                try dsimp only at H
                have A349 := Aside0.mk A3490
                clear A3490
                replace H := Option.bind_eq_some_iff.mp H
                obtain ⟨⟨t551, t554⟩, A3500, H⟩ := H
                try dsimp only at H
                have A350 := Aside0.mk A3500
                clear A3500
                have HC351 := Aside0.mk H
                clear H
                obtain ⟨hnb352, hnc352⟩ := nn_ Nc_a
                obtain ⟨hnb353, hnc353⟩ := nn_ Nc_b
                obtain ⟨hnb354, hnc354⟩ := nn_ Nc_d
                obtain ⟨hnb355, hnc355⟩ := nn_ Nc_e
                obtain ⟨hnb356, hnc356⟩ := nn_ Nc_f
                obtain ⟨hnb357, hnc357⟩ := nn_ Nc_j
                obtain ⟨hnb358, hnc358⟩ := nn_ Nc_k
                obtain ⟨hnb359, hnc359⟩ := nn_ Nc_l
                obtain ⟨hnb360, hnc360⟩ := nn_ Nc_m
                have hcz361_0 := cz_ BKc 0 (.int .i64 a5_0)
                have hcz361_1 := cz_ BKc 1 (.int .i64 a5_1)
                have hcz361_2 := cz_ BKc 2 (.int .i64 a5_2)
                have hcz361_3 := cz_ BKc 3 (.int .i64 a5_3)
                have hfz361_0 := blk_frozen BKc.out 0
                have hfz361_1 := blk_frozen BKc.out 1
                have hfz361_2 := blk_frozen BKc.out 2
                have hfz361_3 := blk_frozen BKc.out 3
                go_upto_region 44 with (first | ((with_reducible refine gate_callee (f := 23) rfl ?_); refine gs_ (some 311) Try.func23 #[.agg #[.int .i64 a5_0, .int .i64 a5_1, .int .i64 a5_2, .int .i64 a5_3]] ?_; (with_reducible refine (impl_MirrorSeen.calls kj296 a5_0 a5_1 a5_2 a5_3 t545 t546 t547 t548 t549 _ A349.out).mono ?_); rintro e w362 ⟨rfl, hb⟩; refine ⟨_, rfl, ?_⟩; replace HO_39 := hr_ HO_39 hb; replace BKa := bb BKa hb; replace BKb := bb BKb hb; replace BKc := bb BKc hb; replace BKd := bb BKd hb; replace BKe := bb BKe hb; replace BKf := bb BKf hb; replace BKj := bb BKj hb; replace BKk := bb BKk hb; replace BKl := bb BKl hb; replace BKm := bb BKm hb; replace HB := hs HB hb; (try clear hb); (try clear hb2); (try clear hk); (try clear hi)) | ((with_reducible refine gate_dst (N := 55) rfl ?_); (try (refine gate_guard (by rfl) ?_; dsimp only)); refine be_ (N := 55) (cs := #[.int .i64 0, .int .i64 0, .int .i64 0, .int .i64 0]) (t := 25) ?_; intro gbp hg w363 hbox hb; have BKp := Aside0.mk (hbox); have GWp := ge_ HB hg; have GEp := ge_ HB hg; obtain ⟨Na_p, Np_a⟩ := nq_ BKa hg; obtain ⟨Nb_p, Np_b⟩ := nq_ BKb hg; obtain ⟨Nc_p, Np_c⟩ := nq_ BKc hg; obtain ⟨Nd_p, Np_d⟩ := nq_ BKd hg; obtain ⟨Ne_p, Np_e⟩ := nq_ BKe hg; obtain ⟨Nf_p, Np_f⟩ := nq_ BKf hg; obtain ⟨Nj_p, Np_j⟩ := nq_ BKj hg; obtain ⟨Nk_p, Np_k⟩ := nq_ BKk hg; obtain ⟨Nl_p, Np_l⟩ := nq_ BKl hg; obtain ⟨Nm_p, Np_m⟩ := nq_ BKm hg; replace HO_39 := hr_ HO_39 hb; replace BKa := bb BKa hb; replace BKb := bb BKb hb; replace BKc := bb BKc hb; replace BKd := bb BKd hb; replace BKe := bb BKe hb; replace BKf := bb BKf hb; replace BKj := bb BKj hb; replace BKk := bb BKk hb; replace BKl := bb BKl hb; replace BKm := bb BKm hb; replace HB := hs HB hb; clear hb hbox hg; obtain ⟨hnb364, hnc364⟩ := nn_ Np_a; obtain ⟨hnb365, hnc365⟩ := nn_ Np_b; obtain ⟨hnb366, hnc366⟩ := nn_ Np_c; obtain ⟨hnb367, hnc367⟩ := nn_ Np_d; obtain ⟨hnb368, hnc368⟩ := nn_ Np_e; obtain ⟨hnb369, hnc369⟩ := nn_ Np_f; obtain ⟨hnb370, hnc370⟩ := nn_ Np_j; obtain ⟨hnb371, hnc371⟩ := nn_ Np_k; obtain ⟨hnb372, hnc372⟩ := nn_ Np_l; obtain ⟨hnb373, hnc373⟩ := nn_ Np_m; have hcz374_0 := cz_ BKp 0 (.int .i64 0); have hcz374_1 := cz_ BKp 1 (.int .i64 0); have hcz374_2 := cz_ BKp 2 (.int .i64 0); have hcz374_3 := cz_ BKp 3 (.int .i64 0); have hfz374_0 := blk_frozen BKp.out 0; have hfz374_1 := blk_frozen BKp.out 1; have hfz374_2 := blk_frozen BKp.out 2; have hfz374_3 := blk_frozen BKp.out 3) | ((with_reducible refine gate_callee (f := 36) rfl ?_); refine gs_ (some 317) Try.func36 #[.int .i64 a4, .agg #[.int .i64 t545, .int .i64 t546, .int .i64 t547, .int .i64 t548]] ?_; (with_reducible refine (impl_TimesInGlass.calls kj296 a4 t545 t546 t547 t548 t551 t554 _ A350.out).mono ?_); rintro e w375 ⟨v552, rfl, ho0, hb⟩; refine ⟨_, rfl, ?_⟩; have HO553 := Aside0.mk (Kd.R_lower (Kd.R_newB (Kd.R_newB (Kd.R_new' ho0 (Kd.R_lt (by (with_reducible repeat (first | apply Kd.R_alloc | apply Kd.R_drewN | apply Kd.R_drew)); exact (Kd.R_mono (Kd.R_far (p := ⟨gbp, 3, none⟩) (Kd.R_far (p := ⟨gbp, 2, none⟩) (Kd.R_far (p := ⟨gbp, 1, none⟩) (Kd.R_far (p := ⟨gbp, 0, none⟩) (Kd.R_types HO_39.out BKp.out (by decide)) (fun _ hk => hk.2) (.int .i64 t545)) (fun _ hk => hk.2) (.int .i64 t546)) (fun _ hk => hk.2) (.int .i64 t547)) (fun _ hk => hk.2) (.int .i64 t548)) (fun _ h_ => h_.1))))) (g := gbb) (o := .cells #[.int .i64 a3_0, .int .i64 a3_1] 23 (0, 0)) (by (with_reducible repeat (first | refine blk_drewN ?_ _ | refine blk_drew ?_ | refine blk_alloc ?_ _)); refine blk_far ?_ Nb_p.out _; (with_reducible repeat (first | refine blk_drewN ?_ _ | refine blk_drew ?_ | refine blk_alloc ?_ _)); refine blk_far ?_ Nb_p.out _; (with_reducible repeat (first | refine blk_drewN ?_ _ | refine blk_drew ?_ | refine blk_alloc ?_ _)); refine blk_far ?_ Nb_p.out _; (with_reducible repeat (first | refine blk_drewN ?_ _ | refine blk_drew ?_ | refine blk_alloc ?_ _)); refine blk_far ?_ Nb_p.out _; (with_reducible repeat (first | refine blk_drewN ?_ _ | refine blk_drew ?_ | refine blk_alloc ?_ _)); exact BKb.out)) (g := gbf) (o := .cells #[.int .i64 a8_0, .int .i64 a8_1] 23 (0, 0)) (by (with_reducible repeat (first | refine blk_drewN ?_ _ | refine blk_drew ?_ | refine blk_alloc ?_ _)); refine blk_far ?_ Nf_p.out _; (with_reducible repeat (first | refine blk_drewN ?_ _ | refine blk_drew ?_ | refine blk_alloc ?_ _)); refine blk_far ?_ Nf_p.out _; (with_reducible repeat (first | refine blk_drewN ?_ _ | refine blk_drew ?_ | refine blk_alloc ?_ _)); refine blk_far ?_ Nf_p.out _; (with_reducible repeat (first | refine blk_drewN ?_ _ | refine blk_drew ?_ | refine blk_alloc ?_ _)); refine blk_far ?_ Nf_p.out _; (with_reducible repeat (first | refine blk_drewN ?_ _ | refine blk_drew ?_ | refine blk_alloc ?_ _)); exact BKf.out)) (bs_ HB)); replace HO_39 := Aside0.mk (Kd.R_elder' (by (with_reducible repeat (first | apply Kd.R_alloc | apply Kd.R_drewN | apply Kd.R_drew)); exact (Kd.R_mono (Kd.R_far (p := ⟨gbp, 3, none⟩) (Kd.R_far (p := ⟨gbp, 2, none⟩) (Kd.R_far (p := ⟨gbp, 1, none⟩) (Kd.R_far (p := ⟨gbp, 0, none⟩) (Kd.R_types HO_39.out BKp.out (by decide)) (fun _ hk => hk.2) (.int .i64 t545)) (fun _ hk => hk.2) (.int .i64 t546)) (fun _ hk => hk.2) (.int .i64 t547)) (fun _ hk => hk.2) (.int .i64 t548)) (fun _ h_ => h_.1))) (Kd.R_base ho0) hb); replace BKa := bb BKa hb; replace BKb := bb BKb hb; replace BKc := bb BKc hb; replace BKd := bb BKd hb; replace BKe := bb BKe hb; replace BKf := bb BKf hb; replace BKj := bb BKj hb; replace BKk := bb BKk hb; replace BKl := bb BKl hb; replace BKm := bb BKm hb; replace BKp := Aside0.mk (blk_below (g := gbp) (o := .cells #[.int .i64 t545, .int .i64 t546, .int .i64 t547, .int .i64 t548] 25 (0, 0)) (by (with_reducible repeat (first | refine blk_drewN ?_ _ | refine blk_drew ?_ | refine blk_alloc ?_ _)); refine blk_put (cs := #[.int .i64 t545, .int .i64 t546, .int .i64 t547, .int .i64 0]) ?_ 3 _ rfl; (with_reducible repeat (first | refine blk_drewN ?_ _ | refine blk_drew ?_ | refine blk_alloc ?_ _)); refine blk_put (cs := #[.int .i64 t545, .int .i64 t546, .int .i64 0, .int .i64 0]) ?_ 2 _ rfl; (with_reducible repeat (first | refine blk_drewN ?_ _ | refine blk_drew ?_ | refine blk_alloc ?_ _)); refine blk_put (cs := #[.int .i64 t545, .int .i64 0, .int .i64 0, .int .i64 0]) ?_ 1 _ rfl; (with_reducible repeat (first | refine blk_drewN ?_ _ | refine blk_drew ?_ | refine blk_alloc ?_ _)); refine blk_put (cs := #[.int .i64 0, .int .i64 0, .int .i64 0, .int .i64 0]) ?_ 0 _ rfl; (with_reducible repeat (first | refine blk_drewN ?_ _ | refine blk_drew ?_ | refine blk_alloc ?_ _)); exact BKp.out) hb); replace HB := hs HB hb; (try clear hb); (try clear hb2); (try clear hk); (try clear hi); (try clear ho0)))
                (try simp only [Act.put, s1, s2, s3])
                go_cut [342] from 288 to 342 (fun v342 wc => ∃ (kq : Nat) (x342_350 : Bool), v342 = .bool x342_350 ∧ Aside0 (j8 kq t503 t515 t527 x342_350 a6_0 a6_1 a6_2 a6_3 a7_0 a7_1 a7_2 a7_3 a8_0 a8_1 t511 t512 t513 t514 t523 t524 t525 t526 = some r) ∧ Aside0 (kq ≤ kj296) ∧ Aside0 (Kd.R k23 23 wc w.heap.size (fun k_ => k_ ≠ gbb ∧ k_ ≠ gbf) v504 t503) ∧ Aside0 (wc.heap[gba]? = some (.cells #[.int .i64 a1_0, .int .i64 a1_1, .int .i64 a1_2, .int .i64 a1_3] 25 (0, 0))) ∧ Aside0 (wc.heap[gbb]? = some (.cells #[.int .i64 a3_0, .int .i64 a3_1] 23 (0, 0))) ∧ Aside0 (wc.heap[gbc]? = some (.cells #[.int .i64 a5_0, .int .i64 a5_1, .int .i64 a5_2, .int .i64 a5_3] 25 (0, 0))) ∧ Aside0 (wc.heap[gbd]? = some (.cells #[.int .i64 a6_0, .int .i64 a6_1, .int .i64 a6_2, .int .i64 a6_3] 25 (0, 0))) ∧ Aside0 (wc.heap[gbe]? = some (.cells #[.int .i64 a7_0, .int .i64 a7_1, .int .i64 a7_2, .int .i64 a7_3] 25 (0, 0))) ∧ Aside0 (wc.heap[gbf]? = some (.cells #[.int .i64 a8_0, .int .i64 a8_1] 23 (0, 0))) ∧ Aside0 (wc.heap[gbj]? = some (.cells #[.int .i64 t511, .int .i64 t512, .int .i64 t513, .int .i64 t514] 25 (0, 0))) ∧ Aside0 (wc.heap[gbk]? = some (.cells #[.int .i64 t517, .int .i64 t518, .int .i64 t519, .int .i64 t520] 25 (0, 0))) ∧ Aside0 (wc.heap[gbl]? = some (.cells #[.int .i64 t523, .int .i64 t524, .int .i64 t525, .int .i64 t526] 25 (0, 0))) ∧ Aside0 (wc.heap[gbm]? = some (.cells #[.int .i64 t529, .int .i64 t530, .int .i64 t531, .int .i64 t532] 25 (0, 0))) ∧ Aside0 (wc.heap[gbp]? = some (.cells #[.int .i64 t545, .int .i64 t546, .int .i64 t547, .int .i64 t548] 25 (0, 0))) ∧ Aside0 (Below w.heap.size w wc))
                case first => as_aux_lemma =>
                 have H := HC351.out
                 clear HC351
                 by_cases c376 : t549 = true
                 ·
                  subst c376
                  have H1 : (if t554 = true then (if (t551.length : Int) = (t503.length : Int) then (if (t503.length : Int) > 2 then (none) else ((laws_wRises.f kj296 t503).bind fun t555 => (j8 kj296 t503 t515 t527 (!t555) a6_0 a6_1 a6_2 a6_3 a7_0 a7_1 a7_2 a7_3 a8_0 a8_1 t511 t512 t513 t514 t523 t524 t525 t526))) else (none)) else (none)) = some r := by rw [if_pos rfl] at H; exact H
                  clear H
                  have H := H1
                  clear H1
                  by_cases c377 : t554 = true
                  ·
                   subst c377
                   have H1 : (if (t551.length : Int) = (t503.length : Int) then (if (t503.length : Int) > 2 then (none) else ((laws_wRises.f kj296 t503).bind fun t555 => (j8 kj296 t503 t515 t527 (!t555) a6_0 a6_1 a6_2 a6_3 a7_0 a7_1 a7_2 a7_3 a8_0 a8_1 t511 t512 t513 t514 t523 t524 t525 t526))) else (none)) = some r := by rw [if_pos rfl] at H; exact H
                   clear H
                   have H := H1
                   clear H1
                   by_cases c378 : (t551.length : Int) = (t503.length : Int)
                   ·
                    rw [if_pos c378] at H
                    have c378b0 : ((t551.length : Int) == (t503.length : Int)) = true := beq_iff_eq.mpr c378
                    have c378b1 : ((t551.length : Int) != (t503.length : Int)) = false := bne_eq_false_iff_eq.mpr c378
                    have c378b2 : (t551.length == t503.length) = true := by first | simpa using c378 | (simp at c378 ⊢; omega)
                    clear c378
                    (first | rw [c378b0] | (simp only [i64_w, i32_w]; rw [c378b0]) | skip)
                    by_cases c379 : (t503.length : Int) > 2
                    ·
                     rw [if_pos c379] at H
                     exact absurd H (by simp)
                    ·
                     rw [if_neg c379] at H
                     have c379b0 : decide (2 < (t503.length : Int)) = false := decide_eq_false c379
                     have c379b1 : decide (2 < t503.length) = false := decide_eq_false (by omega)
                     clear c379
                     replace H := Option.bind_eq_some_iff.mp H
                     obtain ⟨t555, A3800, H⟩ := H
                     try dsimp only at H
                     have A380 := Aside0.mk A3800
                     clear A3800
                     as_aux_lemma =>
                      have H' := Aside0.mk H
                      clear H
                      obtain ⟨Ao381, co381, eo381⟩ := Kd.R_slice HO553.out
                      subst eo381
                      obtain ⟨Ao382, co382, eo382⟩ := Kd.R_slice HO_39.out
                      subst eo382
                      go_wp2_with (first | (go_at_call 15; refine calls_of_args (args' := #[.slice Ao382 t503.length co382]) (by first | rfl) ?_; (with_reducible refine (laws_wRises.calls kj296 _ _ t503 t555 _ ?side1 ?side2 A380.out).mono ?_); (case side1 => repeat (first | exact (Kd.R_reads' HO_39.out).2.2 | (with_reducible refine Kd.C_alloc ?_ _) | (with_reducible refine Kd.C_drewN ?_ _) | (with_reducible refine Kd.C_drew ?_))); (case side2 => exact (Kd.R_reads' HO_39.out).2.1); rintro e w' ⟨rfl, ⟨nd, rfl⟩⟩))
                      go_meet
                      case rel => exact ⟨_, (!t555), (by first | rfl | (simp; done) | (simp [*]; done)), H', ⟨by have := HJ13.out; have := HJ49.out; have := HJ55.out; have := HJ167.out; have := HJ296.out; first | omega | exact Nat.le_refl _⟩, ⟨by (with_reducible repeat (first | apply Kd.R_alloc | apply Kd.R_drewN | apply Kd.R_drew)); exact Kd.R_mono HO_39.out (fun _ hk => ⟨hk.1.1, hk.1.2⟩)⟩, bk_ BKa, bk_ BKb, bk_ BKc, bk_ BKd, bk_ BKe, bk_ BKf, bk_ BKj, bk_ BKk, bk_ BKl, bk_ BKm, bk_ BKp, hb_ HB⟩
                   ·
                    rw [if_neg c378] at H
                    exact absurd H (by simp)
                  ·
                   replace c377 := Bool.eq_false_iff.mpr c377
                   subst c377
                   have H1 : (none) = some r := by rw [if_neg (show ¬ (false = true) by decide)] at H; exact H
                   clear H
                   have H := H1
                   clear H1
                   exact absurd H (by simp)
                 ·
                  replace c376 := Bool.eq_false_iff.mpr c376
                  subst c376
                  have H1 : (none) = some r := by rw [if_neg (show ¬ (false = true) by decide)] at H; exact H
                  clear H
                  have H := H1
                  clear H1
                  exact absurd H (by simp)
                case rest => as_aux_lemma =>
                 clear HC351
                 try clear c296
                 try clear c348
                 try clear hcz174_0
                 try clear hcz174_1
                 try clear hcz361_0
                 try clear hcz361_1
                 try clear hcz361_2
                 try clear hcz361_3
                 try clear hfz174_0
                 try clear hfz174_1
                 try clear hfz361_0
                 try clear hfz361_1
                 try clear hfz361_2
                 try clear hfz361_3
                 obtain ⟨kq, x342_350, rfl, HA, HJ350, HO_39, BKa, BKb, BKc, BKd, BKe, BKf, BKj, BKk, BKl, BKm, BKp, HB⟩ := hcut
                 cases kq with
                 | zero => exact absurd HA.out (by simp [j8])
                 | succ kj350 =>
                  have H := HA.out
                  clear HA
                  simp only [j8] at H
                  by_cases c383 : x342_350 = true
                  ·
                   subst c383
                   have H1 : (none) = some r := by rw [if_pos rfl] at H; exact H
                   clear H
                   have H := H1
                   clear H1
                   exact absurd H (by simp)
                  ·
                   replace c383 := Bool.eq_false_iff.mpr c383
                   subst c383
                   have H1 : (l2 kj350 t503 t515 t527 t503 (t503.length : Int) 0 a6_0 a6_1 a6_2 a6_3 a7_0 a7_1 a7_2 a7_3 a8_0 a8_1 t511 t512 t513 t514 t523 t524 t525 t526) = some r := by rw [if_neg (show ¬ (false = true) by decide)] at H; exact H
                   clear H
                   have H := H1
                   clear H1
                   have H' := Aside0.mk H
                   clear H
                   obtain ⟨Ao384, co384, eo384⟩ := Kd.R_slice HO_39.out
                   subst eo384
                   go_wp2
                   go_loopg [345] kj350 (fun kq v345 w' => ∃ (x345_7 : Int), v345 = .int .i64 x345_7 ∧ Aside0 (l2 kq t503 t515 t527 t503 (t503.length : Int) x345_7 a6_0 a6_1 a6_2 a6_3 a7_0 a7_1 a7_2 a7_3 a8_0 a8_1 t511 t512 t513 t514 t523 t524 t525 t526 = some r) ∧ Aside0 (kq ≤ kj350) ∧ Aside0 (Kd.R k23 23 w' w.heap.size (fun k_ => k_ ≠ gbb ∧ k_ ≠ gbf) (.slice Ao384 t503.length co384) t503) ∧ Aside0 (Kd.R k23 23 w' w.heap.size (fun k_ => k_ ≠ gbb ∧ k_ ≠ gbf) (.slice Ao384 t503.length co384) t503) ∧ Aside0 (w'.heap[gba]? = some (.cells #[.int .i64 a1_0, .int .i64 a1_1, .int .i64 a1_2, .int .i64 a1_3] 25 (0, 0))) ∧ Aside0 (w'.heap[gbb]? = some (.cells #[.int .i64 a3_0, .int .i64 a3_1] 23 (0, 0))) ∧ Aside0 (w'.heap[gbc]? = some (.cells #[.int .i64 a5_0, .int .i64 a5_1, .int .i64 a5_2, .int .i64 a5_3] 25 (0, 0))) ∧ Aside0 (w'.heap[gbd]? = some (.cells #[.int .i64 a6_0, .int .i64 a6_1, .int .i64 a6_2, .int .i64 a6_3] 25 (0, 0))) ∧ Aside0 (w'.heap[gbe]? = some (.cells #[.int .i64 a7_0, .int .i64 a7_1, .int .i64 a7_2, .int .i64 a7_3] 25 (0, 0))) ∧ Aside0 (w'.heap[gbf]? = some (.cells #[.int .i64 a8_0, .int .i64 a8_1] 23 (0, 0))) ∧ Aside0 (w'.heap[gbj]? = some (.cells #[.int .i64 t511, .int .i64 t512, .int .i64 t513, .int .i64 t514] 25 (0, 0))) ∧ Aside0 (w'.heap[gbk]? = some (.cells #[.int .i64 t517, .int .i64 t518, .int .i64 t519, .int .i64 t520] 25 (0, 0))) ∧ Aside0 (w'.heap[gbl]? = some (.cells #[.int .i64 t523, .int .i64 t524, .int .i64 t525, .int .i64 t526] 25 (0, 0))) ∧ Aside0 (w'.heap[gbm]? = some (.cells #[.int .i64 t529, .int .i64 t530, .int .i64 t531, .int .i64 t532] 25 (0, 0))) ∧ Aside0 (w'.heap[gbp]? = some (.cells #[.int .i64 t545, .int .i64 t546, .int .i64 t547, .int .i64 t548] 25 (0, 0))) ∧ Aside0 (Below w.heap.size w w'))
                   case atStart => exact ⟨(0), (by first | rfl | (simp; done) | (simp [*]; done)), H', ⟨Nat.le_refl _⟩, ⟨by (with_reducible repeat (first | apply Kd.R_alloc | apply Kd.R_drewN | apply Kd.R_drew)); exact HO_39.out⟩, ⟨by (with_reducible repeat (first | apply Kd.R_alloc | apply Kd.R_drewN | apply Kd.R_drew)); exact HO_39.out⟩, bk_ BKa, bk_ BKb, bk_ BKc, bk_ BKd, bk_ BKe, bk_ BKf, bk_ BKj, bk_ BKk, bk_ BKl, bk_ BKm, bk_ BKp, hb_ HB⟩
                   case round => as_aux_lemma =>
                    clear H'
                    try clear c296
                    try clear c348
                    try clear c383
                    try clear hcz174_0
                    try clear hcz174_1
                    try clear hcz361_0
                    try clear hcz361_1
                    try clear hcz361_2
                    try clear hcz361_3
                    try clear hfz174_0
                    try clear hfz174_1
                    try clear hfz361_0
                    try clear hfz361_1
                    try clear hfz361_2
                    try clear hfz361_3
                    obtain ⟨x345_7, rfl, HA, HK7, HO_39, HO_343, BKa, BKb, BKc, BKd, BKe, BKf, BKj, BKk, BKl, BKm, BKp, HB⟩ := hrel
                    cases gk with
                    | zero => exact absurd HA.out (by simp [l2])
                    | succ k7 =>
                     have H := HA.out
                     clear HA
                     simp only [l2] at H
                     by_cases c385 : x345_7 < (t503.length : Int)
                     ·
                      rw [if_pos c385] at H
                      have c385b0 : decide (x345_7 < (t503.length : Int)) = true := decide_eq_true c385
                      clear c385
                      by_cases c386 : 0 ≤ x345_7
                      ·
                       rw [if_pos c386] at H
                       have c386b0 : decide (0 ≤ x345_7) = true := decide_eq_true c386
                       clear c386
                       by_cases c387 : x345_7 < (t503.length : Int)
                       ·
                        rw [if_pos c387] at H
                        have c387b0 : decide (x345_7 < (t503.length : Int)) = true := decide_eq_true c387
                        clear c387
                        replace H := Option.bind_eq_some_iff.mp H
                        obtain ⟨⟨t558, t559, t560⟩, A3880, H⟩ := H
                        try dsimp only at H
                        have A388 := Aside0.mk A3880
                        clear A3880
                        by_cases c389 : t560 = true
                        ·
                         subst c389
                         have H1 : ((laws_wHas.f k7 t503 t558 t559).bind fun t562 => (if t562 = true then (l2 k7 t503 t515 t527 t503 (t503.length : Int) (wrap64 (x345_7 + 1)) a6_0 a6_1 a6_2 a6_3 a7_0 a7_1 a7_2 a7_3 a8_0 a8_1 t511 t512 t513 t514 t523 t524 t525 t526) else (none))) = some r := by rw [if_pos rfl] at H; exact H
                         clear H
                         have H := H1
                         clear H1
                         replace H := Option.bind_eq_some_iff.mp H
                         obtain ⟨t562, A3900, H⟩ := H
                         try dsimp only at H
                         have A390 := Aside0.mk A3900
                         clear A3900
                         by_cases c391 : t562 = true
                         ·
                          subst c391
                          have H1 : (l2 k7 t503 t515 t527 t503 (t503.length : Int) (wrap64 (x345_7 + 1)) a6_0 a6_1 a6_2 a6_3 a7_0 a7_1 a7_2 a7_3 a8_0 a8_1 t511 t512 t513 t514 t523 t524 t525 t526) = some r := by rw [if_pos rfl] at H; exact H
                          clear H
                          have H := H1
                          clear H1
                          as_aux_lemma =>
                           have H' := Aside0.mk H
                           clear H
                           have p556 : 0 ≤ (x345_7 : Int) := of_decide_eq_true (by first | (with_reducible assumption) | assumption)
                           have q556 : x345_7 < (t503.length : Int) := of_decide_eq_true (by first | (with_reducible assumption) | assumption)
                           obtain ⟨ad556, e556, hx556_0, hx556_1⟩ := at_T23 (Kd.R_reads' HO_343.out).2.2 x345_7 p556 q556
                           cases e556
                           replace p556 := eq_true p556
                           replace q556 := eq_true q556
                           go_wp2_with (first | ((with_reducible refine gate_dst (N := 60) rfl ?_); (try (refine gate_guard (by rfl) ?_; dsimp only)); refine be_ (N := 60) (cs := #[.int .i64 0, .int .i64 0]) (t := 23) ?_; intro gbq hg w392 hbox hb; have BKq := Aside0.mk (hbox); have GWq := ge_ HB hg; have GEq := ge_ HB hg; obtain ⟨Na_q, Nq_a⟩ := nq_ BKa hg; obtain ⟨Nb_q, Nq_b⟩ := nq_ BKb hg; obtain ⟨Nc_q, Nq_c⟩ := nq_ BKc hg; obtain ⟨Nd_q, Nq_d⟩ := nq_ BKd hg; obtain ⟨Ne_q, Nq_e⟩ := nq_ BKe hg; obtain ⟨Nf_q, Nq_f⟩ := nq_ BKf hg; obtain ⟨Nj_q, Nq_j⟩ := nq_ BKj hg; obtain ⟨Nk_q, Nq_k⟩ := nq_ BKk hg; obtain ⟨Nl_q, Nq_l⟩ := nq_ BKl hg; obtain ⟨Nm_q, Nq_m⟩ := nq_ BKm hg; obtain ⟨Np_q, Nq_p⟩ := nq_ BKp hg; replace HO_39 := Aside0.mk (Kd.R_below (Kd.R_elderB (by (with_reducible repeat (first | apply Kd.R_alloc | apply Kd.R_drewN | apply Kd.R_drew)); exact HO_39.out) gbq (Nat.le_of_eq hg.symm)) hb); replace HO_343 := Aside0.mk (Kd.R_below (Kd.R_elderB (by (with_reducible repeat (first | apply Kd.R_alloc | apply Kd.R_drewN | apply Kd.R_drew)); exact HO_343.out) gbq (Nat.le_of_eq hg.symm)) hb); replace BKa := bb BKa hb; replace BKb := bb BKb hb; replace BKc := bb BKc hb; replace BKd := bb BKd hb; replace BKe := bb BKe hb; replace BKf := bb BKf hb; replace BKj := bb BKj hb; replace BKk := bb BKk hb; replace BKl := bb BKl hb; replace BKm := bb BKm hb; replace BKp := bb BKp hb; replace HB := hs HB hb; clear hb hbox hg; obtain ⟨hnb393, hnc393⟩ := nn_ Nq_a; obtain ⟨hnb394, hnc394⟩ := nn_ Nq_b; obtain ⟨hnb395, hnc395⟩ := nn_ Nq_c; obtain ⟨hnb396, hnc396⟩ := nn_ Nq_d; obtain ⟨hnb397, hnc397⟩ := nn_ Nq_e; obtain ⟨hnb398, hnc398⟩ := nn_ Nq_f; obtain ⟨hnb399, hnc399⟩ := nn_ Nq_j; obtain ⟨hnb400, hnc400⟩ := nn_ Nq_k; obtain ⟨hnb401, hnc401⟩ := nn_ Nq_l; obtain ⟨hnb402, hnc402⟩ := nn_ Nq_m; obtain ⟨hnb403, hnc403⟩ := nn_ Nq_p; have hcz404_0 := cz_ BKq 0 (.int .i64 0); have hcz404_1 := cz_ BKq 1 (.int .i64 0); have hfz404_0 := blk_frozen BKq.out 0; have hfz404_1 := blk_frozen BKq.out 1) | ((with_reducible refine gate_callee (f := 41) rfl ?_); refine gs_ (some 351) Try.func41 #[.agg #[.int .i64 ((rd_T23 t503 x345_7).f0), .int .i64 ((rd_T23 t503 x345_7).f1)]] ?_; (with_reducible refine (impl_MirrorTurn.calls k7 ((rd_T23 t503 x345_7).f0) ((rd_T23 t503 x345_7).f1) t558 t559 true _ A388.out).mono ?_); rintro e w405 ⟨rfl, hb⟩; refine ⟨_, rfl, ?_⟩; replace HO_39 := hr_ ⟨(Kd.R_mono (Kd.R_far (p := ⟨gbq, 1, none⟩) (Kd.R_far (p := ⟨gbq, 0, none⟩) (Kd.R_mono HO_39.out (fun k_ hk => (⟨hk, hk.2⟩ : _ ∧ k_ ≠ gbq))) (fun _ hk => hk.2) (.int .i64 ((rd_T23 t503 x345_7).f0))) (fun _ hk => hk.2) (.int .i64 ((rd_T23 t503 x345_7).f1))) (fun _ h_ => h_.1))⟩ hb; replace HO_343 := hr_ ⟨(Kd.R_mono (Kd.R_far (p := ⟨gbq, 1, none⟩) (Kd.R_far (p := ⟨gbq, 0, none⟩) (Kd.R_mono HO_343.out (fun k_ hk => (⟨hk, hk.2⟩ : _ ∧ k_ ≠ gbq))) (fun _ hk => hk.2) (.int .i64 ((rd_T23 t503 x345_7).f0))) (fun _ hk => hk.2) (.int .i64 ((rd_T23 t503 x345_7).f1))) (fun _ h_ => h_.1))⟩ hb; replace BKa := bb BKa hb; replace BKb := bb BKb hb; replace BKc := bb BKc hb; replace BKd := bb BKd hb; replace BKe := bb BKe hb; replace BKf := bb BKf hb; replace BKj := bb BKj hb; replace BKk := bb BKk hb; replace BKl := bb BKl hb; replace BKm := bb BKm hb; replace BKp := bb BKp hb; replace BKq := Aside0.mk (blk_below (g := gbq) (o := .cells #[.int .i64 ((rd_T23 t503 x345_7).f0), .int .i64 ((rd_T23 t503 x345_7).f1)] 23 (0, 0)) (by (with_reducible repeat (first | refine blk_drewN ?_ _ | refine blk_drew ?_ | refine blk_alloc ?_ _)); refine blk_put (cs := #[.int .i64 ((rd_T23 t503 x345_7).f0), .int .i64 0]) ?_ 1 _ rfl; (with_reducible repeat (first | refine blk_drewN ?_ _ | refine blk_drew ?_ | refine blk_alloc ?_ _)); refine blk_put (cs := #[.int .i64 0, .int .i64 0]) ?_ 0 _ rfl; (with_reducible repeat (first | refine blk_drewN ?_ _ | refine blk_drew ?_ | refine blk_alloc ?_ _)); exact BKq.out) hb); replace HB := hs HB hb; (try clear hb); (try clear hb2); (try clear hk); (try clear hi)) | ((with_reducible refine gate_dst (N := 61) rfl ?_); (try (refine gate_guard (by rfl) ?_; dsimp only)); refine be_ (N := 61) (cs := #[.int .i64 0, .int .i64 0]) (t := 23) ?_; intro gbr hg w406 hbox hb; have BKr := Aside0.mk (hbox); have GWr := ge_ HB hg; have GEr := ge_ HB hg; obtain ⟨Na_r, Nr_a⟩ := nq_ BKa hg; obtain ⟨Nb_r, Nr_b⟩ := nq_ BKb hg; obtain ⟨Nc_r, Nr_c⟩ := nq_ BKc hg; obtain ⟨Nd_r, Nr_d⟩ := nq_ BKd hg; obtain ⟨Ne_r, Nr_e⟩ := nq_ BKe hg; obtain ⟨Nf_r, Nr_f⟩ := nq_ BKf hg; obtain ⟨Nj_r, Nr_j⟩ := nq_ BKj hg; obtain ⟨Nk_r, Nr_k⟩ := nq_ BKk hg; obtain ⟨Nl_r, Nr_l⟩ := nq_ BKl hg; obtain ⟨Nm_r, Nr_m⟩ := nq_ BKm hg; obtain ⟨Np_r, Nr_p⟩ := nq_ BKp hg; obtain ⟨Nq_r, Nr_q⟩ := nq_ BKq hg; replace HO_39 := Aside0.mk (Kd.R_below (Kd.R_elderB (by (with_reducible repeat (first | apply Kd.R_alloc | apply Kd.R_drewN | apply Kd.R_drew)); exact HO_39.out) gbr (Nat.le_of_eq hg.symm)) hb); replace HO_343 := Aside0.mk (Kd.R_below (Kd.R_elderB (by (with_reducible repeat (first | apply Kd.R_alloc | apply Kd.R_drewN | apply Kd.R_drew)); exact HO_343.out) gbr (Nat.le_of_eq hg.symm)) hb); replace BKa := bb BKa hb; replace BKb := bb BKb hb; replace BKc := bb BKc hb; replace BKd := bb BKd hb; replace BKe := bb BKe hb; replace BKf := bb BKf hb; replace BKj := bb BKj hb; replace BKk := bb BKk hb; replace BKl := bb BKl hb; replace BKm := bb BKm hb; replace BKp := bb BKp hb; replace BKq := bb BKq hb; replace HB := hs HB hb; clear hb hbox hg; obtain ⟨hnb407, hnc407⟩ := nn_ Nr_a; obtain ⟨hnb408, hnc408⟩ := nn_ Nr_b; obtain ⟨hnb409, hnc409⟩ := nn_ Nr_c; obtain ⟨hnb410, hnc410⟩ := nn_ Nr_d; obtain ⟨hnb411, hnc411⟩ := nn_ Nr_e; obtain ⟨hnb412, hnc412⟩ := nn_ Nr_f; obtain ⟨hnb413, hnc413⟩ := nn_ Nr_j; obtain ⟨hnb414, hnc414⟩ := nn_ Nr_k; obtain ⟨hnb415, hnc415⟩ := nn_ Nr_l; obtain ⟨hnb416, hnc416⟩ := nn_ Nr_m; obtain ⟨hnb417, hnc417⟩ := nn_ Nr_p; obtain ⟨hnb418, hnc418⟩ := nn_ Nr_q; have hcz419_0 := cz_ BKr 0 (.int .i64 0); have hcz419_1 := cz_ BKr 1 (.int .i64 0); have hfz419_0 := blk_frozen BKr.out 0; have hfz419_1 := blk_frozen BKr.out 1) | (go_at_call 14; refine calls_of_args (args' := #[.slice (some ad556) t503.length co384, .agg #[.int .i64 t558, .int .i64 t559]]) (by first | rfl) ?_; (with_reducible refine (laws_wHas.calls k7 _ _ t503 t558 t559 true _ ?side1 ?side2 A390.out).mono ?_); (case side1 => refine (Kd.R_reads' (e := 23) (base := w.heap.size) (ok := fun k_ => (((k_ ≠ gbb ∧ k_ ≠ gbf) ∧ k_ ≠ gbq) ∧ k_ ≠ gbr)) (n := t503.length) (c := co384) ?_).2.2; exact (by (with_reducible repeat (first | apply Kd.R_alloc | apply Kd.R_drewN | apply Kd.R_drew)); exact (Kd.R_mono (Kd.R_far (p := ⟨gbr, 1, none⟩) (Kd.R_far (p := ⟨gbr, 0, none⟩) (Kd.R_mono HO_39.out (fun k_ hk => (⟨hk, hk.2⟩ : _ ∧ k_ ≠ gbr))) (fun _ hk => hk.2) (.int .i64 t558)) (fun _ hk => hk.2) (.int .i64 t559)) (fun _ h_ => h_.1)))); (case side2 => exact (Kd.R_reads' HO_39.out).2.1); rintro e w420 ⟨rfl, hb⟩; replace HO_39 := hr_ ⟨(Kd.R_mono (Kd.R_far (p := ⟨gbr, 1, none⟩) (Kd.R_far (p := ⟨gbr, 0, none⟩) (Kd.R_mono HO_39.out (fun k_ hk => (⟨hk, hk.2⟩ : _ ∧ k_ ≠ gbr))) (fun _ hk => hk.2) (.int .i64 t558)) (fun _ hk => hk.2) (.int .i64 t559)) (fun _ h_ => h_.1))⟩ hb; replace HO_343 := hr_ ⟨(Kd.R_mono (Kd.R_far (p := ⟨gbr, 1, none⟩) (Kd.R_far (p := ⟨gbr, 0, none⟩) (Kd.R_mono HO_343.out (fun k_ hk => (⟨hk, hk.2⟩ : _ ∧ k_ ≠ gbr))) (fun _ hk => hk.2) (.int .i64 t558)) (fun _ hk => hk.2) (.int .i64 t559)) (fun _ h_ => h_.1))⟩ hb; replace BKa := bb BKa hb; replace BKb := bb BKb hb; replace BKc := bb BKc hb; replace BKd := bb BKd hb; replace BKe := bb BKe hb; replace BKf := bb BKf hb; replace BKj := bb BKj hb; replace BKk := bb BKk hb; replace BKl := bb BKl hb; replace BKm := bb BKm hb; replace BKp := bb BKp hb; replace BKq := bb BKq hb; replace BKr := Aside0.mk (blk_below (g := gbr) (o := .cells #[.int .i64 t558, .int .i64 t559] 23 (0, 0)) (by (with_reducible repeat (first | refine blk_drewN ?_ _ | refine blk_drew ?_ | refine blk_alloc ?_ _)); refine blk_put (cs := #[.int .i64 t558, .int .i64 0]) ?_ 1 _ rfl; (with_reducible repeat (first | refine blk_drewN ?_ _ | refine blk_drew ?_ | refine blk_alloc ?_ _)); refine blk_put (cs := #[.int .i64 0, .int .i64 0]) ?_ 0 _ rfl; (with_reducible repeat (first | refine blk_drewN ?_ _ | refine blk_drew ?_ | refine blk_alloc ?_ _)); exact BKr.out) hb); replace HB := hs HB hb; (try clear hb); (try clear hb2); (try clear hk); (try clear hi)))
                           go_roundg k7
                           case measure => have := HJ13.out; have := HJ49.out; have := HJ55.out; have := HJ167.out; have := HJ296.out; have := HJ350.out; have := HK7.out; omega
                           case rel => exact ⟨(wrap64 (x345_7 + 1)), (by first | rfl | (simp; done) | (simp [*]; done)), H', ⟨by have := HJ13.out; have := HJ49.out; have := HJ55.out; have := HJ167.out; have := HJ296.out; have := HJ350.out; have := HK7.out; omega⟩, ⟨by (with_reducible repeat (first | apply Kd.R_alloc | apply Kd.R_drewN | apply Kd.R_drew)); exact Kd.R_mono HO_39.out (fun _ hk => ⟨hk.1.1.1, hk.1.1.2⟩)⟩, ⟨by (with_reducible repeat (first | apply Kd.R_alloc | apply Kd.R_drewN | apply Kd.R_drew)); exact Kd.R_mono HO_343.out (fun _ hk => ⟨hk.1.1.1, hk.1.1.2⟩)⟩, bk_ BKa, bk_ BKb, bk_ BKc, bk_ BKd, bk_ BKe, bk_ BKf, bk_ BKj, bk_ BKk, bk_ BKl, bk_ BKm, bk_ BKp, hb_ HB⟩
                         ·
                          replace c391 := Bool.eq_false_iff.mpr c391
                          subst c391
                          have H1 : (none) = some r := by rw [if_neg (show ¬ (false = true) by decide)] at H; exact H
                          clear H
                          have H := H1
                          clear H1
                          exact absurd H (by simp)
                        ·
                         replace c389 := Bool.eq_false_iff.mpr c389
                         subst c389
                         have H1 : (none) = some r := by rw [if_neg (show ¬ (false = true) by decide)] at H; exact H
                         clear H
                         have H := H1
                         clear H1
                         exact absurd H (by simp)
                       ·
                        rw [if_neg c387] at H
                        exact absurd H (by simp)
                      ·
                       rw [if_neg c386] at H
                       exact absurd H (by simp)
                     ·
                      rw [if_neg c385] at H
                      have c385b0 : decide (x345_7 < (t503.length : Int)) = false := decide_eq_false c385
                      clear c385
                      as_aux_lemma =>
                       have H' := Aside0.mk H
                       clear H
                       go_wp2
                       go_meet
                       case rel => exact ⟨_, H', ⟨by have := HJ13.out; have := HJ49.out; have := HJ55.out; have := HJ167.out; have := HJ296.out; have := HJ350.out; have := HK7.out; first | omega | exact Nat.le_refl _⟩, bk_ BKa, bk_ BKb, bk_ BKc, bk_ BKd, bk_ BKe, bk_ BKf, bk_ BKj, bk_ BKk, bk_ BKl, bk_ BKm, hb_ HB⟩
               ·
                replace c348 := Bool.eq_false_iff.mpr c348
                subst c348
                have H1 : (j10 kj296 t515 t527 a6_0 a6_1 a6_2 a6_3 a7_0 a7_1 a7_2 a7_3 a8_0 a8_1 t511 t512 t513 t514 t523 t524 t525 t526) = some r := by rw [if_neg (show ¬ (false = true) by decide)] at H; exact H
                clear H
                have H := H1
                clear H1
                as_aux_lemma =>
                 have H' := Aside0.mk H
                 clear H
                 go_wp2
                 go_meet
                 case rel => exact ⟨_, H', ⟨by have := HJ13.out; have := HJ49.out; have := HJ55.out; have := HJ167.out; have := HJ296.out; first | omega | exact Nat.le_refl _⟩, bk_ BKa, bk_ BKb, bk_ BKc, bk_ BKd, bk_ BKe, bk_ BKf, bk_ BKj, bk_ BKk, bk_ BKl, bk_ BKm, hb_ HB⟩
              case rest => as_aux_lemma =>
               clear HC347
               try clear c296
               try clear hcz174_0
               try clear hcz174_1
               try clear hfz174_0
               try clear hfz174_1
               obtain ⟨kq, HA, HJ346, BKa, BKb, BKc, BKd, BKe, BKf, BKj, BKk, BKl, BKm, HB⟩ := hcut
               cases kq with
               | zero => exact absurd HA.out (by simp [j10])
               | succ kj346 =>
                have H := HA.out
                clear HA
                simp only [j10] at H
                have HC421 := Aside0.mk H
                clear H
                go_upto_if 363 with (fail)
                go_cut [] from 343 to 0 (fun wc => ∃ (kq : Nat), Aside0 (j11 kq t527 a7_0 a7_1 a7_2 a7_3 a8_0 a8_1 t523 t524 t525 t526 = some r) ∧ Aside0 (kq ≤ kj346) ∧ Aside0 (wc.heap[gba]? = some (.cells #[.int .i64 a1_0, .int .i64 a1_1, .int .i64 a1_2, .int .i64 a1_3] 25 (0, 0))) ∧ Aside0 (wc.heap[gbb]? = some (.cells #[.int .i64 a3_0, .int .i64 a3_1] 23 (0, 0))) ∧ Aside0 (wc.heap[gbc]? = some (.cells #[.int .i64 a5_0, .int .i64 a5_1, .int .i64 a5_2, .int .i64 a5_3] 25 (0, 0))) ∧ Aside0 (wc.heap[gbd]? = some (.cells #[.int .i64 a6_0, .int .i64 a6_1, .int .i64 a6_2, .int .i64 a6_3] 25 (0, 0))) ∧ Aside0 (wc.heap[gbe]? = some (.cells #[.int .i64 a7_0, .int .i64 a7_1, .int .i64 a7_2, .int .i64 a7_3] 25 (0, 0))) ∧ Aside0 (wc.heap[gbf]? = some (.cells #[.int .i64 a8_0, .int .i64 a8_1] 23 (0, 0))) ∧ Aside0 (wc.heap[gbj]? = some (.cells #[.int .i64 t511, .int .i64 t512, .int .i64 t513, .int .i64 t514] 25 (0, 0))) ∧ Aside0 (wc.heap[gbk]? = some (.cells #[.int .i64 t517, .int .i64 t518, .int .i64 t519, .int .i64 t520] 25 (0, 0))) ∧ Aside0 (wc.heap[gbl]? = some (.cells #[.int .i64 t523, .int .i64 t524, .int .i64 t525, .int .i64 t526] 25 (0, 0))) ∧ Aside0 (wc.heap[gbm]? = some (.cells #[.int .i64 t529, .int .i64 t530, .int .i64 t531, .int .i64 t532] 25 (0, 0))) ∧ Aside0 (Below w.heap.size w wc))
                case first => as_aux_lemma =>
                 have H := HC421.out
                 clear HC421
                 by_cases c422 : t515 = true
                 ·
                  subst c422
                  have H1 : ((impl_MirrorSeen.f kj346 t511 t512 t513 t514).bind fun bt563 => (if bt563.2.2.2.2 = true then (if ((!(bt563.1 == a6_0) || (!(bt563.2.1 == a6_1))) || ((!(bt563.2.2.1 == a6_2) || (!(bt563.2.2.2.1 == a6_3))))) = true then (none) else (j11 kj346 t527 a7_0 a7_1 a7_2 a7_3 a8_0 a8_1 t523 t524 t525 t526)) else (none))) = some r := by rw [if_pos rfl] at H; exact H
                  clear H
                  have H := H1
                  clear H1
                  replace H := Option.bind_eq_some_iff.mp H
                  obtain ⟨⟨t563, t564, t565, t566, t567⟩, A4230, H⟩ := H
                  try dsimp only at H
                  have A423 := Aside0.mk A4230
                  clear A4230
                  by_cases c424 : t567 = true
                  ·
                   subst c424
                   have H1 : (if ((!(t563 == a6_0) || (!(t564 == a6_1))) || ((!(t565 == a6_2) || (!(t566 == a6_3))))) = true then (none) else (j11 kj346 t527 a7_0 a7_1 a7_2 a7_3 a8_0 a8_1 t523 t524 t525 t526)) = some r := by rw [if_pos rfl] at H; exact H
                   clear H
                   have H := H1
                   clear H1
                   by_cases c425 : ((!(t563 == a6_0) || (!(t564 == a6_1))) || ((!(t565 == a6_2) || (!(t566 == a6_3))))) = true
                   ·
                    rw [if_pos c425] at H
                    exact absurd H (by simp)
                   ·
                    rw [if_neg c425] at H
                    have c425b0 : ((!(t563 == a6_0) || (!(t564 == a6_1))) || ((!(t565 == a6_2) || (!(t566 == a6_3))))) = false := by simpa using c425
                    clear c425
                    (first | rw [c425b0] | (simp only [i64_w, i32_w]; rw [c425b0]) | skip)
                    as_aux_lemma =>
                     have H' := Aside0.mk H
                     clear H
                     obtain ⟨hnb426, hnc426⟩ := nn_ Nj_a
                     obtain ⟨hnb427, hnc427⟩ := nn_ Nj_b
                     obtain ⟨hnb428, hnc428⟩ := nn_ Nj_c
                     obtain ⟨hnb429, hnc429⟩ := nn_ Nj_d
                     obtain ⟨hnb430, hnc430⟩ := nn_ Nj_e
                     obtain ⟨hnb431, hnc431⟩ := nn_ Nj_f
                     obtain ⟨hnb432, hnc432⟩ := nn_ Nj_k
                     obtain ⟨hnb433, hnc433⟩ := nn_ Nj_l
                     obtain ⟨hnb434, hnc434⟩ := nn_ Nj_m
                     have hcz435_0 := cz_ BKj 0 (.int .i64 t511)
                     have hcz435_1 := cz_ BKj 1 (.int .i64 t512)
                     have hcz435_2 := cz_ BKj 2 (.int .i64 t513)
                     have hcz435_3 := cz_ BKj 3 (.int .i64 t514)
                     have hfz435_0 := blk_frozen BKj.out 0
                     have hfz435_1 := blk_frozen BKj.out 1
                     have hfz435_2 := blk_frozen BKj.out 2
                     have hfz435_3 := blk_frozen BKj.out 3
                     go_wp2_with (first | ((with_reducible refine gate_callee (f := 23) rfl ?_); refine gs_ (some 366) Try.func23 #[.agg #[.int .i64 t511, .int .i64 t512, .int .i64 t513, .int .i64 t514]] ?_; (with_reducible refine (impl_MirrorSeen.calls kj346 t511 t512 t513 t514 t563 t564 t565 t566 true _ A423.out).mono ?_); rintro e w436 ⟨rfl, hb⟩; refine ⟨_, rfl, ?_⟩; replace BKa := bb BKa hb; replace BKb := bb BKb hb; replace BKc := bb BKc hb; replace BKd := bb BKd hb; replace BKe := bb BKe hb; replace BKf := bb BKf hb; replace BKj := bb BKj hb; replace BKk := bb BKk hb; replace BKl := bb BKl hb; replace BKm := bb BKm hb; replace HB := hs HB hb; (try clear hb); (try clear hb2); (try clear hk); (try clear hi)) | ((with_reducible refine gate_dst (N := 63) rfl ?_); (try (refine gate_guard (by rfl) ?_; dsimp only)); refine be_ (N := 63) (cs := #[.int .i64 0, .int .i64 0, .int .i64 0, .int .i64 0]) (t := 25) ?_; intro gbs hg w437 hbox hb; have BKs := Aside0.mk (hbox); have GWs := ge_ HB hg; have GEs := ge_ HB hg; obtain ⟨Na_s, Ns_a⟩ := nq_ BKa hg; obtain ⟨Nb_s, Ns_b⟩ := nq_ BKb hg; obtain ⟨Nc_s, Ns_c⟩ := nq_ BKc hg; obtain ⟨Nd_s, Ns_d⟩ := nq_ BKd hg; obtain ⟨Ne_s, Ns_e⟩ := nq_ BKe hg; obtain ⟨Nf_s, Ns_f⟩ := nq_ BKf hg; obtain ⟨Nj_s, Ns_j⟩ := nq_ BKj hg; obtain ⟨Nk_s, Ns_k⟩ := nq_ BKk hg; obtain ⟨Nl_s, Ns_l⟩ := nq_ BKl hg; obtain ⟨Nm_s, Ns_m⟩ := nq_ BKm hg; replace BKa := bb BKa hb; replace BKb := bb BKb hb; replace BKc := bb BKc hb; replace BKd := bb BKd hb; replace BKe := bb BKe hb; replace BKf := bb BKf hb; replace BKj := bb BKj hb; replace BKk := bb BKk hb; replace BKl := bb BKl hb; replace BKm := bb BKm hb; replace HB := hs HB hb; clear hb hbox hg; obtain ⟨hnb438, hnc438⟩ := nn_ Ns_a; obtain ⟨hnb439, hnc439⟩ := nn_ Ns_b; obtain ⟨hnb440, hnc440⟩ := nn_ Ns_c; obtain ⟨hnb441, hnc441⟩ := nn_ Ns_d; obtain ⟨hnb442, hnc442⟩ := nn_ Ns_e; obtain ⟨hnb443, hnc443⟩ := nn_ Ns_f; obtain ⟨hnb444, hnc444⟩ := nn_ Ns_j; obtain ⟨hnb445, hnc445⟩ := nn_ Ns_k; obtain ⟨hnb446, hnc446⟩ := nn_ Ns_l; obtain ⟨hnb447, hnc447⟩ := nn_ Ns_m; have hcz448_0 := cz_ BKs 0 (.int .i64 0); have hcz448_1 := cz_ BKs 1 (.int .i64 0); have hcz448_2 := cz_ BKs 2 (.int .i64 0); have hcz448_3 := cz_ BKs 3 (.int .i64 0); have hfz448_0 := blk_frozen BKs.out 0; have hfz448_1 := blk_frozen BKs.out 1; have hfz448_2 := blk_frozen BKs.out 2; have hfz448_3 := blk_frozen BKs.out 3; obtain ⟨hnb449, hnc449⟩ := nn_ Nd_a; obtain ⟨hnb450, hnc450⟩ := nn_ Nd_b; obtain ⟨hnb451, hnc451⟩ := nn_ Nd_c; obtain ⟨hnb452, hnc452⟩ := nn_ Nd_e; obtain ⟨hnb453, hnc453⟩ := nn_ Nd_f; obtain ⟨hnb454, hnc454⟩ := nn_ Nd_k; obtain ⟨hnb455, hnc455⟩ := nn_ Nd_l; obtain ⟨hnb456, hnc456⟩ := nn_ Nd_m; have hcz457_0 := cz_ BKd 0 (.int .i64 a6_0); have hcz457_1 := cz_ BKd 1 (.int .i64 a6_1); have hcz457_2 := cz_ BKd 2 (.int .i64 a6_2); have hcz457_3 := cz_ BKd 3 (.int .i64 a6_3); have hfz457_0 := blk_frozen BKd.out 0; have hfz457_1 := blk_frozen BKd.out 1; have hfz457_2 := blk_frozen BKd.out 2; have hfz457_3 := blk_frozen BKd.out 3))
                     go_meet
                     case rel => exact ⟨_, H', ⟨by have := HJ13.out; have := HJ49.out; have := HJ55.out; have := HJ167.out; have := HJ296.out; have := HJ346.out; first | omega | exact Nat.le_refl _⟩, bk_ BKa, bk_ BKb, bk_ BKc, bk_ BKd, bk_ BKe, bk_ BKf, bk_ BKj, bk_ BKk, bk_ BKl, bk_ BKm, hb_ HB⟩
                  ·
                   replace c424 := Bool.eq_false_iff.mpr c424
                   subst c424
                   have H1 : (none) = some r := by rw [if_neg (show ¬ (false = true) by decide)] at H; exact H
                   clear H
                   have H := H1
                   clear H1
                   exact absurd H (by simp)
                 ·
                  replace c422 := Bool.eq_false_iff.mpr c422
                  subst c422
                  have H1 : (j11 kj346 t527 a7_0 a7_1 a7_2 a7_3 a8_0 a8_1 t523 t524 t525 t526) = some r := by rw [if_neg (show ¬ (false = true) by decide)] at H; exact H
                  clear H
                  have H := H1
                  clear H1
                  as_aux_lemma =>
                   have H' := Aside0.mk H
                   clear H
                   go_wp2
                   go_meet
                   case rel => exact ⟨_, H', ⟨by have := HJ13.out; have := HJ49.out; have := HJ55.out; have := HJ167.out; have := HJ296.out; have := HJ346.out; first | omega | exact Nat.le_refl _⟩, bk_ BKa, bk_ BKb, bk_ BKc, bk_ BKd, bk_ BKe, bk_ BKf, bk_ BKj, bk_ BKk, bk_ BKl, bk_ BKm, hb_ HB⟩
                case rest => as_aux_lemma =>
                 clear HC421
                 try clear c296
                 try clear hcz174_0
                 try clear hcz174_1
                 try clear hfz174_0
                 try clear hfz174_1
                 obtain ⟨kq, HA, HJ420, BKa, BKb, BKc, BKd, BKe, BKf, BKj, BKk, BKl, BKm, HB⟩ := hcut
                 cases kq with
                 | zero => exact absurd HA.out (by simp [j11])
                 | succ kj420 =>
                  have H := HA.out
                  clear HA
                  simp only [j11] at H
                  by_cases c458 : t527 = true
                  ·
                   subst c458
                   have H1 : ((impl_MirrorTurn.f kj420 a8_0 a8_1).bind fun bt569 => (if bt569.2.2 = true then ((impl_TurnSeen.f kj420 t523 t524 t525 t526 bt569.1 bt569.2.1).bind fun bt573 => (if bt573.2.2.2.2 = true then (if ((!(bt573.1 == a7_0) || (!(bt573.2.1 == a7_1))) || ((!(bt573.2.2.1 == a7_2) || (!(bt573.2.2.2.1 == a7_3))))) = true then (none) else (some true)) else (some true))) else (none))) = some r := by rw [if_pos rfl] at H; exact H
                   clear H
                   have H := H1
                   clear H1
                   replace H := Option.bind_eq_some_iff.mp H
                   obtain ⟨⟨t569, t570, t571⟩, A4590, H⟩ := H
                   try dsimp only at H
                   have A459 := Aside0.mk A4590
                   clear A4590
                   by_cases c460 : t571 = true
                   ·
                    subst c460
                    have H1 : ((impl_TurnSeen.f kj420 t523 t524 t525 t526 t569 t570).bind fun bt573 => (if bt573.2.2.2.2 = true then (if ((!(bt573.1 == a7_0) || (!(bt573.2.1 == a7_1))) || ((!(bt573.2.2.1 == a7_2) || (!(bt573.2.2.2.1 == a7_3))))) = true then (none) else (some true)) else (some true))) = some r := by rw [if_pos rfl] at H; exact H
                    clear H
                    have H := H1
                    clear H1
                    replace H := Option.bind_eq_some_iff.mp H
                    obtain ⟨⟨t573, t574, t575, t576, t577⟩, A4610, H⟩ := H
                    try dsimp only at H
                    have A461 := Aside0.mk A4610
                    clear A4610
                    by_cases c462 : t577 = true
                    ·
                     subst c462
                     have H1 : (if ((!(t573 == a7_0) || (!(t574 == a7_1))) || ((!(t575 == a7_2) || (!(t576 == a7_3))))) = true then (none) else (some true)) = some r := by rw [if_pos rfl] at H; exact H
                     clear H
                     have H := H1
                     clear H1
                     by_cases c463 : ((!(t573 == a7_0) || (!(t574 == a7_1))) || ((!(t575 == a7_2) || (!(t576 == a7_3))))) = true
                     ·
                      rw [if_pos c463] at H
                      exact absurd H (by simp)
                     ·
                      rw [if_neg c463] at H
                      have c463b0 : ((!(t573 == a7_0) || (!(t574 == a7_1))) || ((!(t575 == a7_2) || (!(t576 == a7_3))))) = false := by simpa using c463
                      clear c463
                      as_aux_lemma =>
                       obtain rfl := Option.some.inj H
                       obtain ⟨hnb464, hnc464⟩ := nn_ Nf_a
                       obtain ⟨hnb465, hnc465⟩ := nn_ Nf_b
                       obtain ⟨hnb466, hnc466⟩ := nn_ Nf_c
                       obtain ⟨hnb467, hnc467⟩ := nn_ Nf_d
                       obtain ⟨hnb468, hnc468⟩ := nn_ Nf_e
                       obtain ⟨hnb469, hnc469⟩ := nn_ Nf_j
                       obtain ⟨hnb470, hnc470⟩ := nn_ Nf_k
                       obtain ⟨hnb471, hnc471⟩ := nn_ Nf_l
                       obtain ⟨hnb472, hnc472⟩ := nn_ Nf_m
                       have hcz473_0 := cz_ BKf 0 (.int .i64 a8_0)
                       have hcz473_1 := cz_ BKf 1 (.int .i64 a8_1)
                       have hfz473_0 := blk_frozen BKf.out 0
                       have hfz473_1 := blk_frozen BKf.out 1
                       go_wp2_with (first | ((with_reducible refine gate_callee (f := 41) rfl ?_); refine gs_ (some 379) Try.func41 #[.agg #[.int .i64 a8_0, .int .i64 a8_1]] ?_; (with_reducible refine (impl_MirrorTurn.calls kj420 a8_0 a8_1 t569 t570 true _ A459.out).mono ?_); rintro e w474 ⟨rfl, hb⟩; refine ⟨_, rfl, ?_⟩; replace BKa := bb BKa hb; replace BKb := bb BKb hb; replace BKc := bb BKc hb; replace BKd := bb BKd hb; replace BKe := bb BKe hb; replace BKf := bb BKf hb; replace BKj := bb BKj hb; replace BKk := bb BKk hb; replace BKl := bb BKl hb; replace BKm := bb BKm hb; replace HB := hs HB hb; (try clear hb); (try clear hb2); (try clear hk); (try clear hi)) | ((with_reducible refine gate_dst (N := 65) rfl ?_); (try (refine gate_guard (by rfl) ?_; dsimp only)); refine be_ (N := 65) (cs := #[.int .i64 0, .int .i64 0]) (t := 23) ?_; intro gbt hg w475 hbox hb; have BKt := Aside0.mk (hbox); have GWt := ge_ HB hg; have GEt := ge_ HB hg; obtain ⟨Na_t, Nt_a⟩ := nq_ BKa hg; obtain ⟨Nb_t, Nt_b⟩ := nq_ BKb hg; obtain ⟨Nc_t, Nt_c⟩ := nq_ BKc hg; obtain ⟨Nd_t, Nt_d⟩ := nq_ BKd hg; obtain ⟨Ne_t, Nt_e⟩ := nq_ BKe hg; obtain ⟨Nf_t, Nt_f⟩ := nq_ BKf hg; obtain ⟨Nj_t, Nt_j⟩ := nq_ BKj hg; obtain ⟨Nk_t, Nt_k⟩ := nq_ BKk hg; obtain ⟨Nl_t, Nt_l⟩ := nq_ BKl hg; obtain ⟨Nm_t, Nt_m⟩ := nq_ BKm hg; replace BKa := bb BKa hb; replace BKb := bb BKb hb; replace BKc := bb BKc hb; replace BKd := bb BKd hb; replace BKe := bb BKe hb; replace BKf := bb BKf hb; replace BKj := bb BKj hb; replace BKk := bb BKk hb; replace BKl := bb BKl hb; replace BKm := bb BKm hb; replace HB := hs HB hb; clear hb hbox hg; obtain ⟨hnb476, hnc476⟩ := nn_ Nt_a; obtain ⟨hnb477, hnc477⟩ := nn_ Nt_b; obtain ⟨hnb478, hnc478⟩ := nn_ Nt_c; obtain ⟨hnb479, hnc479⟩ := nn_ Nt_d; obtain ⟨hnb480, hnc480⟩ := nn_ Nt_e; obtain ⟨hnb481, hnc481⟩ := nn_ Nt_f; obtain ⟨hnb482, hnc482⟩ := nn_ Nt_j; obtain ⟨hnb483, hnc483⟩ := nn_ Nt_k; obtain ⟨hnb484, hnc484⟩ := nn_ Nt_l; obtain ⟨hnb485, hnc485⟩ := nn_ Nt_m; have hcz486_0 := cz_ BKt 0 (.int .i64 0); have hcz486_1 := cz_ BKt 1 (.int .i64 0); have hfz486_0 := blk_frozen BKt.out 0; have hfz486_1 := blk_frozen BKt.out 1; obtain ⟨hnb487, hnc487⟩ := nn_ Nl_a; obtain ⟨hnb488, hnc488⟩ := nn_ Nl_b; obtain ⟨hnb489, hnc489⟩ := nn_ Nl_c; obtain ⟨hnb490, hnc490⟩ := nn_ Nl_d; obtain ⟨hnb491, hnc491⟩ := nn_ Nl_e; obtain ⟨hnb492, hnc492⟩ := nn_ Nl_j; obtain ⟨hnb493, hnc493⟩ := nn_ Nl_k; obtain ⟨hnb494, hnc494⟩ := nn_ Nl_m; have hcz495_0 := cz_ BKl 0 (.int .i64 t523); have hcz495_1 := cz_ BKl 1 (.int .i64 t524); have hcz495_2 := cz_ BKl 2 (.int .i64 t525); have hcz495_3 := cz_ BKl 3 (.int .i64 t526); have hfz495_0 := blk_frozen BKl.out 0; have hfz495_1 := blk_frozen BKl.out 1; have hfz495_2 := blk_frozen BKl.out 2; have hfz495_3 := blk_frozen BKl.out 3) | ((with_reducible refine gate_callee (f := 33) rfl ?_); refine gs_ (some 387) Try.func33 #[.agg #[.int .i64 t523, .int .i64 t524, .int .i64 t525, .int .i64 t526], .agg #[.int .i64 t569, .int .i64 t570]] ?_; (with_reducible refine (impl_TurnSeen.calls kj420 t523 t524 t525 t526 t569 t570 t573 t574 t575 t576 true _ A461.out).mono ?_); rintro e w496 ⟨rfl, hb⟩; refine ⟨_, rfl, ?_⟩; replace BKa := bb BKa hb; replace BKb := bb BKb hb; replace BKc := bb BKc hb; replace BKd := bb BKd hb; replace BKe := bb BKe hb; replace BKf := bb BKf hb; replace BKj := bb BKj hb; replace BKk := bb BKk hb; replace BKl := bb BKl hb; replace BKm := bb BKm hb; replace BKt := Aside0.mk (blk_below (g := gbt) (o := .cells #[.int .i64 t569, .int .i64 t570] 23 (0, 0)) (by (with_reducible repeat (first | refine blk_drewN ?_ _ | refine blk_drew ?_ | refine blk_alloc ?_ _)); refine blk_put (cs := #[.int .i64 t569, .int .i64 0]) ?_ 1 _ rfl; (with_reducible repeat (first | refine blk_drewN ?_ _ | refine blk_drew ?_ | refine blk_alloc ?_ _)); refine blk_put (cs := #[.int .i64 0, .int .i64 0]) ?_ 0 _ rfl; (with_reducible repeat (first | refine blk_drewN ?_ _ | refine blk_drew ?_ | refine blk_alloc ?_ _)); exact BKt.out) hb); replace HB := hs HB hb; (try clear hb); (try clear hb2); (try clear hk); (try clear hi)) | ((with_reducible refine gate_dst (N := 67) rfl ?_); (try (refine gate_guard (by rfl) ?_; dsimp only)); refine be_ (N := 67) (cs := #[.int .i64 0, .int .i64 0, .int .i64 0, .int .i64 0]) (t := 25) ?_; intro gbu hg w497 hbox hb; have BKu := Aside0.mk (hbox); have GWu := ge_ HB hg; have GEu := ge_ HB hg; obtain ⟨Na_u, Nu_a⟩ := nq_ BKa hg; obtain ⟨Nb_u, Nu_b⟩ := nq_ BKb hg; obtain ⟨Nc_u, Nu_c⟩ := nq_ BKc hg; obtain ⟨Nd_u, Nu_d⟩ := nq_ BKd hg; obtain ⟨Ne_u, Nu_e⟩ := nq_ BKe hg; obtain ⟨Nf_u, Nu_f⟩ := nq_ BKf hg; obtain ⟨Nj_u, Nu_j⟩ := nq_ BKj hg; obtain ⟨Nk_u, Nu_k⟩ := nq_ BKk hg; obtain ⟨Nl_u, Nu_l⟩ := nq_ BKl hg; obtain ⟨Nm_u, Nu_m⟩ := nq_ BKm hg; obtain ⟨Nt_u, Nu_t⟩ := nq_ BKt hg; replace BKa := bb BKa hb; replace BKb := bb BKb hb; replace BKc := bb BKc hb; replace BKd := bb BKd hb; replace BKe := bb BKe hb; replace BKf := bb BKf hb; replace BKj := bb BKj hb; replace BKk := bb BKk hb; replace BKl := bb BKl hb; replace BKm := bb BKm hb; replace BKt := bb BKt hb; replace HB := hs HB hb; clear hb hbox hg; obtain ⟨hnb498, hnc498⟩ := nn_ Nu_a; obtain ⟨hnb499, hnc499⟩ := nn_ Nu_b; obtain ⟨hnb500, hnc500⟩ := nn_ Nu_c; obtain ⟨hnb501, hnc501⟩ := nn_ Nu_d; obtain ⟨hnb502, hnc502⟩ := nn_ Nu_e; obtain ⟨hnb503, hnc503⟩ := nn_ Nu_f; obtain ⟨hnb504, hnc504⟩ := nn_ Nu_j; obtain ⟨hnb505, hnc505⟩ := nn_ Nu_k; obtain ⟨hnb506, hnc506⟩ := nn_ Nu_l; obtain ⟨hnb507, hnc507⟩ := nn_ Nu_m; obtain ⟨hnb508, hnc508⟩ := nn_ Nu_t; have hcz509_0 := cz_ BKu 0 (.int .i64 0); have hcz509_1 := cz_ BKu 1 (.int .i64 0); have hcz509_2 := cz_ BKu 2 (.int .i64 0); have hcz509_3 := cz_ BKu 3 (.int .i64 0); have hfz509_0 := blk_frozen BKu.out 0; have hfz509_1 := blk_frozen BKu.out 1; have hfz509_2 := blk_frozen BKu.out 2; have hfz509_3 := blk_frozen BKu.out 3; obtain ⟨hnb510, hnc510⟩ := nn_ Ne_a; obtain ⟨hnb511, hnc511⟩ := nn_ Ne_b; obtain ⟨hnb512, hnc512⟩ := nn_ Ne_c; obtain ⟨hnb513, hnc513⟩ := nn_ Ne_d; obtain ⟨hnb514, hnc514⟩ := nn_ Ne_j; obtain ⟨hnb515, hnc515⟩ := nn_ Ne_k; obtain ⟨hnb516, hnc516⟩ := nn_ Ne_m; have hcz517_0 := cz_ BKe 0 (.int .i64 a7_0); have hcz517_1 := cz_ BKe 1 (.int .i64 a7_1); have hcz517_2 := cz_ BKe 2 (.int .i64 a7_2); have hcz517_3 := cz_ BKe 3 (.int .i64 a7_3); have hfz517_0 := blk_frozen BKe.out 0; have hfz517_1 := blk_frozen BKe.out 1; have hfz517_2 := blk_frozen BKe.out 2; have hfz517_3 := blk_frozen BKe.out 3))
                       go_ret
                       exact ⟨by first | rfl | (simp [errW_none, errW_some] <;> rfl) | (simp [*, errW_none, errW_some] <;> rfl), (ho_ HB)⟩
                    ·
                     replace c462 := Bool.eq_false_iff.mpr c462
                     subst c462
                     have H1 : (some true) = some r := by rw [if_neg (show ¬ (false = true) by decide)] at H; exact H
                     clear H
                     have H := H1
                     clear H1
                     as_aux_lemma =>
                      obtain rfl := Option.some.inj H
                      obtain ⟨hnb518, hnc518⟩ := nn_ Nf_a
                      obtain ⟨hnb519, hnc519⟩ := nn_ Nf_b
                      obtain ⟨hnb520, hnc520⟩ := nn_ Nf_c
                      obtain ⟨hnb521, hnc521⟩ := nn_ Nf_d
                      obtain ⟨hnb522, hnc522⟩ := nn_ Nf_e
                      obtain ⟨hnb523, hnc523⟩ := nn_ Nf_j
                      obtain ⟨hnb524, hnc524⟩ := nn_ Nf_k
                      obtain ⟨hnb525, hnc525⟩ := nn_ Nf_l
                      obtain ⟨hnb526, hnc526⟩ := nn_ Nf_m
                      have hcz527_0 := cz_ BKf 0 (.int .i64 a8_0)
                      have hcz527_1 := cz_ BKf 1 (.int .i64 a8_1)
                      have hfz527_0 := blk_frozen BKf.out 0
                      have hfz527_1 := blk_frozen BKf.out 1
                      go_wp2_with (first | ((with_reducible refine gate_callee (f := 41) rfl ?_); refine gs_ (some 379) Try.func41 #[.agg #[.int .i64 a8_0, .int .i64 a8_1]] ?_; (with_reducible refine (impl_MirrorTurn.calls kj420 a8_0 a8_1 t569 t570 true _ A459.out).mono ?_); rintro e w528 ⟨rfl, hb⟩; refine ⟨_, rfl, ?_⟩; replace BKa := bb BKa hb; replace BKb := bb BKb hb; replace BKc := bb BKc hb; replace BKd := bb BKd hb; replace BKe := bb BKe hb; replace BKf := bb BKf hb; replace BKj := bb BKj hb; replace BKk := bb BKk hb; replace BKl := bb BKl hb; replace BKm := bb BKm hb; replace HB := hs HB hb; (try clear hb); (try clear hb2); (try clear hk); (try clear hi)) | ((with_reducible refine gate_dst (N := 65) rfl ?_); (try (refine gate_guard (by rfl) ?_; dsimp only)); refine be_ (N := 65) (cs := #[.int .i64 0, .int .i64 0]) (t := 23) ?_; intro gbt hg w529 hbox hb; have BKt := Aside0.mk (hbox); have GWt := ge_ HB hg; have GEt := ge_ HB hg; obtain ⟨Na_t, Nt_a⟩ := nq_ BKa hg; obtain ⟨Nb_t, Nt_b⟩ := nq_ BKb hg; obtain ⟨Nc_t, Nt_c⟩ := nq_ BKc hg; obtain ⟨Nd_t, Nt_d⟩ := nq_ BKd hg; obtain ⟨Ne_t, Nt_e⟩ := nq_ BKe hg; obtain ⟨Nf_t, Nt_f⟩ := nq_ BKf hg; obtain ⟨Nj_t, Nt_j⟩ := nq_ BKj hg; obtain ⟨Nk_t, Nt_k⟩ := nq_ BKk hg; obtain ⟨Nl_t, Nt_l⟩ := nq_ BKl hg; obtain ⟨Nm_t, Nt_m⟩ := nq_ BKm hg; replace BKa := bb BKa hb; replace BKb := bb BKb hb; replace BKc := bb BKc hb; replace BKd := bb BKd hb; replace BKe := bb BKe hb; replace BKf := bb BKf hb; replace BKj := bb BKj hb; replace BKk := bb BKk hb; replace BKl := bb BKl hb; replace BKm := bb BKm hb; replace HB := hs HB hb; clear hb hbox hg; obtain ⟨hnb530, hnc530⟩ := nn_ Nt_a; obtain ⟨hnb531, hnc531⟩ := nn_ Nt_b; obtain ⟨hnb532, hnc532⟩ := nn_ Nt_c; obtain ⟨hnb533, hnc533⟩ := nn_ Nt_d; obtain ⟨hnb534, hnc534⟩ := nn_ Nt_e; obtain ⟨hnb535, hnc535⟩ := nn_ Nt_f; obtain ⟨hnb536, hnc536⟩ := nn_ Nt_j; obtain ⟨hnb537, hnc537⟩ := nn_ Nt_k; obtain ⟨hnb538, hnc538⟩ := nn_ Nt_l; obtain ⟨hnb539, hnc539⟩ := nn_ Nt_m; have hcz540_0 := cz_ BKt 0 (.int .i64 0); have hcz540_1 := cz_ BKt 1 (.int .i64 0); have hfz540_0 := blk_frozen BKt.out 0; have hfz540_1 := blk_frozen BKt.out 1; obtain ⟨hnb541, hnc541⟩ := nn_ Nl_a; obtain ⟨hnb542, hnc542⟩ := nn_ Nl_b; obtain ⟨hnb543, hnc543⟩ := nn_ Nl_c; obtain ⟨hnb544, hnc544⟩ := nn_ Nl_d; obtain ⟨hnb545, hnc545⟩ := nn_ Nl_e; obtain ⟨hnb546, hnc546⟩ := nn_ Nl_j; obtain ⟨hnb547, hnc547⟩ := nn_ Nl_k; obtain ⟨hnb548, hnc548⟩ := nn_ Nl_m; have hcz549_0 := cz_ BKl 0 (.int .i64 t523); have hcz549_1 := cz_ BKl 1 (.int .i64 t524); have hcz549_2 := cz_ BKl 2 (.int .i64 t525); have hcz549_3 := cz_ BKl 3 (.int .i64 t526); have hfz549_0 := blk_frozen BKl.out 0; have hfz549_1 := blk_frozen BKl.out 1; have hfz549_2 := blk_frozen BKl.out 2; have hfz549_3 := blk_frozen BKl.out 3) | ((with_reducible refine gate_callee (f := 33) rfl ?_); refine gs_ (some 387) Try.func33 #[.agg #[.int .i64 t523, .int .i64 t524, .int .i64 t525, .int .i64 t526], .agg #[.int .i64 t569, .int .i64 t570]] ?_; (with_reducible refine (impl_TurnSeen.calls kj420 t523 t524 t525 t526 t569 t570 t573 t574 t575 t576 false _ A461.out).mono ?_); rintro e w550 ⟨rfl, hb⟩; refine ⟨_, rfl, ?_⟩; replace BKa := bb BKa hb; replace BKb := bb BKb hb; replace BKc := bb BKc hb; replace BKd := bb BKd hb; replace BKe := bb BKe hb; replace BKf := bb BKf hb; replace BKj := bb BKj hb; replace BKk := bb BKk hb; replace BKl := bb BKl hb; replace BKm := bb BKm hb; replace BKt := Aside0.mk (blk_below (g := gbt) (o := .cells #[.int .i64 t569, .int .i64 t570] 23 (0, 0)) (by (with_reducible repeat (first | refine blk_drewN ?_ _ | refine blk_drew ?_ | refine blk_alloc ?_ _)); refine blk_put (cs := #[.int .i64 t569, .int .i64 0]) ?_ 1 _ rfl; (with_reducible repeat (first | refine blk_drewN ?_ _ | refine blk_drew ?_ | refine blk_alloc ?_ _)); refine blk_put (cs := #[.int .i64 0, .int .i64 0]) ?_ 0 _ rfl; (with_reducible repeat (first | refine blk_drewN ?_ _ | refine blk_drew ?_ | refine blk_alloc ?_ _)); exact BKt.out) hb); replace HB := hs HB hb; (try clear hb); (try clear hb2); (try clear hk); (try clear hi)) | ((with_reducible refine gate_dst (N := 67) rfl ?_); (try (refine gate_guard (by rfl) ?_; dsimp only)); refine be_ (N := 67) (cs := #[.int .i64 0, .int .i64 0, .int .i64 0, .int .i64 0]) (t := 25) ?_; intro gbu hg w551 hbox hb; have BKu := Aside0.mk (hbox); have GWu := ge_ HB hg; have GEu := ge_ HB hg; obtain ⟨Na_u, Nu_a⟩ := nq_ BKa hg; obtain ⟨Nb_u, Nu_b⟩ := nq_ BKb hg; obtain ⟨Nc_u, Nu_c⟩ := nq_ BKc hg; obtain ⟨Nd_u, Nu_d⟩ := nq_ BKd hg; obtain ⟨Ne_u, Nu_e⟩ := nq_ BKe hg; obtain ⟨Nf_u, Nu_f⟩ := nq_ BKf hg; obtain ⟨Nj_u, Nu_j⟩ := nq_ BKj hg; obtain ⟨Nk_u, Nu_k⟩ := nq_ BKk hg; obtain ⟨Nl_u, Nu_l⟩ := nq_ BKl hg; obtain ⟨Nm_u, Nu_m⟩ := nq_ BKm hg; obtain ⟨Nt_u, Nu_t⟩ := nq_ BKt hg; replace BKa := bb BKa hb; replace BKb := bb BKb hb; replace BKc := bb BKc hb; replace BKd := bb BKd hb; replace BKe := bb BKe hb; replace BKf := bb BKf hb; replace BKj := bb BKj hb; replace BKk := bb BKk hb; replace BKl := bb BKl hb; replace BKm := bb BKm hb; replace BKt := bb BKt hb; replace HB := hs HB hb; clear hb hbox hg; obtain ⟨hnb552, hnc552⟩ := nn_ Nu_a; obtain ⟨hnb553, hnc553⟩ := nn_ Nu_b; obtain ⟨hnb554, hnc554⟩ := nn_ Nu_c; obtain ⟨hnb555, hnc555⟩ := nn_ Nu_d; obtain ⟨hnb556, hnc556⟩ := nn_ Nu_e; obtain ⟨hnb557, hnc557⟩ := nn_ Nu_f; obtain ⟨hnb558, hnc558⟩ := nn_ Nu_j; obtain ⟨hnb559, hnc559⟩ := nn_ Nu_k; obtain ⟨hnb560, hnc560⟩ := nn_ Nu_l; obtain ⟨hnb561, hnc561⟩ := nn_ Nu_m; obtain ⟨hnb562, hnc562⟩ := nn_ Nu_t; have hcz563_0 := cz_ BKu 0 (.int .i64 0); have hcz563_1 := cz_ BKu 1 (.int .i64 0); have hcz563_2 := cz_ BKu 2 (.int .i64 0); have hcz563_3 := cz_ BKu 3 (.int .i64 0); have hfz563_0 := blk_frozen BKu.out 0; have hfz563_1 := blk_frozen BKu.out 1; have hfz563_2 := blk_frozen BKu.out 2; have hfz563_3 := blk_frozen BKu.out 3))
                      go_ret
                      exact ⟨by first | rfl | (simp [errW_none, errW_some] <;> rfl) | (simp [*, errW_none, errW_some] <;> rfl), (ho_ HB)⟩
                   ·
                    replace c460 := Bool.eq_false_iff.mpr c460
                    subst c460
                    have H1 : (none) = some r := by rw [if_neg (show ¬ (false = true) by decide)] at H; exact H
                    clear H
                    have H := H1
                    clear H1
                    exact absurd H (by simp)
                  ·
                   replace c458 := Bool.eq_false_iff.mpr c458
                   subst c458
                   have H1 : (some true) = some r := by rw [if_neg (show ¬ (false = true) by decide)] at H; exact H
                   clear H
                   have H := H1
                   clear H1
                   as_aux_lemma =>
                    obtain rfl := Option.some.inj H
                    go_wp2
                    go_ret
                    exact ⟨by first | rfl | (simp [errW_none, errW_some] <;> rfl) | (simp [*, errW_none, errW_some] <;> rfl), (ho_ HB)⟩

end Go.Proofs.Ytkfcaldjepmffaa.GFnDialsTurnedOfAll
