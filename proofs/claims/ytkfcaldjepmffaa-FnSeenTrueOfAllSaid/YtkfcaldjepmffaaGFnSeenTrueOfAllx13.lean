-- Written by a program of this session (a copy of the kit's print program that takes contracts of one's own); Lean checks it.
import Derived.Test.YtkfcaldjepmffaaGFnSeenTrueOfAllx0
import Derived.Test.YtkfcaldjepmffaaGFnSeenTrueOfAllx5
import Derived.Test.YtkfcaldjepmffaaGFnSeenTrueOfAllx11
import Derived.Test.YtkfcaldjepmffaaGFnSeenTrueOfAllx12
namespace Go.Proofs.Ytkfcaldjepmffaa.GFnSeenTrueOfAll
open Go.RowKit Go.Proofs.YtkfcaldjepmffaaW.PrintWords Go.Proofs.YtkfcaldjepmffaaW.PrintLast Go.Proofs.YtkfcaldjepmffaaW.PrintMore
attribute [local go_sem] max2_int min2_int max_two min_two max_three min_three max_four min_four   -- for this text's walks alone
set_option linter.unusedVariables false
set_option linter.unusedSimpArgs false

/-! ### spec_TimesAlike: function 26 -/
def spec_TimesAlike.l0 : Nat → Int → List (S23) → List (S25) → Int → Int → Option ((List (S23)) × Bool)
 | 0, _, _, _, _, _ => none
 | k + 1, x0, x6, x16, x17, x18 => if x18 < x17 then (if 0 ≤ x18 then (if x18 < (x16.length : Int) then ((spec_seTrue.f k x0 ((rd_T25 x16 x18).f0.f0) ((rd_T25 x16 x18).f0.f1) ((rd_T25 x16 x18).f1.f0) ((rd_T25 x16 x18).f1.f1)).bind fun t431 => (if t431 = true then ((spec_sePut.f k x6 ((rd_T25 x16 x18).f0.f0) ((rd_T25 x16 x18).f0.f1)).bind fun t432 => (spec_TimesAlike.l0 k x0 t432 x16 x17 (wrap64 (x18 + 1)))) else (spec_TimesAlike.l0 k x0 x6 x16 x17 (wrap64 (x18 + 1))))) else (none)) else (none)) else (some (x6, true))
def spec_TimesAlike.f (k : Nat) (a0 : Int) (a1_0 : Int) (a1_1 : Int) (a1_2 : Int) (a1_3 : Int) : Option ((List (S23)) × Bool) := (spec_seAsked.f k a0 a1_0 a1_1 a1_2 a1_3).bind fun t421 => (if t421 = true then ((spec_seExchange.f a1_0 a1_1 a1_2 a1_3).bind fun bt422 => ((some (([(⟨(⟨a1_0, a1_1⟩ : S23), (⟨a1_2, a1_3⟩ : S23)⟩ : S25), (⟨(⟨bt422.1, bt422.2.1⟩ : S23), (⟨bt422.2.2.1, bt422.2.2.2⟩ : S23)⟩ : S25)] : List (S25)) : List (S25))).bind fun y426 => (spec_TimesAlike.l0 k a0 ([] : List (S23)) y426 (y426.length : Int) 0))) else (some (([] : List (S23)), false)))
theorem spec_TimesAlike.mono_l : ∀ k, (∀ y0 y1 y2 y3 y4, LeO (spec_TimesAlike.l0 k y0 y1 y2 y3 y4) (spec_TimesAlike.l0 (k + 1) y0 y1 y2 y3 y4))
 | 0 => fun _ _ _ _ _ r h => by simp [spec_TimesAlike.l0] at h
 | k + 1 => by
  have ih0 := spec_TimesAlike.mono_l k
  ·
   intro y0 y1 y2 y3 y4
   unfold spec_TimesAlike.l0
   repeat' first
   | (with_reducible exact ih0 _ _ _ _ _)
   | (with_reducible exact spec_seAsked.mono _ _ _ _ _ _)
   | (with_reducible exact spec_sePut.mono _ _ _ _)
   | (with_reducible exact spec_seTrue.mono _ _ _ _ _ _)
   | (with_reducible exact LeO.refl _)
   | (with_reducible exact LeO.none _)
   | (with_reducible refine LeO.ite ?_ ?_)
   | (with_reducible refine LeO.bind ?_ (fun _ => ?_))
   | exact ih0 _ _ _ _ _
   | exact spec_seAsked.mono _ _ _ _ _ _
   | exact spec_sePut.mono _ _ _ _
   | exact spec_seTrue.mono _ _ _ _ _ _
   | exact LeO.none _
   | refine LeO.ite ?_ ?_
   | refine LeO.bind ?_ (fun _ => ?_)
theorem spec_TimesAlike.mono : ∀ a0 a1 a2 a3 a4 k, LeO (spec_TimesAlike.f k a0 a1 a2 a3 a4) (spec_TimesAlike.f (k + 1) a0 a1 a2 a3 a4) := by
 intro a0 a1 a2 a3 a4 k
 have ih0 := spec_TimesAlike.mono_l k
 unfold spec_TimesAlike.f
 repeat' first
   | (with_reducible exact ih0 _ _ _ _ _)
   | (with_reducible exact spec_seAsked.mono _ _ _ _ _ _)
   | (with_reducible exact spec_sePut.mono _ _ _ _)
   | (with_reducible exact spec_seTrue.mono _ _ _ _ _ _)
   | (with_reducible exact LeO.refl _)
   | (with_reducible exact LeO.none _)
   | (with_reducible refine LeO.ite ?_ ?_)
   | (with_reducible refine LeO.bind ?_ (fun _ => ?_))
   | exact ih0 _ _ _ _ _
   | exact spec_seAsked.mono _ _ _ _ _ _
   | exact spec_sePut.mono _ _ _ _
   | exact spec_seTrue.mono _ _ _ _ _ _
   | exact LeO.none _
   | refine LeO.ite ?_ ?_
   | refine LeO.bind ?_ (fun _ => ?_)
set_option maxHeartbeats 8000000 in
set_option maxRecDepth 100000 in
theorem spec_TimesAlike.calls (k : Nat) (a0 : Int) (a1_0 : Int) (a1_1 : Int) (a1_2 : Int) (a1_3 : Int) (r1 : List (S23)) (r2 : Bool) (w : World) (h : spec_TimesAlike.f k a0 a1_0 a1_1 a1_2 a1_3 = some (r1, r2)) :
  Calls Try.prog 26 #[.int .i64 a0, .agg #[.int .i64 a1_0, .int .i64 a1_1, .int .i64 a1_2, .int .i64 a1_3]] w fun e w' => ∃ v0_ : Value, e = .returned (.tuple #[v0_, .bool r2]) ∧ Kd.R k23 23 w' w.heap.size (fun _ => True) v0_ r1 ∧ Below w.heap.size w w' := by
 have hu25 := Try.underlying25
 have hu23 := Try.underlying23
 have HB := Aside0.mk (Below.refl w.heap.size w)
 have H : ((spec_seAsked.f k a0 a1_0 a1_1 a1_2 a1_3).bind fun t421 => (if t421 = true then ((spec_seExchange.f a1_0 a1_1 a1_2 a1_3).bind fun bt422 => ((some (([(⟨(⟨a1_0, a1_1⟩ : S23), (⟨a1_2, a1_3⟩ : S23)⟩ : S25), (⟨(⟨bt422.1, bt422.2.1⟩ : S23), (⟨bt422.2.2.1, bt422.2.2.2⟩ : S23)⟩ : S25)] : List (S25)) : List (S25))).bind fun y426 => (spec_TimesAlike.l0 k a0 ([] : List (S23)) y426 (y426.length : Int) 0))) else (some (([] : List (S23)), false)))) = some (r1, r2) := h
 clear h
 replace H := Option.bind_eq_some_iff.mp H
 obtain ⟨t421, A30, H⟩ := H
 replace H : (if t421 = true then ((spec_seExchange.f a1_0 a1_1 a1_2 a1_3).bind fun bt422 => ((some (([(⟨(⟨a1_0, a1_1⟩ : S23), (⟨a1_2, a1_3⟩ : S23)⟩ : S25), (⟨(⟨bt422.1, bt422.2.1⟩ : S23), (⟨bt422.2.2.1, bt422.2.2.2⟩ : S23)⟩ : S25)] : List (S25)) : List (S25))).bind fun y426 => (spec_TimesAlike.l0 k a0 ([] : List (S23)) y426 (y426.length : Int) 0))) else (some (([] : List (S23)), false))) = some (r1, r2) := H
 have A3 := Aside0.mk A30
 clear A30
 by_cases c4 : t421 = true
 ·
  subst c4
  have H1 : ((spec_seExchange.f a1_0 a1_1 a1_2 a1_3).bind fun bt422 => ((some (([(⟨(⟨a1_0, a1_1⟩ : S23), (⟨a1_2, a1_3⟩ : S23)⟩ : S25), (⟨(⟨bt422.1, bt422.2.1⟩ : S23), (⟨bt422.2.2.1, bt422.2.2.2⟩ : S23)⟩ : S25)] : List (S25)) : List (S25))).bind fun y426 => (spec_TimesAlike.l0 k a0 ([] : List (S23)) y426 (y426.length : Int) 0))) = some (r1, r2) := by rw [if_pos rfl] at H; exact H
  clear H
  have H := H1
  clear H1
  replace H := Option.bind_eq_some_iff.mp H
  obtain ⟨⟨t422, t423, t424, t425⟩, A50, H⟩ := H
  replace H : ((some (([(⟨(⟨a1_0, a1_1⟩ : S23), (⟨a1_2, a1_3⟩ : S23)⟩ : S25), (⟨(⟨t422, t423⟩ : S23), (⟨t424, t425⟩ : S23)⟩ : S25)] : List (S25)) : List (S25))).bind fun y426 => (spec_TimesAlike.l0 k a0 ([] : List (S23)) y426 (y426.length : Int) 0)) = some (r1, r2) := H
  have A5 := Aside0.mk A50
  clear A50
  obtain ⟨y426, hy426⟩ : ∃ y_ : List (S25), y_ = (([(⟨(⟨a1_0, a1_1⟩ : S23), (⟨a1_2, a1_3⟩ : S23)⟩ : S25), (⟨(⟨t422, t423⟩ : S23), (⟨t424, t425⟩ : S23)⟩ : S25)] : List (S25))) := ⟨_, rfl⟩
  replace H : (spec_TimesAlike.l0 k a0 ([] : List (S23)) y426 (y426.length : Int) 0) = some (r1, r2) := by first | (rw [hy426]; with_reducible exact H) | (have H2_ := (Option.bind_some _ _).symm.trans H; rw [hy426]; with_reducible exact H2_) | (have H2_ := (Option.bind_some _ _).symm.trans H; with_reducible exact H2_) | with_reducible exact H | (rw [hy426]; exact H) | exact H
  have Ny426 := Aside0.mk hy426
  clear hy426
  have H' := Aside0.mk H
  clear H
  go_enter Try.func26, Try.ntmps26
  try go_wp2_with (first | ((with_reducible refine gate_dst (N := 3) rfl ?_); refine be_ (N := 3) (cs := #[.int .i64 a1_0, .int .i64 a1_1, .int .i64 a1_2, .int .i64 a1_3]) (t := 25) ?_; intro gb420 hg w6 hbox hb; have BK420 := Aside0.mk (hbox); have GW420 := ge_ HB hg; have GE420 := ge_ HB hg; replace HB := hs HB hb; clear hb hbox hg; have hcz7_0 := cz_ BK420 0 (.int .i64 a1_0); have hcz7_1 := cz_ BK420 1 (.int .i64 a1_1); have hcz7_2 := cz_ BK420 2 (.int .i64 a1_2); have hcz7_3 := cz_ BK420 3 (.int .i64 a1_3); have hfz7_0 := blk_frozen BK420.out 0; have hfz7_1 := blk_frozen BK420.out 1; have hfz7_2 := blk_frozen BK420.out 2; have hfz7_3 := blk_frozen BK420.out 3) | ((with_reducible refine gate_callee (f := 61) rfl ?_); refine gs_ (some 11) Try.func61 #[.int .i64 a0, .agg #[.int .i64 a1_0, .int .i64 a1_1, .int .i64 a1_2, .int .i64 a1_3]] ?_; (with_reducible refine (spec_seAsked.calls k a0 a1_0 a1_1 a1_2 a1_3 true _ A3.out).mono ?_); rintro e w8 ⟨rfl, hb⟩; refine ⟨_, rfl, ?_⟩; replace BK420 := bb BK420 hb; replace HB := hs HB hb; (try clear hb); (try clear hb2); (try clear hk); (try clear hi)))
  replace BK420 := Aside0.mk (blk_drew BK420.out)
  replace HB := Aside0.mk (below_drew1 HB.out)
  refine start_ (n := 6) (S := fun w' => w'.cell? ⟨gb420, 0, none⟩ = some (.int .i64 a1_0) ∧ w'.cell? ⟨gb420, 1, none⟩ = some (.int .i64 a1_1) ∧ w'.cell? ⟨gb420, 2, none⟩ = some (.int .i64 a1_2) ∧ w'.cell? ⟨gb420, 3, none⟩ = some (.int .i64 a1_3)) (ds := []) #[false, false, false, false, false, false] (by kernel_rfl) rfl rfl ⟨(blk_cell BK420.out 0).trans rfl, (blk_cell BK420.out 1).trans rfl, (blk_cell BK420.out 2).trans rfl, (blk_cell BK420.out 3).trans rfl⟩ (fun hHeld => ?_)
  generalize w8.drew = w9 at BK420 HB hHeld ⊢
  refine pure_ (i := 5) (N := some 18) (v := ?_) (a' := ?_) #[false, false, false, false, false, true] rfl rfl (by kernel_rfl) (fun _ _ _ h => h) (Or.inl ⟨by rfl, ?_⟩) ?_ ?_
  rotate_left
  ·
   intro w'
   go_simp
   with_reducible rfl
  rotate_left
  ·
   simp only [Act.put, List.setIfInBounds_toArray, List.set_cons_zero, List.set_cons_succ, i64_w, i32_w]
   rfl
  refine take_ (i := 0) (N := some 13) (v := ?_) (a' := ?_) #[true, false, false, false, false, true] rfl rfl (by kernel_rfl) (fun _ _ _ h => h) (Or.inl ⟨by rfl, ?_⟩) hHeld ?_ ?_
  rotate_left
  ·
   rintro w' ⟨s0, s1, s2, s3⟩
   go_simp
   with_reducible rfl
  rotate_left
  ·
   simp only [Act.put, List.setIfInBounds_toArray, List.set_cons_zero, List.set_cons_succ, i64_w, i32_w]
   rfl
  refine take_ (i := 1) (N := some 14) (v := ?_) (a' := ?_) #[true, true, false, false, false, true] rfl rfl (by kernel_rfl) (fun _ _ _ h => h) (Or.inl ⟨by rfl, ?_⟩) hHeld ?_ ?_
  rotate_left
  ·
   rintro w' ⟨s0, s1, s2, s3⟩
   go_simp
   with_reducible rfl
  rotate_left
  ·
   simp only [Act.put, List.setIfInBounds_toArray, List.set_cons_zero, List.set_cons_succ, i64_w, i32_w]
   rfl
  refine one_ (i := 2) (N := some 15) #[true, true, true, false, false, true] rfl rfl (by kernel_rfl) (by decide) (fun K hK => ?_)
  refine goes_ Try.func45 (by kernel_rfl) rfl #[.agg #[.int .i64 a1_0, .int .i64 a1_1, .int .i64 a1_2, .int .i64 a1_3]] (by rfl) rfl rfl (by (try simp only [List.map_toArray, List.map_cons, List.map_nil]); first | done | rfl | (simp only [List.length_drop, List.length_take]; rfl)) ?_
  with_reducible refine (spec_seExchange.calls a1_0 a1_1 a1_2 a1_3 t422 t423 t424 t425 _ A5.out).mono ?_
  rintro e w10 ⟨rfl, hb⟩
  refine ⟨_, rfl, ?_⟩
  replace BK420 := bb BK420 hb
  replace HB := hs HB hb
  (try clear hb)
  (try clear hb2)
  (try clear hk)
  (try clear hi)
  refine hK.out _ _ ⟨(blk_cell BK420.out 0).trans rfl, (blk_cell BK420.out 1).trans rfl, (blk_cell BK420.out 2).trans rfl, (blk_cell BK420.out 3).trans rfl⟩ (fun hHeld => ?_)
  clear hK K
  refine norm_ (a' := ?_) ?_ ?_
  rotate_left
  ·
   show Act.put _ (some 15) _ = _
   simp only [Act.put, List.setIfInBounds_toArray, List.set_cons_zero, List.set_cons_succ, i64_w, i32_w]
   rfl
  refine one_ (i := 3) (N := some 16) #[true, true, true, true, false, true] rfl rfl (by kernel_rfl) (by decide) (fun K hK => ?_)
  refine Kd.R_lit_step k25 _ 25 ?hg (N := 16) ?hd (xs := ([(⟨(⟨a1_0, a1_1⟩ : S23), (⟨a1_2, a1_3⟩ : S23)⟩ : S25), (⟨(⟨t422, t423⟩ : S23), (⟨t424, t425⟩ : S23)⟩ : S25)] : List (S25))) (inner := [.int .i64 a1_0, .int .i64 a1_1, .int .i64 a1_2, .int .i64 a1_3, .int .i64 t422, .int .i64 t423, .int .i64 t424, .int .i64 t425]) (ok := fun _ => True) (okp := fun _ => True) ?hr ?hp (fun _ hk => hk) trivial (Below.refl _ _) (Nat.le_refl _) (by simp) ?_; (case hd => rfl); (case hg => rfl); (case hr => first | (go_simp; done) | (go_simp; rfl)); (case hp => exact (Reps.c4 (show Kd.M k25 _ _ _ (⟨(⟨a1_0, a1_1⟩ : S23), (⟨a1_2, a1_3⟩ : S23)⟩ : S25) [.int .i64 a1_0, .int .i64 a1_1, .int .i64 a1_2, .int .i64 a1_3] from (k25_mkM _ _ _ (⟨(⟨a1_0, a1_1⟩ : S23), (⟨a1_2, a1_3⟩ : S23)⟩ : S25) )) (Reps.c4 (show Kd.M k25 _ _ _ (⟨(⟨t422, t423⟩ : S23), (⟨t424, t425⟩ : S23)⟩ : S25) [.int .i64 t422, .int .i64 t423, .int .i64 t424, .int .i64 t425] from (k25_mkM _ _ _ (⟨(⟨t422, t423⟩ : S23), (⟨t424, t425⟩ : S23)⟩ : S25) )) (Reps.none _ _))))
  intro v427 w11 ho12 hb hg_ hnew_
  clear hg_ hnew_
  (first | rw [← Ny426.out] at ho12 | (simp only [Int.reduceToNat] at ho12; rw [← Ny426.out] at ho12))
  have HO428 := Aside0.mk (Kd.R_lower (Kd.R_newB ho12 (g := gb420) (o := .cells #[.int .i64 a1_0, .int .i64 a1_1, .int .i64 a1_2, .int .i64 a1_3] 25 (0, 0)) (by (with_reducible repeat (first | refine blk_drewN ?_ _ | refine blk_drew ?_ | refine blk_alloc ?_ _)); exact BK420.out)) (bs_ HB))
  replace BK420 := bb BK420 hb
  replace HB := hs HB hb
  clear hb ho12
  obtain ⟨Ao13, co13, eo13⟩ := Kd.R_slice HO428.out
  (first | subst eo13 | (injection eo13 with f1_ f2_ f3_; have f4_ := f1_.symm; have f5_ := f3_.symm; clear f1_ f2_ f3_; subst f4_; subst f5_))
  refine hK.out _ _ ⟨(blk_cell BK420.out 0).trans rfl, (blk_cell BK420.out 1).trans rfl, (blk_cell BK420.out 2).trans rfl, (blk_cell BK420.out 3).trans rfl⟩ (fun hHeld => ?_)
  clear hK K
  refine norm_ (a' := ?_) ?_ ?_
  rotate_left
  ·
   show Act.put _ (some 16) _ = _
   simp only [Act.put, List.setIfInBounds_toArray, List.set_cons_zero, List.set_cons_succ, i64_w, i32_w]
   rfl
  refine pure_ (i := 4) (N := some 17) (v := ?_) (a' := ?_) #[true, true, true, true, true, true] rfl rfl (by kernel_rfl) (fun _ _ _ h => h) (Or.inl ⟨by rfl, ?_⟩) ?_ ?_
  rotate_left
  ·
   intro w'
   go_simp
   with_reducible rfl
  rotate_left
  ·
   simp only [Act.put, List.setIfInBounds_toArray, List.set_cons_zero, List.set_cons_succ, i64_w, i32_w]
   rfl
  refine done_ (by kernel_rfl) ?_
  try go_wp2
  go_loopg [6, 18] k (fun kq v6 v18 w' => ∃ (x6_1 : List (S23)) (x18_1 : Int), v18 = .int .i64 x18_1 ∧ Aside0 (spec_TimesAlike.l0 kq a0 x6_1 y426 (y426.length : Int) x18_1 = some (r1, r2)) ∧ Aside0 (kq ≤ k) ∧ Aside0 (Kd.R k23 23 w' w.heap.size (fun _ => True) v6 x6_1) ∧ Aside0 (Kd.R k25 25 w' w.heap.size (fun k_ => k_ ≠ gb420) (.slice Ao13 y426.length co13) y426) ∧ Aside0 (w'.heap[gb420]? = some (.cells #[.int .i64 a1_0, .int .i64 a1_1, .int .i64 a1_2, .int .i64 a1_3] 25 (0, 0))) ∧ Aside0 (Below w.heap.size w w'))
  case atStart => exact ⟨(([] : List (S23))), (0), (by first | rfl | (simp; done) | (simp [*]; done)), H', ⟨Nat.le_refl _⟩, ⟨by first | exact Kd.R_nil _ _ _ _ _ | exact Kd.N_nil _ _ _ _ _ | exact Kd.V_nil _ _ _ _ _ | exact Kd.Q_nil _ _ _ _ _ | exact Kd.S_nil _ _ _ _ _⟩, ⟨by (with_reducible repeat (first | apply Kd.R_alloc | apply Kd.R_drewN | apply Kd.R_drew)); exact Kd.R_mono HO428.out (fun _ hk => hk.2)⟩, bk_ BK420, hb_ HB⟩
  case round =>
   clear H'
   try clear c4
   obtain ⟨x6_1, x18_1, rfl, HA, HK1, HO_6, HO_16, BK420, HB⟩ := hrel
   cases gk with
   | zero => exact absurd HA.out (by simp [spec_TimesAlike.l0])
   | succ k1 =>
    have H := HA.out
    clear HA
    simp only [spec_TimesAlike.l0] at H
    by_cases c14 : x18_1 < (y426.length : Int)
    ·
     rw [if_pos c14] at H
     have c14b0 : decide (x18_1 < (y426.length : Int)) = true := decide_eq_true c14
     clear c14
     by_cases c15 : 0 ≤ x18_1
     ·
      rw [if_pos c15] at H
      have c15b0 : decide (0 ≤ x18_1) = true := decide_eq_true c15
      clear c15
      by_cases c16 : x18_1 < (y426.length : Int)
      ·
       rw [if_pos c16] at H
       have c16b0 : decide (x18_1 < (y426.length : Int)) = true := decide_eq_true c16
       clear c16
       replace H := Option.bind_eq_some_iff.mp H
       obtain ⟨t431, A170, H⟩ := H
       replace H : (if t431 = true then ((spec_sePut.f k1 x6_1 ((rd_T25 y426 x18_1).f0.f0) ((rd_T25 y426 x18_1).f0.f1)).bind fun t432 => (spec_TimesAlike.l0 k1 a0 t432 y426 (y426.length : Int) (wrap64 (x18_1 + 1)))) else (spec_TimesAlike.l0 k1 a0 x6_1 y426 (y426.length : Int) (wrap64 (x18_1 + 1)))) = some (r1, r2) := H
       have A17 := Aside0.mk A170
       clear A170
       by_cases c18 : t431 = true
       ·
        subst c18
        have H1 : ((spec_sePut.f k1 x6_1 ((rd_T25 y426 x18_1).f0.f0) ((rd_T25 y426 x18_1).f0.f1)).bind fun t432 => (spec_TimesAlike.l0 k1 a0 t432 y426 (y426.length : Int) (wrap64 (x18_1 + 1)))) = some (r1, r2) := by rw [if_pos rfl] at H; exact H
        clear H
        have H := H1
        clear H1
        replace H := Option.bind_eq_some_iff.mp H
        obtain ⟨t432, A190, H⟩ := H
        replace H : (spec_TimesAlike.l0 k1 a0 t432 y426 (y426.length : Int) (wrap64 (x18_1 + 1))) = some (r1, r2) := H
        have A19 := Aside0.mk A190
        clear A190
        as_aux_lemma =>
         have H' := Aside0.mk H
         clear H
         have p429 : 0 ≤ (x18_1 : Int) := of_decide_eq_true (by first | (with_reducible assumption) | assumption)
         have q429 : x18_1 < (y426.length : Int) := of_decide_eq_true (by first | (with_reducible assumption) | assumption)
         obtain ⟨ad429, e429, hx429_0, hx429_1, hx429_2, hx429_3⟩ := at_T25 (Kd.R_reads' HO_16.out).2.2 x18_1 p429 q429
         cases e429
         replace p429 := eq_true p429
         replace q429 := eq_true q429
         go_wp2_with (first | ((with_reducible refine gate_dst (N := 8) rfl ?_); refine be_ (N := 8) (cs := #[.int .i64 0, .int .i64 0, .int .i64 0, .int .i64 0]) (t := 25) ?_; intro gb430 hg w20 hbox hb; have BK430 := Aside0.mk (hbox); have GW430 := ge_ HB hg; have GE430 := ge_ HB hg; obtain ⟨NB420_430, NB430_420⟩ := nq_ BK420 hg; replace HO_6 := hr_ HO_6 hb; replace HO_16 := Aside0.mk (Kd.R_below (Kd.R_elderB (by (with_reducible repeat (first | apply Kd.R_alloc | apply Kd.R_drewN | apply Kd.R_drew)); exact HO_16.out) gb430 (Nat.le_of_eq hg.symm)) hb); replace BK420 := bb BK420 hb; replace HB := hs HB hb; clear hb hbox hg; obtain ⟨hnb21, hnc21⟩ := nn_ NB430_420; have hcz22_0 := cz_ BK430 0 (.int .i64 0); have hcz22_1 := cz_ BK430 1 (.int .i64 0); have hcz22_2 := cz_ BK430 2 (.int .i64 0); have hcz22_3 := cz_ BK430 3 (.int .i64 0); have hfz22_0 := blk_frozen BK430.out 0; have hfz22_1 := blk_frozen BK430.out 1; have hfz22_2 := blk_frozen BK430.out 2; have hfz22_3 := blk_frozen BK430.out 3) | ((with_reducible refine gate_callee (f := 44) rfl ?_); refine gs_ (some 24) Try.func44 #[.int .i64 a0, .agg #[.int .i64 ((rd_T25 y426 x18_1).f0.f0), .int .i64 ((rd_T25 y426 x18_1).f0.f1), .int .i64 ((rd_T25 y426 x18_1).f1.f0), .int .i64 ((rd_T25 y426 x18_1).f1.f1)]] ?_; (with_reducible refine (spec_seTrue.calls k1 a0 ((rd_T25 y426 x18_1).f0.f0) ((rd_T25 y426 x18_1).f0.f1) ((rd_T25 y426 x18_1).f1.f0) ((rd_T25 y426 x18_1).f1.f1) true _ A17.out).mono ?_); rintro e w23 ⟨rfl, hb⟩; refine ⟨_, rfl, ?_⟩; replace HO_6 := hr_ ⟨(Kd.R_mono (Kd.R_far (p := ⟨gb430, 3, none⟩) (Kd.R_far (p := ⟨gb430, 2, none⟩) (Kd.R_far (p := ⟨gb430, 1, none⟩) (Kd.R_far (p := ⟨gb430, 0, none⟩) (Kd.R_types HO_6.out BK430.out (by decide)) (fun _ hk => hk.2) (.int .i64 ((rd_T25 y426 x18_1).f0.f0))) (fun _ hk => hk.2) (.int .i64 ((rd_T25 y426 x18_1).f0.f1))) (fun _ hk => hk.2) (.int .i64 ((rd_T25 y426 x18_1).f1.f0))) (fun _ hk => hk.2) (.int .i64 ((rd_T25 y426 x18_1).f1.f1))) (fun _ h_ => h_.1))⟩ hb; replace HO_16 := hr_ ⟨(Kd.R_mono (Kd.R_far (p := ⟨gb430, 3, none⟩) (Kd.R_far (p := ⟨gb430, 2, none⟩) (Kd.R_far (p := ⟨gb430, 1, none⟩) (Kd.R_far (p := ⟨gb430, 0, none⟩) (Kd.R_mono HO_16.out (fun k_ hk => (⟨hk, hk.2⟩ : _ ∧ k_ ≠ gb430))) (fun _ hk => hk.2) (.int .i64 ((rd_T25 y426 x18_1).f0.f0))) (fun _ hk => hk.2) (.int .i64 ((rd_T25 y426 x18_1).f0.f1))) (fun _ hk => hk.2) (.int .i64 ((rd_T25 y426 x18_1).f1.f0))) (fun _ hk => hk.2) (.int .i64 ((rd_T25 y426 x18_1).f1.f1))) (fun _ h_ => h_.1))⟩ hb; replace BK420 := bb BK420 hb; replace BK430 := Aside0.mk (blk_below (g := gb430) (o := .cells #[.int .i64 ((rd_T25 y426 x18_1).f0.f0), .int .i64 ((rd_T25 y426 x18_1).f0.f1), .int .i64 ((rd_T25 y426 x18_1).f1.f0), .int .i64 ((rd_T25 y426 x18_1).f1.f1)] 25 (0, 0)) (by (with_reducible repeat (first | refine blk_drewN ?_ _ | refine blk_drew ?_ | refine blk_alloc ?_ _)); refine blk_put (cs := #[.int .i64 ((rd_T25 y426 x18_1).f0.f0), .int .i64 ((rd_T25 y426 x18_1).f0.f1), .int .i64 ((rd_T25 y426 x18_1).f1.f0), .int .i64 0]) ?_ 3 _ rfl; (with_reducible repeat (first | refine blk_drewN ?_ _ | refine blk_drew ?_ | refine blk_alloc ?_ _)); refine blk_put (cs := #[.int .i64 ((rd_T25 y426 x18_1).f0.f0), .int .i64 ((rd_T25 y426 x18_1).f0.f1), .int .i64 0, .int .i64 0]) ?_ 2 _ rfl; (with_reducible repeat (first | refine blk_drewN ?_ _ | refine blk_drew ?_ | refine blk_alloc ?_ _)); refine blk_put (cs := #[.int .i64 ((rd_T25 y426 x18_1).f0.f0), .int .i64 0, .int .i64 0, .int .i64 0]) ?_ 1 _ rfl; (with_reducible repeat (first | refine blk_drewN ?_ _ | refine blk_drew ?_ | refine blk_alloc ?_ _)); refine blk_put (cs := #[.int .i64 0, .int .i64 0, .int .i64 0, .int .i64 0]) ?_ 0 _ rfl; (with_reducible repeat (first | refine blk_drewN ?_ _ | refine blk_drew ?_ | refine blk_alloc ?_ _)); exact BK430.out) hb); replace HB := hs HB hb; (try clear hb); (try clear hb2); (try clear hk); (try clear hi); have hcz24_0 := cz_ BK430 0 (.int .i64 ((rd_T25 y426 x18_1).f0.f0)); have hcz24_1 := cz_ BK430 1 (.int .i64 ((rd_T25 y426 x18_1).f0.f1)); have hcz24_2 := cz_ BK430 2 (.int .i64 ((rd_T25 y426 x18_1).f1.f0)); have hcz24_3 := cz_ BK430 3 (.int .i64 ((rd_T25 y426 x18_1).f1.f1)); have hfz24_0 := blk_frozen BK430.out 0; have hfz24_1 := blk_frozen BK430.out 1; have hfz24_2 := blk_frozen BK430.out 2; have hfz24_3 := blk_frozen BK430.out 3; obtain ⟨Ao25, co25, eo25⟩ := Kd.R_slice HO_6.out; subst eo25) | ((with_reducible refine gate_callee (f := 62) rfl ?_); refine gs_ (some 28) Try.func62 #[.slice Ao25 x6_1.length co25, .agg #[.int .i64 ((rd_T25 y426 x18_1).f0.f0), .int .i64 ((rd_T25 y426 x18_1).f0.f1)]] ?_; (with_reducible refine (spec_sePut.calls k1 (fun k_ => some k_ = (.slice Ao25 x6_1.length co25 : Value).ownBlock) (.slice Ao25 x6_1.length co25) x6_1 ((rd_T25 y426 x18_1).f0.f0) ((rd_T25 y426 x18_1).f0.f1) t432 w _ ?side1 ?side2 A19.out).mono ?_); (case side1 => repeat (first | (with_reducible first | exact HB.out | apply below_alloc | apply pw_below_drewN | apply below_drew1 | refine below_set ?_ GE420.out | refine below_set ?_ GE430.out) | exact HB.out)); (case side2 => exact Kd.R_tight rfl HO_6.out); rintro e w26 ⟨v433, rfl, ho0, hb, hkp⟩; refine ⟨_, rfl, ?_⟩; have n0_ := Aside0.mk (Kd.R_mono (ok' := fun k_ => k_ ≠ gb420 ∧ k_ ≠ gb430) (Kd.R_keptB ((Kd.R_apart' HO_16.out (Kd.R_typed HO_6.out) (by decide))) hkp (fun k_ hk_ hs_ => (hk_.2) hs_)) (fun k_ hk_ => ⟨hk_.1.1.1, hk_.1.1.2⟩)); have n1_ := Aside0.mk (blk_kept (by (with_reducible repeat (first | refine blk_drewN ?_ _ | refine blk_drew ?_ | refine blk_alloc ?_ _)); exact BK420.out) hkp (fun hs_ => (fun e_ => (Kd.R_ne HO_6.out BK420.out (by decide)) e_) hs_)); have n2_ := Aside0.mk (blk_kept (by (with_reducible repeat (first | refine blk_drewN ?_ _ | refine blk_drew ?_ | refine blk_alloc ?_ _)); exact BK430.out) hkp (fun hs_ => (fun e_ => (Kd.R_ne HO_6.out BK430.out (by decide)) e_) hs_)); have n3_ := Aside0.mk (Kd.R_mono (ok' := fun k_ => True) ho0 (fun k_ hk_ => trivial)); have n4_ := Aside0.mk (hb); clear HO_16; clear BK420; clear BK430; clear HB; clear HO_6; have HO_16 := n0_; have BK420 := n1_; have BK430 := n2_; have HO434 := n3_; have HB := n4_; clear n0_ n1_ n2_ n3_ n4_; (try clear hb); (try clear hkp); (try clear ho0)))
         go_roundg k1
         case measure => have := HK1.out; omega
         case rel => exact ⟨(t432), (wrap64 (x18_1 + 1)), (by first | rfl | (simp; done) | (simp [*]; done)), H', ⟨by have := HK1.out; omega⟩, ⟨by (with_reducible repeat (first | apply Kd.R_alloc | apply Kd.R_drewN | apply Kd.R_drew)); exact HO434.out⟩, ⟨by (with_reducible repeat (first | apply Kd.R_alloc | apply Kd.R_drewN | apply Kd.R_drew)); exact Kd.R_mono HO_16.out (fun _ hk => hk.1)⟩, bk_ BK420, hb_ HB⟩
       ·
        replace c18 := Bool.eq_false_iff.mpr c18
        subst c18
        have H1 : (spec_TimesAlike.l0 k1 a0 x6_1 y426 (y426.length : Int) (wrap64 (x18_1 + 1))) = some (r1, r2) := by rw [if_neg (show ¬ (false = true) by decide)] at H; exact H
        clear H
        have H := H1
        clear H1
        as_aux_lemma =>
         have H' := Aside0.mk H
         clear H
         have p429 : 0 ≤ (x18_1 : Int) := of_decide_eq_true (by first | (with_reducible assumption) | assumption)
         have q429 : x18_1 < (y426.length : Int) := of_decide_eq_true (by first | (with_reducible assumption) | assumption)
         obtain ⟨ad429, e429, hx429_0, hx429_1, hx429_2, hx429_3⟩ := at_T25 (Kd.R_reads' HO_16.out).2.2 x18_1 p429 q429
         cases e429
         replace p429 := eq_true p429
         replace q429 := eq_true q429
         go_wp2_with (first | ((with_reducible refine gate_dst (N := 8) rfl ?_); refine be_ (N := 8) (cs := #[.int .i64 0, .int .i64 0, .int .i64 0, .int .i64 0]) (t := 25) ?_; intro gb430 hg w27 hbox hb; have BK430 := Aside0.mk (hbox); have GW430 := ge_ HB hg; have GE430 := ge_ HB hg; obtain ⟨NB420_430, NB430_420⟩ := nq_ BK420 hg; replace HO_6 := hr_ HO_6 hb; replace HO_16 := Aside0.mk (Kd.R_below (Kd.R_elderB (by (with_reducible repeat (first | apply Kd.R_alloc | apply Kd.R_drewN | apply Kd.R_drew)); exact HO_16.out) gb430 (Nat.le_of_eq hg.symm)) hb); replace BK420 := bb BK420 hb; replace HB := hs HB hb; clear hb hbox hg; obtain ⟨hnb28, hnc28⟩ := nn_ NB430_420; have hcz29_0 := cz_ BK430 0 (.int .i64 0); have hcz29_1 := cz_ BK430 1 (.int .i64 0); have hcz29_2 := cz_ BK430 2 (.int .i64 0); have hcz29_3 := cz_ BK430 3 (.int .i64 0); have hfz29_0 := blk_frozen BK430.out 0; have hfz29_1 := blk_frozen BK430.out 1; have hfz29_2 := blk_frozen BK430.out 2; have hfz29_3 := blk_frozen BK430.out 3) | ((with_reducible refine gate_callee (f := 44) rfl ?_); refine gs_ (some 24) Try.func44 #[.int .i64 a0, .agg #[.int .i64 ((rd_T25 y426 x18_1).f0.f0), .int .i64 ((rd_T25 y426 x18_1).f0.f1), .int .i64 ((rd_T25 y426 x18_1).f1.f0), .int .i64 ((rd_T25 y426 x18_1).f1.f1)]] ?_; (with_reducible refine (spec_seTrue.calls k1 a0 ((rd_T25 y426 x18_1).f0.f0) ((rd_T25 y426 x18_1).f0.f1) ((rd_T25 y426 x18_1).f1.f0) ((rd_T25 y426 x18_1).f1.f1) false _ A17.out).mono ?_); rintro e w30 ⟨rfl, hb⟩; refine ⟨_, rfl, ?_⟩; replace HO_6 := hr_ ⟨(Kd.R_mono (Kd.R_far (p := ⟨gb430, 3, none⟩) (Kd.R_far (p := ⟨gb430, 2, none⟩) (Kd.R_far (p := ⟨gb430, 1, none⟩) (Kd.R_far (p := ⟨gb430, 0, none⟩) (Kd.R_types HO_6.out BK430.out (by decide)) (fun _ hk => hk.2) (.int .i64 ((rd_T25 y426 x18_1).f0.f0))) (fun _ hk => hk.2) (.int .i64 ((rd_T25 y426 x18_1).f0.f1))) (fun _ hk => hk.2) (.int .i64 ((rd_T25 y426 x18_1).f1.f0))) (fun _ hk => hk.2) (.int .i64 ((rd_T25 y426 x18_1).f1.f1))) (fun _ h_ => h_.1))⟩ hb; replace HO_16 := hr_ ⟨(Kd.R_mono (Kd.R_far (p := ⟨gb430, 3, none⟩) (Kd.R_far (p := ⟨gb430, 2, none⟩) (Kd.R_far (p := ⟨gb430, 1, none⟩) (Kd.R_far (p := ⟨gb430, 0, none⟩) (Kd.R_mono HO_16.out (fun k_ hk => (⟨hk, hk.2⟩ : _ ∧ k_ ≠ gb430))) (fun _ hk => hk.2) (.int .i64 ((rd_T25 y426 x18_1).f0.f0))) (fun _ hk => hk.2) (.int .i64 ((rd_T25 y426 x18_1).f0.f1))) (fun _ hk => hk.2) (.int .i64 ((rd_T25 y426 x18_1).f1.f0))) (fun _ hk => hk.2) (.int .i64 ((rd_T25 y426 x18_1).f1.f1))) (fun _ h_ => h_.1))⟩ hb; replace BK420 := bb BK420 hb; replace BK430 := Aside0.mk (blk_below (g := gb430) (o := .cells #[.int .i64 ((rd_T25 y426 x18_1).f0.f0), .int .i64 ((rd_T25 y426 x18_1).f0.f1), .int .i64 ((rd_T25 y426 x18_1).f1.f0), .int .i64 ((rd_T25 y426 x18_1).f1.f1)] 25 (0, 0)) (by (with_reducible repeat (first | refine blk_drewN ?_ _ | refine blk_drew ?_ | refine blk_alloc ?_ _)); refine blk_put (cs := #[.int .i64 ((rd_T25 y426 x18_1).f0.f0), .int .i64 ((rd_T25 y426 x18_1).f0.f1), .int .i64 ((rd_T25 y426 x18_1).f1.f0), .int .i64 0]) ?_ 3 _ rfl; (with_reducible repeat (first | refine blk_drewN ?_ _ | refine blk_drew ?_ | refine blk_alloc ?_ _)); refine blk_put (cs := #[.int .i64 ((rd_T25 y426 x18_1).f0.f0), .int .i64 ((rd_T25 y426 x18_1).f0.f1), .int .i64 0, .int .i64 0]) ?_ 2 _ rfl; (with_reducible repeat (first | refine blk_drewN ?_ _ | refine blk_drew ?_ | refine blk_alloc ?_ _)); refine blk_put (cs := #[.int .i64 ((rd_T25 y426 x18_1).f0.f0), .int .i64 0, .int .i64 0, .int .i64 0]) ?_ 1 _ rfl; (with_reducible repeat (first | refine blk_drewN ?_ _ | refine blk_drew ?_ | refine blk_alloc ?_ _)); refine blk_put (cs := #[.int .i64 0, .int .i64 0, .int .i64 0, .int .i64 0]) ?_ 0 _ rfl; (with_reducible repeat (first | refine blk_drewN ?_ _ | refine blk_drew ?_ | refine blk_alloc ?_ _)); exact BK430.out) hb); replace HB := hs HB hb; (try clear hb); (try clear hb2); (try clear hk); (try clear hi)))
         go_roundg k1
         case measure => have := HK1.out; omega
         case rel => exact ⟨(x6_1), (wrap64 (x18_1 + 1)), (by first | rfl | (simp; done) | (simp [*]; done)), H', ⟨by have := HK1.out; omega⟩, ⟨by (with_reducible repeat (first | apply Kd.R_alloc | apply Kd.R_drewN | apply Kd.R_drew)); exact HO_6.out⟩, ⟨by (with_reducible repeat (first | apply Kd.R_alloc | apply Kd.R_drewN | apply Kd.R_drew)); exact Kd.R_mono HO_16.out (fun _ hk => hk.1)⟩, bk_ BK420, hb_ HB⟩
      ·
       rw [if_neg c16] at H
       exact absurd H (by simp)
     ·
      rw [if_neg c15] at H
      exact absurd H (by simp)
    ·
     rw [if_neg c14] at H
     have c14b0 : decide (x18_1 < (y426.length : Int)) = false := decide_eq_false c14
     clear c14
     as_aux_lemma =>
      simp only [Option.some.injEq, Prod.mk.injEq] at H
      obtain ⟨rfl, rfl⟩ := H
      go_wp2
      go_ret2
      exact ⟨_, by first | rfl | (simp [errW_none, errW_some] <;> rfl) | (simp [*, errW_none, errW_some] <;> rfl), by (with_reducible repeat (first | apply Kd.R_alloc | apply Kd.R_drewN | apply Kd.R_drew)); exact HO_6.out, (ho_ HB)⟩
 ·
  replace c4 := Bool.eq_false_iff.mpr c4
  subst c4
  have H1 : (some (([] : List (S23)), false)) = some (r1, r2) := by rw [if_neg (show ¬ (false = true) by decide)] at H; exact H
  clear H
  have H := H1
  clear H1
  as_aux_lemma =>
   simp only [Option.some.injEq, Prod.mk.injEq] at H
   obtain ⟨rfl, rfl⟩ := H
   go_enter Try.func26, Try.ntmps26
   go_wp2_with (first | ((with_reducible refine gate_dst (N := 3) rfl ?_); refine be_ (N := 3) (cs := #[.int .i64 a1_0, .int .i64 a1_1, .int .i64 a1_2, .int .i64 a1_3]) (t := 25) ?_; intro gb420 hg w31 hbox hb; have BK420 := Aside0.mk (hbox); have GW420 := ge_ HB hg; have GE420 := ge_ HB hg; replace HB := hs HB hb; clear hb hbox hg; have hcz32_0 := cz_ BK420 0 (.int .i64 a1_0); have hcz32_1 := cz_ BK420 1 (.int .i64 a1_1); have hcz32_2 := cz_ BK420 2 (.int .i64 a1_2); have hcz32_3 := cz_ BK420 3 (.int .i64 a1_3); have hfz32_0 := blk_frozen BK420.out 0; have hfz32_1 := blk_frozen BK420.out 1; have hfz32_2 := blk_frozen BK420.out 2; have hfz32_3 := blk_frozen BK420.out 3) | ((with_reducible refine gate_callee (f := 61) rfl ?_); refine gs_ (some 11) Try.func61 #[.int .i64 a0, .agg #[.int .i64 a1_0, .int .i64 a1_1, .int .i64 a1_2, .int .i64 a1_3]] ?_; (with_reducible refine (spec_seAsked.calls k a0 a1_0 a1_1 a1_2 a1_3 false _ A3.out).mono ?_); rintro e w33 ⟨rfl, hb⟩; refine ⟨_, rfl, ?_⟩; replace BK420 := bb BK420 hb; replace HB := hs HB hb; (try clear hb); (try clear hb2); (try clear hk); (try clear hi)))
   go_ret2
   exact ⟨_, by first | rfl | (simp [errW_none, errW_some] <;> rfl) | (simp [*, errW_none, errW_some] <;> rfl), by first | exact Kd.R_nil _ _ _ _ _ | exact Kd.N_nil _ _ _ _ _ | exact Kd.V_nil _ _ _ _ _ | exact Kd.Q_nil _ _ _ _ _ | exact Kd.S_nil _ _ _ _ _, (ho_ HB)⟩

/-! ### spec_ExchangeSeen: function 27 -/
def spec_ExchangeSeen.f (k : Nat) (a0_0 : Int) (a0_1 : Int) (a0_2 : Int) (a0_3 : Int) : Option (Int × Int × Int × Int × Bool) := (spec_seGood.f k a0_0 a0_1 a0_2 a0_3).bind fun t437 => (if t437 = true then ((spec_seExchange.f a0_0 a0_1 a0_2 a0_3).bind fun bt438 => (some (bt438.1, bt438.2.1, bt438.2.2.1, bt438.2.2.2, true))) else (some (0, 0, 0, 0, false)))
theorem spec_ExchangeSeen.mono : ∀ a0 a1 a2 a3 k, LeO (spec_ExchangeSeen.f k a0 a1 a2 a3) (spec_ExchangeSeen.f (k + 1) a0 a1 a2 a3) := by
 intro a0 a1 a2 a3 k
 unfold spec_ExchangeSeen.f
 repeat' first
   | (with_reducible exact spec_seGood.mono _ _ _ _ _)
   | (with_reducible exact LeO.refl _)
   | (with_reducible exact LeO.none _)
   | (with_reducible refine LeO.ite ?_ ?_)
   | (with_reducible refine LeO.bind ?_ (fun _ => ?_))
   | exact spec_seGood.mono _ _ _ _ _
   | exact LeO.none _
   | refine LeO.ite ?_ ?_
   | refine LeO.bind ?_ (fun _ => ?_)
set_option maxHeartbeats 8000000 in
set_option maxRecDepth 100000 in
theorem spec_ExchangeSeen.calls (k : Nat) (a0_0 : Int) (a0_1 : Int) (a0_2 : Int) (a0_3 : Int) (r1 : Int) (r2 : Int) (r3 : Int) (r4 : Int) (r5 : Bool) (w : World) (h : spec_ExchangeSeen.f k a0_0 a0_1 a0_2 a0_3 = some (r1, r2, r3, r4, r5)) :
  Calls Try.prog 27 #[.agg #[.int .i64 a0_0, .int .i64 a0_1, .int .i64 a0_2, .int .i64 a0_3]] w fun e w' => e = .returned (.tuple #[.agg #[.int .i64 r1, .int .i64 r2, .int .i64 r3, .int .i64 r4], .bool r5]) ∧ Below w.heap.size w w' := by
 have hu25 := Try.underlying25
 have HB := Aside0.mk (Below.refl w.heap.size w)
 have H : ((spec_seGood.f k a0_0 a0_1 a0_2 a0_3).bind fun t437 => (if t437 = true then ((spec_seExchange.f a0_0 a0_1 a0_2 a0_3).bind fun bt438 => (some (bt438.1, bt438.2.1, bt438.2.2.1, bt438.2.2.2, true))) else (some (0, 0, 0, 0, false)))) = some (r1, r2, r3, r4, r5) := h
 clear h
 replace H := Option.bind_eq_some_iff.mp H
 obtain ⟨t437, A20, H⟩ := H
 replace H : (if t437 = true then ((spec_seExchange.f a0_0 a0_1 a0_2 a0_3).bind fun bt438 => (some (bt438.1, bt438.2.1, bt438.2.2.1, bt438.2.2.2, true))) else (some (0, 0, 0, 0, false))) = some (r1, r2, r3, r4, r5) := H
 have A2 := Aside0.mk A20
 clear A20
 by_cases c3 : t437 = true
 ·
  subst c3
  have H1 : ((spec_seExchange.f a0_0 a0_1 a0_2 a0_3).bind fun bt438 => (some (bt438.1, bt438.2.1, bt438.2.2.1, bt438.2.2.2, true))) = some (r1, r2, r3, r4, r5) := by rw [if_pos rfl] at H; exact H
  clear H
  have H := H1
  clear H1
  replace H := Option.bind_eq_some_iff.mp H
  obtain ⟨⟨t438, t439, t440, t441⟩, A40, H⟩ := H
  replace H : (some (t438, t439, t440, t441, true)) = some (r1, r2, r3, r4, r5) := H
  have A4 := Aside0.mk A40
  clear A40
  as_aux_lemma =>
   simp only [Option.some.injEq, Prod.mk.injEq] at H
   obtain ⟨rfl, rfl, rfl, rfl, rfl⟩ := H
   go_enter Try.func27, Try.ntmps27
   go_wp2_with (first | ((with_reducible refine gate_dst (N := 1) rfl ?_); refine be_ (N := 1) (cs := #[.int .i64 a0_0, .int .i64 a0_1, .int .i64 a0_2, .int .i64 a0_3]) (t := 25) ?_; intro gb435 hg w5 hbox hb; have BK435 := Aside0.mk (hbox); have GW435 := ge_ HB hg; have GE435 := ge_ HB hg; replace HB := hs HB hb; clear hb hbox hg) | ((with_reducible refine gate_dst (N := 2) rfl ?_); refine be_ (N := 2) (cs := #[.int .i64 0, .int .i64 0, .int .i64 0, .int .i64 0]) (t := 25) ?_; intro gb436 hg w6 hbox hb; have BK436 := Aside0.mk (hbox); have GW436 := ge_ HB hg; have GE436 := ge_ HB hg; obtain ⟨NB435_436, NB436_435⟩ := nq_ BK435 hg; replace BK435 := bb BK435 hb; replace HB := hs HB hb; clear hb hbox hg; obtain ⟨hnb7, hnc7⟩ := nn_ NB435_436; have hcz8_0 := cz_ BK435 0 (.int .i64 a0_0); have hcz8_1 := cz_ BK435 1 (.int .i64 a0_1); have hcz8_2 := cz_ BK435 2 (.int .i64 a0_2); have hcz8_3 := cz_ BK435 3 (.int .i64 a0_3); have hfz8_0 := blk_frozen BK435.out 0; have hfz8_1 := blk_frozen BK435.out 1; have hfz8_2 := blk_frozen BK435.out 2; have hfz8_3 := blk_frozen BK435.out 3) | ((with_reducible refine gate_callee (f := 63) rfl ?_); refine gs_ (some 5) Try.func63 #[.agg #[.int .i64 a0_0, .int .i64 a0_1, .int .i64 a0_2, .int .i64 a0_3]] ?_; (with_reducible refine (spec_seGood.calls k a0_0 a0_1 a0_2 a0_3 true _ A2.out).mono ?_); rintro e w9 ⟨rfl, hb⟩; refine ⟨_, rfl, ?_⟩; replace BK435 := bb BK435 hb; replace BK436 := bb BK436 hb; replace HB := hs HB hb; (try clear hb); (try clear hb2); (try clear hk); (try clear hi); have hcz10_0 := cz_ BK435 0 (.int .i64 a0_0); have hcz10_1 := cz_ BK435 1 (.int .i64 a0_1); have hcz10_2 := cz_ BK435 2 (.int .i64 a0_2); have hcz10_3 := cz_ BK435 3 (.int .i64 a0_3); have hfz10_0 := blk_frozen BK435.out 0; have hfz10_1 := blk_frozen BK435.out 1; have hfz10_2 := blk_frozen BK435.out 2; have hfz10_3 := blk_frozen BK435.out 3) | ((with_reducible refine gate_callee (f := 45) rfl ?_); refine gs_ (some 9) Try.func45 #[.agg #[.int .i64 a0_0, .int .i64 a0_1, .int .i64 a0_2, .int .i64 a0_3]] ?_; (with_reducible refine (spec_seExchange.calls a0_0 a0_1 a0_2 a0_3 t438 t439 t440 t441 _ A4.out).mono ?_); rintro e w11 ⟨rfl, hb⟩; refine ⟨_, rfl, ?_⟩; replace BK435 := bb BK435 hb; replace BK436 := bb BK436 hb; replace HB := hs HB hb; (try clear hb); (try clear hb2); (try clear hk); (try clear hi); have hcz12_0 := cz_ BK436 0 (.int .i64 0); have hcz12_1 := cz_ BK436 1 (.int .i64 0); have hcz12_2 := cz_ BK436 2 (.int .i64 0); have hcz12_3 := cz_ BK436 3 (.int .i64 0); have hfz12_0 := blk_frozen BK436.out 0; have hfz12_1 := blk_frozen BK436.out 1; have hfz12_2 := blk_frozen BK436.out 2; have hfz12_3 := blk_frozen BK436.out 3))
   refine bodyPost_ret (results_ct rfl _ _ gb436 25 #[.int .i64 t438, .int .i64 t439, .int .i64 t440, .int .i64 t441] (0, 0) _ rfl (by (with_reducible repeat (first | refine blk_drewN ?_ _ | refine blk_drew ?_ | refine blk_alloc ?_ _)); refine blk_put (cs := #[.int .i64 t438, .int .i64 t439, .int .i64 t440, .int .i64 0]) ?_ 3 _ rfl; (with_reducible repeat (first | refine blk_drewN ?_ _ | refine blk_drew ?_ | refine blk_alloc ?_ _)); refine blk_put (cs := #[.int .i64 t438, .int .i64 t439, .int .i64 0, .int .i64 0]) ?_ 2 _ rfl; (with_reducible repeat (first | refine blk_drewN ?_ _ | refine blk_drew ?_ | refine blk_alloc ?_ _)); refine blk_put (cs := #[.int .i64 t438, .int .i64 0, .int .i64 0, .int .i64 0]) ?_ 1 _ rfl; (with_reducible repeat (first | refine blk_drewN ?_ _ | refine blk_drew ?_ | refine blk_alloc ?_ _)); refine blk_put (cs := #[.int .i64 0, .int .i64 0, .int .i64 0, .int .i64 0]) ?_ 0 _ rfl; (with_reducible repeat (first | refine blk_drewN ?_ _ | refine blk_drew ?_ | refine blk_alloc ?_ _)); exact BK436.out) Try.underlying25 rfl (by kernel_rfl)) rfl ?_
   exact ⟨by first | rfl | (simp [errW_none, errW_some] <;> rfl) | (simp [*, errW_none, errW_some] <;> rfl), (ho_ HB)⟩
 ·
  replace c3 := Bool.eq_false_iff.mpr c3
  subst c3
  have H1 : (some (0, 0, 0, 0, false)) = some (r1, r2, r3, r4, r5) := by rw [if_neg (show ¬ (false = true) by decide)] at H; exact H
  clear H
  have H := H1
  clear H1
  as_aux_lemma =>
   simp only [Option.some.injEq, Prod.mk.injEq] at H
   obtain ⟨rfl, rfl, rfl, rfl, rfl⟩ := H
   go_enter Try.func27, Try.ntmps27
   go_wp2_with (first | ((with_reducible refine gate_dst (N := 1) rfl ?_); refine be_ (N := 1) (cs := #[.int .i64 a0_0, .int .i64 a0_1, .int .i64 a0_2, .int .i64 a0_3]) (t := 25) ?_; intro gb435 hg w13 hbox hb; have BK435 := Aside0.mk (hbox); have GW435 := ge_ HB hg; have GE435 := ge_ HB hg; replace HB := hs HB hb; clear hb hbox hg) | ((with_reducible refine gate_dst (N := 2) rfl ?_); refine be_ (N := 2) (cs := #[.int .i64 0, .int .i64 0, .int .i64 0, .int .i64 0]) (t := 25) ?_; intro gb436 hg w14 hbox hb; have BK436 := Aside0.mk (hbox); have GW436 := ge_ HB hg; have GE436 := ge_ HB hg; obtain ⟨NB435_436, NB436_435⟩ := nq_ BK435 hg; replace BK435 := bb BK435 hb; replace HB := hs HB hb; clear hb hbox hg; obtain ⟨hnb15, hnc15⟩ := nn_ NB435_436; have hcz16_0 := cz_ BK435 0 (.int .i64 a0_0); have hcz16_1 := cz_ BK435 1 (.int .i64 a0_1); have hcz16_2 := cz_ BK435 2 (.int .i64 a0_2); have hcz16_3 := cz_ BK435 3 (.int .i64 a0_3); have hfz16_0 := blk_frozen BK435.out 0; have hfz16_1 := blk_frozen BK435.out 1; have hfz16_2 := blk_frozen BK435.out 2; have hfz16_3 := blk_frozen BK435.out 3) | ((with_reducible refine gate_callee (f := 63) rfl ?_); refine gs_ (some 5) Try.func63 #[.agg #[.int .i64 a0_0, .int .i64 a0_1, .int .i64 a0_2, .int .i64 a0_3]] ?_; (with_reducible refine (spec_seGood.calls k a0_0 a0_1 a0_2 a0_3 false _ A2.out).mono ?_); rintro e w17 ⟨rfl, hb⟩; refine ⟨_, rfl, ?_⟩; replace BK435 := bb BK435 hb; replace BK436 := bb BK436 hb; replace HB := hs HB hb; (try clear hb); (try clear hb2); (try clear hk); (try clear hi); have hcz18_0 := cz_ BK436 0 (.int .i64 0); have hcz18_1 := cz_ BK436 1 (.int .i64 0); have hcz18_2 := cz_ BK436 2 (.int .i64 0); have hcz18_3 := cz_ BK436 3 (.int .i64 0); have hfz18_0 := blk_frozen BK436.out 0; have hfz18_1 := blk_frozen BK436.out 1; have hfz18_2 := blk_frozen BK436.out 2; have hfz18_3 := blk_frozen BK436.out 3))
   refine bodyPost_ret (results_ct rfl _ _ gb436 25 #[.int .i64 0, .int .i64 0, .int .i64 0, .int .i64 0] (0, 0) _ rfl (by (with_reducible repeat (first | refine blk_drewN ?_ _ | refine blk_drew ?_ | refine blk_alloc ?_ _)); refine blk_put (cs := #[.int .i64 0, .int .i64 0, .int .i64 0, .int .i64 0]) ?_ 3 _ rfl; (with_reducible repeat (first | refine blk_drewN ?_ _ | refine blk_drew ?_ | refine blk_alloc ?_ _)); refine blk_put (cs := #[.int .i64 0, .int .i64 0, .int .i64 0, .int .i64 0]) ?_ 2 _ rfl; (with_reducible repeat (first | refine blk_drewN ?_ _ | refine blk_drew ?_ | refine blk_alloc ?_ _)); refine blk_put (cs := #[.int .i64 0, .int .i64 0, .int .i64 0, .int .i64 0]) ?_ 1 _ rfl; (with_reducible repeat (first | refine blk_drewN ?_ _ | refine blk_drew ?_ | refine blk_alloc ?_ _)); refine blk_put (cs := #[.int .i64 0, .int .i64 0, .int .i64 0, .int .i64 0]) ?_ 0 _ rfl; (with_reducible repeat (first | refine blk_drewN ?_ _ | refine blk_drew ?_ | refine blk_alloc ?_ _)); exact BK436.out) Try.underlying25 rfl (by kernel_rfl)) rfl ?_
   exact ⟨by first | rfl | (simp [errW_none, errW_some] <;> rfl) | (simp [*, errW_none, errW_some] <;> rfl), (ho_ HB)⟩

/-! ### spec_IsSeen: function 28 -/
def spec_IsSeen.f (k : Nat) (a0_0 : Int) (a0_1 : Int) (a0_2 : Int) (a0_3 : Int) : Option (Bool) := (spec_seGood.f k a0_0 a0_1 a0_2 a0_3).bind fun t443 => (some t443)
theorem spec_IsSeen.mono : ∀ a0 a1 a2 a3 k, LeO (spec_IsSeen.f k a0 a1 a2 a3) (spec_IsSeen.f (k + 1) a0 a1 a2 a3) := by
 intro a0 a1 a2 a3 k
 unfold spec_IsSeen.f
 repeat' first
   | (with_reducible exact spec_seGood.mono _ _ _ _ _)
   | (with_reducible exact LeO.refl _)
   | (with_reducible exact LeO.none _)
   | (with_reducible refine LeO.ite ?_ ?_)
   | (with_reducible refine LeO.bind ?_ (fun _ => ?_))
   | exact spec_seGood.mono _ _ _ _ _
   | exact LeO.none _
   | refine LeO.ite ?_ ?_
   | refine LeO.bind ?_ (fun _ => ?_)
set_option maxHeartbeats 8000000 in
set_option maxRecDepth 100000 in
theorem spec_IsSeen.calls (k : Nat) (a0_0 : Int) (a0_1 : Int) (a0_2 : Int) (a0_3 : Int) (r : Bool) (w : World) (h : spec_IsSeen.f k a0_0 a0_1 a0_2 a0_3 = some r) :
  Calls Try.prog 28 #[.agg #[.int .i64 a0_0, .int .i64 a0_1, .int .i64 a0_2, .int .i64 a0_3]] w fun e w' => e = .returned (.bool r) ∧ Below w.heap.size w w' := by
 have hu25 := Try.underlying25
 have HB := Aside0.mk (Below.refl w.heap.size w)
 have H : ((spec_seGood.f k a0_0 a0_1 a0_2 a0_3).bind fun t443 => (some t443)) = some r := h
 clear h
 replace H := Option.bind_eq_some_iff.mp H
 obtain ⟨t443, A20, H⟩ := H
 replace H : (some t443) = some r := H
 have A2 := Aside0.mk A20
 clear A20
 as_aux_lemma =>
  obtain rfl := Option.some.inj H
  go_enter Try.func28, Try.ntmps28
  go_wp2_with (first | ((with_reducible refine gate_dst (N := 1) rfl ?_); refine be_ (N := 1) (cs := #[.int .i64 a0_0, .int .i64 a0_1, .int .i64 a0_2, .int .i64 a0_3]) (t := 25) ?_; intro gb442 hg w3 hbox hb; have BK442 := Aside0.mk (hbox); have GW442 := ge_ HB hg; have GE442 := ge_ HB hg; replace HB := hs HB hb; clear hb hbox hg; have hcz4_0 := cz_ BK442 0 (.int .i64 a0_0); have hcz4_1 := cz_ BK442 1 (.int .i64 a0_1); have hcz4_2 := cz_ BK442 2 (.int .i64 a0_2); have hcz4_3 := cz_ BK442 3 (.int .i64 a0_3); have hfz4_0 := blk_frozen BK442.out 0; have hfz4_1 := blk_frozen BK442.out 1; have hfz4_2 := blk_frozen BK442.out 2; have hfz4_3 := blk_frozen BK442.out 3) | ((with_reducible refine gate_callee (f := 63) rfl ?_); refine gs_ (some 4) Try.func63 #[.agg #[.int .i64 a0_0, .int .i64 a0_1, .int .i64 a0_2, .int .i64 a0_3]] ?_; (with_reducible refine (spec_seGood.calls k a0_0 a0_1 a0_2 a0_3 t443 _ A2.out).mono ?_); rintro e w5 ⟨rfl, hb⟩; refine ⟨_, rfl, ?_⟩; replace BK442 := bb BK442 hb; replace HB := hs HB hb; (try clear hb); (try clear hb2); (try clear hk); (try clear hi)))
  go_ret
  exact ⟨by first | rfl | (simp [errW_none, errW_some] <;> rfl) | (simp [*, errW_none, errW_some] <;> rfl), (ho_ HB)⟩

end Go.Proofs.Ytkfcaldjepmffaa.GFnSeenTrueOfAll
