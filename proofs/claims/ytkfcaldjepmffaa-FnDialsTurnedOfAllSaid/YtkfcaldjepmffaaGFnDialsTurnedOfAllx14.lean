-- Written by a program of this session (a copy of the kit's print program that takes contracts of one's own); Lean checks it.
import Derived.Test.YtkfcaldjepmffaaGFnDialsTurnedOfAllx0
import Derived.Test.YtkfcaldjepmffaaGFnDialsTurnedOfAllx3
import Derived.Test.YtkfcaldjepmffaaGFnDialsTurnedOfAllx5
import Derived.Test.YtkfcaldjepmffaaGFnDialsTurnedOfAllx6
import Derived.Test.YtkfcaldjepmffaaGFnDialsTurnedOfAllx7
import Derived.Test.YtkfcaldjepmffaaGFnDialsTurnedOfAllx11
import Derived.Test.YtkfcaldjepmffaaGFnDialsTurnedOfAllx13
namespace Go.Proofs.Ytkfcaldjepmffaa.GFnDialsTurnedOfAll
open Go.RowKit Go.Proofs.YtkfcaldjepmffaaW.PrintWords Go.Proofs.YtkfcaldjepmffaaW.PrintLast Go.Proofs.YtkfcaldjepmffaaW.PrintMore
attribute [local go_sem] max2_int min2_int max_two min_two max_three min_three max_four min_four   -- for this text's walks alone
set_option linter.unusedVariables false
set_option linter.unusedSimpArgs false

/-! ### spec_TimesInGlass: function 37 -/
def spec_TimesInGlass.l0 : Nat → Int → List (S23) → List (S25) → Int → Int → Option ((List (S23)) × Bool)
 | 0, _, _, _, _, _ => none
 | k + 1, x0, x6, x16, x17, x18 => if x18 < x17 then (if 0 ≤ x18 then (if x18 < (x16.length : Int) then ((spec_seTrue.f k x0 ((rd_T25 x16 x18).f0.f0) ((rd_T25 x16 x18).f0.f1) ((rd_T25 x16 x18).f1.f0) ((rd_T25 x16 x18).f1.f1)).bind fun t418 => (if t418 = true then ((spec_sePut.f k x6 ((rd_T25 x16 x18).f0.f0) ((rd_T25 x16 x18).f0.f1)).bind fun t419 => (spec_TimesInGlass.l0 k x0 t419 x16 x17 (wrap64 (x18 + 1)))) else (spec_TimesInGlass.l0 k x0 x6 x16 x17 (wrap64 (x18 + 1))))) else (none)) else (none)) else (some (x6, true))
def spec_TimesInGlass.f (k : Nat) (a0 : Int) (a1_0 : Int) (a1_1 : Int) (a1_2 : Int) (a1_3 : Int) : Option ((List (S23)) × Bool) := (spec_seAsked.f k a0 a1_0 a1_1 a1_2 a1_3).bind fun t408 => (if t408 = true then ((spec_seMirror.f k a1_0 a1_1 a1_2 a1_3).bind fun bt409 => ((some (([(⟨(⟨a1_0, a1_1⟩ : S23), (⟨a1_2, a1_3⟩ : S23)⟩ : S25), (⟨(⟨bt409.1, bt409.2.1⟩ : S23), (⟨bt409.2.2.1, bt409.2.2.2⟩ : S23)⟩ : S25)] : List (S25)) : List (S25))).bind fun y413 => (spec_TimesInGlass.l0 k a0 ([] : List (S23)) y413 (y413.length : Int) 0))) else (some (([] : List (S23)), false)))
theorem spec_TimesInGlass.mono_l : ∀ k, (∀ y0 y1 y2 y3 y4, LeO (spec_TimesInGlass.l0 k y0 y1 y2 y3 y4) (spec_TimesInGlass.l0 (k + 1) y0 y1 y2 y3 y4))
 | 0 => fun _ _ _ _ _ r h => by simp [spec_TimesInGlass.l0] at h
 | k + 1 => by
  have ih0 := spec_TimesInGlass.mono_l k
  ·
   intro y0 y1 y2 y3 y4
   unfold spec_TimesInGlass.l0
   repeat' first
   | (with_reducible exact ih0 _ _ _ _ _)
   | (with_reducible exact spec_seAsked.mono _ _ _ _ _ _)
   | (with_reducible exact spec_seMirror.mono _ _ _ _ _)
   | (with_reducible exact spec_sePut.mono _ _ _ _)
   | (with_reducible exact spec_seTrue.mono _ _ _ _ _ _)
   | (with_reducible exact LeO.refl _)
   | (with_reducible exact LeO.none _)
   | (with_reducible refine LeO.ite ?_ ?_)
   | (with_reducible refine LeO.bind ?_ (fun _ => ?_))
   | exact ih0 _ _ _ _ _
   | exact spec_seAsked.mono _ _ _ _ _ _
   | exact spec_seMirror.mono _ _ _ _ _
   | exact spec_sePut.mono _ _ _ _
   | exact spec_seTrue.mono _ _ _ _ _ _
   | exact LeO.none _
   | refine LeO.ite ?_ ?_
   | refine LeO.bind ?_ (fun _ => ?_)
theorem spec_TimesInGlass.mono : ∀ a0 a1 a2 a3 a4 k, LeO (spec_TimesInGlass.f k a0 a1 a2 a3 a4) (spec_TimesInGlass.f (k + 1) a0 a1 a2 a3 a4) := by
 intro a0 a1 a2 a3 a4 k
 have ih0 := spec_TimesInGlass.mono_l k
 unfold spec_TimesInGlass.f
 repeat' first
   | (with_reducible exact ih0 _ _ _ _ _)
   | (with_reducible exact spec_seAsked.mono _ _ _ _ _ _)
   | (with_reducible exact spec_seMirror.mono _ _ _ _ _)
   | (with_reducible exact spec_sePut.mono _ _ _ _)
   | (with_reducible exact spec_seTrue.mono _ _ _ _ _ _)
   | (with_reducible exact LeO.refl _)
   | (with_reducible exact LeO.none _)
   | (with_reducible refine LeO.ite ?_ ?_)
   | (with_reducible refine LeO.bind ?_ (fun _ => ?_))
   | exact ih0 _ _ _ _ _
   | exact spec_seAsked.mono _ _ _ _ _ _
   | exact spec_seMirror.mono _ _ _ _ _
   | exact spec_sePut.mono _ _ _ _
   | exact spec_seTrue.mono _ _ _ _ _ _
   | exact LeO.none _
   | refine LeO.ite ?_ ?_
   | refine LeO.bind ?_ (fun _ => ?_)
set_option maxHeartbeats 8000000 in
set_option maxRecDepth 100000 in
theorem spec_TimesInGlass.calls (k : Nat) (a0 : Int) (a1_0 : Int) (a1_1 : Int) (a1_2 : Int) (a1_3 : Int) (r1 : List (S23)) (r2 : Bool) (w : World) (h : spec_TimesInGlass.f k a0 a1_0 a1_1 a1_2 a1_3 = some (r1, r2)) :
  Calls Try.prog 37 #[.int .i64 a0, .agg #[.int .i64 a1_0, .int .i64 a1_1, .int .i64 a1_2, .int .i64 a1_3]] w fun e w' => ∃ v0_ : Value, e = .returned (.tuple #[v0_, .bool r2]) ∧ Kd.R k23 23 w' w.heap.size (fun _ => True) v0_ r1 ∧ Below w.heap.size w w' := by
 have hu25 := Try.underlying25
 have hu23 := Try.underlying23
 have HB := Aside0.mk (Below.refl w.heap.size w)
 have H : ((spec_seAsked.f k a0 a1_0 a1_1 a1_2 a1_3).bind fun t408 => (if t408 = true then ((spec_seMirror.f k a1_0 a1_1 a1_2 a1_3).bind fun bt409 => ((some (([(⟨(⟨a1_0, a1_1⟩ : S23), (⟨a1_2, a1_3⟩ : S23)⟩ : S25), (⟨(⟨bt409.1, bt409.2.1⟩ : S23), (⟨bt409.2.2.1, bt409.2.2.2⟩ : S23)⟩ : S25)] : List (S25)) : List (S25))).bind fun y413 => (spec_TimesInGlass.l0 k a0 ([] : List (S23)) y413 (y413.length : Int) 0))) else (some (([] : List (S23)), false)))) = some (r1, r2) := h
 clear h
 replace H := Option.bind_eq_some_iff.mp H
 obtain ⟨t408, A30, H⟩ := H
 replace H : (if t408 = true then ((spec_seMirror.f k a1_0 a1_1 a1_2 a1_3).bind fun bt409 => ((some (([(⟨(⟨a1_0, a1_1⟩ : S23), (⟨a1_2, a1_3⟩ : S23)⟩ : S25), (⟨(⟨bt409.1, bt409.2.1⟩ : S23), (⟨bt409.2.2.1, bt409.2.2.2⟩ : S23)⟩ : S25)] : List (S25)) : List (S25))).bind fun y413 => (spec_TimesInGlass.l0 k a0 ([] : List (S23)) y413 (y413.length : Int) 0))) else (some (([] : List (S23)), false))) = some (r1, r2) := H
 have A3 := Aside0.mk A30
 clear A30
 by_cases c4 : t408 = true
 ·
  subst c4
  have H1 : ((spec_seMirror.f k a1_0 a1_1 a1_2 a1_3).bind fun bt409 => ((some (([(⟨(⟨a1_0, a1_1⟩ : S23), (⟨a1_2, a1_3⟩ : S23)⟩ : S25), (⟨(⟨bt409.1, bt409.2.1⟩ : S23), (⟨bt409.2.2.1, bt409.2.2.2⟩ : S23)⟩ : S25)] : List (S25)) : List (S25))).bind fun y413 => (spec_TimesInGlass.l0 k a0 ([] : List (S23)) y413 (y413.length : Int) 0))) = some (r1, r2) := by rw [if_pos rfl] at H; exact H
  clear H
  have H := H1
  clear H1
  replace H := Option.bind_eq_some_iff.mp H
  obtain ⟨⟨t409, t410, t411, t412⟩, A50, H⟩ := H
  replace H : ((some (([(⟨(⟨a1_0, a1_1⟩ : S23), (⟨a1_2, a1_3⟩ : S23)⟩ : S25), (⟨(⟨t409, t410⟩ : S23), (⟨t411, t412⟩ : S23)⟩ : S25)] : List (S25)) : List (S25))).bind fun y413 => (spec_TimesInGlass.l0 k a0 ([] : List (S23)) y413 (y413.length : Int) 0)) = some (r1, r2) := H
  have A5 := Aside0.mk A50
  clear A50
  obtain ⟨y413, hy413⟩ : ∃ y_ : List (S25), y_ = (([(⟨(⟨a1_0, a1_1⟩ : S23), (⟨a1_2, a1_3⟩ : S23)⟩ : S25), (⟨(⟨t409, t410⟩ : S23), (⟨t411, t412⟩ : S23)⟩ : S25)] : List (S25))) := ⟨_, rfl⟩
  replace H : (spec_TimesInGlass.l0 k a0 ([] : List (S23)) y413 (y413.length : Int) 0) = some (r1, r2) := by first | (rw [hy413]; with_reducible exact H) | (have H2_ := (Option.bind_some _ _).symm.trans H; rw [hy413]; with_reducible exact H2_) | (have H2_ := (Option.bind_some _ _).symm.trans H; with_reducible exact H2_) | with_reducible exact H | (rw [hy413]; exact H) | exact H
  have Ny413 := Aside0.mk hy413
  clear hy413
  have H' := Aside0.mk H
  clear H
  go_enter Try.func37, Try.ntmps37
  try go_wp2_with (first | ((with_reducible refine gate_dst (N := 3) rfl ?_); refine be_ (N := 3) (cs := #[.int .i64 a1_0, .int .i64 a1_1, .int .i64 a1_2, .int .i64 a1_3]) (t := 25) ?_; intro gb407 hg w6 hbox hb; have BK407 := Aside0.mk (hbox); have GW407 := ge_ HB hg; have GE407 := ge_ HB hg; replace HB := hs HB hb; clear hb hbox hg; have hcz7_0 := cz_ BK407 0 (.int .i64 a1_0); have hcz7_1 := cz_ BK407 1 (.int .i64 a1_1); have hcz7_2 := cz_ BK407 2 (.int .i64 a1_2); have hcz7_3 := cz_ BK407 3 (.int .i64 a1_3); have hfz7_0 := blk_frozen BK407.out 0; have hfz7_1 := blk_frozen BK407.out 1; have hfz7_2 := blk_frozen BK407.out 2; have hfz7_3 := blk_frozen BK407.out 3) | ((with_reducible refine gate_callee (f := 61) rfl ?_); refine gs_ (some 11) Try.func61 #[.int .i64 a0, .agg #[.int .i64 a1_0, .int .i64 a1_1, .int .i64 a1_2, .int .i64 a1_3]] ?_; (with_reducible refine (spec_seAsked.calls k a0 a1_0 a1_1 a1_2 a1_3 true _ A3.out).mono ?_); rintro e w8 ⟨rfl, hb⟩; refine ⟨_, rfl, ?_⟩; replace BK407 := bb BK407 hb; replace HB := hs HB hb; (try clear hb); (try clear hb2); (try clear hk); (try clear hi)))
  replace BK407 := Aside0.mk (blk_drew BK407.out)
  replace HB := Aside0.mk (below_drew1 HB.out)
  refine start_ (n := 6) (S := fun w' => w'.cell? ⟨gb407, 0, none⟩ = some (.int .i64 a1_0) ∧ w'.cell? ⟨gb407, 1, none⟩ = some (.int .i64 a1_1) ∧ w'.cell? ⟨gb407, 2, none⟩ = some (.int .i64 a1_2) ∧ w'.cell? ⟨gb407, 3, none⟩ = some (.int .i64 a1_3)) (ds := []) #[false, false, false, false, false, false] (by kernel_rfl) rfl rfl ⟨(blk_cell BK407.out 0).trans rfl, (blk_cell BK407.out 1).trans rfl, (blk_cell BK407.out 2).trans rfl, (blk_cell BK407.out 3).trans rfl⟩ (fun hHeld => ?_)
  generalize w8.drew = w9 at BK407 HB hHeld ⊢
  refine pure_ (i := 5) (N := some 18) (v := ?_) (a' := ?_) #[false, false, false, false, false, true] rfl rfl (by kernel_rfl) (fun _ _ _ h => h) (Or.inl ⟨by rfl, ?_⟩) ?_ ?_
  rotate_left
  ·
   intro w'
   go_simp
   with_reducible rfl
  rotate_left
  ·
   simp only [Act.put, List.setIfInBounds_toArray, List.set_cons_zero, List.set_cons_succ, i64_w, i32_w]
   rfl
  refine take_ (i := 0) (N := some 13) (v := ?_) (a' := ?_) #[true, false, false, false, false, true] rfl rfl (by kernel_rfl) (fun _ _ _ h => h) (Or.inl ⟨by rfl, ?_⟩) hHeld ?_ ?_
  rotate_left
  ·
   rintro w' ⟨s0, s1, s2, s3⟩
   go_simp
   with_reducible rfl
  rotate_left
  ·
   simp only [Act.put, List.setIfInBounds_toArray, List.set_cons_zero, List.set_cons_succ, i64_w, i32_w]
   rfl
  refine take_ (i := 1) (N := some 14) (v := ?_) (a' := ?_) #[true, true, false, false, false, true] rfl rfl (by kernel_rfl) (fun _ _ _ h => h) (Or.inl ⟨by rfl, ?_⟩) hHeld ?_ ?_
  rotate_left
  ·
   rintro w' ⟨s0, s1, s2, s3⟩
   go_simp
   with_reducible rfl
  rotate_left
  ·
   simp only [Act.put, List.setIfInBounds_toArray, List.set_cons_zero, List.set_cons_succ, i64_w, i32_w]
   rfl
  refine one_ (i := 2) (N := some 15) #[true, true, true, false, false, true] rfl rfl (by kernel_rfl) (by decide) (fun K hK => ?_)
  refine goes_ Try.func59 (by kernel_rfl) rfl #[.agg #[.int .i64 a1_0, .int .i64 a1_1, .int .i64 a1_2, .int .i64 a1_3]] (by rfl) rfl rfl (by (try simp only [List.map_toArray, List.map_cons, List.map_nil]); first | done | rfl | (simp only [List.length_drop, List.length_take]; rfl)) ?_
  with_reducible refine (spec_seMirror.calls k a1_0 a1_1 a1_2 a1_3 t409 t410 t411 t412 _ A5.out).mono ?_
  rintro e w10 ⟨rfl, hb⟩
  refine ⟨_, rfl, ?_⟩
  replace BK407 := bb BK407 hb
  replace HB := hs HB hb
  (try clear hb)
  (try clear hb2)
  (try clear hk)
  (try clear hi)
  refine hK.out _ _ ⟨(blk_cell BK407.out 0).trans rfl, (blk_cell BK407.out 1).trans rfl, (blk_cell BK407.out 2).trans rfl, (blk_cell BK407.out 3).trans rfl⟩ (fun hHeld => ?_)
  clear hK K
  refine norm_ (a' := ?_) ?_ ?_
  rotate_left
  ·
   show Act.put _ (some 15) _ = _
   simp only [Act.put, List.setIfInBounds_toArray, List.set_cons_zero, List.set_cons_succ, i64_w, i32_w]
   rfl
  refine one_ (i := 3) (N := some 16) #[true, true, true, true, false, true] rfl rfl (by kernel_rfl) (by decide) (fun K hK => ?_)
  refine Kd.R_lit_step k25 _ 25 ?hg (N := 16) ?hd (xs := ([(⟨(⟨a1_0, a1_1⟩ : S23), (⟨a1_2, a1_3⟩ : S23)⟩ : S25), (⟨(⟨t409, t410⟩ : S23), (⟨t411, t412⟩ : S23)⟩ : S25)] : List (S25))) (inner := [.int .i64 a1_0, .int .i64 a1_1, .int .i64 a1_2, .int .i64 a1_3, .int .i64 t409, .int .i64 t410, .int .i64 t411, .int .i64 t412]) (ok := fun _ => True) (okp := fun _ => True) ?hr ?hp (fun _ hk => hk) trivial (Below.refl _ _) (Nat.le_refl _) (by simp) ?_; (case hd => rfl); (case hg => rfl); (case hr => first | (go_simp; done) | (go_simp; rfl)); (case hp => exact (Reps.c4 (show Kd.M k25 _ _ _ (⟨(⟨a1_0, a1_1⟩ : S23), (⟨a1_2, a1_3⟩ : S23)⟩ : S25) [.int .i64 a1_0, .int .i64 a1_1, .int .i64 a1_2, .int .i64 a1_3] from (k25_mkM _ _ _ (⟨(⟨a1_0, a1_1⟩ : S23), (⟨a1_2, a1_3⟩ : S23)⟩ : S25) )) (Reps.c4 (show Kd.M k25 _ _ _ (⟨(⟨t409, t410⟩ : S23), (⟨t411, t412⟩ : S23)⟩ : S25) [.int .i64 t409, .int .i64 t410, .int .i64 t411, .int .i64 t412] from (k25_mkM _ _ _ (⟨(⟨t409, t410⟩ : S23), (⟨t411, t412⟩ : S23)⟩ : S25) )) (Reps.none _ _))))
  intro v414 w11 ho12 hb hg_ hnew_
  clear hg_ hnew_
  (first | rw [← Ny413.out] at ho12 | (simp only [Int.reduceToNat] at ho12; rw [← Ny413.out] at ho12))
  have HO415 := Aside0.mk (Kd.R_lower (Kd.R_newB ho12 (g := gb407) (o := .cells #[.int .i64 a1_0, .int .i64 a1_1, .int .i64 a1_2, .int .i64 a1_3] 25 (0, 0)) (by (with_reducible repeat (first | refine blk_drewN ?_ _ | refine blk_drew ?_ | refine blk_alloc ?_ _)); exact BK407.out)) (bs_ HB))
  replace BK407 := bb BK407 hb
  replace HB := hs HB hb
  clear hb ho12
  obtain ⟨Ao13, co13, eo13⟩ := Kd.R_slice HO415.out
  (first | subst eo13 | (injection eo13 with f1_ f2_ f3_; have f4_ := f1_.symm; have f5_ := f3_.symm; clear f1_ f2_ f3_; subst f4_; subst f5_))
  refine hK.out _ _ ⟨(blk_cell BK407.out 0).trans rfl, (blk_cell BK407.out 1).trans rfl, (blk_cell BK407.out 2).trans rfl, (blk_cell BK407.out 3).trans rfl⟩ (fun hHeld => ?_)
  clear hK K
  refine norm_ (a' := ?_) ?_ ?_
  rotate_left
  ·
   show Act.put _ (some 16) _ = _
   simp only [Act.put, List.setIfInBounds_toArray, List.set_cons_zero, List.set_cons_succ, i64_w, i32_w]
   rfl
  refine pure_ (i := 4) (N := some 17) (v := ?_) (a' := ?_) #[true, true, true, true, true, true] rfl rfl (by kernel_rfl) (fun _ _ _ h => h) (Or.inl ⟨by rfl, ?_⟩) ?_ ?_
  rotate_left
  ·
   intro w'
   go_simp
   with_reducible rfl
  rotate_left
  ·
   simp only [Act.put, List.setIfInBounds_toArray, List.set_cons_zero, List.set_cons_succ, i64_w, i32_w]
   rfl
  refine done_ (by kernel_rfl) ?_
  try go_wp2
  go_loopg [6, 18] k (fun kq v6 v18 w' => ∃ (x6_1 : List (S23)) (x18_1 : Int), v18 = .int .i64 x18_1 ∧ Aside0 (spec_TimesInGlass.l0 kq a0 x6_1 y413 (y413.length : Int) x18_1 = some (r1, r2)) ∧ Aside0 (kq ≤ k) ∧ Aside0 (Kd.R k23 23 w' w.heap.size (fun _ => True) v6 x6_1) ∧ Aside0 (Kd.R k25 25 w' w.heap.size (fun k_ => k_ ≠ gb407) (.slice Ao13 y413.length co13) y413) ∧ Aside0 (w'.heap[gb407]? = some (.cells #[.int .i64 a1_0, .int .i64 a1_1, .int .i64 a1_2, .int .i64 a1_3] 25 (0, 0))) ∧ Aside0 (Below w.heap.size w w'))
  case atStart => exact ⟨(([] : List (S23))), (0), (by first | rfl | (simp; done) | (simp [*]; done)), H', ⟨Nat.le_refl _⟩, ⟨by first | exact Kd.R_nil _ _ _ _ _ | exact Kd.N_nil _ _ _ _ _ | exact Kd.V_nil _ _ _ _ _ | exact Kd.Q_nil _ _ _ _ _ | exact Kd.S_nil _ _ _ _ _⟩, ⟨by (with_reducible repeat (first | apply Kd.R_alloc | apply Kd.R_drewN | apply Kd.R_drew)); exact Kd.R_mono HO415.out (fun _ hk => hk.2)⟩, bk_ BK407, hb_ HB⟩
  case round =>
   clear H'
   try clear c4
   obtain ⟨x6_1, x18_1, rfl, HA, HK1, HO_6, HO_16, BK407, HB⟩ := hrel
   cases gk with
   | zero => exact absurd HA.out (by simp [spec_TimesInGlass.l0])
   | succ k1 =>
    have H := HA.out
    clear HA
    simp only [spec_TimesInGlass.l0] at H
    by_cases c14 : x18_1 < (y413.length : Int)
    ·
     rw [if_pos c14] at H
     have c14b0 : decide (x18_1 < (y413.length : Int)) = true := decide_eq_true c14
     clear c14
     by_cases c15 : 0 ≤ x18_1
     ·
      rw [if_pos c15] at H
      have c15b0 : decide (0 ≤ x18_1) = true := decide_eq_true c15
      clear c15
      by_cases c16 : x18_1 < (y413.length : Int)
      ·
       rw [if_pos c16] at H
       have c16b0 : decide (x18_1 < (y413.length : Int)) = true := decide_eq_true c16
       clear c16
       replace H := Option.bind_eq_some_iff.mp H
       obtain ⟨t418, A170, H⟩ := H
       replace H : (if t418 = true then ((spec_sePut.f k1 x6_1 ((rd_T25 y413 x18_1).f0.f0) ((rd_T25 y413 x18_1).f0.f1)).bind fun t419 => (spec_TimesInGlass.l0 k1 a0 t419 y413 (y413.length : Int) (wrap64 (x18_1 + 1)))) else (spec_TimesInGlass.l0 k1 a0 x6_1 y413 (y413.length : Int) (wrap64 (x18_1 + 1)))) = some (r1, r2) := H
       have A17 := Aside0.mk A170
       clear A170
       by_cases c18 : t418 = true
       ·
        subst c18
        have H1 : ((spec_sePut.f k1 x6_1 ((rd_T25 y413 x18_1).f0.f0) ((rd_T25 y413 x18_1).f0.f1)).bind fun t419 => (spec_TimesInGlass.l0 k1 a0 t419 y413 (y413.length : Int) (wrap64 (x18_1 + 1)))) = some (r1, r2) := by rw [if_pos rfl] at H; exact H
        clear H
        have H := H1
        clear H1
        replace H := Option.bind_eq_some_iff.mp H
        obtain ⟨t419, A190, H⟩ := H
        replace H : (spec_TimesInGlass.l0 k1 a0 t419 y413 (y413.length : Int) (wrap64 (x18_1 + 1))) = some (r1, r2) := H
        have A19 := Aside0.mk A190
        clear A190
        as_aux_lemma =>
         have H' := Aside0.mk H
         clear H
         have p416 : 0 ≤ (x18_1 : Int) := of_decide_eq_true (by first | (with_reducible assumption) | assumption)
         have q416 : x18_1 < (y413.length : Int) := of_decide_eq_true (by first | (with_reducible assumption) | assumption)
         obtain ⟨ad416, e416, hx416_0, hx416_1, hx416_2, hx416_3⟩ := at_T25 (Kd.R_reads' HO_16.out).2.2 x18_1 p416 q416
         cases e416
         replace p416 := eq_true p416
         replace q416 := eq_true q416
         go_wp2_with (first | ((with_reducible refine gate_dst (N := 8) rfl ?_); refine be_ (N := 8) (cs := #[.int .i64 0, .int .i64 0, .int .i64 0, .int .i64 0]) (t := 25) ?_; intro gb417 hg w20 hbox hb; have BK417 := Aside0.mk (hbox); have GW417 := ge_ HB hg; have GE417 := ge_ HB hg; obtain ⟨NB407_417, NB417_407⟩ := nq_ BK407 hg; replace HO_6 := hr_ HO_6 hb; replace HO_16 := Aside0.mk (Kd.R_below (Kd.R_elderB (by (with_reducible repeat (first | apply Kd.R_alloc | apply Kd.R_drewN | apply Kd.R_drew)); exact HO_16.out) gb417 (Nat.le_of_eq hg.symm)) hb); replace BK407 := bb BK407 hb; replace HB := hs HB hb; clear hb hbox hg; obtain ⟨hnb21, hnc21⟩ := nn_ NB417_407; have hcz22_0 := cz_ BK417 0 (.int .i64 0); have hcz22_1 := cz_ BK417 1 (.int .i64 0); have hcz22_2 := cz_ BK417 2 (.int .i64 0); have hcz22_3 := cz_ BK417 3 (.int .i64 0); have hfz22_0 := blk_frozen BK417.out 0; have hfz22_1 := blk_frozen BK417.out 1; have hfz22_2 := blk_frozen BK417.out 2; have hfz22_3 := blk_frozen BK417.out 3) | ((with_reducible refine gate_callee (f := 44) rfl ?_); refine gs_ (some 24) Try.func44 #[.int .i64 a0, .agg #[.int .i64 ((rd_T25 y413 x18_1).f0.f0), .int .i64 ((rd_T25 y413 x18_1).f0.f1), .int .i64 ((rd_T25 y413 x18_1).f1.f0), .int .i64 ((rd_T25 y413 x18_1).f1.f1)]] ?_; (with_reducible refine (spec_seTrue.calls k1 a0 ((rd_T25 y413 x18_1).f0.f0) ((rd_T25 y413 x18_1).f0.f1) ((rd_T25 y413 x18_1).f1.f0) ((rd_T25 y413 x18_1).f1.f1) true _ A17.out).mono ?_); rintro e w23 ⟨rfl, hb⟩; refine ⟨_, rfl, ?_⟩; replace HO_6 := hr_ ⟨(Kd.R_mono (Kd.R_far (p := ⟨gb417, 3, none⟩) (Kd.R_far (p := ⟨gb417, 2, none⟩) (Kd.R_far (p := ⟨gb417, 1, none⟩) (Kd.R_far (p := ⟨gb417, 0, none⟩) (Kd.R_types HO_6.out BK417.out (by decide)) (fun _ hk => hk.2) (.int .i64 ((rd_T25 y413 x18_1).f0.f0))) (fun _ hk => hk.2) (.int .i64 ((rd_T25 y413 x18_1).f0.f1))) (fun _ hk => hk.2) (.int .i64 ((rd_T25 y413 x18_1).f1.f0))) (fun _ hk => hk.2) (.int .i64 ((rd_T25 y413 x18_1).f1.f1))) (fun _ h_ => h_.1))⟩ hb; replace HO_16 := hr_ ⟨(Kd.R_mono (Kd.R_far (p := ⟨gb417, 3, none⟩) (Kd.R_far (p := ⟨gb417, 2, none⟩) (Kd.R_far (p := ⟨gb417, 1, none⟩) (Kd.R_far (p := ⟨gb417, 0, none⟩) (Kd.R_mono HO_16.out (fun k_ hk => (⟨hk, hk.2⟩ : _ ∧ k_ ≠ gb417))) (fun _ hk => hk.2) (.int .i64 ((rd_T25 y413 x18_1).f0.f0))) (fun _ hk => hk.2) (.int .i64 ((rd_T25 y413 x18_1).f0.f1))) (fun _ hk => hk.2) (.int .i64 ((rd_T25 y413 x18_1).f1.f0))) (fun _ hk => hk.2) (.int .i64 ((rd_T25 y413 x18_1).f1.f1))) (fun _ h_ => h_.1))⟩ hb; replace BK407 := bb BK407 hb; replace BK417 := Aside0.mk (blk_below (g := gb417) (o := .cells #[.int .i64 ((rd_T25 y413 x18_1).f0.f0), .int .i64 ((rd_T25 y413 x18_1).f0.f1), .int .i64 ((rd_T25 y413 x18_1).f1.f0), .int .i64 ((rd_T25 y413 x18_1).f1.f1)] 25 (0, 0)) (by (with_reducible repeat (first | refine blk_drewN ?_ _ | refine blk_drew ?_ | refine blk_alloc ?_ _)); refine blk_put (cs := #[.int .i64 ((rd_T25 y413 x18_1).f0.f0), .int .i64 ((rd_T25 y413 x18_1).f0.f1), .int .i64 ((rd_T25 y413 x18_1).f1.f0), .int .i64 0]) ?_ 3 _ rfl; (with_reducible repeat (first | refine blk_drewN ?_ _ | refine blk_drew ?_ | refine blk_alloc ?_ _)); refine blk_put (cs := #[.int .i64 ((rd_T25 y413 x18_1).f0.f0), .int .i64 ((rd_T25 y413 x18_1).f0.f1), .int .i64 0, .int .i64 0]) ?_ 2 _ rfl; (with_reducible repeat (first | refine blk_drewN ?_ _ | refine blk_drew ?_ | refine blk_alloc ?_ _)); refine blk_put (cs := #[.int .i64 ((rd_T25 y413 x18_1).f0.f0), .int .i64 0, .int .i64 0, .int .i64 0]) ?_ 1 _ rfl; (with_reducible repeat (first | refine blk_drewN ?_ _ | refine blk_drew ?_ | refine blk_alloc ?_ _)); refine blk_put (cs := #[.int .i64 0, .int .i64 0, .int .i64 0, .int .i64 0]) ?_ 0 _ rfl; (with_reducible repeat (first | refine blk_drewN ?_ _ | refine blk_drew ?_ | refine blk_alloc ?_ _)); exact BK417.out) hb); replace HB := hs HB hb; (try clear hb); (try clear hb2); (try clear hk); (try clear hi); have hcz24_0 := cz_ BK417 0 (.int .i64 ((rd_T25 y413 x18_1).f0.f0)); have hcz24_1 := cz_ BK417 1 (.int .i64 ((rd_T25 y413 x18_1).f0.f1)); have hcz24_2 := cz_ BK417 2 (.int .i64 ((rd_T25 y413 x18_1).f1.f0)); have hcz24_3 := cz_ BK417 3 (.int .i64 ((rd_T25 y413 x18_1).f1.f1)); have hfz24_0 := blk_frozen BK417.out 0; have hfz24_1 := blk_frozen BK417.out 1; have hfz24_2 := blk_frozen BK417.out 2; have hfz24_3 := blk_frozen BK417.out 3; obtain ⟨Ao25, co25, eo25⟩ := Kd.R_slice HO_6.out; subst eo25) | ((with_reducible refine gate_callee (f := 62) rfl ?_); refine gs_ (some 28) Try.func62 #[.slice Ao25 x6_1.length co25, .agg #[.int .i64 ((rd_T25 y413 x18_1).f0.f0), .int .i64 ((rd_T25 y413 x18_1).f0.f1)]] ?_; (with_reducible refine (spec_sePut.calls k1 (fun k_ => some k_ = (.slice Ao25 x6_1.length co25 : Value).ownBlock) (.slice Ao25 x6_1.length co25) x6_1 ((rd_T25 y413 x18_1).f0.f0) ((rd_T25 y413 x18_1).f0.f1) t419 w _ ?side1 ?side2 A19.out).mono ?_); (case side1 => repeat (first | (with_reducible first | exact HB.out | apply below_alloc | apply pw_below_drewN | apply below_drew1 | refine below_set ?_ GE407.out | refine below_set ?_ GE417.out) | exact HB.out)); (case side2 => exact Kd.R_tight rfl HO_6.out); rintro e w26 ⟨v420, rfl, ho0, hb, hkp⟩; refine ⟨_, rfl, ?_⟩; have n0_ := Aside0.mk (Kd.R_mono (ok' := fun k_ => k_ ≠ gb407 ∧ k_ ≠ gb417) (Kd.R_keptB ((Kd.R_apart' HO_16.out (Kd.R_typed HO_6.out) (by decide))) hkp (fun k_ hk_ hs_ => (hk_.2) hs_)) (fun k_ hk_ => ⟨hk_.1.1.1, hk_.1.1.2⟩)); have n1_ := Aside0.mk (blk_kept (by (with_reducible repeat (first | refine blk_drewN ?_ _ | refine blk_drew ?_ | refine blk_alloc ?_ _)); exact BK407.out) hkp (fun hs_ => (fun e_ => (Kd.R_ne HO_6.out BK407.out (by decide)) e_) hs_)); have n2_ := Aside0.mk (blk_kept (by (with_reducible repeat (first | refine blk_drewN ?_ _ | refine blk_drew ?_ | refine blk_alloc ?_ _)); exact BK417.out) hkp (fun hs_ => (fun e_ => (Kd.R_ne HO_6.out BK417.out (by decide)) e_) hs_)); have n3_ := Aside0.mk (Kd.R_mono (ok' := fun k_ => True) ho0 (fun k_ hk_ => trivial)); have n4_ := Aside0.mk (hb); clear HO_16; clear BK407; clear BK417; clear HB; clear HO_6; have HO_16 := n0_; have BK407 := n1_; have BK417 := n2_; have HO421 := n3_; have HB := n4_; clear n0_ n1_ n2_ n3_ n4_; (try clear hb); (try clear hkp); (try clear ho0)))
         go_roundg k1
         case measure => have := HK1.out; omega
         case rel => exact ⟨(t419), (wrap64 (x18_1 + 1)), (by first | rfl | (simp; done) | (simp [*]; done)), H', ⟨by have := HK1.out; omega⟩, ⟨by (with_reducible repeat (first | apply Kd.R_alloc | apply Kd.R_drewN | apply Kd.R_drew)); exact HO421.out⟩, ⟨by (with_reducible repeat (first | apply Kd.R_alloc | apply Kd.R_drewN | apply Kd.R_drew)); exact Kd.R_mono HO_16.out (fun _ hk => hk.1)⟩, bk_ BK407, hb_ HB⟩
       ·
        replace c18 := Bool.eq_false_iff.mpr c18
        subst c18
        have H1 : (spec_TimesInGlass.l0 k1 a0 x6_1 y413 (y413.length : Int) (wrap64 (x18_1 + 1))) = some (r1, r2) := by rw [if_neg (show ¬ (false = true) by decide)] at H; exact H
        clear H
        have H := H1
        clear H1
        as_aux_lemma =>
         have H' := Aside0.mk H
         clear H
         have p416 : 0 ≤ (x18_1 : Int) := of_decide_eq_true (by first | (with_reducible assumption) | assumption)
         have q416 : x18_1 < (y413.length : Int) := of_decide_eq_true (by first | (with_reducible assumption) | assumption)
         obtain ⟨ad416, e416, hx416_0, hx416_1, hx416_2, hx416_3⟩ := at_T25 (Kd.R_reads' HO_16.out).2.2 x18_1 p416 q416
         cases e416
         replace p416 := eq_true p416
         replace q416 := eq_true q416
         go_wp2_with (first | ((with_reducible refine gate_dst (N := 8) rfl ?_); refine be_ (N := 8) (cs := #[.int .i64 0, .int .i64 0, .int .i64 0, .int .i64 0]) (t := 25) ?_; intro gb417 hg w27 hbox hb; have BK417 := Aside0.mk (hbox); have GW417 := ge_ HB hg; have GE417 := ge_ HB hg; obtain ⟨NB407_417, NB417_407⟩ := nq_ BK407 hg; replace HO_6 := hr_ HO_6 hb; replace HO_16 := Aside0.mk (Kd.R_below (Kd.R_elderB (by (with_reducible repeat (first | apply Kd.R_alloc | apply Kd.R_drewN | apply Kd.R_drew)); exact HO_16.out) gb417 (Nat.le_of_eq hg.symm)) hb); replace BK407 := bb BK407 hb; replace HB := hs HB hb; clear hb hbox hg; obtain ⟨hnb28, hnc28⟩ := nn_ NB417_407; have hcz29_0 := cz_ BK417 0 (.int .i64 0); have hcz29_1 := cz_ BK417 1 (.int .i64 0); have hcz29_2 := cz_ BK417 2 (.int .i64 0); have hcz29_3 := cz_ BK417 3 (.int .i64 0); have hfz29_0 := blk_frozen BK417.out 0; have hfz29_1 := blk_frozen BK417.out 1; have hfz29_2 := blk_frozen BK417.out 2; have hfz29_3 := blk_frozen BK417.out 3) | ((with_reducible refine gate_callee (f := 44) rfl ?_); refine gs_ (some 24) Try.func44 #[.int .i64 a0, .agg #[.int .i64 ((rd_T25 y413 x18_1).f0.f0), .int .i64 ((rd_T25 y413 x18_1).f0.f1), .int .i64 ((rd_T25 y413 x18_1).f1.f0), .int .i64 ((rd_T25 y413 x18_1).f1.f1)]] ?_; (with_reducible refine (spec_seTrue.calls k1 a0 ((rd_T25 y413 x18_1).f0.f0) ((rd_T25 y413 x18_1).f0.f1) ((rd_T25 y413 x18_1).f1.f0) ((rd_T25 y413 x18_1).f1.f1) false _ A17.out).mono ?_); rintro e w30 ⟨rfl, hb⟩; refine ⟨_, rfl, ?_⟩; replace HO_6 := hr_ ⟨(Kd.R_mono (Kd.R_far (p := ⟨gb417, 3, none⟩) (Kd.R_far (p := ⟨gb417, 2, none⟩) (Kd.R_far (p := ⟨gb417, 1, none⟩) (Kd.R_far (p := ⟨gb417, 0, none⟩) (Kd.R_types HO_6.out BK417.out (by decide)) (fun _ hk => hk.2) (.int .i64 ((rd_T25 y413 x18_1).f0.f0))) (fun _ hk => hk.2) (.int .i64 ((rd_T25 y413 x18_1).f0.f1))) (fun _ hk => hk.2) (.int .i64 ((rd_T25 y413 x18_1).f1.f0))) (fun _ hk => hk.2) (.int .i64 ((rd_T25 y413 x18_1).f1.f1))) (fun _ h_ => h_.1))⟩ hb; replace HO_16 := hr_ ⟨(Kd.R_mono (Kd.R_far (p := ⟨gb417, 3, none⟩) (Kd.R_far (p := ⟨gb417, 2, none⟩) (Kd.R_far (p := ⟨gb417, 1, none⟩) (Kd.R_far (p := ⟨gb417, 0, none⟩) (Kd.R_mono HO_16.out (fun k_ hk => (⟨hk, hk.2⟩ : _ ∧ k_ ≠ gb417))) (fun _ hk => hk.2) (.int .i64 ((rd_T25 y413 x18_1).f0.f0))) (fun _ hk => hk.2) (.int .i64 ((rd_T25 y413 x18_1).f0.f1))) (fun _ hk => hk.2) (.int .i64 ((rd_T25 y413 x18_1).f1.f0))) (fun _ hk => hk.2) (.int .i64 ((rd_T25 y413 x18_1).f1.f1))) (fun _ h_ => h_.1))⟩ hb; replace BK407 := bb BK407 hb; replace BK417 := Aside0.mk (blk_below (g := gb417) (o := .cells #[.int .i64 ((rd_T25 y413 x18_1).f0.f0), .int .i64 ((rd_T25 y413 x18_1).f0.f1), .int .i64 ((rd_T25 y413 x18_1).f1.f0), .int .i64 ((rd_T25 y413 x18_1).f1.f1)] 25 (0, 0)) (by (with_reducible repeat (first | refine blk_drewN ?_ _ | refine blk_drew ?_ | refine blk_alloc ?_ _)); refine blk_put (cs := #[.int .i64 ((rd_T25 y413 x18_1).f0.f0), .int .i64 ((rd_T25 y413 x18_1).f0.f1), .int .i64 ((rd_T25 y413 x18_1).f1.f0), .int .i64 0]) ?_ 3 _ rfl; (with_reducible repeat (first | refine blk_drewN ?_ _ | refine blk_drew ?_ | refine blk_alloc ?_ _)); refine blk_put (cs := #[.int .i64 ((rd_T25 y413 x18_1).f0.f0), .int .i64 ((rd_T25 y413 x18_1).f0.f1), .int .i64 0, .int .i64 0]) ?_ 2 _ rfl; (with_reducible repeat (first | refine blk_drewN ?_ _ | refine blk_drew ?_ | refine blk_alloc ?_ _)); refine blk_put (cs := #[.int .i64 ((rd_T25 y413 x18_1).f0.f0), .int .i64 0, .int .i64 0, .int .i64 0]) ?_ 1 _ rfl; (with_reducible repeat (first | refine blk_drewN ?_ _ | refine blk_drew ?_ | refine blk_alloc ?_ _)); refine blk_put (cs := #[.int .i64 0, .int .i64 0, .int .i64 0, .int .i64 0]) ?_ 0 _ rfl; (with_reducible repeat (first | refine blk_drewN ?_ _ | refine blk_drew ?_ | refine blk_alloc ?_ _)); exact BK417.out) hb); replace HB := hs HB hb; (try clear hb); (try clear hb2); (try clear hk); (try clear hi)))
         go_roundg k1
         case measure => have := HK1.out; omega
         case rel => exact ⟨(x6_1), (wrap64 (x18_1 + 1)), (by first | rfl | (simp; done) | (simp [*]; done)), H', ⟨by have := HK1.out; omega⟩, ⟨by (with_reducible repeat (first | apply Kd.R_alloc | apply Kd.R_drewN | apply Kd.R_drew)); exact HO_6.out⟩, ⟨by (with_reducible repeat (first | apply Kd.R_alloc | apply Kd.R_drewN | apply Kd.R_drew)); exact Kd.R_mono HO_16.out (fun _ hk => hk.1)⟩, bk_ BK407, hb_ HB⟩
      ·
       rw [if_neg c16] at H
       exact absurd H (by simp)
     ·
      rw [if_neg c15] at H
      exact absurd H (by simp)
    ·
     rw [if_neg c14] at H
     have c14b0 : decide (x18_1 < (y413.length : Int)) = false := decide_eq_false c14
     clear c14
     as_aux_lemma =>
      simp only [Option.some.injEq, Prod.mk.injEq] at H
      obtain ⟨rfl, rfl⟩ := H
      go_wp2
      go_ret2
      exact ⟨_, by first | rfl | (simp [errW_none, errW_some] <;> rfl) | (simp [*, errW_none, errW_some] <;> rfl), by (with_reducible repeat (first | apply Kd.R_alloc | apply Kd.R_drewN | apply Kd.R_drew)); exact HO_6.out, (ho_ HB)⟩
 ·
  replace c4 := Bool.eq_false_iff.mpr c4
  subst c4
  have H1 : (some (([] : List (S23)), false)) = some (r1, r2) := by rw [if_neg (show ¬ (false = true) by decide)] at H; exact H
  clear H
  have H := H1
  clear H1
  as_aux_lemma =>
   simp only [Option.some.injEq, Prod.mk.injEq] at H
   obtain ⟨rfl, rfl⟩ := H
   go_enter Try.func37, Try.ntmps37
   go_wp2_with (first | ((with_reducible refine gate_dst (N := 3) rfl ?_); refine be_ (N := 3) (cs := #[.int .i64 a1_0, .int .i64 a1_1, .int .i64 a1_2, .int .i64 a1_3]) (t := 25) ?_; intro gb407 hg w31 hbox hb; have BK407 := Aside0.mk (hbox); have GW407 := ge_ HB hg; have GE407 := ge_ HB hg; replace HB := hs HB hb; clear hb hbox hg; have hcz32_0 := cz_ BK407 0 (.int .i64 a1_0); have hcz32_1 := cz_ BK407 1 (.int .i64 a1_1); have hcz32_2 := cz_ BK407 2 (.int .i64 a1_2); have hcz32_3 := cz_ BK407 3 (.int .i64 a1_3); have hfz32_0 := blk_frozen BK407.out 0; have hfz32_1 := blk_frozen BK407.out 1; have hfz32_2 := blk_frozen BK407.out 2; have hfz32_3 := blk_frozen BK407.out 3) | ((with_reducible refine gate_callee (f := 61) rfl ?_); refine gs_ (some 11) Try.func61 #[.int .i64 a0, .agg #[.int .i64 a1_0, .int .i64 a1_1, .int .i64 a1_2, .int .i64 a1_3]] ?_; (with_reducible refine (spec_seAsked.calls k a0 a1_0 a1_1 a1_2 a1_3 false _ A3.out).mono ?_); rintro e w33 ⟨rfl, hb⟩; refine ⟨_, rfl, ?_⟩; replace BK407 := bb BK407 hb; replace HB := hs HB hb; (try clear hb); (try clear hb2); (try clear hk); (try clear hi)))
   go_ret2
   exact ⟨_, by first | rfl | (simp [errW_none, errW_some] <;> rfl) | (simp [*, errW_none, errW_some] <;> rfl), by first | exact Kd.R_nil _ _ _ _ _ | exact Kd.N_nil _ _ _ _ _ | exact Kd.V_nil _ _ _ _ _ | exact Kd.Q_nil _ _ _ _ _ | exact Kd.S_nil _ _ _ _ _, (ho_ HB)⟩

/-! ### spec_MirrorSeen: function 38 -/
def spec_MirrorSeen.f (k : Nat) (a0_0 : Int) (a0_1 : Int) (a0_2 : Int) (a0_3 : Int) : Option (Int × Int × Int × Int × Bool) := (spec_seGood.f k a0_0 a0_1 a0_2 a0_3).bind fun t424 => (if t424 = true then ((spec_seMirror.f k a0_0 a0_1 a0_2 a0_3).bind fun bt425 => (some (bt425.1, bt425.2.1, bt425.2.2.1, bt425.2.2.2, true))) else (some (0, 0, 0, 0, false)))
theorem spec_MirrorSeen.mono : ∀ a0 a1 a2 a3 k, LeO (spec_MirrorSeen.f k a0 a1 a2 a3) (spec_MirrorSeen.f (k + 1) a0 a1 a2 a3) := by
 intro a0 a1 a2 a3 k
 unfold spec_MirrorSeen.f
 repeat' first
   | (with_reducible exact spec_seGood.mono _ _ _ _ _)
   | (with_reducible exact spec_seMirror.mono _ _ _ _ _)
   | (with_reducible exact LeO.refl _)
   | (with_reducible exact LeO.none _)
   | (with_reducible refine LeO.ite ?_ ?_)
   | (with_reducible refine LeO.bind ?_ (fun _ => ?_))
   | exact spec_seGood.mono _ _ _ _ _
   | exact spec_seMirror.mono _ _ _ _ _
   | exact LeO.none _
   | refine LeO.ite ?_ ?_
   | refine LeO.bind ?_ (fun _ => ?_)
set_option maxHeartbeats 8000000 in
set_option maxRecDepth 100000 in
theorem spec_MirrorSeen.calls (k : Nat) (a0_0 : Int) (a0_1 : Int) (a0_2 : Int) (a0_3 : Int) (r1 : Int) (r2 : Int) (r3 : Int) (r4 : Int) (r5 : Bool) (w : World) (h : spec_MirrorSeen.f k a0_0 a0_1 a0_2 a0_3 = some (r1, r2, r3, r4, r5)) :
  Calls Try.prog 38 #[.agg #[.int .i64 a0_0, .int .i64 a0_1, .int .i64 a0_2, .int .i64 a0_3]] w fun e w' => e = .returned (.tuple #[.agg #[.int .i64 r1, .int .i64 r2, .int .i64 r3, .int .i64 r4], .bool r5]) ∧ Below w.heap.size w w' := by
 have hu25 := Try.underlying25
 have HB := Aside0.mk (Below.refl w.heap.size w)
 have H : ((spec_seGood.f k a0_0 a0_1 a0_2 a0_3).bind fun t424 => (if t424 = true then ((spec_seMirror.f k a0_0 a0_1 a0_2 a0_3).bind fun bt425 => (some (bt425.1, bt425.2.1, bt425.2.2.1, bt425.2.2.2, true))) else (some (0, 0, 0, 0, false)))) = some (r1, r2, r3, r4, r5) := h
 clear h
 replace H := Option.bind_eq_some_iff.mp H
 obtain ⟨t424, A20, H⟩ := H
 replace H : (if t424 = true then ((spec_seMirror.f k a0_0 a0_1 a0_2 a0_3).bind fun bt425 => (some (bt425.1, bt425.2.1, bt425.2.2.1, bt425.2.2.2, true))) else (some (0, 0, 0, 0, false))) = some (r1, r2, r3, r4, r5) := H
 have A2 := Aside0.mk A20
 clear A20
 by_cases c3 : t424 = true
 ·
  subst c3
  have H1 : ((spec_seMirror.f k a0_0 a0_1 a0_2 a0_3).bind fun bt425 => (some (bt425.1, bt425.2.1, bt425.2.2.1, bt425.2.2.2, true))) = some (r1, r2, r3, r4, r5) := by rw [if_pos rfl] at H; exact H
  clear H
  have H := H1
  clear H1
  replace H := Option.bind_eq_some_iff.mp H
  obtain ⟨⟨t425, t426, t427, t428⟩, A40, H⟩ := H
  replace H : (some (t425, t426, t427, t428, true)) = some (r1, r2, r3, r4, r5) := H
  have A4 := Aside0.mk A40
  clear A40
  as_aux_lemma =>
   simp only [Option.some.injEq, Prod.mk.injEq] at H
   obtain ⟨rfl, rfl, rfl, rfl, rfl⟩ := H
   go_enter Try.func38, Try.ntmps38
   go_wp2_with (first | ((with_reducible refine gate_dst (N := 1) rfl ?_); refine be_ (N := 1) (cs := #[.int .i64 a0_0, .int .i64 a0_1, .int .i64 a0_2, .int .i64 a0_3]) (t := 25) ?_; intro gb422 hg w5 hbox hb; have BK422 := Aside0.mk (hbox); have GW422 := ge_ HB hg; have GE422 := ge_ HB hg; replace HB := hs HB hb; clear hb hbox hg) | ((with_reducible refine gate_dst (N := 2) rfl ?_); refine be_ (N := 2) (cs := #[.int .i64 0, .int .i64 0, .int .i64 0, .int .i64 0]) (t := 25) ?_; intro gb423 hg w6 hbox hb; have BK423 := Aside0.mk (hbox); have GW423 := ge_ HB hg; have GE423 := ge_ HB hg; obtain ⟨NB422_423, NB423_422⟩ := nq_ BK422 hg; replace BK422 := bb BK422 hb; replace HB := hs HB hb; clear hb hbox hg; obtain ⟨hnb7, hnc7⟩ := nn_ NB422_423; have hcz8_0 := cz_ BK422 0 (.int .i64 a0_0); have hcz8_1 := cz_ BK422 1 (.int .i64 a0_1); have hcz8_2 := cz_ BK422 2 (.int .i64 a0_2); have hcz8_3 := cz_ BK422 3 (.int .i64 a0_3); have hfz8_0 := blk_frozen BK422.out 0; have hfz8_1 := blk_frozen BK422.out 1; have hfz8_2 := blk_frozen BK422.out 2; have hfz8_3 := blk_frozen BK422.out 3) | ((with_reducible refine gate_callee (f := 63) rfl ?_); refine gs_ (some 5) Try.func63 #[.agg #[.int .i64 a0_0, .int .i64 a0_1, .int .i64 a0_2, .int .i64 a0_3]] ?_; (with_reducible refine (spec_seGood.calls k a0_0 a0_1 a0_2 a0_3 true _ A2.out).mono ?_); rintro e w9 ⟨rfl, hb⟩; refine ⟨_, rfl, ?_⟩; replace BK422 := bb BK422 hb; replace BK423 := bb BK423 hb; replace HB := hs HB hb; (try clear hb); (try clear hb2); (try clear hk); (try clear hi); have hcz10_0 := cz_ BK422 0 (.int .i64 a0_0); have hcz10_1 := cz_ BK422 1 (.int .i64 a0_1); have hcz10_2 := cz_ BK422 2 (.int .i64 a0_2); have hcz10_3 := cz_ BK422 3 (.int .i64 a0_3); have hfz10_0 := blk_frozen BK422.out 0; have hfz10_1 := blk_frozen BK422.out 1; have hfz10_2 := blk_frozen BK422.out 2; have hfz10_3 := blk_frozen BK422.out 3) | ((with_reducible refine gate_callee (f := 59) rfl ?_); refine gs_ (some 9) Try.func59 #[.agg #[.int .i64 a0_0, .int .i64 a0_1, .int .i64 a0_2, .int .i64 a0_3]] ?_; (with_reducible refine (spec_seMirror.calls k a0_0 a0_1 a0_2 a0_3 t425 t426 t427 t428 _ A4.out).mono ?_); rintro e w11 ⟨rfl, hb⟩; refine ⟨_, rfl, ?_⟩; replace BK422 := bb BK422 hb; replace BK423 := bb BK423 hb; replace HB := hs HB hb; (try clear hb); (try clear hb2); (try clear hk); (try clear hi); have hcz12_0 := cz_ BK423 0 (.int .i64 0); have hcz12_1 := cz_ BK423 1 (.int .i64 0); have hcz12_2 := cz_ BK423 2 (.int .i64 0); have hcz12_3 := cz_ BK423 3 (.int .i64 0); have hfz12_0 := blk_frozen BK423.out 0; have hfz12_1 := blk_frozen BK423.out 1; have hfz12_2 := blk_frozen BK423.out 2; have hfz12_3 := blk_frozen BK423.out 3))
   refine bodyPost_ret (results_ct rfl _ _ gb423 25 #[.int .i64 t425, .int .i64 t426, .int .i64 t427, .int .i64 t428] (0, 0) _ rfl (by (with_reducible repeat (first | refine blk_drewN ?_ _ | refine blk_drew ?_ | refine blk_alloc ?_ _)); refine blk_put (cs := #[.int .i64 t425, .int .i64 t426, .int .i64 t427, .int .i64 0]) ?_ 3 _ rfl; (with_reducible repeat (first | refine blk_drewN ?_ _ | refine blk_drew ?_ | refine blk_alloc ?_ _)); refine blk_put (cs := #[.int .i64 t425, .int .i64 t426, .int .i64 0, .int .i64 0]) ?_ 2 _ rfl; (with_reducible repeat (first | refine blk_drewN ?_ _ | refine blk_drew ?_ | refine blk_alloc ?_ _)); refine blk_put (cs := #[.int .i64 t425, .int .i64 0, .int .i64 0, .int .i64 0]) ?_ 1 _ rfl; (with_reducible repeat (first | refine blk_drewN ?_ _ | refine blk_drew ?_ | refine blk_alloc ?_ _)); refine blk_put (cs := #[.int .i64 0, .int .i64 0, .int .i64 0, .int .i64 0]) ?_ 0 _ rfl; (with_reducible repeat (first | refine blk_drewN ?_ _ | refine blk_drew ?_ | refine blk_alloc ?_ _)); exact BK423.out) Try.underlying25 rfl (by kernel_rfl)) rfl ?_
   exact ⟨by first | rfl | (simp [errW_none, errW_some] <;> rfl) | (simp [*, errW_none, errW_some] <;> rfl), (ho_ HB)⟩
 ·
  replace c3 := Bool.eq_false_iff.mpr c3
  subst c3
  have H1 : (some (0, 0, 0, 0, false)) = some (r1, r2, r3, r4, r5) := by rw [if_neg (show ¬ (false = true) by decide)] at H; exact H
  clear H
  have H := H1
  clear H1
  as_aux_lemma =>
   simp only [Option.some.injEq, Prod.mk.injEq] at H
   obtain ⟨rfl, rfl, rfl, rfl, rfl⟩ := H
   go_enter Try.func38, Try.ntmps38
   go_wp2_with (first | ((with_reducible refine gate_dst (N := 1) rfl ?_); refine be_ (N := 1) (cs := #[.int .i64 a0_0, .int .i64 a0_1, .int .i64 a0_2, .int .i64 a0_3]) (t := 25) ?_; intro gb422 hg w13 hbox hb; have BK422 := Aside0.mk (hbox); have GW422 := ge_ HB hg; have GE422 := ge_ HB hg; replace HB := hs HB hb; clear hb hbox hg) | ((with_reducible refine gate_dst (N := 2) rfl ?_); refine be_ (N := 2) (cs := #[.int .i64 0, .int .i64 0, .int .i64 0, .int .i64 0]) (t := 25) ?_; intro gb423 hg w14 hbox hb; have BK423 := Aside0.mk (hbox); have GW423 := ge_ HB hg; have GE423 := ge_ HB hg; obtain ⟨NB422_423, NB423_422⟩ := nq_ BK422 hg; replace BK422 := bb BK422 hb; replace HB := hs HB hb; clear hb hbox hg; obtain ⟨hnb15, hnc15⟩ := nn_ NB422_423; have hcz16_0 := cz_ BK422 0 (.int .i64 a0_0); have hcz16_1 := cz_ BK422 1 (.int .i64 a0_1); have hcz16_2 := cz_ BK422 2 (.int .i64 a0_2); have hcz16_3 := cz_ BK422 3 (.int .i64 a0_3); have hfz16_0 := blk_frozen BK422.out 0; have hfz16_1 := blk_frozen BK422.out 1; have hfz16_2 := blk_frozen BK422.out 2; have hfz16_3 := blk_frozen BK422.out 3) | ((with_reducible refine gate_callee (f := 63) rfl ?_); refine gs_ (some 5) Try.func63 #[.agg #[.int .i64 a0_0, .int .i64 a0_1, .int .i64 a0_2, .int .i64 a0_3]] ?_; (with_reducible refine (spec_seGood.calls k a0_0 a0_1 a0_2 a0_3 false _ A2.out).mono ?_); rintro e w17 ⟨rfl, hb⟩; refine ⟨_, rfl, ?_⟩; replace BK422 := bb BK422 hb; replace BK423 := bb BK423 hb; replace HB := hs HB hb; (try clear hb); (try clear hb2); (try clear hk); (try clear hi); have hcz18_0 := cz_ BK423 0 (.int .i64 0); have hcz18_1 := cz_ BK423 1 (.int .i64 0); have hcz18_2 := cz_ BK423 2 (.int .i64 0); have hcz18_3 := cz_ BK423 3 (.int .i64 0); have hfz18_0 := blk_frozen BK423.out 0; have hfz18_1 := blk_frozen BK423.out 1; have hfz18_2 := blk_frozen BK423.out 2; have hfz18_3 := blk_frozen BK423.out 3))
   refine bodyPost_ret (results_ct rfl _ _ gb423 25 #[.int .i64 0, .int .i64 0, .int .i64 0, .int .i64 0] (0, 0) _ rfl (by (with_reducible repeat (first | refine blk_drewN ?_ _ | refine blk_drew ?_ | refine blk_alloc ?_ _)); refine blk_put (cs := #[.int .i64 0, .int .i64 0, .int .i64 0, .int .i64 0]) ?_ 3 _ rfl; (with_reducible repeat (first | refine blk_drewN ?_ _ | refine blk_drew ?_ | refine blk_alloc ?_ _)); refine blk_put (cs := #[.int .i64 0, .int .i64 0, .int .i64 0, .int .i64 0]) ?_ 2 _ rfl; (with_reducible repeat (first | refine blk_drewN ?_ _ | refine blk_drew ?_ | refine blk_alloc ?_ _)); refine blk_put (cs := #[.int .i64 0, .int .i64 0, .int .i64 0, .int .i64 0]) ?_ 1 _ rfl; (with_reducible repeat (first | refine blk_drewN ?_ _ | refine blk_drew ?_ | refine blk_alloc ?_ _)); refine blk_put (cs := #[.int .i64 0, .int .i64 0, .int .i64 0, .int .i64 0]) ?_ 0 _ rfl; (with_reducible repeat (first | refine blk_drewN ?_ _ | refine blk_drew ?_ | refine blk_alloc ?_ _)); exact BK423.out) Try.underlying25 rfl (by kernel_rfl)) rfl ?_
   exact ⟨by first | rfl | (simp [errW_none, errW_some] <;> rfl) | (simp [*, errW_none, errW_some] <;> rfl), (ho_ HB)⟩

/-! ### spec_TurnSeen: function 39 -/
def spec_TurnSeen.j0 : Nat → Bool → Int → Int → Int → Int → Int → Int → Option (Int × Int × Int × Int × Bool)
 | 0, _, _, _, _, _, _, _ => none
 | k + 1, x17, x430000, x430001, x430002, x430003, x431000, x431001 => if x17 = true then (some (0, 0, 0, 0, false)) else ((spec_diAdd.f k x430000 x430001 x431000 x431001 1).bind fun bt434 => ((spec_diAdd.f k x430002 x430003 x431000 x431001 1).bind fun bt438 => (if bt434.2.2 = true then (if bt438.2.2 = true then (some (bt434.1, bt434.2.1, bt438.1, bt438.2.1, true)) else (some (0, 0, 0, 0, false))) else (some (0, 0, 0, 0, false)))))
def spec_TurnSeen.f (k : Nat) (a0_0 : Int) (a0_1 : Int) (a0_2 : Int) (a0_3 : Int) (a1_0 : Int) (a1_1 : Int) : Option (Int × Int × Int × Int × Bool) := (spec_seGood.f k a0_0 a0_1 a0_2 a0_3).bind fun t432 => (if t432 = true then ((spec_diGood.f k a1_0 a1_1).bind fun t433 => (spec_TurnSeen.j0 k (!t433) a0_0 a0_1 a0_2 a0_3 a1_0 a1_1)) else (spec_TurnSeen.j0 k true a0_0 a0_1 a0_2 a0_3 a1_0 a1_1))
theorem spec_TurnSeen.mono_l : ∀ k, (∀ y0 y1 y2 y3 y4 y5 y6, LeO (spec_TurnSeen.j0 k y0 y1 y2 y3 y4 y5 y6) (spec_TurnSeen.j0 (k + 1) y0 y1 y2 y3 y4 y5 y6))
 | 0 => fun _ _ _ _ _ _ _ r h => by simp [spec_TurnSeen.j0] at h
 | k + 1 => by
  have ih0 := spec_TurnSeen.mono_l k
  ·
   intro y0 y1 y2 y3 y4 y5 y6
   unfold spec_TurnSeen.j0
   repeat' first
   | (with_reducible exact ih0 _ _ _ _ _ _ _)
   | (with_reducible exact spec_diAdd.mono _ _ _ _ _ _)
   | (with_reducible exact spec_diGood.mono _ _ _)
   | (with_reducible exact spec_seGood.mono _ _ _ _ _)
   | (with_reducible exact LeO.refl _)
   | (with_reducible exact LeO.none _)
   | (with_reducible refine LeO.ite ?_ ?_)
   | (with_reducible refine LeO.bind ?_ (fun _ => ?_))
   | exact ih0 _ _ _ _ _ _ _
   | exact spec_diAdd.mono _ _ _ _ _ _
   | exact spec_diGood.mono _ _ _
   | exact spec_seGood.mono _ _ _ _ _
   | exact LeO.none _
   | refine LeO.ite ?_ ?_
   | refine LeO.bind ?_ (fun _ => ?_)
theorem spec_TurnSeen.mono : ∀ a0 a1 a2 a3 a4 a5 k, LeO (spec_TurnSeen.f k a0 a1 a2 a3 a4 a5) (spec_TurnSeen.f (k + 1) a0 a1 a2 a3 a4 a5) := by
 intro a0 a1 a2 a3 a4 a5 k
 have ih0 := spec_TurnSeen.mono_l k
 unfold spec_TurnSeen.f
 repeat' first
   | (with_reducible exact ih0 _ _ _ _ _ _ _)
   | (with_reducible exact spec_diAdd.mono _ _ _ _ _ _)
   | (with_reducible exact spec_diGood.mono _ _ _)
   | (with_reducible exact spec_seGood.mono _ _ _ _ _)
   | (with_reducible exact LeO.refl _)
   | (with_reducible exact LeO.none _)
   | (with_reducible refine LeO.ite ?_ ?_)
   | (with_reducible refine LeO.bind ?_ (fun _ => ?_))
   | exact ih0 _ _ _ _ _ _ _
   | exact spec_diAdd.mono _ _ _ _ _ _
   | exact spec_diGood.mono _ _ _
   | exact spec_seGood.mono _ _ _ _ _
   | exact LeO.none _
   | refine LeO.ite ?_ ?_
   | refine LeO.bind ?_ (fun _ => ?_)
set_option maxHeartbeats 8000000 in
set_option maxRecDepth 100000 in
theorem spec_TurnSeen.calls (k : Nat) (a0_0 : Int) (a0_1 : Int) (a0_2 : Int) (a0_3 : Int) (a1_0 : Int) (a1_1 : Int) (r1 : Int) (r2 : Int) (r3 : Int) (r4 : Int) (r5 : Bool) (w : World) (h : spec_TurnSeen.f k a0_0 a0_1 a0_2 a0_3 a1_0 a1_1 = some (r1, r2, r3, r4, r5)) :
  Calls Try.prog 39 #[.agg #[.int .i64 a0_0, .int .i64 a0_1, .int .i64 a0_2, .int .i64 a0_3], .agg #[.int .i64 a1_0, .int .i64 a1_1]] w fun e w' => e = .returned (.tuple #[.agg #[.int .i64 r1, .int .i64 r2, .int .i64 r3, .int .i64 r4], .bool r5]) ∧ Below w.heap.size w w' := by
 have hu25 := Try.underlying25
 have hu23 := Try.underlying23
 have HB := Aside0.mk (Below.refl w.heap.size w)
 have H : ((spec_seGood.f k a0_0 a0_1 a0_2 a0_3).bind fun t432 => (if t432 = true then ((spec_diGood.f k a1_0 a1_1).bind fun t433 => (spec_TurnSeen.j0 k (!t433) a0_0 a0_1 a0_2 a0_3 a1_0 a1_1)) else (spec_TurnSeen.j0 k true a0_0 a0_1 a0_2 a0_3 a1_0 a1_1))) = some (r1, r2, r3, r4, r5) := h
 clear h
 have HC3 := Aside0.mk H
 clear H
 go_enter Try.func39, Try.ntmps39
 go_upto_region 1 with (first | ((with_reducible refine gate_dst (N := 2) rfl ?_); refine be_ (N := 2) (cs := #[.int .i64 a0_0, .int .i64 a0_1, .int .i64 a0_2, .int .i64 a0_3]) (t := 25) ?_; intro gb429 hg w4 hbox hb; have BK429 := Aside0.mk (hbox); have GW429 := ge_ HB hg; have GE429 := ge_ HB hg; replace HB := hs HB hb; clear hb hbox hg) | ((with_reducible refine gate_dst (N := 3) rfl ?_); refine be_ (N := 3) (cs := #[.int .i64 a1_0, .int .i64 a1_1]) (t := 23) ?_; intro gb430 hg w5 hbox hb; have BK430 := Aside0.mk (hbox); have GW430 := ge_ HB hg; have GE430 := ge_ HB hg; obtain ⟨NB429_430, NB430_429⟩ := nq_ BK429 hg; replace BK429 := bb BK429 hb; replace HB := hs HB hb; clear hb hbox hg) | ((with_reducible refine gate_dst (N := 4) rfl ?_); refine be_ (N := 4) (cs := #[.int .i64 0, .int .i64 0, .int .i64 0, .int .i64 0]) (t := 25) ?_; intro gb431 hg w6 hbox hb; have BK431 := Aside0.mk (hbox); have GW431 := ge_ HB hg; have GE431 := ge_ HB hg; obtain ⟨NB429_431, NB431_429⟩ := nq_ BK429 hg; obtain ⟨NB430_431, NB431_430⟩ := nq_ BK430 hg; replace BK429 := bb BK429 hb; replace BK430 := bb BK430 hb; replace HB := hs HB hb; clear hb hbox hg))
 (try simp only [Act.put, List.setIfInBounds_toArray, List.set_cons_zero, List.set_cons_succ])
 go_cut [17] (fun v17 wc => ∃ (kq : Nat) (x17_2 : Bool), v17 = .bool x17_2 ∧ Aside0 (spec_TurnSeen.j0 kq x17_2 a0_0 a0_1 a0_2 a0_3 a1_0 a1_1 = some (r1, r2, r3, r4, r5)) ∧ Aside0 (kq ≤ k) ∧ Aside0 (wc.heap[gb429]? = some (.cells #[.int .i64 a0_0, .int .i64 a0_1, .int .i64 a0_2, .int .i64 a0_3] 25 (0, 0))) ∧ Aside0 (wc.heap[gb430]? = some (.cells #[.int .i64 a1_0, .int .i64 a1_1] 23 (0, 0))) ∧ Aside0 (wc.heap[gb431]? = some (.cells #[.int .i64 0, .int .i64 0, .int .i64 0, .int .i64 0] 25 (0, 0))) ∧ Aside0 (Below w.heap.size w wc))
 case first =>
  have H := HC3.out
  clear HC3
  replace H := Option.bind_eq_some_iff.mp H
  obtain ⟨t432, A70, H⟩ := H
  replace H : (if t432 = true then ((spec_diGood.f k a1_0 a1_1).bind fun t433 => (spec_TurnSeen.j0 k (!t433) a0_0 a0_1 a0_2 a0_3 a1_0 a1_1)) else (spec_TurnSeen.j0 k true a0_0 a0_1 a0_2 a0_3 a1_0 a1_1)) = some (r1, r2, r3, r4, r5) := H
  have A7 := Aside0.mk A70
  clear A70
  by_cases c8 : t432 = true
  ·
   subst c8
   have H1 : ((spec_diGood.f k a1_0 a1_1).bind fun t433 => (spec_TurnSeen.j0 k (!t433) a0_0 a0_1 a0_2 a0_3 a1_0 a1_1)) = some (r1, r2, r3, r4, r5) := by rw [if_pos rfl] at H; exact H
   clear H
   have H := H1
   clear H1
   replace H := Option.bind_eq_some_iff.mp H
   obtain ⟨t433, A90, H⟩ := H
   replace H : (spec_TurnSeen.j0 k (!t433) a0_0 a0_1 a0_2 a0_3 a1_0 a1_1) = some (r1, r2, r3, r4, r5) := H
   have A9 := Aside0.mk A90
   clear A90
   as_aux_lemma =>
    have H' := Aside0.mk H
    clear H
    obtain ⟨hnb10, hnc10⟩ := nn_ NB429_430
    obtain ⟨hnb11, hnc11⟩ := nn_ NB429_431
    have hcz12_0 := cz_ BK429 0 (.int .i64 a0_0)
    have hcz12_1 := cz_ BK429 1 (.int .i64 a0_1)
    have hcz12_2 := cz_ BK429 2 (.int .i64 a0_2)
    have hcz12_3 := cz_ BK429 3 (.int .i64 a0_3)
    have hfz12_0 := blk_frozen BK429.out 0
    have hfz12_1 := blk_frozen BK429.out 1
    have hfz12_2 := blk_frozen BK429.out 2
    have hfz12_3 := blk_frozen BK429.out 3
    go_wp2_with (first | ((with_reducible refine gate_callee (f := 63) rfl ?_); refine gs_ (some 11) Try.func63 #[.agg #[.int .i64 a0_0, .int .i64 a0_1, .int .i64 a0_2, .int .i64 a0_3]] ?_; (with_reducible refine (spec_seGood.calls k a0_0 a0_1 a0_2 a0_3 true _ A7.out).mono ?_); rintro e w13 ⟨rfl, hb⟩; refine ⟨_, rfl, ?_⟩; replace BK429 := bb BK429 hb; replace BK430 := bb BK430 hb; replace BK431 := bb BK431 hb; replace HB := hs HB hb; (try clear hb); (try clear hb2); (try clear hk); (try clear hi); obtain ⟨hnb14, hnc14⟩ := nn_ NB430_431; have hcz15_0 := cz_ BK430 0 (.int .i64 a1_0); have hcz15_1 := cz_ BK430 1 (.int .i64 a1_1); have hfz15_0 := blk_frozen BK430.out 0; have hfz15_1 := blk_frozen BK430.out 1) | (go_at_call 70; refine calls_of_args (args' := #[.agg #[.int .i64 a1_0, .int .i64 a1_1]]) (by first | rfl) ?_; (with_reducible refine (spec_diGood.calls k a1_0 a1_1 t433 _ A9.out).mono ?_); rintro e w16 ⟨rfl, hb⟩; replace BK429 := bb BK429 hb; replace BK430 := bb BK430 hb; replace BK431 := bb BK431 hb; replace HB := hs HB hb; (try clear hb); (try clear hb2); (try clear hk); (try clear hi)))
    go_meet
    case rel => exact ⟨_, (!t433), (by first | rfl | (simp; done) | (simp [*]; done)), H', ⟨by first | omega | exact Nat.le_refl _⟩, bk_ BK429, bk_ BK430, bk_ BK431, hb_ HB⟩
  ·
   replace c8 := Bool.eq_false_iff.mpr c8
   subst c8
   have H1 : (spec_TurnSeen.j0 k true a0_0 a0_1 a0_2 a0_3 a1_0 a1_1) = some (r1, r2, r3, r4, r5) := by rw [if_neg (show ¬ (false = true) by decide)] at H; exact H
   clear H
   have H := H1
   clear H1
   as_aux_lemma =>
    have H' := Aside0.mk H
    clear H
    obtain ⟨hnb17, hnc17⟩ := nn_ NB429_430
    obtain ⟨hnb18, hnc18⟩ := nn_ NB429_431
    have hcz19_0 := cz_ BK429 0 (.int .i64 a0_0)
    have hcz19_1 := cz_ BK429 1 (.int .i64 a0_1)
    have hcz19_2 := cz_ BK429 2 (.int .i64 a0_2)
    have hcz19_3 := cz_ BK429 3 (.int .i64 a0_3)
    have hfz19_0 := blk_frozen BK429.out 0
    have hfz19_1 := blk_frozen BK429.out 1
    have hfz19_2 := blk_frozen BK429.out 2
    have hfz19_3 := blk_frozen BK429.out 3
    go_wp2_with (first | ((with_reducible refine gate_callee (f := 63) rfl ?_); refine gs_ (some 11) Try.func63 #[.agg #[.int .i64 a0_0, .int .i64 a0_1, .int .i64 a0_2, .int .i64 a0_3]] ?_; (with_reducible refine (spec_seGood.calls k a0_0 a0_1 a0_2 a0_3 false _ A7.out).mono ?_); rintro e w20 ⟨rfl, hb⟩; refine ⟨_, rfl, ?_⟩; replace BK429 := bb BK429 hb; replace BK430 := bb BK430 hb; replace BK431 := bb BK431 hb; replace HB := hs HB hb; (try clear hb); (try clear hb2); (try clear hk); (try clear hi)))
    go_meet
    case rel => exact ⟨_, (true), (by first | rfl | (simp; done) | (simp [*]; done)), H', ⟨by first | omega | exact Nat.le_refl _⟩, bk_ BK429, bk_ BK430, bk_ BK431, hb_ HB⟩
 case rest =>
  clear HC3
  obtain ⟨kq, x17_2, rfl, HA, HJ2, BK429, BK430, BK431, HB⟩ := hcut
  cases kq with
  | zero => exact absurd HA.out (by simp [spec_TurnSeen.j0])
  | succ kj2 =>
   have H := HA.out
   clear HA
   simp only [spec_TurnSeen.j0] at H
   by_cases c21 : x17_2 = true
   ·
    subst c21
    have H1 : (some (0, 0, 0, 0, false)) = some (r1, r2, r3, r4, r5) := by rw [if_pos rfl] at H; exact H
    clear H
    have H := H1
    clear H1
    as_aux_lemma =>
     simp only [Option.some.injEq, Prod.mk.injEq] at H
     obtain ⟨rfl, rfl, rfl, rfl, rfl⟩ := H
     obtain ⟨hnb22, hnc22⟩ := nn_ NB431_429
     obtain ⟨hnb23, hnc23⟩ := nn_ NB431_430
     have hcz24_0 := cz_ BK431 0 (.int .i64 0)
     have hcz24_1 := cz_ BK431 1 (.int .i64 0)
     have hcz24_2 := cz_ BK431 2 (.int .i64 0)
     have hcz24_3 := cz_ BK431 3 (.int .i64 0)
     have hfz24_0 := blk_frozen BK431.out 0
     have hfz24_1 := blk_frozen BK431.out 1
     have hfz24_2 := blk_frozen BK431.out 2
     have hfz24_3 := blk_frozen BK431.out 3
     go_wp2
     refine bodyPost_ret (results_ct rfl _ _ gb431 25 #[.int .i64 0, .int .i64 0, .int .i64 0, .int .i64 0] (0, 0) _ rfl (by (with_reducible repeat (first | refine blk_drewN ?_ _ | refine blk_drew ?_ | refine blk_alloc ?_ _)); refine blk_put (cs := #[.int .i64 0, .int .i64 0, .int .i64 0, .int .i64 0]) ?_ 3 _ rfl; (with_reducible repeat (first | refine blk_drewN ?_ _ | refine blk_drew ?_ | refine blk_alloc ?_ _)); refine blk_put (cs := #[.int .i64 0, .int .i64 0, .int .i64 0, .int .i64 0]) ?_ 2 _ rfl; (with_reducible repeat (first | refine blk_drewN ?_ _ | refine blk_drew ?_ | refine blk_alloc ?_ _)); refine blk_put (cs := #[.int .i64 0, .int .i64 0, .int .i64 0, .int .i64 0]) ?_ 1 _ rfl; (with_reducible repeat (first | refine blk_drewN ?_ _ | refine blk_drew ?_ | refine blk_alloc ?_ _)); refine blk_put (cs := #[.int .i64 0, .int .i64 0, .int .i64 0, .int .i64 0]) ?_ 0 _ rfl; (with_reducible repeat (first | refine blk_drewN ?_ _ | refine blk_drew ?_ | refine blk_alloc ?_ _)); exact BK431.out) Try.underlying25 rfl (by kernel_rfl)) rfl ?_
     exact ⟨by first | rfl | (simp [errW_none, errW_some] <;> rfl) | (simp [*, errW_none, errW_some] <;> rfl), (ho_ HB)⟩
   ·
    replace c21 := Bool.eq_false_iff.mpr c21
    subst c21
    have H1 : ((spec_diAdd.f kj2 a0_0 a0_1 a1_0 a1_1 1).bind fun bt434 => ((spec_diAdd.f kj2 a0_2 a0_3 a1_0 a1_1 1).bind fun bt438 => (if bt434.2.2 = true then (if bt438.2.2 = true then (some (bt434.1, bt434.2.1, bt438.1, bt438.2.1, true)) else (some (0, 0, 0, 0, false))) else (some (0, 0, 0, 0, false))))) = some (r1, r2, r3, r4, r5) := by rw [if_neg (show ¬ (false = true) by decide)] at H; exact H
    clear H
    have H := H1
    clear H1
    replace H := Option.bind_eq_some_iff.mp H
    obtain ⟨⟨t434, t435, t436⟩, A250, H⟩ := H
    replace H : ((spec_diAdd.f kj2 a0_2 a0_3 a1_0 a1_1 1).bind fun bt438 => (if t436 = true then (if bt438.2.2 = true then (some (t434, t435, bt438.1, bt438.2.1, true)) else (some (0, 0, 0, 0, false))) else (some (0, 0, 0, 0, false)))) = some (r1, r2, r3, r4, r5) := H
    have A25 := Aside0.mk A250
    clear A250
    replace H := Option.bind_eq_some_iff.mp H
    obtain ⟨⟨t438, t439, t440⟩, A260, H⟩ := H
    replace H : (if t436 = true then (if t440 = true then (some (t434, t435, t438, t439, true)) else (some (0, 0, 0, 0, false))) else (some (0, 0, 0, 0, false))) = some (r1, r2, r3, r4, r5) := H
    have A26 := Aside0.mk A260
    clear A260
    by_cases c27 : t436 = true
    ·
     subst c27
     have H1 : (if t440 = true then (some (t434, t435, t438, t439, true)) else (some (0, 0, 0, 0, false))) = some (r1, r2, r3, r4, r5) := by rw [if_pos rfl] at H; exact H
     clear H
     have H := H1
     clear H1
     by_cases c28 : t440 = true
     ·
      subst c28
      have H1 : (some (t434, t435, t438, t439, true)) = some (r1, r2, r3, r4, r5) := by rw [if_pos rfl] at H; exact H
      clear H
      have H := H1
      clear H1
      as_aux_lemma =>
       simp only [Option.some.injEq, Prod.mk.injEq] at H
       obtain ⟨rfl, rfl, rfl, rfl, rfl⟩ := H
       obtain ⟨hnb29, hnc29⟩ := nn_ NB429_430
       obtain ⟨hnb30, hnc30⟩ := nn_ NB429_431
       have hcz31_0 := cz_ BK429 0 (.int .i64 a0_0)
       have hcz31_1 := cz_ BK429 1 (.int .i64 a0_1)
       have hcz31_2 := cz_ BK429 2 (.int .i64 a0_2)
       have hcz31_3 := cz_ BK429 3 (.int .i64 a0_3)
       have hfz31_0 := blk_frozen BK429.out 0
       have hfz31_1 := blk_frozen BK429.out 1
       have hfz31_2 := blk_frozen BK429.out 2
       have hfz31_3 := blk_frozen BK429.out 3
       obtain ⟨hnb32, hnc32⟩ := nn_ NB430_431
       have hcz33_0 := cz_ BK430 0 (.int .i64 a1_0)
       have hcz33_1 := cz_ BK430 1 (.int .i64 a1_1)
       have hfz33_0 := blk_frozen BK430.out 0
       have hfz33_1 := blk_frozen BK430.out 1
       go_wp2_with (first | ((with_reducible refine gate_callee (f := 67) rfl ?_); refine gs_ (some 23) Try.func67 #[.agg #[.int .i64 a0_0, .int .i64 a0_1], .agg #[.int .i64 a1_0, .int .i64 a1_1], .int .i64 1] ?_; (with_reducible refine (spec_diAdd.calls kj2 a0_0 a0_1 a1_0 a1_1 1 t434 t435 true _ A25.out).mono ?_); rintro e w34 ⟨rfl, hb⟩; refine ⟨_, rfl, ?_⟩; replace BK429 := bb BK429 hb; replace BK430 := bb BK430 hb; replace BK431 := bb BK431 hb; replace HB := hs HB hb; (try clear hb); (try clear hb2); (try clear hk); (try clear hi)) | ((with_reducible refine gate_dst (N := 6) rfl ?_); refine be_ (N := 6) (cs := #[.int .i64 0, .int .i64 0]) (t := 23) ?_; intro gb437 hg w35 hbox hb; have BK437 := Aside0.mk (hbox); have GW437 := ge_ HB hg; have GE437 := ge_ HB hg; obtain ⟨NB429_437, NB437_429⟩ := nq_ BK429 hg; obtain ⟨NB430_437, NB437_430⟩ := nq_ BK430 hg; obtain ⟨NB431_437, NB437_431⟩ := nq_ BK431 hg; replace BK429 := bb BK429 hb; replace BK430 := bb BK430 hb; replace BK431 := bb BK431 hb; replace HB := hs HB hb; clear hb hbox hg; obtain ⟨hnb36, hnc36⟩ := nn_ NB437_429; obtain ⟨hnb37, hnc37⟩ := nn_ NB437_430; obtain ⟨hnb38, hnc38⟩ := nn_ NB437_431; have hcz39_0 := cz_ BK437 0 (.int .i64 0); have hcz39_1 := cz_ BK437 1 (.int .i64 0); have hfz39_0 := blk_frozen BK437.out 0; have hfz39_1 := blk_frozen BK437.out 1; have hcz40_0 := cz_ BK429 0 (.int .i64 a0_0); have hcz40_1 := cz_ BK429 1 (.int .i64 a0_1); have hcz40_2 := cz_ BK429 2 (.int .i64 a0_2); have hcz40_3 := cz_ BK429 3 (.int .i64 a0_3); have hfz40_0 := blk_frozen BK429.out 0; have hfz40_1 := blk_frozen BK429.out 1; have hfz40_2 := blk_frozen BK429.out 2; have hfz40_3 := blk_frozen BK429.out 3; have hcz41_0 := cz_ BK430 0 (.int .i64 a1_0); have hcz41_1 := cz_ BK430 1 (.int .i64 a1_1); have hfz41_0 := blk_frozen BK430.out 0; have hfz41_1 := blk_frozen BK430.out 1) | ((with_reducible refine gate_callee (f := 67) rfl ?_); refine gs_ (some 30) Try.func67 #[.agg #[.int .i64 a0_2, .int .i64 a0_3], .agg #[.int .i64 a1_0, .int .i64 a1_1], .int .i64 1] ?_; (with_reducible refine (spec_diAdd.calls kj2 a0_2 a0_3 a1_0 a1_1 1 t438 t439 true _ A26.out).mono ?_); rintro e w42 ⟨rfl, hb⟩; refine ⟨_, rfl, ?_⟩; replace BK429 := bb BK429 hb; replace BK430 := bb BK430 hb; replace BK431 := bb BK431 hb; replace BK437 := Aside0.mk (blk_below (g := gb437) (o := .cells #[.int .i64 t434, .int .i64 t435] 23 (0, 0)) (by (with_reducible repeat (first | refine blk_drewN ?_ _ | refine blk_drew ?_ | refine blk_alloc ?_ _)); refine blk_put (cs := #[.int .i64 t434, .int .i64 0]) ?_ 1 _ rfl; (with_reducible repeat (first | refine blk_drewN ?_ _ | refine blk_drew ?_ | refine blk_alloc ?_ _)); refine blk_put (cs := #[.int .i64 0, .int .i64 0]) ?_ 0 _ rfl; (with_reducible repeat (first | refine blk_drewN ?_ _ | refine blk_drew ?_ | refine blk_alloc ?_ _)); exact BK437.out) hb); replace HB := hs HB hb; (try clear hb); (try clear hb2); (try clear hk); (try clear hi)) | ((with_reducible refine gate_dst (N := 8) rfl ?_); refine be_ (N := 8) (cs := #[.int .i64 0, .int .i64 0]) (t := 23) ?_; intro gb441 hg w43 hbox hb; have BK441 := Aside0.mk (hbox); have GW441 := ge_ HB hg; have GE441 := ge_ HB hg; obtain ⟨NB429_441, NB441_429⟩ := nq_ BK429 hg; obtain ⟨NB430_441, NB441_430⟩ := nq_ BK430 hg; obtain ⟨NB431_441, NB441_431⟩ := nq_ BK431 hg; obtain ⟨NB437_441, NB441_437⟩ := nq_ BK437 hg; replace BK429 := bb BK429 hb; replace BK430 := bb BK430 hb; replace BK431 := bb BK431 hb; replace BK437 := bb BK437 hb; replace HB := hs HB hb; clear hb hbox hg; obtain ⟨hnb44, hnc44⟩ := nn_ NB441_429; obtain ⟨hnb45, hnc45⟩ := nn_ NB441_430; obtain ⟨hnb46, hnc46⟩ := nn_ NB441_431; obtain ⟨hnb47, hnc47⟩ := nn_ NB441_437; have hcz48_0 := cz_ BK441 0 (.int .i64 0); have hcz48_1 := cz_ BK441 1 (.int .i64 0); have hfz48_0 := blk_frozen BK441.out 0; have hfz48_1 := blk_frozen BK441.out 1; have hcz49_0 := cz_ BK437 0 (.int .i64 t434); have hcz49_1 := cz_ BK437 1 (.int .i64 t435); have hfz49_0 := blk_frozen BK437.out 0; have hfz49_1 := blk_frozen BK437.out 1; have hcz50_0 := cz_ BK431 0 (.int .i64 0); have hcz50_1 := cz_ BK431 1 (.int .i64 0); have hcz50_2 := cz_ BK431 2 (.int .i64 0); have hcz50_3 := cz_ BK431 3 (.int .i64 0); have hfz50_0 := blk_frozen BK431.out 0; have hfz50_1 := blk_frozen BK431.out 1; have hfz50_2 := blk_frozen BK431.out 2; have hfz50_3 := blk_frozen BK431.out 3))
       refine bodyPost_ret (results_ct rfl _ _ gb431 25 #[.int .i64 t434, .int .i64 t435, .int .i64 t438, .int .i64 t439] (0, 0) _ rfl (by (with_reducible repeat (first | refine blk_drewN ?_ _ | refine blk_drew ?_ | refine blk_alloc ?_ _)); refine blk_put (cs := #[.int .i64 t434, .int .i64 t435, .int .i64 t438, .int .i64 0]) ?_ 3 _ rfl; (with_reducible repeat (first | refine blk_drewN ?_ _ | refine blk_drew ?_ | refine blk_alloc ?_ _)); refine blk_put (cs := #[.int .i64 t434, .int .i64 t435, .int .i64 0, .int .i64 0]) ?_ 2 _ rfl; (with_reducible repeat (first | refine blk_drewN ?_ _ | refine blk_drew ?_ | refine blk_alloc ?_ _)); refine blk_put (cs := #[.int .i64 t434, .int .i64 0, .int .i64 0, .int .i64 0]) ?_ 1 _ rfl; (with_reducible repeat (first | refine blk_drewN ?_ _ | refine blk_drew ?_ | refine blk_alloc ?_ _)); refine blk_put (cs := #[.int .i64 0, .int .i64 0, .int .i64 0, .int .i64 0]) ?_ 0 _ rfl; (with_reducible repeat (first | refine blk_drewN ?_ _ | refine blk_drew ?_ | refine blk_alloc ?_ _)); refine blk_far ?_ NB431_441.out _; (with_reducible repeat (first | refine blk_drewN ?_ _ | refine blk_drew ?_ | refine blk_alloc ?_ _)); refine blk_far ?_ NB431_441.out _; (with_reducible repeat (first | refine blk_drewN ?_ _ | refine blk_drew ?_ | refine blk_alloc ?_ _)); exact BK431.out) Try.underlying25 rfl (by kernel_rfl)) rfl ?_
       exact ⟨by first | rfl | (simp [errW_none, errW_some] <;> rfl) | (simp [*, errW_none, errW_some] <;> rfl), (ho_ HB)⟩
     ·
      replace c28 := Bool.eq_false_iff.mpr c28
      subst c28
      have H1 : (some (0, 0, 0, 0, false)) = some (r1, r2, r3, r4, r5) := by rw [if_neg (show ¬ (false = true) by decide)] at H; exact H
      clear H
      have H := H1
      clear H1
      as_aux_lemma =>
       simp only [Option.some.injEq, Prod.mk.injEq] at H
       obtain ⟨rfl, rfl, rfl, rfl, rfl⟩ := H
       obtain ⟨hnb51, hnc51⟩ := nn_ NB429_430
       obtain ⟨hnb52, hnc52⟩ := nn_ NB429_431
       have hcz53_0 := cz_ BK429 0 (.int .i64 a0_0)
       have hcz53_1 := cz_ BK429 1 (.int .i64 a0_1)
       have hcz53_2 := cz_ BK429 2 (.int .i64 a0_2)
       have hcz53_3 := cz_ BK429 3 (.int .i64 a0_3)
       have hfz53_0 := blk_frozen BK429.out 0
       have hfz53_1 := blk_frozen BK429.out 1
       have hfz53_2 := blk_frozen BK429.out 2
       have hfz53_3 := blk_frozen BK429.out 3
       obtain ⟨hnb54, hnc54⟩ := nn_ NB430_431
       have hcz55_0 := cz_ BK430 0 (.int .i64 a1_0)
       have hcz55_1 := cz_ BK430 1 (.int .i64 a1_1)
       have hfz55_0 := blk_frozen BK430.out 0
       have hfz55_1 := blk_frozen BK430.out 1
       go_wp2_with (first | ((with_reducible refine gate_callee (f := 67) rfl ?_); refine gs_ (some 23) Try.func67 #[.agg #[.int .i64 a0_0, .int .i64 a0_1], .agg #[.int .i64 a1_0, .int .i64 a1_1], .int .i64 1] ?_; (with_reducible refine (spec_diAdd.calls kj2 a0_0 a0_1 a1_0 a1_1 1 t434 t435 true _ A25.out).mono ?_); rintro e w56 ⟨rfl, hb⟩; refine ⟨_, rfl, ?_⟩; replace BK429 := bb BK429 hb; replace BK430 := bb BK430 hb; replace BK431 := bb BK431 hb; replace HB := hs HB hb; (try clear hb); (try clear hb2); (try clear hk); (try clear hi)) | ((with_reducible refine gate_dst (N := 6) rfl ?_); refine be_ (N := 6) (cs := #[.int .i64 0, .int .i64 0]) (t := 23) ?_; intro gb437 hg w57 hbox hb; have BK437 := Aside0.mk (hbox); have GW437 := ge_ HB hg; have GE437 := ge_ HB hg; obtain ⟨NB429_437, NB437_429⟩ := nq_ BK429 hg; obtain ⟨NB430_437, NB437_430⟩ := nq_ BK430 hg; obtain ⟨NB431_437, NB437_431⟩ := nq_ BK431 hg; replace BK429 := bb BK429 hb; replace BK430 := bb BK430 hb; replace BK431 := bb BK431 hb; replace HB := hs HB hb; clear hb hbox hg; obtain ⟨hnb58, hnc58⟩ := nn_ NB437_429; obtain ⟨hnb59, hnc59⟩ := nn_ NB437_430; obtain ⟨hnb60, hnc60⟩ := nn_ NB437_431; have hcz61_0 := cz_ BK437 0 (.int .i64 0); have hcz61_1 := cz_ BK437 1 (.int .i64 0); have hfz61_0 := blk_frozen BK437.out 0; have hfz61_1 := blk_frozen BK437.out 1; have hcz62_0 := cz_ BK429 0 (.int .i64 a0_0); have hcz62_1 := cz_ BK429 1 (.int .i64 a0_1); have hcz62_2 := cz_ BK429 2 (.int .i64 a0_2); have hcz62_3 := cz_ BK429 3 (.int .i64 a0_3); have hfz62_0 := blk_frozen BK429.out 0; have hfz62_1 := blk_frozen BK429.out 1; have hfz62_2 := blk_frozen BK429.out 2; have hfz62_3 := blk_frozen BK429.out 3; have hcz63_0 := cz_ BK430 0 (.int .i64 a1_0); have hcz63_1 := cz_ BK430 1 (.int .i64 a1_1); have hfz63_0 := blk_frozen BK430.out 0; have hfz63_1 := blk_frozen BK430.out 1) | ((with_reducible refine gate_callee (f := 67) rfl ?_); refine gs_ (some 30) Try.func67 #[.agg #[.int .i64 a0_2, .int .i64 a0_3], .agg #[.int .i64 a1_0, .int .i64 a1_1], .int .i64 1] ?_; (with_reducible refine (spec_diAdd.calls kj2 a0_2 a0_3 a1_0 a1_1 1 t438 t439 false _ A26.out).mono ?_); rintro e w64 ⟨rfl, hb⟩; refine ⟨_, rfl, ?_⟩; replace BK429 := bb BK429 hb; replace BK430 := bb BK430 hb; replace BK431 := bb BK431 hb; replace BK437 := Aside0.mk (blk_below (g := gb437) (o := .cells #[.int .i64 t434, .int .i64 t435] 23 (0, 0)) (by (with_reducible repeat (first | refine blk_drewN ?_ _ | refine blk_drew ?_ | refine blk_alloc ?_ _)); refine blk_put (cs := #[.int .i64 t434, .int .i64 0]) ?_ 1 _ rfl; (with_reducible repeat (first | refine blk_drewN ?_ _ | refine blk_drew ?_ | refine blk_alloc ?_ _)); refine blk_put (cs := #[.int .i64 0, .int .i64 0]) ?_ 0 _ rfl; (with_reducible repeat (first | refine blk_drewN ?_ _ | refine blk_drew ?_ | refine blk_alloc ?_ _)); exact BK437.out) hb); replace HB := hs HB hb; (try clear hb); (try clear hb2); (try clear hk); (try clear hi)) | ((with_reducible refine gate_dst (N := 8) rfl ?_); refine be_ (N := 8) (cs := #[.int .i64 0, .int .i64 0]) (t := 23) ?_; intro gb441 hg w65 hbox hb; have BK441 := Aside0.mk (hbox); have GW441 := ge_ HB hg; have GE441 := ge_ HB hg; obtain ⟨NB429_441, NB441_429⟩ := nq_ BK429 hg; obtain ⟨NB430_441, NB441_430⟩ := nq_ BK430 hg; obtain ⟨NB431_441, NB441_431⟩ := nq_ BK431 hg; obtain ⟨NB437_441, NB441_437⟩ := nq_ BK437 hg; replace BK429 := bb BK429 hb; replace BK430 := bb BK430 hb; replace BK431 := bb BK431 hb; replace BK437 := bb BK437 hb; replace HB := hs HB hb; clear hb hbox hg; obtain ⟨hnb66, hnc66⟩ := nn_ NB441_429; obtain ⟨hnb67, hnc67⟩ := nn_ NB441_430; obtain ⟨hnb68, hnc68⟩ := nn_ NB441_431; obtain ⟨hnb69, hnc69⟩ := nn_ NB441_437; have hcz70_0 := cz_ BK441 0 (.int .i64 0); have hcz70_1 := cz_ BK441 1 (.int .i64 0); have hfz70_0 := blk_frozen BK441.out 0; have hfz70_1 := blk_frozen BK441.out 1; have hcz71_0 := cz_ BK431 0 (.int .i64 0); have hcz71_1 := cz_ BK431 1 (.int .i64 0); have hcz71_2 := cz_ BK431 2 (.int .i64 0); have hcz71_3 := cz_ BK431 3 (.int .i64 0); have hfz71_0 := blk_frozen BK431.out 0; have hfz71_1 := blk_frozen BK431.out 1; have hfz71_2 := blk_frozen BK431.out 2; have hfz71_3 := blk_frozen BK431.out 3))
       refine bodyPost_ret (results_ct rfl _ _ gb431 25 #[.int .i64 0, .int .i64 0, .int .i64 0, .int .i64 0] (0, 0) _ rfl (by (with_reducible repeat (first | refine blk_drewN ?_ _ | refine blk_drew ?_ | refine blk_alloc ?_ _)); refine blk_put (cs := #[.int .i64 0, .int .i64 0, .int .i64 0, .int .i64 0]) ?_ 3 _ rfl; (with_reducible repeat (first | refine blk_drewN ?_ _ | refine blk_drew ?_ | refine blk_alloc ?_ _)); refine blk_put (cs := #[.int .i64 0, .int .i64 0, .int .i64 0, .int .i64 0]) ?_ 2 _ rfl; (with_reducible repeat (first | refine blk_drewN ?_ _ | refine blk_drew ?_ | refine blk_alloc ?_ _)); refine blk_put (cs := #[.int .i64 0, .int .i64 0, .int .i64 0, .int .i64 0]) ?_ 1 _ rfl; (with_reducible repeat (first | refine blk_drewN ?_ _ | refine blk_drew ?_ | refine blk_alloc ?_ _)); refine blk_put (cs := #[.int .i64 0, .int .i64 0, .int .i64 0, .int .i64 0]) ?_ 0 _ rfl; (with_reducible repeat (first | refine blk_drewN ?_ _ | refine blk_drew ?_ | refine blk_alloc ?_ _)); refine blk_far ?_ NB431_441.out _; (with_reducible repeat (first | refine blk_drewN ?_ _ | refine blk_drew ?_ | refine blk_alloc ?_ _)); refine blk_far ?_ NB431_441.out _; (with_reducible repeat (first | refine blk_drewN ?_ _ | refine blk_drew ?_ | refine blk_alloc ?_ _)); exact BK431.out) Try.underlying25 rfl (by kernel_rfl)) rfl ?_
       exact ⟨by first | rfl | (simp [errW_none, errW_some] <;> rfl) | (simp [*, errW_none, errW_some] <;> rfl), (ho_ HB)⟩
    ·
     replace c27 := Bool.eq_false_iff.mpr c27
     subst c27
     have H1 : (some (0, 0, 0, 0, false)) = some (r1, r2, r3, r4, r5) := by rw [if_neg (show ¬ (false = true) by decide)] at H; exact H
     clear H
     have H := H1
     clear H1
     as_aux_lemma =>
      simp only [Option.some.injEq, Prod.mk.injEq] at H
      obtain ⟨rfl, rfl, rfl, rfl, rfl⟩ := H
      obtain ⟨hnb72, hnc72⟩ := nn_ NB429_430
      obtain ⟨hnb73, hnc73⟩ := nn_ NB429_431
      have hcz74_0 := cz_ BK429 0 (.int .i64 a0_0)
      have hcz74_1 := cz_ BK429 1 (.int .i64 a0_1)
      have hcz74_2 := cz_ BK429 2 (.int .i64 a0_2)
      have hcz74_3 := cz_ BK429 3 (.int .i64 a0_3)
      have hfz74_0 := blk_frozen BK429.out 0
      have hfz74_1 := blk_frozen BK429.out 1
      have hfz74_2 := blk_frozen BK429.out 2
      have hfz74_3 := blk_frozen BK429.out 3
      obtain ⟨hnb75, hnc75⟩ := nn_ NB430_431
      have hcz76_0 := cz_ BK430 0 (.int .i64 a1_0)
      have hcz76_1 := cz_ BK430 1 (.int .i64 a1_1)
      have hfz76_0 := blk_frozen BK430.out 0
      have hfz76_1 := blk_frozen BK430.out 1
      go_wp2_with (first | ((with_reducible refine gate_callee (f := 67) rfl ?_); refine gs_ (some 23) Try.func67 #[.agg #[.int .i64 a0_0, .int .i64 a0_1], .agg #[.int .i64 a1_0, .int .i64 a1_1], .int .i64 1] ?_; (with_reducible refine (spec_diAdd.calls kj2 a0_0 a0_1 a1_0 a1_1 1 t434 t435 false _ A25.out).mono ?_); rintro e w77 ⟨rfl, hb⟩; refine ⟨_, rfl, ?_⟩; replace BK429 := bb BK429 hb; replace BK430 := bb BK430 hb; replace BK431 := bb BK431 hb; replace HB := hs HB hb; (try clear hb); (try clear hb2); (try clear hk); (try clear hi)) | ((with_reducible refine gate_dst (N := 6) rfl ?_); refine be_ (N := 6) (cs := #[.int .i64 0, .int .i64 0]) (t := 23) ?_; intro gb437 hg w78 hbox hb; have BK437 := Aside0.mk (hbox); have GW437 := ge_ HB hg; have GE437 := ge_ HB hg; obtain ⟨NB429_437, NB437_429⟩ := nq_ BK429 hg; obtain ⟨NB430_437, NB437_430⟩ := nq_ BK430 hg; obtain ⟨NB431_437, NB437_431⟩ := nq_ BK431 hg; replace BK429 := bb BK429 hb; replace BK430 := bb BK430 hb; replace BK431 := bb BK431 hb; replace HB := hs HB hb; clear hb hbox hg; obtain ⟨hnb79, hnc79⟩ := nn_ NB437_429; obtain ⟨hnb80, hnc80⟩ := nn_ NB437_430; obtain ⟨hnb81, hnc81⟩ := nn_ NB437_431; have hcz82_0 := cz_ BK437 0 (.int .i64 0); have hcz82_1 := cz_ BK437 1 (.int .i64 0); have hfz82_0 := blk_frozen BK437.out 0; have hfz82_1 := blk_frozen BK437.out 1; have hcz83_0 := cz_ BK429 0 (.int .i64 a0_0); have hcz83_1 := cz_ BK429 1 (.int .i64 a0_1); have hcz83_2 := cz_ BK429 2 (.int .i64 a0_2); have hcz83_3 := cz_ BK429 3 (.int .i64 a0_3); have hfz83_0 := blk_frozen BK429.out 0; have hfz83_1 := blk_frozen BK429.out 1; have hfz83_2 := blk_frozen BK429.out 2; have hfz83_3 := blk_frozen BK429.out 3; have hcz84_0 := cz_ BK430 0 (.int .i64 a1_0); have hcz84_1 := cz_ BK430 1 (.int .i64 a1_1); have hfz84_0 := blk_frozen BK430.out 0; have hfz84_1 := blk_frozen BK430.out 1) | ((with_reducible refine gate_callee (f := 67) rfl ?_); refine gs_ (some 30) Try.func67 #[.agg #[.int .i64 a0_2, .int .i64 a0_3], .agg #[.int .i64 a1_0, .int .i64 a1_1], .int .i64 1] ?_; (with_reducible refine (spec_diAdd.calls kj2 a0_2 a0_3 a1_0 a1_1 1 t438 t439 t440 _ A26.out).mono ?_); rintro e w85 ⟨rfl, hb⟩; refine ⟨_, rfl, ?_⟩; replace BK429 := bb BK429 hb; replace BK430 := bb BK430 hb; replace BK431 := bb BK431 hb; replace BK437 := Aside0.mk (blk_below (g := gb437) (o := .cells #[.int .i64 t434, .int .i64 t435] 23 (0, 0)) (by (with_reducible repeat (first | refine blk_drewN ?_ _ | refine blk_drew ?_ | refine blk_alloc ?_ _)); refine blk_put (cs := #[.int .i64 t434, .int .i64 0]) ?_ 1 _ rfl; (with_reducible repeat (first | refine blk_drewN ?_ _ | refine blk_drew ?_ | refine blk_alloc ?_ _)); refine blk_put (cs := #[.int .i64 0, .int .i64 0]) ?_ 0 _ rfl; (with_reducible repeat (first | refine blk_drewN ?_ _ | refine blk_drew ?_ | refine blk_alloc ?_ _)); exact BK437.out) hb); replace HB := hs HB hb; (try clear hb); (try clear hb2); (try clear hk); (try clear hi)) | ((with_reducible refine gate_dst (N := 8) rfl ?_); refine be_ (N := 8) (cs := #[.int .i64 0, .int .i64 0]) (t := 23) ?_; intro gb441 hg w86 hbox hb; have BK441 := Aside0.mk (hbox); have GW441 := ge_ HB hg; have GE441 := ge_ HB hg; obtain ⟨NB429_441, NB441_429⟩ := nq_ BK429 hg; obtain ⟨NB430_441, NB441_430⟩ := nq_ BK430 hg; obtain ⟨NB431_441, NB441_431⟩ := nq_ BK431 hg; obtain ⟨NB437_441, NB441_437⟩ := nq_ BK437 hg; replace BK429 := bb BK429 hb; replace BK430 := bb BK430 hb; replace BK431 := bb BK431 hb; replace BK437 := bb BK437 hb; replace HB := hs HB hb; clear hb hbox hg; obtain ⟨hnb87, hnc87⟩ := nn_ NB441_429; obtain ⟨hnb88, hnc88⟩ := nn_ NB441_430; obtain ⟨hnb89, hnc89⟩ := nn_ NB441_431; obtain ⟨hnb90, hnc90⟩ := nn_ NB441_437; have hcz91_0 := cz_ BK441 0 (.int .i64 0); have hcz91_1 := cz_ BK441 1 (.int .i64 0); have hfz91_0 := blk_frozen BK441.out 0; have hfz91_1 := blk_frozen BK441.out 1; have hcz92_0 := cz_ BK431 0 (.int .i64 0); have hcz92_1 := cz_ BK431 1 (.int .i64 0); have hcz92_2 := cz_ BK431 2 (.int .i64 0); have hcz92_3 := cz_ BK431 3 (.int .i64 0); have hfz92_0 := blk_frozen BK431.out 0; have hfz92_1 := blk_frozen BK431.out 1; have hfz92_2 := blk_frozen BK431.out 2; have hfz92_3 := blk_frozen BK431.out 3))
      refine bodyPost_ret (results_ct rfl _ _ gb431 25 #[.int .i64 0, .int .i64 0, .int .i64 0, .int .i64 0] (0, 0) _ rfl (by (with_reducible repeat (first | refine blk_drewN ?_ _ | refine blk_drew ?_ | refine blk_alloc ?_ _)); refine blk_put (cs := #[.int .i64 0, .int .i64 0, .int .i64 0, .int .i64 0]) ?_ 3 _ rfl; (with_reducible repeat (first | refine blk_drewN ?_ _ | refine blk_drew ?_ | refine blk_alloc ?_ _)); refine blk_put (cs := #[.int .i64 0, .int .i64 0, .int .i64 0, .int .i64 0]) ?_ 2 _ rfl; (with_reducible repeat (first | refine blk_drewN ?_ _ | refine blk_drew ?_ | refine blk_alloc ?_ _)); refine blk_put (cs := #[.int .i64 0, .int .i64 0, .int .i64 0, .int .i64 0]) ?_ 1 _ rfl; (with_reducible repeat (first | refine blk_drewN ?_ _ | refine blk_drew ?_ | refine blk_alloc ?_ _)); refine blk_put (cs := #[.int .i64 0, .int .i64 0, .int .i64 0, .int .i64 0]) ?_ 0 _ rfl; (with_reducible repeat (first | refine blk_drewN ?_ _ | refine blk_drew ?_ | refine blk_alloc ?_ _)); refine blk_far ?_ NB431_441.out _; (with_reducible repeat (first | refine blk_drewN ?_ _ | refine blk_drew ?_ | refine blk_alloc ?_ _)); refine blk_far ?_ NB431_441.out _; (with_reducible repeat (first | refine blk_drewN ?_ _ | refine blk_drew ?_ | refine blk_alloc ?_ _)); exact BK431.out) Try.underlying25 rfl (by kernel_rfl)) rfl ?_
      exact ⟨by first | rfl | (simp [errW_none, errW_some] <;> rfl) | (simp [*, errW_none, errW_some] <;> rfl), (ho_ HB)⟩

/-! ### impl_AngleOf: function 40 -/
def impl_AngleOf.f (k : Nat) (a0 : Int) (a1_0 : Int) (a1_1 : Int) : Option (Int × Int × Bool) := (impl_isTime.f k a0 a1_0 a1_1).bind fun t444 => (if t444 = true then ((impl_Turn_times.f k a1_0 a1_1 (wrap64 (a0 - 1))).bind fun bt445 => (some (bt445.1, bt445.2, true))) else (some (0, 0, false)))
theorem impl_AngleOf.mono : ∀ a0 a1 a2 k, LeO (impl_AngleOf.f k a0 a1 a2) (impl_AngleOf.f (k + 1) a0 a1 a2) := by
 intro a0 a1 a2 k
 unfold impl_AngleOf.f
 repeat' first
   | (with_reducible exact impl_Turn_times.mono _ _ _ _)
   | (with_reducible exact impl_isTime.mono _ _ _ _)
   | (with_reducible exact LeO.refl _)
   | (with_reducible exact LeO.none _)
   | (with_reducible refine LeO.ite ?_ ?_)
   | (with_reducible refine LeO.bind ?_ (fun _ => ?_))
   | exact impl_Turn_times.mono _ _ _ _
   | exact impl_isTime.mono _ _ _ _
   | exact LeO.none _
   | refine LeO.ite ?_ ?_
   | refine LeO.bind ?_ (fun _ => ?_)
set_option maxHeartbeats 8000000 in
set_option maxRecDepth 100000 in
theorem impl_AngleOf.calls (k : Nat) (a0 : Int) (a1_0 : Int) (a1_1 : Int) (r1 : Int) (r2 : Int) (r3 : Bool) (w : World) (h : impl_AngleOf.f k a0 a1_0 a1_1 = some (r1, r2, r3)) :
  Calls Try.prog 40 #[.int .i64 a0, .agg #[.int .i64 a1_0, .int .i64 a1_1]] w fun e w' => e = .returned (.tuple #[.agg #[.int .i64 r1, .int .i64 r2], .bool r3]) ∧ Below w.heap.size w w' := by
 have hu23 := Try.underlying23
 have HB := Aside0.mk (Below.refl w.heap.size w)
 have H : ((impl_isTime.f k a0 a1_0 a1_1).bind fun t444 => (if t444 = true then ((impl_Turn_times.f k a1_0 a1_1 (wrap64 (a0 - 1))).bind fun bt445 => (some (bt445.1, bt445.2, true))) else (some (0, 0, false)))) = some (r1, r2, r3) := h
 clear h
 replace H := Option.bind_eq_some_iff.mp H
 obtain ⟨t444, A30, H⟩ := H
 replace H : (if t444 = true then ((impl_Turn_times.f k a1_0 a1_1 (wrap64 (a0 - 1))).bind fun bt445 => (some (bt445.1, bt445.2, true))) else (some (0, 0, false))) = some (r1, r2, r3) := H
 have A3 := Aside0.mk A30
 clear A30
 by_cases c4 : t444 = true
 ·
  subst c4
  have H1 : ((impl_Turn_times.f k a1_0 a1_1 (wrap64 (a0 - 1))).bind fun bt445 => (some (bt445.1, bt445.2, true))) = some (r1, r2, r3) := by rw [if_pos rfl] at H; exact H
  clear H
  have H := H1
  clear H1
  replace H := Option.bind_eq_some_iff.mp H
  obtain ⟨⟨t445, t446⟩, A50, H⟩ := H
  replace H : (some (t445, t446, true)) = some (r1, r2, r3) := H
  have A5 := Aside0.mk A50
  clear A50
  as_aux_lemma =>
   simp only [Option.some.injEq, Prod.mk.injEq] at H
   obtain ⟨rfl, rfl, rfl⟩ := H
   go_enter Try.func40, Try.ntmps40
   go_wp2_with (first | ((with_reducible refine gate_dst (N := 3) rfl ?_); refine be_ (N := 3) (cs := #[.int .i64 a1_0, .int .i64 a1_1]) (t := 23) ?_; intro gb442 hg w6 hbox hb; have BK442 := Aside0.mk (hbox); have GW442 := ge_ HB hg; have GE442 := ge_ HB hg; replace HB := hs HB hb; clear hb hbox hg) | ((with_reducible refine gate_dst (N := 4) rfl ?_); refine be_ (N := 4) (cs := #[.int .i64 0, .int .i64 0]) (t := 23) ?_; intro gb443 hg w7 hbox hb; have BK443 := Aside0.mk (hbox); have GW443 := ge_ HB hg; have GE443 := ge_ HB hg; obtain ⟨NB442_443, NB443_442⟩ := nq_ BK442 hg; replace BK442 := bb BK442 hb; replace HB := hs HB hb; clear hb hbox hg; obtain ⟨hnb8, hnc8⟩ := nn_ NB442_443; have hcz9_0 := cz_ BK442 0 (.int .i64 a1_0); have hcz9_1 := cz_ BK442 1 (.int .i64 a1_1); have hfz9_0 := blk_frozen BK442.out 0; have hfz9_1 := blk_frozen BK442.out 1) | ((with_reducible refine gate_callee (f := 48) rfl ?_); refine gs_ (some 8) Try.func48 #[.int .i64 a0, .agg #[.int .i64 a1_0, .int .i64 a1_1]] ?_; (with_reducible refine (impl_isTime.calls k a0 a1_0 a1_1 true _ A3.out).mono ?_); rintro e w10 ⟨rfl, hb⟩; refine ⟨_, rfl, ?_⟩; replace BK442 := bb BK442 hb; replace BK443 := bb BK443 hb; replace HB := hs HB hb; (try clear hb); (try clear hb2); (try clear hk); (try clear hi); have hcz11_0 := cz_ BK442 0 (.int .i64 a1_0); have hcz11_1 := cz_ BK442 1 (.int .i64 a1_1); have hfz11_0 := blk_frozen BK442.out 0; have hfz11_1 := blk_frozen BK442.out 1) | ((with_reducible refine gate_callee (f := 49) rfl ?_); refine gs_ (some 14) Try.func49 #[.agg #[.int .i64 a1_0, .int .i64 a1_1], .int .i64 (wrap64 (a0 - 1))] ?_; (with_reducible refine (impl_Turn_times.calls k a1_0 a1_1 (wrap64 (a0 - 1)) t445 t446 _ A5.out).mono ?_); rintro e w12 ⟨rfl, hb⟩; refine ⟨_, rfl, ?_⟩; replace BK442 := bb BK442 hb; replace BK443 := bb BK443 hb; replace HB := hs HB hb; (try clear hb); (try clear hb2); (try clear hk); (try clear hi); have hcz13_0 := cz_ BK443 0 (.int .i64 0); have hcz13_1 := cz_ BK443 1 (.int .i64 0); have hfz13_0 := blk_frozen BK443.out 0; have hfz13_1 := blk_frozen BK443.out 1))
   refine bodyPost_ret (results_ct rfl _ _ gb443 23 #[.int .i64 t445, .int .i64 t446] (0, 0) _ rfl (by (with_reducible repeat (first | refine blk_drewN ?_ _ | refine blk_drew ?_ | refine blk_alloc ?_ _)); refine blk_put (cs := #[.int .i64 t445, .int .i64 0]) ?_ 1 _ rfl; (with_reducible repeat (first | refine blk_drewN ?_ _ | refine blk_drew ?_ | refine blk_alloc ?_ _)); refine blk_put (cs := #[.int .i64 0, .int .i64 0]) ?_ 0 _ rfl; (with_reducible repeat (first | refine blk_drewN ?_ _ | refine blk_drew ?_ | refine blk_alloc ?_ _)); exact BK443.out) Try.underlying23 rfl (by kernel_rfl)) rfl ?_
   exact ⟨by first | rfl | (simp [errW_none, errW_some] <;> rfl) | (simp [*, errW_none, errW_some] <;> rfl), (ho_ HB)⟩
 ·
  replace c4 := Bool.eq_false_iff.mpr c4
  subst c4
  have H1 : (some (0, 0, false)) = some (r1, r2, r3) := by rw [if_neg (show ¬ (false = true) by decide)] at H; exact H
  clear H
  have H := H1
  clear H1
  as_aux_lemma =>
   simp only [Option.some.injEq, Prod.mk.injEq] at H
   obtain ⟨rfl, rfl, rfl⟩ := H
   go_enter Try.func40, Try.ntmps40
   go_wp2_with (first | ((with_reducible refine gate_dst (N := 3) rfl ?_); refine be_ (N := 3) (cs := #[.int .i64 a1_0, .int .i64 a1_1]) (t := 23) ?_; intro gb442 hg w14 hbox hb; have BK442 := Aside0.mk (hbox); have GW442 := ge_ HB hg; have GE442 := ge_ HB hg; replace HB := hs HB hb; clear hb hbox hg) | ((with_reducible refine gate_dst (N := 4) rfl ?_); refine be_ (N := 4) (cs := #[.int .i64 0, .int .i64 0]) (t := 23) ?_; intro gb443 hg w15 hbox hb; have BK443 := Aside0.mk (hbox); have GW443 := ge_ HB hg; have GE443 := ge_ HB hg; obtain ⟨NB442_443, NB443_442⟩ := nq_ BK442 hg; replace BK442 := bb BK442 hb; replace HB := hs HB hb; clear hb hbox hg; obtain ⟨hnb16, hnc16⟩ := nn_ NB442_443; have hcz17_0 := cz_ BK442 0 (.int .i64 a1_0); have hcz17_1 := cz_ BK442 1 (.int .i64 a1_1); have hfz17_0 := blk_frozen BK442.out 0; have hfz17_1 := blk_frozen BK442.out 1) | ((with_reducible refine gate_callee (f := 48) rfl ?_); refine gs_ (some 8) Try.func48 #[.int .i64 a0, .agg #[.int .i64 a1_0, .int .i64 a1_1]] ?_; (with_reducible refine (impl_isTime.calls k a0 a1_0 a1_1 false _ A3.out).mono ?_); rintro e w18 ⟨rfl, hb⟩; refine ⟨_, rfl, ?_⟩; replace BK442 := bb BK442 hb; replace BK443 := bb BK443 hb; replace HB := hs HB hb; (try clear hb); (try clear hb2); (try clear hk); (try clear hi); have hcz19_0 := cz_ BK443 0 (.int .i64 0); have hcz19_1 := cz_ BK443 1 (.int .i64 0); have hfz19_0 := blk_frozen BK443.out 0; have hfz19_1 := blk_frozen BK443.out 1))
   refine bodyPost_ret (results_ct rfl _ _ gb443 23 #[.int .i64 0, .int .i64 0] (0, 0) _ rfl (by (with_reducible repeat (first | refine blk_drewN ?_ _ | refine blk_drew ?_ | refine blk_alloc ?_ _)); refine blk_put (cs := #[.int .i64 0, .int .i64 0]) ?_ 1 _ rfl; (with_reducible repeat (first | refine blk_drewN ?_ _ | refine blk_drew ?_ | refine blk_alloc ?_ _)); refine blk_put (cs := #[.int .i64 0, .int .i64 0]) ?_ 0 _ rfl; (with_reducible repeat (first | refine blk_drewN ?_ _ | refine blk_drew ?_ | refine blk_alloc ?_ _)); exact BK443.out) Try.underlying23 rfl (by kernel_rfl)) rfl ?_
   exact ⟨by first | rfl | (simp [errW_none, errW_some] <;> rfl) | (simp [*, errW_none, errW_some] <;> rfl), (ho_ HB)⟩

/-! ### impl_MirrorTurn: function 41 -/
def impl_MirrorTurn.f (k : Nat) (a0_0 : Int) (a0_1 : Int) : Option (Int × Int × Bool) := (impl_IsTurn.f k a0_0 a0_1).bind fun t449 => (if t449 = true then ((impl_Turn_mirror.f k a0_0 a0_1).bind fun bt450 => (some (bt450.1, bt450.2, true))) else (some (0, 0, false)))
theorem impl_MirrorTurn.mono : ∀ a0 a1 k, LeO (impl_MirrorTurn.f k a0 a1) (impl_MirrorTurn.f (k + 1) a0 a1) := by
 intro a0 a1 k
 unfold impl_MirrorTurn.f
 repeat' first
   | (with_reducible exact impl_IsTurn.mono _ _ _)
   | (with_reducible exact impl_Turn_mirror.mono _ _ _)
   | (with_reducible exact LeO.refl _)
   | (with_reducible exact LeO.none _)
   | (with_reducible refine LeO.ite ?_ ?_)
   | (with_reducible refine LeO.bind ?_ (fun _ => ?_))
   | exact impl_IsTurn.mono _ _ _
   | exact impl_Turn_mirror.mono _ _ _
   | exact LeO.none _
   | refine LeO.ite ?_ ?_
   | refine LeO.bind ?_ (fun _ => ?_)
set_option maxHeartbeats 8000000 in
set_option maxRecDepth 100000 in
theorem impl_MirrorTurn.calls (k : Nat) (a0_0 : Int) (a0_1 : Int) (r1 : Int) (r2 : Int) (r3 : Bool) (w : World) (h : impl_MirrorTurn.f k a0_0 a0_1 = some (r1, r2, r3)) :
  Calls Try.prog 41 #[.agg #[.int .i64 a0_0, .int .i64 a0_1]] w fun e w' => e = .returned (.tuple #[.agg #[.int .i64 r1, .int .i64 r2], .bool r3]) ∧ Below w.heap.size w w' := by
 have hu23 := Try.underlying23
 have HB := Aside0.mk (Below.refl w.heap.size w)
 have H : ((impl_IsTurn.f k a0_0 a0_1).bind fun t449 => (if t449 = true then ((impl_Turn_mirror.f k a0_0 a0_1).bind fun bt450 => (some (bt450.1, bt450.2, true))) else (some (0, 0, false)))) = some (r1, r2, r3) := h
 clear h
 replace H := Option.bind_eq_some_iff.mp H
 obtain ⟨t449, A20, H⟩ := H
 replace H : (if t449 = true then ((impl_Turn_mirror.f k a0_0 a0_1).bind fun bt450 => (some (bt450.1, bt450.2, true))) else (some (0, 0, false))) = some (r1, r2, r3) := H
 have A2 := Aside0.mk A20
 clear A20
 by_cases c3 : t449 = true
 ·
  subst c3
  have H1 : ((impl_Turn_mirror.f k a0_0 a0_1).bind fun bt450 => (some (bt450.1, bt450.2, true))) = some (r1, r2, r3) := by rw [if_pos rfl] at H; exact H
  clear H
  have H := H1
  clear H1
  replace H := Option.bind_eq_some_iff.mp H
  obtain ⟨⟨t450, t451⟩, A40, H⟩ := H
  replace H : (some (t450, t451, true)) = some (r1, r2, r3) := H
  have A4 := Aside0.mk A40
  clear A40
  as_aux_lemma =>
   simp only [Option.some.injEq, Prod.mk.injEq] at H
   obtain ⟨rfl, rfl, rfl⟩ := H
   go_enter Try.func41, Try.ntmps41
   go_wp2_with (first | ((with_reducible refine gate_dst (N := 1) rfl ?_); refine be_ (N := 1) (cs := #[.int .i64 a0_0, .int .i64 a0_1]) (t := 23) ?_; intro gb447 hg w5 hbox hb; have BK447 := Aside0.mk (hbox); have GW447 := ge_ HB hg; have GE447 := ge_ HB hg; replace HB := hs HB hb; clear hb hbox hg) | ((with_reducible refine gate_dst (N := 2) rfl ?_); refine be_ (N := 2) (cs := #[.int .i64 0, .int .i64 0]) (t := 23) ?_; intro gb448 hg w6 hbox hb; have BK448 := Aside0.mk (hbox); have GW448 := ge_ HB hg; have GE448 := ge_ HB hg; obtain ⟨NB447_448, NB448_447⟩ := nq_ BK447 hg; replace BK447 := bb BK447 hb; replace HB := hs HB hb; clear hb hbox hg; obtain ⟨hnb7, hnc7⟩ := nn_ NB447_448; have hcz8_0 := cz_ BK447 0 (.int .i64 a0_0); have hcz8_1 := cz_ BK447 1 (.int .i64 a0_1); have hfz8_0 := blk_frozen BK447.out 0; have hfz8_1 := blk_frozen BK447.out 1) | ((with_reducible refine gate_callee (f := 68) rfl ?_); refine gs_ (some 5) Try.func68 #[.agg #[.int .i64 a0_0, .int .i64 a0_1]] ?_; (with_reducible refine (impl_IsTurn.calls k a0_0 a0_1 true _ A2.out).mono ?_); rintro e w9 ⟨rfl, hb⟩; refine ⟨_, rfl, ?_⟩; replace BK447 := bb BK447 hb; replace BK448 := bb BK448 hb; replace HB := hs HB hb; (try clear hb); (try clear hb2); (try clear hk); (try clear hi); have hcz10_0 := cz_ BK447 0 (.int .i64 a0_0); have hcz10_1 := cz_ BK447 1 (.int .i64 a0_1); have hfz10_0 := blk_frozen BK447.out 0; have hfz10_1 := blk_frozen BK447.out 1) | ((with_reducible refine gate_callee (f := 60) rfl ?_); refine gs_ (some 9) Try.func60 #[.agg #[.int .i64 a0_0, .int .i64 a0_1]] ?_; (with_reducible refine (impl_Turn_mirror.calls k a0_0 a0_1 t450 t451 _ A4.out).mono ?_); rintro e w11 ⟨rfl, hb⟩; refine ⟨_, rfl, ?_⟩; replace BK447 := bb BK447 hb; replace BK448 := bb BK448 hb; replace HB := hs HB hb; (try clear hb); (try clear hb2); (try clear hk); (try clear hi); have hcz12_0 := cz_ BK448 0 (.int .i64 0); have hcz12_1 := cz_ BK448 1 (.int .i64 0); have hfz12_0 := blk_frozen BK448.out 0; have hfz12_1 := blk_frozen BK448.out 1))
   refine bodyPost_ret (results_ct rfl _ _ gb448 23 #[.int .i64 t450, .int .i64 t451] (0, 0) _ rfl (by (with_reducible repeat (first | refine blk_drewN ?_ _ | refine blk_drew ?_ | refine blk_alloc ?_ _)); refine blk_put (cs := #[.int .i64 t450, .int .i64 0]) ?_ 1 _ rfl; (with_reducible repeat (first | refine blk_drewN ?_ _ | refine blk_drew ?_ | refine blk_alloc ?_ _)); refine blk_put (cs := #[.int .i64 0, .int .i64 0]) ?_ 0 _ rfl; (with_reducible repeat (first | refine blk_drewN ?_ _ | refine blk_drew ?_ | refine blk_alloc ?_ _)); exact BK448.out) Try.underlying23 rfl (by kernel_rfl)) rfl ?_
   exact ⟨by first | rfl | (simp [errW_none, errW_some] <;> rfl) | (simp [*, errW_none, errW_some] <;> rfl), (ho_ HB)⟩
 ·
  replace c3 := Bool.eq_false_iff.mpr c3
  subst c3
  have H1 : (some (0, 0, false)) = some (r1, r2, r3) := by rw [if_neg (show ¬ (false = true) by decide)] at H; exact H
  clear H
  have H := H1
  clear H1
  as_aux_lemma =>
   simp only [Option.some.injEq, Prod.mk.injEq] at H
   obtain ⟨rfl, rfl, rfl⟩ := H
   go_enter Try.func41, Try.ntmps41
   go_wp2_with (first | ((with_reducible refine gate_dst (N := 1) rfl ?_); refine be_ (N := 1) (cs := #[.int .i64 a0_0, .int .i64 a0_1]) (t := 23) ?_; intro gb447 hg w13 hbox hb; have BK447 := Aside0.mk (hbox); have GW447 := ge_ HB hg; have GE447 := ge_ HB hg; replace HB := hs HB hb; clear hb hbox hg) | ((with_reducible refine gate_dst (N := 2) rfl ?_); refine be_ (N := 2) (cs := #[.int .i64 0, .int .i64 0]) (t := 23) ?_; intro gb448 hg w14 hbox hb; have BK448 := Aside0.mk (hbox); have GW448 := ge_ HB hg; have GE448 := ge_ HB hg; obtain ⟨NB447_448, NB448_447⟩ := nq_ BK447 hg; replace BK447 := bb BK447 hb; replace HB := hs HB hb; clear hb hbox hg; obtain ⟨hnb15, hnc15⟩ := nn_ NB447_448; have hcz16_0 := cz_ BK447 0 (.int .i64 a0_0); have hcz16_1 := cz_ BK447 1 (.int .i64 a0_1); have hfz16_0 := blk_frozen BK447.out 0; have hfz16_1 := blk_frozen BK447.out 1) | ((with_reducible refine gate_callee (f := 68) rfl ?_); refine gs_ (some 5) Try.func68 #[.agg #[.int .i64 a0_0, .int .i64 a0_1]] ?_; (with_reducible refine (impl_IsTurn.calls k a0_0 a0_1 false _ A2.out).mono ?_); rintro e w17 ⟨rfl, hb⟩; refine ⟨_, rfl, ?_⟩; replace BK447 := bb BK447 hb; replace BK448 := bb BK448 hb; replace HB := hs HB hb; (try clear hb); (try clear hb2); (try clear hk); (try clear hi); have hcz18_0 := cz_ BK448 0 (.int .i64 0); have hcz18_1 := cz_ BK448 1 (.int .i64 0); have hfz18_0 := blk_frozen BK448.out 0; have hfz18_1 := blk_frozen BK448.out 1))
   refine bodyPost_ret (results_ct rfl _ _ gb448 23 #[.int .i64 0, .int .i64 0] (0, 0) _ rfl (by (with_reducible repeat (first | refine blk_drewN ?_ _ | refine blk_drew ?_ | refine blk_alloc ?_ _)); refine blk_put (cs := #[.int .i64 0, .int .i64 0]) ?_ 1 _ rfl; (with_reducible repeat (first | refine blk_drewN ?_ _ | refine blk_drew ?_ | refine blk_alloc ?_ _)); refine blk_put (cs := #[.int .i64 0, .int .i64 0]) ?_ 0 _ rfl; (with_reducible repeat (first | refine blk_drewN ?_ _ | refine blk_drew ?_ | refine blk_alloc ?_ _)); exact BK448.out) Try.underlying23 rfl (by kernel_rfl)) rfl ?_
   exact ⟨by first | rfl | (simp [errW_none, errW_some] <;> rfl) | (simp [*, errW_none, errW_some] <;> rfl), (ho_ HB)⟩

end Go.Proofs.Ytkfcaldjepmffaa.GFnDialsTurnedOfAll
