-- Written by a program of this session (a copy of the kit's print program that takes contracts of one's own); Lean checks it.
import Derived.Test.YtkfcaldjepmffaaGFnSeenTrueOfAllx0
import Derived.Test.YtkfcaldjepmffaaGFnSeenTrueOfAllx4
import Derived.Test.YtkfcaldjepmffaaGFnSeenTrueOfAllx5
import Derived.Test.YtkfcaldjepmffaaGFnSeenTrueOfAllx10
namespace Go.Proofs.Ytkfcaldjepmffaa.GFnSeenTrueOfAll
open Go.RowKit Go.Proofs.YtkfcaldjepmffaaW.PrintWords Go.Proofs.YtkfcaldjepmffaaW.PrintLast Go.Proofs.YtkfcaldjepmffaaW.PrintMore
attribute [local go_sem] max2_int min2_int max_two min_two max_three min_three max_four min_four   -- for this text's walks alone
set_option linter.unusedVariables false
set_option linter.unusedSimpArgs false

/-! ### impl_MirrorSeen: function 23 -/
def impl_MirrorSeen.f (k : Nat) (a0_0 : Int) (a0_1 : Int) (a0_2 : Int) (a0_3 : Int) : Option (Int × Int × Int × Int × Bool) := (impl_IsSeen.f k a0_0 a0_1 a0_2 a0_3).bind fun t349 => (if t349 = true then ((impl_Turn_mirror.f k a0_0 a0_1).bind fun bt350 => ((impl_Turn_mirror.f k a0_2 a0_3).bind fun bt352 => (some (bt350.1, bt350.2, bt352.1, bt352.2, true)))) else (some (0, 0, 0, 0, false)))
theorem impl_MirrorSeen.mono : ∀ a0 a1 a2 a3 k, LeO (impl_MirrorSeen.f k a0 a1 a2 a3) (impl_MirrorSeen.f (k + 1) a0 a1 a2 a3) := by
 intro a0 a1 a2 a3 k
 unfold impl_MirrorSeen.f
 repeat' first
   | (with_reducible exact impl_IsSeen.mono _ _ _ _ _)
   | (with_reducible exact impl_Turn_mirror.mono _ _ _)
   | (with_reducible exact LeO.refl _)
   | (with_reducible exact LeO.none _)
   | (with_reducible refine LeO.ite ?_ ?_)
   | (with_reducible refine LeO.bind ?_ (fun _ => ?_))
   | exact impl_IsSeen.mono _ _ _ _ _
   | exact impl_Turn_mirror.mono _ _ _
   | exact LeO.none _
   | refine LeO.ite ?_ ?_
   | refine LeO.bind ?_ (fun _ => ?_)
def impl_MirrorSeen.T3 : Bool × List (List Nat × List Nat) := (true, [([], []), ([0], [0]), ([1], [1]), ([], []), ([3], [3]), ([4, 2], [4]), ([2, 5], [2, 5]), ([6, 5, 0, 1, 2, 3, 4, 5, 6], [6]), ([7, 0, 1, 2, 3, 4, 5, 6, 7], [])])
def impl_MirrorSeen.B3 : List Nat := [0, 1, 3, 0, 8, 31, 63, 127, 255]
theorem impl_MirrorSeen.tab3 : rtab .any (opsOf Try.f23 3) = impl_MirrorSeen.T3 := by kernel_rfl
theorem impl_MirrorSeen.bits3 : waitsOk impl_MirrorSeen.T3.2 impl_MirrorSeen.B3 = true := by kernel_rfl
set_option maxHeartbeats 8000000 in
set_option maxRecDepth 100000 in
theorem impl_MirrorSeen.calls (k : Nat) (a0_0 : Int) (a0_1 : Int) (a0_2 : Int) (a0_3 : Int) (r1 : Int) (r2 : Int) (r3 : Int) (r4 : Int) (r5 : Bool) (w : World) (h : impl_MirrorSeen.f k a0_0 a0_1 a0_2 a0_3 = some (r1, r2, r3, r4, r5)) :
  Calls Try.prog 23 #[.agg #[.int .i64 a0_0, .int .i64 a0_1, .int .i64 a0_2, .int .i64 a0_3]] w fun e w' => e = .returned (.tuple #[.agg #[.int .i64 r1, .int .i64 r2, .int .i64 r3, .int .i64 r4], .bool r5]) ∧ Below w.heap.size w w' := by
 have hu25 := Try.underlying25
 have hu23 := Try.underlying23
 have HB := Aside0.mk (Below.refl w.heap.size w)
 have H : ((impl_IsSeen.f k a0_0 a0_1 a0_2 a0_3).bind fun t349 => (if t349 = true then ((impl_Turn_mirror.f k a0_0 a0_1).bind fun bt350 => ((impl_Turn_mirror.f k a0_2 a0_3).bind fun bt352 => (some (bt350.1, bt350.2, bt352.1, bt352.2, true)))) else (some (0, 0, 0, 0, false)))) = some (r1, r2, r3, r4, r5) := h
 clear h
 replace H := Option.bind_eq_some_iff.mp H
 obtain ⟨t349, A20, H⟩ := H
 replace H : (if t349 = true then ((impl_Turn_mirror.f k a0_0 a0_1).bind fun bt350 => ((impl_Turn_mirror.f k a0_2 a0_3).bind fun bt352 => (some (bt350.1, bt350.2, bt352.1, bt352.2, true)))) else (some (0, 0, 0, 0, false))) = some (r1, r2, r3, r4, r5) := H
 have A2 := Aside0.mk A20
 clear A20
 by_cases c3 : t349 = true
 ·
  subst c3
  have H1 : ((impl_Turn_mirror.f k a0_0 a0_1).bind fun bt350 => ((impl_Turn_mirror.f k a0_2 a0_3).bind fun bt352 => (some (bt350.1, bt350.2, bt352.1, bt352.2, true)))) = some (r1, r2, r3, r4, r5) := by rw [if_pos rfl] at H; exact H
  clear H
  have H := H1
  clear H1
  replace H := Option.bind_eq_some_iff.mp H
  obtain ⟨⟨t350, t351⟩, A40, H⟩ := H
  replace H : ((impl_Turn_mirror.f k a0_2 a0_3).bind fun bt352 => (some (t350, t351, bt352.1, bt352.2, true))) = some (r1, r2, r3, r4, r5) := H
  have A4 := Aside0.mk A40
  clear A40
  replace H := Option.bind_eq_some_iff.mp H
  obtain ⟨⟨t352, t353⟩, A50, H⟩ := H
  replace H : (some (t350, t351, t352, t353, true)) = some (r1, r2, r3, r4, r5) := H
  have A5 := Aside0.mk A50
  clear A50
  as_aux_lemma =>
   simp only [Option.some.injEq, Prod.mk.injEq] at H
   obtain ⟨rfl, rfl, rfl, rfl, rfl⟩ := H
   go_enter Try.func23, Try.ntmps23
   try go_wp2_with (first | ((with_reducible refine gate_dst (N := 1) rfl ?_); refine be_ (N := 1) (cs := #[.int .i64 a0_0, .int .i64 a0_1, .int .i64 a0_2, .int .i64 a0_3]) (t := 25) ?_; intro gb347 hg w6 hbox hb; have BK347 := Aside0.mk (hbox); have GW347 := ge_ HB hg; have GE347 := ge_ HB hg; replace HB := hs HB hb; clear hb hbox hg) | ((with_reducible refine gate_dst (N := 2) rfl ?_); refine be_ (N := 2) (cs := #[.int .i64 0, .int .i64 0, .int .i64 0, .int .i64 0]) (t := 25) ?_; intro gb348 hg w7 hbox hb; have BK348 := Aside0.mk (hbox); have GW348 := ge_ HB hg; have GE348 := ge_ HB hg; obtain ⟨NB347_348, NB348_347⟩ := nq_ BK347 hg; replace BK347 := bb BK347 hb; replace HB := hs HB hb; clear hb hbox hg; obtain ⟨hnb8, hnc8⟩ := nn_ NB347_348; have hcz9_0 := cz_ BK347 0 (.int .i64 a0_0); have hcz9_1 := cz_ BK347 1 (.int .i64 a0_1); have hcz9_2 := cz_ BK347 2 (.int .i64 a0_2); have hcz9_3 := cz_ BK347 3 (.int .i64 a0_3); have hfz9_0 := blk_frozen BK347.out 0; have hfz9_1 := blk_frozen BK347.out 1; have hfz9_2 := blk_frozen BK347.out 2; have hfz9_3 := blk_frozen BK347.out 3) | ((with_reducible refine gate_callee (f := 13) rfl ?_); refine gs_ (some 5) Try.func13 #[.agg #[.int .i64 a0_0, .int .i64 a0_1, .int .i64 a0_2, .int .i64 a0_3]] ?_; (with_reducible refine (impl_IsSeen.calls k a0_0 a0_1 a0_2 a0_3 true _ A2.out).mono ?_); rintro e w10 ⟨rfl, hb⟩; refine ⟨_, rfl, ?_⟩; replace BK347 := bb BK347 hb; replace BK348 := bb BK348 hb; replace HB := hs HB hb; (try clear hb); (try clear hb2); (try clear hk); (try clear hi)))
   replace BK347 := Aside0.mk (blk_drew BK347.out)
   replace BK348 := Aside0.mk (blk_drew BK348.out)
   replace HB := Aside0.mk (below_drew1 HB.out)
   refine start_ (n := 9) (S := fun w' => w'.cell? ⟨gb347, 0, none⟩ = some (.int .i64 a0_0) ∧ w'.cell? ⟨gb347, 1, none⟩ = some (.int .i64 a0_1) ∧ w'.cell? ⟨gb347, 2, none⟩ = some (.int .i64 a0_2) ∧ w'.cell? ⟨gb347, 3, none⟩ = some (.int .i64 a0_3)) (ds := []) #[false, false, false, false, false, false, false, false, false] (by kernel_rfl) rfl rfl ⟨(blk_cell BK347.out 0).trans rfl, (blk_cell BK347.out 1).trans rfl, (blk_cell BK347.out 2).trans rfl, (blk_cell BK347.out 3).trans rfl⟩ (fun hHeld => ?_); refine with_tabW impl_MirrorSeen.tab3 impl_MirrorSeen.bits3 (fun HT_ HW_ => ?_)
   generalize w10.drew = w11 at BK347 BK348 HB hHeld ⊢
   refine pu_ 0 (some 8) HT_.out ?_
   refine pu_ 3 (some 11) HT_.out ?_
   refine take_ (i := 1) (N := some 9) (v := ?_) (a' := ?_) #[true, true, false, true, false, false, false, false, false] rfl rfl (take_ofW HT_.out HW_.out (by kernel_rfl)) (fun _ _ _ h => h) (Or.inl ⟨by rfl, ?_⟩) hHeld ?_ ?_
   rotate_left
   ·
    rintro w' ⟨s0, s1, s2, s3⟩
    go_simp
    with_reducible rfl
   rotate_left
   ·
    simp only [Act.put, List.setIfInBounds_toArray, List.set_cons_zero, List.set_cons_succ, i64_w, i32_w]
    rfl
   refine take_ (i := 4) (N := some 12) (v := ?_) (a' := ?_) #[true, true, false, true, true, false, false, false, false] rfl rfl (take_ofW HT_.out HW_.out (by kernel_rfl)) (fun _ _ _ h => h) (Or.inl ⟨by rfl, ?_⟩) hHeld ?_ ?_
   rotate_left
   ·
    rintro w' ⟨s0, s1, s2, s3⟩
    go_simp
    with_reducible rfl
   rotate_left
   ·
    simp only [Act.put, List.setIfInBounds_toArray, List.set_cons_zero, List.set_cons_succ, i64_w, i32_w]
    rfl
   refine one_ (i := 2) (N := some 10) #[true, true, true, true, true, false, false, false, false] rfl rfl (one_of HT_.out (by kernel_rfl)) (by decide) (fun K hK => ?_)
   refine goes_ Try.func60 (by kernel_rfl) rfl #[.agg #[.int .i64 a0_0, .int .i64 a0_1]] (by rfl) rfl rfl (by (try simp only [List.map_toArray, List.map_cons, List.map_nil]); first | done | rfl | (simp only [List.length_drop, List.length_take]; rfl)) ?_
   with_reducible refine (impl_Turn_mirror.calls k a0_0 a0_1 t350 t351 _ A4.out).mono ?_
   rintro e w12 ⟨rfl, hb⟩
   refine ⟨_, rfl, ?_⟩
   replace BK347 := bb BK347 hb
   replace BK348 := bb BK348 hb
   replace HB := hs HB hb
   (try clear hb)
   (try clear hb2)
   (try clear hk)
   (try clear hi)
   refine hK.out _ _ ⟨(blk_cell BK347.out 0).trans rfl, (blk_cell BK347.out 1).trans rfl, (blk_cell BK347.out 2).trans rfl, (blk_cell BK347.out 3).trans rfl⟩ (fun hHeld => ?_)
   clear hK K
   refine norm_ (a' := ?_) ?_ ?_
   rotate_left
   ·
    show Act.put _ (some 10) _ = _
    simp only [Act.put, List.setIfInBounds_toArray, List.set_cons_zero, List.set_cons_succ, i64_w, i32_w]
    rfl
   refine one_ (i := 5) (N := some 13) #[true, true, true, true, true, true, false, false, false] rfl rfl (one_of HT_.out (by kernel_rfl)) (by decide) (fun K hK => ?_)
   refine goes_ Try.func60 (by kernel_rfl) rfl #[.agg #[.int .i64 a0_2, .int .i64 a0_3]] (by rfl) rfl rfl (by (try simp only [List.map_toArray, List.map_cons, List.map_nil]); first | done | rfl | (simp only [List.length_drop, List.length_take]; rfl)) ?_
   with_reducible refine (impl_Turn_mirror.calls k a0_2 a0_3 t352 t353 _ A5.out).mono ?_
   rintro e w13 ⟨rfl, hb⟩
   refine ⟨_, rfl, ?_⟩
   replace BK347 := bb BK347 hb
   replace BK348 := bb BK348 hb
   replace HB := hs HB hb
   (try clear hb)
   (try clear hb2)
   (try clear hk)
   (try clear hi)
   refine hK.out _ _ ⟨(blk_cell BK347.out 0).trans rfl, (blk_cell BK347.out 1).trans rfl, (blk_cell BK347.out 2).trans rfl, (blk_cell BK347.out 3).trans rfl⟩ (fun hHeld => ?_)
   clear hK K
   refine norm_ (a' := ?_) ?_ ?_
   rotate_left
   ·
    show Act.put _ (some 13) _ = _
    simp only [Act.put, List.setIfInBounds_toArray, List.set_cons_zero, List.set_cons_succ, i64_w, i32_w]
    rfl
   refine pu_ 6 (some 14) HT_.out ?_
   refine one_ (i := 7) (N := none) #[true, true, true, true, true, true, true, true, false] rfl rfl (one_of HT_.out (by kernel_rfl)) (by decide) (fun K hK => ?_)
   have hs14 : w13.cell? ⟨gb348, 0, none⟩ = some (.int .i64 0) := (blk_cell BK348.out 0).trans rfl
   have hfs14 := blk_frozen BK348.out 0
   obtain ⟨hns14_0, hms14_0⟩ := nn_ NB347_348
   have hs15 : w13.cell? ⟨gb348, 1, none⟩ = some (.int .i64 0) := (blk_cell BK348.out 1).trans rfl
   have hfs15 := blk_frozen BK348.out 1
   obtain ⟨hns15_0, hms15_0⟩ := nn_ NB347_348
   have hs16 : w13.cell? ⟨gb348, 2, none⟩ = some (.int .i64 0) := (blk_cell BK348.out 2).trans rfl
   have hfs16 := blk_frozen BK348.out 2
   obtain ⟨hns16_0, hms16_0⟩ := nn_ NB347_348
   have hs17 : w13.cell? ⟨gb348, 3, none⟩ = some (.int .i64 0) := (blk_cell BK348.out 3).trans rfl
   have hfs17 := blk_frozen BK348.out 3
   obtain ⟨hns17_0, hms17_0⟩ := nn_ NB347_348
   refine skip_ (w1 := ?_) (by rfl) rfl ?_ ?_
   rotate_left
   ·
    go_simp
    rfl
   refine hK.out _ _ ⟨((cell_far (p := ⟨gb348, _, none⟩) NB347_348.out _).trans (((cell_far (p := ⟨gb348, _, none⟩) NB347_348.out _).trans (((cell_far (p := ⟨gb348, _, none⟩) NB347_348.out _).trans (((cell_far (p := ⟨gb348, _, none⟩) NB347_348.out _).trans (hHeld.1)))))))), ((cell_far (p := ⟨gb348, _, none⟩) NB347_348.out _).trans (((cell_far (p := ⟨gb348, _, none⟩) NB347_348.out _).trans (((cell_far (p := ⟨gb348, _, none⟩) NB347_348.out _).trans (((cell_far (p := ⟨gb348, _, none⟩) NB347_348.out _).trans (hHeld.2.1)))))))), ((cell_far (p := ⟨gb348, _, none⟩) NB347_348.out _).trans (((cell_far (p := ⟨gb348, _, none⟩) NB347_348.out _).trans (((cell_far (p := ⟨gb348, _, none⟩) NB347_348.out _).trans (((cell_far (p := ⟨gb348, _, none⟩) NB347_348.out _).trans (hHeld.2.2.1)))))))), ((cell_far (p := ⟨gb348, _, none⟩) NB347_348.out _).trans (((cell_far (p := ⟨gb348, _, none⟩) NB347_348.out _).trans (((cell_far (p := ⟨gb348, _, none⟩) NB347_348.out _).trans (((cell_far (p := ⟨gb348, _, none⟩) NB347_348.out _).trans (hHeld.2.2.2))))))))⟩ (fun hHeld => ?_)
   clear hK K
   refine pu_ 8 (some 3) HT_.out ?_
   refine done_ (done_of HT_.out (by kernel_rfl)) ?_
   try go_wp2
   refine bodyPost_ret (results_ct rfl _ _ gb348 25 #[.int .i64 t350, .int .i64 t351, .int .i64 t352, .int .i64 t353] (0, 0) _ rfl (by (with_reducible repeat (first | refine blk_drewN ?_ _ | refine blk_drew ?_ | refine blk_alloc ?_ _)); refine blk_put (cs := #[.int .i64 t350, .int .i64 t351, .int .i64 t352, .int .i64 0]) ?_ 3 _ rfl; (with_reducible repeat (first | refine blk_drewN ?_ _ | refine blk_drew ?_ | refine blk_alloc ?_ _)); refine blk_put (cs := #[.int .i64 t350, .int .i64 t351, .int .i64 0, .int .i64 0]) ?_ 2 _ rfl; (with_reducible repeat (first | refine blk_drewN ?_ _ | refine blk_drew ?_ | refine blk_alloc ?_ _)); refine blk_put (cs := #[.int .i64 t350, .int .i64 0, .int .i64 0, .int .i64 0]) ?_ 1 _ rfl; (with_reducible repeat (first | refine blk_drewN ?_ _ | refine blk_drew ?_ | refine blk_alloc ?_ _)); refine blk_put (cs := #[.int .i64 0, .int .i64 0, .int .i64 0, .int .i64 0]) ?_ 0 _ rfl; (with_reducible repeat (first | refine blk_drewN ?_ _ | refine blk_drew ?_ | refine blk_alloc ?_ _)); exact BK348.out) Try.underlying25 rfl (by kernel_rfl)) rfl ?_
   exact ⟨by first | rfl | (simp [errW_none, errW_some] <;> rfl) | (simp [*, errW_none, errW_some] <;> rfl), (ho_ HB)⟩
 ·
  replace c3 := Bool.eq_false_iff.mpr c3
  subst c3
  have H1 : (some (0, 0, 0, 0, false)) = some (r1, r2, r3, r4, r5) := by rw [if_neg (show ¬ (false = true) by decide)] at H; exact H
  clear H
  have H := H1
  clear H1
  as_aux_lemma =>
   simp only [Option.some.injEq, Prod.mk.injEq] at H
   obtain ⟨rfl, rfl, rfl, rfl, rfl⟩ := H
   go_enter Try.func23, Try.ntmps23
   go_wp2_with (first | ((with_reducible refine gate_dst (N := 1) rfl ?_); refine be_ (N := 1) (cs := #[.int .i64 a0_0, .int .i64 a0_1, .int .i64 a0_2, .int .i64 a0_3]) (t := 25) ?_; intro gb347 hg w18 hbox hb; have BK347 := Aside0.mk (hbox); have GW347 := ge_ HB hg; have GE347 := ge_ HB hg; replace HB := hs HB hb; clear hb hbox hg) | ((with_reducible refine gate_dst (N := 2) rfl ?_); refine be_ (N := 2) (cs := #[.int .i64 0, .int .i64 0, .int .i64 0, .int .i64 0]) (t := 25) ?_; intro gb348 hg w19 hbox hb; have BK348 := Aside0.mk (hbox); have GW348 := ge_ HB hg; have GE348 := ge_ HB hg; obtain ⟨NB347_348, NB348_347⟩ := nq_ BK347 hg; replace BK347 := bb BK347 hb; replace HB := hs HB hb; clear hb hbox hg; obtain ⟨hnb20, hnc20⟩ := nn_ NB347_348; have hcz21_0 := cz_ BK347 0 (.int .i64 a0_0); have hcz21_1 := cz_ BK347 1 (.int .i64 a0_1); have hcz21_2 := cz_ BK347 2 (.int .i64 a0_2); have hcz21_3 := cz_ BK347 3 (.int .i64 a0_3); have hfz21_0 := blk_frozen BK347.out 0; have hfz21_1 := blk_frozen BK347.out 1; have hfz21_2 := blk_frozen BK347.out 2; have hfz21_3 := blk_frozen BK347.out 3) | ((with_reducible refine gate_callee (f := 13) rfl ?_); refine gs_ (some 5) Try.func13 #[.agg #[.int .i64 a0_0, .int .i64 a0_1, .int .i64 a0_2, .int .i64 a0_3]] ?_; (with_reducible refine (impl_IsSeen.calls k a0_0 a0_1 a0_2 a0_3 false _ A2.out).mono ?_); rintro e w22 ⟨rfl, hb⟩; refine ⟨_, rfl, ?_⟩; replace BK347 := bb BK347 hb; replace BK348 := bb BK348 hb; replace HB := hs HB hb; (try clear hb); (try clear hb2); (try clear hk); (try clear hi); have hcz23_0 := cz_ BK348 0 (.int .i64 0); have hcz23_1 := cz_ BK348 1 (.int .i64 0); have hcz23_2 := cz_ BK348 2 (.int .i64 0); have hcz23_3 := cz_ BK348 3 (.int .i64 0); have hfz23_0 := blk_frozen BK348.out 0; have hfz23_1 := blk_frozen BK348.out 1; have hfz23_2 := blk_frozen BK348.out 2; have hfz23_3 := blk_frozen BK348.out 3))
   refine bodyPost_ret (results_ct rfl _ _ gb348 25 #[.int .i64 0, .int .i64 0, .int .i64 0, .int .i64 0] (0, 0) _ rfl (by (with_reducible repeat (first | refine blk_drewN ?_ _ | refine blk_drew ?_ | refine blk_alloc ?_ _)); refine blk_put (cs := #[.int .i64 0, .int .i64 0, .int .i64 0, .int .i64 0]) ?_ 3 _ rfl; (with_reducible repeat (first | refine blk_drewN ?_ _ | refine blk_drew ?_ | refine blk_alloc ?_ _)); refine blk_put (cs := #[.int .i64 0, .int .i64 0, .int .i64 0, .int .i64 0]) ?_ 2 _ rfl; (with_reducible repeat (first | refine blk_drewN ?_ _ | refine blk_drew ?_ | refine blk_alloc ?_ _)); refine blk_put (cs := #[.int .i64 0, .int .i64 0, .int .i64 0, .int .i64 0]) ?_ 1 _ rfl; (with_reducible repeat (first | refine blk_drewN ?_ _ | refine blk_drew ?_ | refine blk_alloc ?_ _)); refine blk_put (cs := #[.int .i64 0, .int .i64 0, .int .i64 0, .int .i64 0]) ?_ 0 _ rfl; (with_reducible repeat (first | refine blk_drewN ?_ _ | refine blk_drew ?_ | refine blk_alloc ?_ _)); exact BK348.out) Try.underlying25 rfl (by kernel_rfl)) rfl ?_
   exact ⟨by first | rfl | (simp [errW_none, errW_some] <;> rfl) | (simp [*, errW_none, errW_some] <;> rfl), (ho_ HB)⟩

/-! ### spec_seGood: function 63 -/
def spec_seGood.f (k : Nat) (a0_0 : Int) (a0_1 : Int) (a0_2 : Int) (a0_3 : Int) : Option (Bool) := (spec_diGood.f k a0_0 a0_1).bind fun t355 => (if t355 = true then ((spec_diGood.f k a0_2 a0_3).bind fun t356 => (some t356)) else (some false))
theorem spec_seGood.mono : ∀ a0 a1 a2 a3 k, LeO (spec_seGood.f k a0 a1 a2 a3) (spec_seGood.f (k + 1) a0 a1 a2 a3) := by
 intro a0 a1 a2 a3 k
 unfold spec_seGood.f
 repeat' first
   | (with_reducible exact spec_diGood.mono _ _ _)
   | (with_reducible exact LeO.refl _)
   | (with_reducible exact LeO.none _)
   | (with_reducible refine LeO.ite ?_ ?_)
   | (with_reducible refine LeO.bind ?_ (fun _ => ?_))
   | exact spec_diGood.mono _ _ _
   | exact LeO.none _
   | refine LeO.ite ?_ ?_
   | refine LeO.bind ?_ (fun _ => ?_)
set_option maxHeartbeats 8000000 in
set_option maxRecDepth 100000 in
theorem spec_seGood.calls (k : Nat) (a0_0 : Int) (a0_1 : Int) (a0_2 : Int) (a0_3 : Int) (r : Bool) (w : World) (h : spec_seGood.f k a0_0 a0_1 a0_2 a0_3 = some r) :
  Calls Try.prog 63 #[.agg #[.int .i64 a0_0, .int .i64 a0_1, .int .i64 a0_2, .int .i64 a0_3]] w fun e w' => e = .returned (.bool r) ∧ Below w.heap.size w w' := by
 have hu25 := Try.underlying25
 have hu23 := Try.underlying23
 have HB := Aside0.mk (Below.refl w.heap.size w)
 have H : ((spec_diGood.f k a0_0 a0_1).bind fun t355 => (if t355 = true then ((spec_diGood.f k a0_2 a0_3).bind fun t356 => (some t356)) else (some false))) = some r := h
 clear h
 replace H := Option.bind_eq_some_iff.mp H
 obtain ⟨t355, A20, H⟩ := H
 replace H : (if t355 = true then ((spec_diGood.f k a0_2 a0_3).bind fun t356 => (some t356)) else (some false)) = some r := H
 have A2 := Aside0.mk A20
 clear A20
 by_cases c3 : t355 = true
 ·
  subst c3
  have H1 : ((spec_diGood.f k a0_2 a0_3).bind fun t356 => (some t356)) = some r := by rw [if_pos rfl] at H; exact H
  clear H
  have H := H1
  clear H1
  replace H := Option.bind_eq_some_iff.mp H
  obtain ⟨t356, A40, H⟩ := H
  replace H : (some t356) = some r := H
  have A4 := Aside0.mk A40
  clear A40
  as_aux_lemma =>
   obtain rfl := Option.some.inj H
   go_enter Try.func63, Try.ntmps63
   go_wp2_with (first | ((with_reducible refine gate_dst (N := 1) rfl ?_); refine be_ (N := 1) (cs := #[.int .i64 a0_0, .int .i64 a0_1, .int .i64 a0_2, .int .i64 a0_3]) (t := 25) ?_; intro gb354 hg w5 hbox hb; have BK354 := Aside0.mk (hbox); have GW354 := ge_ HB hg; have GE354 := ge_ HB hg; replace HB := hs HB hb; clear hb hbox hg; have hcz6_0 := cz_ BK354 0 (.int .i64 a0_0); have hcz6_1 := cz_ BK354 1 (.int .i64 a0_1); have hcz6_2 := cz_ BK354 2 (.int .i64 a0_2); have hcz6_3 := cz_ BK354 3 (.int .i64 a0_3); have hfz6_0 := blk_frozen BK354.out 0; have hfz6_1 := blk_frozen BK354.out 1; have hfz6_2 := blk_frozen BK354.out 2; have hfz6_3 := blk_frozen BK354.out 3) | ((with_reducible refine gate_callee (f := 70) rfl ?_); refine gs_ (some 5) Try.func70 #[.agg #[.int .i64 a0_0, .int .i64 a0_1]] ?_; (with_reducible refine (spec_diGood.calls k a0_0 a0_1 true _ A2.out).mono ?_); rintro e w7 ⟨rfl, hb⟩; refine ⟨_, rfl, ?_⟩; replace BK354 := bb BK354 hb; replace HB := hs HB hb; (try clear hb); (try clear hb2); (try clear hk); (try clear hi); have hcz8_0 := cz_ BK354 0 (.int .i64 a0_0); have hcz8_1 := cz_ BK354 1 (.int .i64 a0_1); have hcz8_2 := cz_ BK354 2 (.int .i64 a0_2); have hcz8_3 := cz_ BK354 3 (.int .i64 a0_3); have hfz8_0 := blk_frozen BK354.out 0; have hfz8_1 := blk_frozen BK354.out 1; have hfz8_2 := blk_frozen BK354.out 2; have hfz8_3 := blk_frozen BK354.out 3) | (go_at_call 70; refine calls_of_args (args' := #[.agg #[.int .i64 a0_2, .int .i64 a0_3]]) (by first | rfl) ?_; (with_reducible refine (spec_diGood.calls k a0_2 a0_3 t356 _ A4.out).mono ?_); rintro e w9 ⟨rfl, hb⟩; replace BK354 := bb BK354 hb; replace HB := hs HB hb; (try clear hb); (try clear hb2); (try clear hk); (try clear hi)))
   go_ret
   exact ⟨by first | rfl | (simp [errW_none, errW_some] <;> rfl) | (simp [*, errW_none, errW_some] <;> rfl), (ho_ HB)⟩
 ·
  replace c3 := Bool.eq_false_iff.mpr c3
  subst c3
  have H1 : (some false) = some r := by rw [if_neg (show ¬ (false = true) by decide)] at H; exact H
  clear H
  have H := H1
  clear H1
  as_aux_lemma =>
   obtain rfl := Option.some.inj H
   go_enter Try.func63, Try.ntmps63
   go_wp2_with (first | ((with_reducible refine gate_dst (N := 1) rfl ?_); refine be_ (N := 1) (cs := #[.int .i64 a0_0, .int .i64 a0_1, .int .i64 a0_2, .int .i64 a0_3]) (t := 25) ?_; intro gb354 hg w10 hbox hb; have BK354 := Aside0.mk (hbox); have GW354 := ge_ HB hg; have GE354 := ge_ HB hg; replace HB := hs HB hb; clear hb hbox hg; have hcz11_0 := cz_ BK354 0 (.int .i64 a0_0); have hcz11_1 := cz_ BK354 1 (.int .i64 a0_1); have hcz11_2 := cz_ BK354 2 (.int .i64 a0_2); have hcz11_3 := cz_ BK354 3 (.int .i64 a0_3); have hfz11_0 := blk_frozen BK354.out 0; have hfz11_1 := blk_frozen BK354.out 1; have hfz11_2 := blk_frozen BK354.out 2; have hfz11_3 := blk_frozen BK354.out 3) | ((with_reducible refine gate_callee (f := 70) rfl ?_); refine gs_ (some 5) Try.func70 #[.agg #[.int .i64 a0_0, .int .i64 a0_1]] ?_; (with_reducible refine (spec_diGood.calls k a0_0 a0_1 false _ A2.out).mono ?_); rintro e w12 ⟨rfl, hb⟩; refine ⟨_, rfl, ?_⟩; replace BK354 := bb BK354 hb; replace HB := hs HB hb; (try clear hb); (try clear hb2); (try clear hk); (try clear hi)))
   go_ret
   exact ⟨by first | rfl | (simp [errW_none, errW_some] <;> rfl) | (simp [*, errW_none, errW_some] <;> rfl), (ho_ HB)⟩

/-! ### spec_seAsked: function 61 -/
def spec_seAsked.f (k : Nat) (a0 : Int) (a1_0 : Int) (a1_1 : Int) (a1_2 : Int) (a1_3 : Int) : Option (Bool) := (spec_diHours.f a0).bind fun t358 => (if t358 = true then ((spec_seGood.f k a1_0 a1_1 a1_2 a1_3).bind fun t359 => (some t359)) else (some false))
theorem spec_seAsked.mono : ∀ a0 a1 a2 a3 a4 k, LeO (spec_seAsked.f k a0 a1 a2 a3 a4) (spec_seAsked.f (k + 1) a0 a1 a2 a3 a4) := by
 intro a0 a1 a2 a3 a4 k
 unfold spec_seAsked.f
 repeat' first
   | (with_reducible exact spec_seGood.mono _ _ _ _ _)
   | (with_reducible exact LeO.refl _)
   | (with_reducible exact LeO.none _)
   | (with_reducible refine LeO.ite ?_ ?_)
   | (with_reducible refine LeO.bind ?_ (fun _ => ?_))
   | exact spec_seGood.mono _ _ _ _ _
   | exact LeO.none _
   | refine LeO.ite ?_ ?_
   | refine LeO.bind ?_ (fun _ => ?_)
set_option maxHeartbeats 8000000 in
set_option maxRecDepth 100000 in
theorem spec_seAsked.calls (k : Nat) (a0 : Int) (a1_0 : Int) (a1_1 : Int) (a1_2 : Int) (a1_3 : Int) (r : Bool) (w : World) (h : spec_seAsked.f k a0 a1_0 a1_1 a1_2 a1_3 = some r) :
  Calls Try.prog 61 #[.int .i64 a0, .agg #[.int .i64 a1_0, .int .i64 a1_1, .int .i64 a1_2, .int .i64 a1_3]] w fun e w' => e = .returned (.bool r) ∧ Below w.heap.size w w' := by
 have hu25 := Try.underlying25
 have HB := Aside0.mk (Below.refl w.heap.size w)
 have H : ((spec_diHours.f a0).bind fun t358 => (if t358 = true then ((spec_seGood.f k a1_0 a1_1 a1_2 a1_3).bind fun t359 => (some t359)) else (some false))) = some r := h
 clear h
 replace H := Option.bind_eq_some_iff.mp H
 obtain ⟨t358, A30, H⟩ := H
 replace H : (if t358 = true then ((spec_seGood.f k a1_0 a1_1 a1_2 a1_3).bind fun t359 => (some t359)) else (some false)) = some r := H
 have A3 := Aside0.mk A30
 clear A30
 by_cases c4 : t358 = true
 ·
  subst c4
  have H1 : ((spec_seGood.f k a1_0 a1_1 a1_2 a1_3).bind fun t359 => (some t359)) = some r := by rw [if_pos rfl] at H; exact H
  clear H
  have H := H1
  clear H1
  replace H := Option.bind_eq_some_iff.mp H
  obtain ⟨t359, A50, H⟩ := H
  replace H : (some t359) = some r := H
  have A5 := Aside0.mk A50
  clear A50
  as_aux_lemma =>
   obtain rfl := Option.some.inj H
   go_enter Try.func61, Try.ntmps61
   go_wp2_with (first | ((with_reducible refine gate_dst (N := 3) rfl ?_); refine be_ (N := 3) (cs := #[.int .i64 a1_0, .int .i64 a1_1, .int .i64 a1_2, .int .i64 a1_3]) (t := 25) ?_; intro gb357 hg w6 hbox hb; have BK357 := Aside0.mk (hbox); have GW357 := ge_ HB hg; have GE357 := ge_ HB hg; replace HB := hs HB hb; clear hb hbox hg) | ((with_reducible refine gate_callee (f := 57) rfl ?_); refine gs_ (some 6) Try.func57 #[.int .i64 a0] ?_; (with_reducible refine (spec_diHours.calls a0 true _ A3.out).mono ?_); rintro e w' ⟨rfl, ⟨nd, rfl⟩⟩; refine ⟨_, rfl, ?_⟩; have hcz7_0 := cz_ BK357 0 (.int .i64 a1_0); have hcz7_1 := cz_ BK357 1 (.int .i64 a1_1); have hcz7_2 := cz_ BK357 2 (.int .i64 a1_2); have hcz7_3 := cz_ BK357 3 (.int .i64 a1_3); have hfz7_0 := blk_frozen BK357.out 0; have hfz7_1 := blk_frozen BK357.out 1; have hfz7_2 := blk_frozen BK357.out 2; have hfz7_3 := blk_frozen BK357.out 3) | (go_at_call 63; refine calls_of_args (args' := #[.agg #[.int .i64 a1_0, .int .i64 a1_1, .int .i64 a1_2, .int .i64 a1_3]]) (by first | rfl) ?_; (with_reducible refine (spec_seGood.calls k a1_0 a1_1 a1_2 a1_3 t359 _ A5.out).mono ?_); rintro e w8 ⟨rfl, hb⟩; replace BK357 := bb BK357 hb; replace HB := hs HB hb; (try clear hb); (try clear hb2); (try clear hk); (try clear hi)))
   go_ret
   exact ⟨by first | rfl | (simp [errW_none, errW_some] <;> rfl) | (simp [*, errW_none, errW_some] <;> rfl), (ho_ HB)⟩
 ·
  replace c4 := Bool.eq_false_iff.mpr c4
  subst c4
  have H1 : (some false) = some r := by rw [if_neg (show ¬ (false = true) by decide)] at H; exact H
  clear H
  have H := H1
  clear H1
  as_aux_lemma =>
   obtain rfl := Option.some.inj H
   go_enter Try.func61, Try.ntmps61
   go_wp2_with (first | ((with_reducible refine gate_dst (N := 3) rfl ?_); refine be_ (N := 3) (cs := #[.int .i64 a1_0, .int .i64 a1_1, .int .i64 a1_2, .int .i64 a1_3]) (t := 25) ?_; intro gb357 hg w9 hbox hb; have BK357 := Aside0.mk (hbox); have GW357 := ge_ HB hg; have GE357 := ge_ HB hg; replace HB := hs HB hb; clear hb hbox hg) | ((with_reducible refine gate_callee (f := 57) rfl ?_); refine gs_ (some 6) Try.func57 #[.int .i64 a0] ?_; (with_reducible refine (spec_diHours.calls a0 false _ A3.out).mono ?_); rintro e w' ⟨rfl, ⟨nd, rfl⟩⟩; refine ⟨_, rfl, ?_⟩))
   go_ret
   exact ⟨by first | rfl | (simp [errW_none, errW_some] <;> rfl) | (simp [*, errW_none, errW_some] <;> rfl), (ho_ HB)⟩

/-! ### spec_TimeSeen: function 24 -/
def spec_TimeSeen.f (k : Nat) (a0 : Int) (a1_0 : Int) (a1_1 : Int) (a1_2 : Int) (a1_3 : Int) : Option (Int × Int × Bool) := (spec_seAsked.f k a0 a1_0 a1_1 a1_2 a1_3).bind fun t362 => (if t362 = true then ((spec_seTrue.f k a0 a1_0 a1_1 a1_2 a1_3).bind fun t363 => (if t363 = true then (some (a1_0, a1_1, true)) else (some (0, 0, false)))) else (some (0, 0, false)))
theorem spec_TimeSeen.mono : ∀ a0 a1 a2 a3 a4 k, LeO (spec_TimeSeen.f k a0 a1 a2 a3 a4) (spec_TimeSeen.f (k + 1) a0 a1 a2 a3 a4) := by
 intro a0 a1 a2 a3 a4 k
 unfold spec_TimeSeen.f
 repeat' first
   | (with_reducible exact spec_seAsked.mono _ _ _ _ _ _)
   | (with_reducible exact spec_seTrue.mono _ _ _ _ _ _)
   | (with_reducible exact LeO.refl _)
   | (with_reducible exact LeO.none _)
   | (with_reducible refine LeO.ite ?_ ?_)
   | (with_reducible refine LeO.bind ?_ (fun _ => ?_))
   | exact spec_seAsked.mono _ _ _ _ _ _
   | exact spec_seTrue.mono _ _ _ _ _ _
   | exact LeO.none _
   | refine LeO.ite ?_ ?_
   | refine LeO.bind ?_ (fun _ => ?_)
set_option maxHeartbeats 8000000 in
set_option maxRecDepth 100000 in
theorem spec_TimeSeen.calls (k : Nat) (a0 : Int) (a1_0 : Int) (a1_1 : Int) (a1_2 : Int) (a1_3 : Int) (r1 : Int) (r2 : Int) (r3 : Bool) (w : World) (h : spec_TimeSeen.f k a0 a1_0 a1_1 a1_2 a1_3 = some (r1, r2, r3)) :
  Calls Try.prog 24 #[.int .i64 a0, .agg #[.int .i64 a1_0, .int .i64 a1_1, .int .i64 a1_2, .int .i64 a1_3]] w fun e w' => e = .returned (.tuple #[.agg #[.int .i64 r1, .int .i64 r2], .bool r3]) ∧ Below w.heap.size w w' := by
 have hu25 := Try.underlying25
 have hu23 := Try.underlying23
 have HB := Aside0.mk (Below.refl w.heap.size w)
 have H : ((spec_seAsked.f k a0 a1_0 a1_1 a1_2 a1_3).bind fun t362 => (if t362 = true then ((spec_seTrue.f k a0 a1_0 a1_1 a1_2 a1_3).bind fun t363 => (if t363 = true then (some (a1_0, a1_1, true)) else (some (0, 0, false)))) else (some (0, 0, false)))) = some (r1, r2, r3) := h
 clear h
 replace H := Option.bind_eq_some_iff.mp H
 obtain ⟨t362, A30, H⟩ := H
 replace H : (if t362 = true then ((spec_seTrue.f k a0 a1_0 a1_1 a1_2 a1_3).bind fun t363 => (if t363 = true then (some (a1_0, a1_1, true)) else (some (0, 0, false)))) else (some (0, 0, false))) = some (r1, r2, r3) := H
 have A3 := Aside0.mk A30
 clear A30
 by_cases c4 : t362 = true
 ·
  subst c4
  have H1 : ((spec_seTrue.f k a0 a1_0 a1_1 a1_2 a1_3).bind fun t363 => (if t363 = true then (some (a1_0, a1_1, true)) else (some (0, 0, false)))) = some (r1, r2, r3) := by rw [if_pos rfl] at H; exact H
  clear H
  have H := H1
  clear H1
  replace H := Option.bind_eq_some_iff.mp H
  obtain ⟨t363, A50, H⟩ := H
  replace H : (if t363 = true then (some (a1_0, a1_1, true)) else (some (0, 0, false))) = some (r1, r2, r3) := H
  have A5 := Aside0.mk A50
  clear A50
  by_cases c6 : t363 = true
  ·
   subst c6
   have H1 : (some (a1_0, a1_1, true)) = some (r1, r2, r3) := by rw [if_pos rfl] at H; exact H
   clear H
   have H := H1
   clear H1
   as_aux_lemma =>
    simp only [Option.some.injEq, Prod.mk.injEq] at H
    obtain ⟨rfl, rfl, rfl⟩ := H
    go_enter Try.func24, Try.ntmps24
    go_wp2_with (first | ((with_reducible refine gate_dst (N := 3) rfl ?_); refine be_ (N := 3) (cs := #[.int .i64 a1_0, .int .i64 a1_1, .int .i64 a1_2, .int .i64 a1_3]) (t := 25) ?_; intro gb360 hg w7 hbox hb; have BK360 := Aside0.mk (hbox); have GW360 := ge_ HB hg; have GE360 := ge_ HB hg; replace HB := hs HB hb; clear hb hbox hg) | ((with_reducible refine gate_dst (N := 4) rfl ?_); refine be_ (N := 4) (cs := #[.int .i64 0, .int .i64 0]) (t := 23) ?_; intro gb361 hg w8 hbox hb; have BK361 := Aside0.mk (hbox); have GW361 := ge_ HB hg; have GE361 := ge_ HB hg; obtain ⟨NB360_361, NB361_360⟩ := nq_ BK360 hg; replace BK360 := bb BK360 hb; replace HB := hs HB hb; clear hb hbox hg; obtain ⟨hnb9, hnc9⟩ := nn_ NB360_361; have hcz10_0 := cz_ BK360 0 (.int .i64 a1_0); have hcz10_1 := cz_ BK360 1 (.int .i64 a1_1); have hcz10_2 := cz_ BK360 2 (.int .i64 a1_2); have hcz10_3 := cz_ BK360 3 (.int .i64 a1_3); have hfz10_0 := blk_frozen BK360.out 0; have hfz10_1 := blk_frozen BK360.out 1; have hfz10_2 := blk_frozen BK360.out 2; have hfz10_3 := blk_frozen BK360.out 3) | ((with_reducible refine gate_callee (f := 61) rfl ?_); refine gs_ (some 8) Try.func61 #[.int .i64 a0, .agg #[.int .i64 a1_0, .int .i64 a1_1, .int .i64 a1_2, .int .i64 a1_3]] ?_; (with_reducible refine (spec_seAsked.calls k a0 a1_0 a1_1 a1_2 a1_3 true _ A3.out).mono ?_); rintro e w11 ⟨rfl, hb⟩; refine ⟨_, rfl, ?_⟩; replace BK360 := bb BK360 hb; replace BK361 := bb BK361 hb; replace HB := hs HB hb; (try clear hb); (try clear hb2); (try clear hk); (try clear hi); have hcz12_0 := cz_ BK360 0 (.int .i64 a1_0); have hcz12_1 := cz_ BK360 1 (.int .i64 a1_1); have hcz12_2 := cz_ BK360 2 (.int .i64 a1_2); have hcz12_3 := cz_ BK360 3 (.int .i64 a1_3); have hfz12_0 := blk_frozen BK360.out 0; have hfz12_1 := blk_frozen BK360.out 1; have hfz12_2 := blk_frozen BK360.out 2; have hfz12_3 := blk_frozen BK360.out 3) | (go_at_call 44; refine calls_of_args (args' := #[.int .i64 a0, .agg #[.int .i64 a1_0, .int .i64 a1_1, .int .i64 a1_2, .int .i64 a1_3]]) (by first | rfl) ?_; (with_reducible refine (spec_seTrue.calls k a0 a1_0 a1_1 a1_2 a1_3 true _ A5.out).mono ?_); rintro e w13 ⟨rfl, hb⟩; replace BK360 := bb BK360 hb; replace BK361 := bb BK361 hb; replace HB := hs HB hb; (try clear hb); (try clear hb2); (try clear hk); (try clear hi); have hcz14_0 := cz_ BK360 0 (.int .i64 a1_0); have hcz14_1 := cz_ BK360 1 (.int .i64 a1_1); have hcz14_2 := cz_ BK360 2 (.int .i64 a1_2); have hcz14_3 := cz_ BK360 3 (.int .i64 a1_3); have hfz14_0 := blk_frozen BK360.out 0; have hfz14_1 := blk_frozen BK360.out 1; have hfz14_2 := blk_frozen BK360.out 2; have hfz14_3 := blk_frozen BK360.out 3; have hcz15_0 := cz_ BK361 0 (.int .i64 0); have hcz15_1 := cz_ BK361 1 (.int .i64 0); have hfz15_0 := blk_frozen BK361.out 0; have hfz15_1 := blk_frozen BK361.out 1))
    refine bodyPost_ret (results_ct rfl _ _ gb361 23 #[.int .i64 a1_0, .int .i64 a1_1] (0, 0) _ rfl (by (with_reducible repeat (first | refine blk_drewN ?_ _ | refine blk_drew ?_ | refine blk_alloc ?_ _)); refine blk_put (cs := #[.int .i64 a1_0, .int .i64 0]) ?_ 1 _ rfl; (with_reducible repeat (first | refine blk_drewN ?_ _ | refine blk_drew ?_ | refine blk_alloc ?_ _)); refine blk_put (cs := #[.int .i64 0, .int .i64 0]) ?_ 0 _ rfl; (with_reducible repeat (first | refine blk_drewN ?_ _ | refine blk_drew ?_ | refine blk_alloc ?_ _)); exact BK361.out) Try.underlying23 rfl (by kernel_rfl)) rfl ?_
    exact ⟨by first | rfl | (simp [errW_none, errW_some] <;> rfl) | (simp [*, errW_none, errW_some] <;> rfl), (ho_ HB)⟩
  ·
   replace c6 := Bool.eq_false_iff.mpr c6
   subst c6
   have H1 : (some (0, 0, false)) = some (r1, r2, r3) := by rw [if_neg (show ¬ (false = true) by decide)] at H; exact H
   clear H
   have H := H1
   clear H1
   as_aux_lemma =>
    simp only [Option.some.injEq, Prod.mk.injEq] at H
    obtain ⟨rfl, rfl, rfl⟩ := H
    go_enter Try.func24, Try.ntmps24
    go_wp2_with (first | ((with_reducible refine gate_dst (N := 3) rfl ?_); refine be_ (N := 3) (cs := #[.int .i64 a1_0, .int .i64 a1_1, .int .i64 a1_2, .int .i64 a1_3]) (t := 25) ?_; intro gb360 hg w16 hbox hb; have BK360 := Aside0.mk (hbox); have GW360 := ge_ HB hg; have GE360 := ge_ HB hg; replace HB := hs HB hb; clear hb hbox hg) | ((with_reducible refine gate_dst (N := 4) rfl ?_); refine be_ (N := 4) (cs := #[.int .i64 0, .int .i64 0]) (t := 23) ?_; intro gb361 hg w17 hbox hb; have BK361 := Aside0.mk (hbox); have GW361 := ge_ HB hg; have GE361 := ge_ HB hg; obtain ⟨NB360_361, NB361_360⟩ := nq_ BK360 hg; replace BK360 := bb BK360 hb; replace HB := hs HB hb; clear hb hbox hg; obtain ⟨hnb18, hnc18⟩ := nn_ NB360_361; have hcz19_0 := cz_ BK360 0 (.int .i64 a1_0); have hcz19_1 := cz_ BK360 1 (.int .i64 a1_1); have hcz19_2 := cz_ BK360 2 (.int .i64 a1_2); have hcz19_3 := cz_ BK360 3 (.int .i64 a1_3); have hfz19_0 := blk_frozen BK360.out 0; have hfz19_1 := blk_frozen BK360.out 1; have hfz19_2 := blk_frozen BK360.out 2; have hfz19_3 := blk_frozen BK360.out 3) | ((with_reducible refine gate_callee (f := 61) rfl ?_); refine gs_ (some 8) Try.func61 #[.int .i64 a0, .agg #[.int .i64 a1_0, .int .i64 a1_1, .int .i64 a1_2, .int .i64 a1_3]] ?_; (with_reducible refine (spec_seAsked.calls k a0 a1_0 a1_1 a1_2 a1_3 true _ A3.out).mono ?_); rintro e w20 ⟨rfl, hb⟩; refine ⟨_, rfl, ?_⟩; replace BK360 := bb BK360 hb; replace BK361 := bb BK361 hb; replace HB := hs HB hb; (try clear hb); (try clear hb2); (try clear hk); (try clear hi); have hcz21_0 := cz_ BK360 0 (.int .i64 a1_0); have hcz21_1 := cz_ BK360 1 (.int .i64 a1_1); have hcz21_2 := cz_ BK360 2 (.int .i64 a1_2); have hcz21_3 := cz_ BK360 3 (.int .i64 a1_3); have hfz21_0 := blk_frozen BK360.out 0; have hfz21_1 := blk_frozen BK360.out 1; have hfz21_2 := blk_frozen BK360.out 2; have hfz21_3 := blk_frozen BK360.out 3) | (go_at_call 44; refine calls_of_args (args' := #[.int .i64 a0, .agg #[.int .i64 a1_0, .int .i64 a1_1, .int .i64 a1_2, .int .i64 a1_3]]) (by first | rfl) ?_; (with_reducible refine (spec_seTrue.calls k a0 a1_0 a1_1 a1_2 a1_3 false _ A5.out).mono ?_); rintro e w22 ⟨rfl, hb⟩; replace BK360 := bb BK360 hb; replace BK361 := bb BK361 hb; replace HB := hs HB hb; (try clear hb); (try clear hb2); (try clear hk); (try clear hi); have hcz23_0 := cz_ BK361 0 (.int .i64 0); have hcz23_1 := cz_ BK361 1 (.int .i64 0); have hfz23_0 := blk_frozen BK361.out 0; have hfz23_1 := blk_frozen BK361.out 1))
    refine bodyPost_ret (results_ct rfl _ _ gb361 23 #[.int .i64 0, .int .i64 0] (0, 0) _ rfl (by (with_reducible repeat (first | refine blk_drewN ?_ _ | refine blk_drew ?_ | refine blk_alloc ?_ _)); refine blk_put (cs := #[.int .i64 0, .int .i64 0]) ?_ 1 _ rfl; (with_reducible repeat (first | refine blk_drewN ?_ _ | refine blk_drew ?_ | refine blk_alloc ?_ _)); refine blk_put (cs := #[.int .i64 0, .int .i64 0]) ?_ 0 _ rfl; (with_reducible repeat (first | refine blk_drewN ?_ _ | refine blk_drew ?_ | refine blk_alloc ?_ _)); exact BK361.out) Try.underlying23 rfl (by kernel_rfl)) rfl ?_
    exact ⟨by first | rfl | (simp [errW_none, errW_some] <;> rfl) | (simp [*, errW_none, errW_some] <;> rfl), (ho_ HB)⟩
 ·
  replace c4 := Bool.eq_false_iff.mpr c4
  subst c4
  have H1 : (some (0, 0, false)) = some (r1, r2, r3) := by rw [if_neg (show ¬ (false = true) by decide)] at H; exact H
  clear H
  have H := H1
  clear H1
  as_aux_lemma =>
   simp only [Option.some.injEq, Prod.mk.injEq] at H
   obtain ⟨rfl, rfl, rfl⟩ := H
   go_enter Try.func24, Try.ntmps24
   go_wp2_with (first | ((with_reducible refine gate_dst (N := 3) rfl ?_); refine be_ (N := 3) (cs := #[.int .i64 a1_0, .int .i64 a1_1, .int .i64 a1_2, .int .i64 a1_3]) (t := 25) ?_; intro gb360 hg w24 hbox hb; have BK360 := Aside0.mk (hbox); have GW360 := ge_ HB hg; have GE360 := ge_ HB hg; replace HB := hs HB hb; clear hb hbox hg) | ((with_reducible refine gate_dst (N := 4) rfl ?_); refine be_ (N := 4) (cs := #[.int .i64 0, .int .i64 0]) (t := 23) ?_; intro gb361 hg w25 hbox hb; have BK361 := Aside0.mk (hbox); have GW361 := ge_ HB hg; have GE361 := ge_ HB hg; obtain ⟨NB360_361, NB361_360⟩ := nq_ BK360 hg; replace BK360 := bb BK360 hb; replace HB := hs HB hb; clear hb hbox hg; obtain ⟨hnb26, hnc26⟩ := nn_ NB360_361; have hcz27_0 := cz_ BK360 0 (.int .i64 a1_0); have hcz27_1 := cz_ BK360 1 (.int .i64 a1_1); have hcz27_2 := cz_ BK360 2 (.int .i64 a1_2); have hcz27_3 := cz_ BK360 3 (.int .i64 a1_3); have hfz27_0 := blk_frozen BK360.out 0; have hfz27_1 := blk_frozen BK360.out 1; have hfz27_2 := blk_frozen BK360.out 2; have hfz27_3 := blk_frozen BK360.out 3) | ((with_reducible refine gate_callee (f := 61) rfl ?_); refine gs_ (some 8) Try.func61 #[.int .i64 a0, .agg #[.int .i64 a1_0, .int .i64 a1_1, .int .i64 a1_2, .int .i64 a1_3]] ?_; (with_reducible refine (spec_seAsked.calls k a0 a1_0 a1_1 a1_2 a1_3 false _ A3.out).mono ?_); rintro e w28 ⟨rfl, hb⟩; refine ⟨_, rfl, ?_⟩; replace BK360 := bb BK360 hb; replace BK361 := bb BK361 hb; replace HB := hs HB hb; (try clear hb); (try clear hb2); (try clear hk); (try clear hi); have hcz29_0 := cz_ BK361 0 (.int .i64 0); have hcz29_1 := cz_ BK361 1 (.int .i64 0); have hfz29_0 := blk_frozen BK361.out 0; have hfz29_1 := blk_frozen BK361.out 1))
   refine bodyPost_ret (results_ct rfl _ _ gb361 23 #[.int .i64 0, .int .i64 0] (0, 0) _ rfl (by (with_reducible repeat (first | refine blk_drewN ?_ _ | refine blk_drew ?_ | refine blk_alloc ?_ _)); refine blk_put (cs := #[.int .i64 0, .int .i64 0]) ?_ 1 _ rfl; (with_reducible repeat (first | refine blk_drewN ?_ _ | refine blk_drew ?_ | refine blk_alloc ?_ _)); refine blk_put (cs := #[.int .i64 0, .int .i64 0]) ?_ 0 _ rfl; (with_reducible repeat (first | refine blk_drewN ?_ _ | refine blk_drew ?_ | refine blk_alloc ?_ _)); exact BK361.out) Try.underlying23 rfl (by kernel_rfl)) rfl ?_
   exact ⟨by first | rfl | (simp [errW_none, errW_some] <;> rfl) | (simp [*, errW_none, errW_some] <;> rfl), (ho_ HB)⟩

/-! ### spec_IsTrueSeen: function 25 -/
def spec_IsTrueSeen.f (k : Nat) (a0 : Int) (a1_0 : Int) (a1_1 : Int) (a1_2 : Int) (a1_3 : Int) : Option (Bool × Bool) := (spec_seAsked.f k a0 a1_0 a1_1 a1_2 a1_3).bind fun t365 => (if t365 = true then ((spec_seTrue.f k a0 a1_0 a1_1 a1_2 a1_3).bind fun t366 => (some (t366, true))) else (some (false, false)))
theorem spec_IsTrueSeen.mono : ∀ a0 a1 a2 a3 a4 k, LeO (spec_IsTrueSeen.f k a0 a1 a2 a3 a4) (spec_IsTrueSeen.f (k + 1) a0 a1 a2 a3 a4) := by
 intro a0 a1 a2 a3 a4 k
 unfold spec_IsTrueSeen.f
 repeat' first
   | (with_reducible exact spec_seAsked.mono _ _ _ _ _ _)
   | (with_reducible exact spec_seTrue.mono _ _ _ _ _ _)
   | (with_reducible exact LeO.refl _)
   | (with_reducible exact LeO.none _)
   | (with_reducible refine LeO.ite ?_ ?_)
   | (with_reducible refine LeO.bind ?_ (fun _ => ?_))
   | exact spec_seAsked.mono _ _ _ _ _ _
   | exact spec_seTrue.mono _ _ _ _ _ _
   | exact LeO.none _
   | refine LeO.ite ?_ ?_
   | refine LeO.bind ?_ (fun _ => ?_)
set_option maxHeartbeats 8000000 in
set_option maxRecDepth 100000 in
theorem spec_IsTrueSeen.calls (k : Nat) (a0 : Int) (a1_0 : Int) (a1_1 : Int) (a1_2 : Int) (a1_3 : Int) (r1 : Bool) (r2 : Bool) (w : World) (h : spec_IsTrueSeen.f k a0 a1_0 a1_1 a1_2 a1_3 = some (r1, r2)) :
  Calls Try.prog 25 #[.int .i64 a0, .agg #[.int .i64 a1_0, .int .i64 a1_1, .int .i64 a1_2, .int .i64 a1_3]] w fun e w' => e = .returned (.tuple #[.bool r1, .bool r2]) ∧ Below w.heap.size w w' := by
 have hu25 := Try.underlying25
 have HB := Aside0.mk (Below.refl w.heap.size w)
 have H : ((spec_seAsked.f k a0 a1_0 a1_1 a1_2 a1_3).bind fun t365 => (if t365 = true then ((spec_seTrue.f k a0 a1_0 a1_1 a1_2 a1_3).bind fun t366 => (some (t366, true))) else (some (false, false)))) = some (r1, r2) := h
 clear h
 replace H := Option.bind_eq_some_iff.mp H
 obtain ⟨t365, A30, H⟩ := H
 replace H : (if t365 = true then ((spec_seTrue.f k a0 a1_0 a1_1 a1_2 a1_3).bind fun t366 => (some (t366, true))) else (some (false, false))) = some (r1, r2) := H
 have A3 := Aside0.mk A30
 clear A30
 by_cases c4 : t365 = true
 ·
  subst c4
  have H1 : ((spec_seTrue.f k a0 a1_0 a1_1 a1_2 a1_3).bind fun t366 => (some (t366, true))) = some (r1, r2) := by rw [if_pos rfl] at H; exact H
  clear H
  have H := H1
  clear H1
  replace H := Option.bind_eq_some_iff.mp H
  obtain ⟨t366, A50, H⟩ := H
  replace H : (some (t366, true)) = some (r1, r2) := H
  have A5 := Aside0.mk A50
  clear A50
  as_aux_lemma =>
   simp only [Option.some.injEq, Prod.mk.injEq] at H
   obtain ⟨rfl, rfl⟩ := H
   go_enter Try.func25, Try.ntmps25
   go_wp2_with (first | ((with_reducible refine gate_dst (N := 3) rfl ?_); refine be_ (N := 3) (cs := #[.int .i64 a1_0, .int .i64 a1_1, .int .i64 a1_2, .int .i64 a1_3]) (t := 25) ?_; intro gb364 hg w6 hbox hb; have BK364 := Aside0.mk (hbox); have GW364 := ge_ HB hg; have GE364 := ge_ HB hg; replace HB := hs HB hb; clear hb hbox hg; have hcz7_0 := cz_ BK364 0 (.int .i64 a1_0); have hcz7_1 := cz_ BK364 1 (.int .i64 a1_1); have hcz7_2 := cz_ BK364 2 (.int .i64 a1_2); have hcz7_3 := cz_ BK364 3 (.int .i64 a1_3); have hfz7_0 := blk_frozen BK364.out 0; have hfz7_1 := blk_frozen BK364.out 1; have hfz7_2 := blk_frozen BK364.out 2; have hfz7_3 := blk_frozen BK364.out 3) | ((with_reducible refine gate_callee (f := 61) rfl ?_); refine gs_ (some 8) Try.func61 #[.int .i64 a0, .agg #[.int .i64 a1_0, .int .i64 a1_1, .int .i64 a1_2, .int .i64 a1_3]] ?_; (with_reducible refine (spec_seAsked.calls k a0 a1_0 a1_1 a1_2 a1_3 true _ A3.out).mono ?_); rintro e w8 ⟨rfl, hb⟩; refine ⟨_, rfl, ?_⟩; replace BK364 := bb BK364 hb; replace HB := hs HB hb; (try clear hb); (try clear hb2); (try clear hk); (try clear hi); have hcz9_0 := cz_ BK364 0 (.int .i64 a1_0); have hcz9_1 := cz_ BK364 1 (.int .i64 a1_1); have hcz9_2 := cz_ BK364 2 (.int .i64 a1_2); have hcz9_3 := cz_ BK364 3 (.int .i64 a1_3); have hfz9_0 := blk_frozen BK364.out 0; have hfz9_1 := blk_frozen BK364.out 1; have hfz9_2 := blk_frozen BK364.out 2; have hfz9_3 := blk_frozen BK364.out 3) | ((with_reducible refine gate_callee (f := 44) rfl ?_); refine gs_ (some 12) Try.func44 #[.int .i64 a0, .agg #[.int .i64 a1_0, .int .i64 a1_1, .int .i64 a1_2, .int .i64 a1_3]] ?_; (with_reducible refine (spec_seTrue.calls k a0 a1_0 a1_1 a1_2 a1_3 t366 _ A5.out).mono ?_); rintro e w10 ⟨rfl, hb⟩; refine ⟨_, rfl, ?_⟩; replace BK364 := bb BK364 hb; replace HB := hs HB hb; (try clear hb); (try clear hb2); (try clear hk); (try clear hi)))
   go_ret2
   exact ⟨by first | rfl | (simp [errW_none, errW_some] <;> rfl) | (simp [*, errW_none, errW_some] <;> rfl), (ho_ HB)⟩
 ·
  replace c4 := Bool.eq_false_iff.mpr c4
  subst c4
  have H1 : (some (false, false)) = some (r1, r2) := by rw [if_neg (show ¬ (false = true) by decide)] at H; exact H
  clear H
  have H := H1
  clear H1
  as_aux_lemma =>
   simp only [Option.some.injEq, Prod.mk.injEq] at H
   obtain ⟨rfl, rfl⟩ := H
   go_enter Try.func25, Try.ntmps25
   go_wp2_with (first | ((with_reducible refine gate_dst (N := 3) rfl ?_); refine be_ (N := 3) (cs := #[.int .i64 a1_0, .int .i64 a1_1, .int .i64 a1_2, .int .i64 a1_3]) (t := 25) ?_; intro gb364 hg w11 hbox hb; have BK364 := Aside0.mk (hbox); have GW364 := ge_ HB hg; have GE364 := ge_ HB hg; replace HB := hs HB hb; clear hb hbox hg; have hcz12_0 := cz_ BK364 0 (.int .i64 a1_0); have hcz12_1 := cz_ BK364 1 (.int .i64 a1_1); have hcz12_2 := cz_ BK364 2 (.int .i64 a1_2); have hcz12_3 := cz_ BK364 3 (.int .i64 a1_3); have hfz12_0 := blk_frozen BK364.out 0; have hfz12_1 := blk_frozen BK364.out 1; have hfz12_2 := blk_frozen BK364.out 2; have hfz12_3 := blk_frozen BK364.out 3) | ((with_reducible refine gate_callee (f := 61) rfl ?_); refine gs_ (some 8) Try.func61 #[.int .i64 a0, .agg #[.int .i64 a1_0, .int .i64 a1_1, .int .i64 a1_2, .int .i64 a1_3]] ?_; (with_reducible refine (spec_seAsked.calls k a0 a1_0 a1_1 a1_2 a1_3 false _ A3.out).mono ?_); rintro e w13 ⟨rfl, hb⟩; refine ⟨_, rfl, ?_⟩; replace BK364 := bb BK364 hb; replace HB := hs HB hb; (try clear hb); (try clear hb2); (try clear hk); (try clear hi)))
   go_ret2
   exact ⟨by first | rfl | (simp [errW_none, errW_some] <;> rfl) | (simp [*, errW_none, errW_some] <;> rfl), (ho_ HB)⟩

/-! ### spec_l1Sign: function 90 -/
def spec_l1Sign.f (a0 : Int) : Option (Int) := if a0 > 0 then (some 1) else (if a0 < 0 then (some (-1)) else (some 0))
set_option maxHeartbeats 8000000 in
set_option maxRecDepth 100000 in
theorem spec_l1Sign.calls (a0 : Int) (r : Int) (w : World) (h : spec_l1Sign.f a0 = some r) :
  Calls Try.prog 90 #[.int .i64 a0] w fun e w' => e = .returned (.int .i64 r) ∧ Drawn0 w w' := by
 have H : (if a0 > 0 then (some 1) else (if a0 < 0 then (some (-1)) else (some 0))) = some r := h
 clear h
 by_cases c2 : a0 > 0
 ·
  rw [if_pos c2] at H
  have c2b0 : decide (0 < a0) = true := decide_eq_true c2
  clear c2
  as_aux_lemma =>
   obtain rfl := Option.some.inj H
   go_enter Try.func90, Try.ntmps90
   go_wp2
   go_ret
   exact ⟨by first | rfl | (simp; done) | (simp [*]; done), by repeat (first | exact Drawn0.refl _ | apply Drawn0.step)⟩
 ·
  rw [if_neg c2] at H
  have c2b0 : decide (0 < a0) = false := decide_eq_false c2
  clear c2
  by_cases c3 : a0 < 0
  ·
   rw [if_pos c3] at H
   have c3b0 : decide (a0 < 0) = true := decide_eq_true c3
   clear c3
   as_aux_lemma =>
    obtain rfl := Option.some.inj H
    go_enter Try.func90, Try.ntmps90
    go_wp2
    go_ret
    exact ⟨by first | rfl | (simp; done) | (simp [*]; done), by repeat (first | exact Drawn0.refl _ | apply Drawn0.step)⟩
  ·
   rw [if_neg c3] at H
   have c3b0 : decide (a0 < 0) = false := decide_eq_false c3
   clear c3
   as_aux_lemma =>
    obtain rfl := Option.some.inj H
    go_enter Try.func90, Try.ntmps90
    go_wp2
    go_ret
    exact ⟨by first | rfl | (simp; done) | (simp [*]; done), by repeat (first | exact Drawn0.refl _ | apply Drawn0.step)⟩

/-! ### spec_diCompare: function 82 -/
def spec_diCompare.f (a0_0 : Int) (a0_1 : Int) (a1_0 : Int) (a1_1 : Int) : Option (Int) := (spec_l1Sign.f (wrap64 ((wrap64 (a0_0 * a1_1)) - (wrap64 (a1_0 * a0_1))))).bind fun t369 => (some t369)
set_option maxHeartbeats 8000000 in
set_option maxRecDepth 100000 in
theorem spec_diCompare.calls (a0_0 : Int) (a0_1 : Int) (a1_0 : Int) (a1_1 : Int) (r : Int) (w : World) (h : spec_diCompare.f a0_0 a0_1 a1_0 a1_1 = some r) :
  Calls Try.prog 82 #[.agg #[.int .i64 a0_0, .int .i64 a0_1], .agg #[.int .i64 a1_0, .int .i64 a1_1]] w fun e w' => e = .returned (.int .i64 r) ∧ Below w.heap.size w w' := by
 have hu23 := Try.underlying23
 have HB := Aside0.mk (Below.refl w.heap.size w)
 have H : ((spec_l1Sign.f (wrap64 ((wrap64 (a0_0 * a1_1)) - (wrap64 (a1_0 * a0_1))))).bind fun t369 => (some t369)) = some r := h
 clear h
 replace H := Option.bind_eq_some_iff.mp H
 obtain ⟨t369, A30, H⟩ := H
 replace H : (some t369) = some r := H
 have A3 := Aside0.mk A30
 clear A30
 as_aux_lemma =>
  obtain rfl := Option.some.inj H
  go_enter Try.func82, Try.ntmps82
  go_wp2_with (first | ((with_reducible refine gate_dst (N := 2) rfl ?_); refine be_ (N := 2) (cs := #[.int .i64 a0_0, .int .i64 a0_1]) (t := 23) ?_; intro gb367 hg w4 hbox hb; have BK367 := Aside0.mk (hbox); have GW367 := ge_ HB hg; have GE367 := ge_ HB hg; replace HB := hs HB hb; clear hb hbox hg) | ((with_reducible refine gate_dst (N := 3) rfl ?_); refine be_ (N := 3) (cs := #[.int .i64 a1_0, .int .i64 a1_1]) (t := 23) ?_; intro gb368 hg w5 hbox hb; have BK368 := Aside0.mk (hbox); have GW368 := ge_ HB hg; have GE368 := ge_ HB hg; obtain ⟨NB367_368, NB368_367⟩ := nq_ BK367 hg; replace BK367 := bb BK367 hb; replace HB := hs HB hb; clear hb hbox hg; obtain ⟨hnb6, hnc6⟩ := nn_ NB367_368; have hcz7_0 := cz_ BK367 0 (.int .i64 a0_0); have hcz7_1 := cz_ BK367 1 (.int .i64 a0_1); have hfz7_0 := blk_frozen BK367.out 0; have hfz7_1 := blk_frozen BK367.out 1; have hcz8_0 := cz_ BK368 0 (.int .i64 a1_0); have hcz8_1 := cz_ BK368 1 (.int .i64 a1_1); have hfz8_0 := blk_frozen BK368.out 0; have hfz8_1 := blk_frozen BK368.out 1) | ((with_reducible refine gate_callee (f := 90) rfl ?_); refine gs_ (some 16) Try.func90 #[.int .i64 (wrap64 ((wrap64 (a0_0 * a1_1)) - (wrap64 (a1_0 * a0_1))))] ?_; (with_reducible refine (spec_l1Sign.calls (wrap64 ((wrap64 (a0_0 * a1_1)) - (wrap64 (a1_0 * a0_1)))) t369 _ A3.out).mono ?_); rintro e w' ⟨rfl, ⟨nd, rfl⟩⟩; refine ⟨_, rfl, ?_⟩))
  go_ret
  exact ⟨by first | rfl | (simp [errW_none, errW_some] <;> rfl) | (simp [*, errW_none, errW_some] <;> rfl), (ho_ HB)⟩

end Go.Proofs.Ytkfcaldjepmffaa.GFnSeenTrueOfAll
