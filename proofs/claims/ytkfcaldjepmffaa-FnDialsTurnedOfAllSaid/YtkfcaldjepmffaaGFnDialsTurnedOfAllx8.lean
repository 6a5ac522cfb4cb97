-- Written by a program of this session (a copy of the kit's print program that takes contracts of one's own); Lean checks it.
import Derived.Test.YtkfcaldjepmffaaGFnDialsTurnedOfAllx0
import Derived.Test.YtkfcaldjepmffaaGFnDialsTurnedOfAllx3
import Derived.Test.YtkfcaldjepmffaaGFnDialsTurnedOfAllx4
import Derived.Test.YtkfcaldjepmffaaGFnDialsTurnedOfAllx7
namespace Go.Proofs.Ytkfcaldjepmffaa.GFnDialsTurnedOfAll
open Go.RowKit Go.Proofs.YtkfcaldjepmffaaW.PrintWords Go.Proofs.YtkfcaldjepmffaaW.PrintLast Go.Proofs.YtkfcaldjepmffaaW.PrintMore
attribute [local go_sem] max2_int min2_int max_two min_two max_three min_three max_four min_four   -- for this text's walks alone
set_option linter.unusedVariables false
set_option linter.unusedSimpArgs false

/-! ### impl_TurnSeen: function 33 -/
def impl_TurnSeen.j0 : Nat → Bool → Int → Int → Int → Int → Int → Int → Option (Int × Int × Int × Int × Bool)
 | 0, _, _, _, _, _, _, _ => none
 | k + 1, x14, x268000, x268001, x268002, x268003, x269000, x269001 => if x14 = true then (some (0, 0, 0, 0, false)) else ((impl_Turn_plus.f k x268000 x268001 x269000 x269001).bind fun bt272 => ((impl_Turn_plus.f k x268002 x268003 x269000 x269001).bind fun bt274 => ((impl_IsSeen.f k bt272.1 bt272.2 bt274.1 bt274.2).bind fun t277 => (if t277 = true then (some (bt272.1, bt272.2, bt274.1, bt274.2, true)) else (some (0, 0, 0, 0, false))))))
def impl_TurnSeen.f (k : Nat) (a0_0 : Int) (a0_1 : Int) (a0_2 : Int) (a0_3 : Int) (a1_0 : Int) (a1_1 : Int) : Option (Int × Int × Int × Int × Bool) := (impl_IsSeen.f k a0_0 a0_1 a0_2 a0_3).bind fun t270 => (if t270 = true then ((impl_IsTurn.f k a1_0 a1_1).bind fun t271 => (impl_TurnSeen.j0 k (!t271) a0_0 a0_1 a0_2 a0_3 a1_0 a1_1)) else (impl_TurnSeen.j0 k true a0_0 a0_1 a0_2 a0_3 a1_0 a1_1))
theorem impl_TurnSeen.mono_l : ∀ k, (∀ y0 y1 y2 y3 y4 y5 y6, LeO (impl_TurnSeen.j0 k y0 y1 y2 y3 y4 y5 y6) (impl_TurnSeen.j0 (k + 1) y0 y1 y2 y3 y4 y5 y6))
 | 0 => fun _ _ _ _ _ _ _ r h => by simp [impl_TurnSeen.j0] at h
 | k + 1 => by
  have ih0 := impl_TurnSeen.mono_l k
  ·
   intro y0 y1 y2 y3 y4 y5 y6
   unfold impl_TurnSeen.j0
   repeat' first
   | (with_reducible exact ih0 _ _ _ _ _ _ _)
   | (with_reducible exact impl_IsSeen.mono _ _ _ _ _)
   | (with_reducible exact impl_IsTurn.mono _ _ _)
   | (with_reducible exact impl_Turn_plus.mono _ _ _ _ _)
   | (with_reducible exact LeO.refl _)
   | (with_reducible exact LeO.none _)
   | (with_reducible refine LeO.ite ?_ ?_)
   | (with_reducible refine LeO.bind ?_ (fun _ => ?_))
   | exact ih0 _ _ _ _ _ _ _
   | exact impl_IsSeen.mono _ _ _ _ _
   | exact impl_IsTurn.mono _ _ _
   | exact impl_Turn_plus.mono _ _ _ _ _
   | exact LeO.none _
   | refine LeO.ite ?_ ?_
   | refine LeO.bind ?_ (fun _ => ?_)
theorem impl_TurnSeen.mono : ∀ a0 a1 a2 a3 a4 a5 k, LeO (impl_TurnSeen.f k a0 a1 a2 a3 a4 a5) (impl_TurnSeen.f (k + 1) a0 a1 a2 a3 a4 a5) := by
 intro a0 a1 a2 a3 a4 a5 k
 have ih0 := impl_TurnSeen.mono_l k
 unfold impl_TurnSeen.f
 repeat' first
   | (with_reducible exact ih0 _ _ _ _ _ _ _)
   | (with_reducible exact impl_IsSeen.mono _ _ _ _ _)
   | (with_reducible exact impl_IsTurn.mono _ _ _)
   | (with_reducible exact impl_Turn_plus.mono _ _ _ _ _)
   | (with_reducible exact LeO.refl _)
   | (with_reducible exact LeO.none _)
   | (with_reducible refine LeO.ite ?_ ?_)
   | (with_reducible refine LeO.bind ?_ (fun _ => ?_))
   | exact ih0 _ _ _ _ _ _ _
   | exact impl_IsSeen.mono _ _ _ _ _
   | exact impl_IsTurn.mono _ _ _
   | exact impl_Turn_plus.mono _ _ _ _ _
   | exact LeO.none _
   | refine LeO.ite ?_ ?_
   | refine LeO.bind ?_ (fun _ => ?_)
def impl_TurnSeen.T3 : Bool × List (List Nat × List Nat) := (true, [([], []), ([0], [0]), ([], []), ([1, 2], [1, 2]), ([], []), ([4], [4]), ([], []), ([5, 6, 3], [5, 6]), ([3, 7], [3, 7]), ([], []), ([9, 8, 7, 0, 1, 2, 3, 4, 5, 6, 7, 8, 9], [8, 9])])
def impl_TurnSeen.B3 : List Nat := [0, 1, 0, 7, 0, 16, 0, 127, 255, 0, 1023]
theorem impl_TurnSeen.tab3 : rtab .any (opsOf Try.f33 3) = impl_TurnSeen.T3 := by kernel_rfl
theorem impl_TurnSeen.bits3 : waitsOk impl_TurnSeen.T3.2 impl_TurnSeen.B3 = true := by kernel_rfl
set_option maxHeartbeats 8000000 in
set_option maxRecDepth 100000 in
theorem impl_TurnSeen.calls (k : Nat) (a0_0 : Int) (a0_1 : Int) (a0_2 : Int) (a0_3 : Int) (a1_0 : Int) (a1_1 : Int) (r1 : Int) (r2 : Int) (r3 : Int) (r4 : Int) (r5 : Bool) (w : World) (h : impl_TurnSeen.f k a0_0 a0_1 a0_2 a0_3 a1_0 a1_1 = some (r1, r2, r3, r4, r5)) :
  Calls Try.prog 33 #[.agg #[.int .i64 a0_0, .int .i64 a0_1, .int .i64 a0_2, .int .i64 a0_3], .agg #[.int .i64 a1_0, .int .i64 a1_1]] w fun e w' => e = .returned (.tuple #[.agg #[.int .i64 r1, .int .i64 r2, .int .i64 r3, .int .i64 r4], .bool r5]) ∧ Below w.heap.size w w' := by
 have hu25 := Try.underlying25
 have hu23 := Try.underlying23
 have HB := Aside0.mk (Below.refl w.heap.size w)
 have H : ((impl_IsSeen.f k a0_0 a0_1 a0_2 a0_3).bind fun t270 => (if t270 = true then ((impl_IsTurn.f k a1_0 a1_1).bind fun t271 => (impl_TurnSeen.j0 k (!t271) a0_0 a0_1 a0_2 a0_3 a1_0 a1_1)) else (impl_TurnSeen.j0 k true a0_0 a0_1 a0_2 a0_3 a1_0 a1_1))) = some (r1, r2, r3, r4, r5) := h
 clear h
 have HC3 := Aside0.mk H
 clear H
 go_enter Try.func33, Try.ntmps33
 go_upto_region 1 with (first | ((with_reducible refine gate_dst (N := 2) rfl ?_); refine be_ (N := 2) (cs := #[.int .i64 a0_0, .int .i64 a0_1, .int .i64 a0_2, .int .i64 a0_3]) (t := 25) ?_; intro gb267 hg w4 hbox hb; have BK267 := Aside0.mk (hbox); have GW267 := ge_ HB hg; have GE267 := ge_ HB hg; replace HB := hs HB hb; clear hb hbox hg) | ((with_reducible refine gate_dst (N := 3) rfl ?_); refine be_ (N := 3) (cs := #[.int .i64 a1_0, .int .i64 a1_1]) (t := 23) ?_; intro gb268 hg w5 hbox hb; have BK268 := Aside0.mk (hbox); have GW268 := ge_ HB hg; have GE268 := ge_ HB hg; obtain ⟨NB267_268, NB268_267⟩ := nq_ BK267 hg; replace BK267 := bb BK267 hb; replace HB := hs HB hb; clear hb hbox hg) | ((with_reducible refine gate_dst (N := 4) rfl ?_); refine be_ (N := 4) (cs := #[.int .i64 0, .int .i64 0, .int .i64 0, .int .i64 0]) (t := 25) ?_; intro gb269 hg w6 hbox hb; have BK269 := Aside0.mk (hbox); have GW269 := ge_ HB hg; have GE269 := ge_ HB hg; obtain ⟨NB267_269, NB269_267⟩ := nq_ BK267 hg; obtain ⟨NB268_269, NB269_268⟩ := nq_ BK268 hg; replace BK267 := bb BK267 hb; replace BK268 := bb BK268 hb; replace HB := hs HB hb; clear hb hbox hg))
 (try simp only [Act.put, List.setIfInBounds_toArray, List.set_cons_zero, List.set_cons_succ])
 go_cut [14] (fun v14 wc => ∃ (kq : Nat) (x14_2 : Bool), v14 = .bool x14_2 ∧ Aside0 (impl_TurnSeen.j0 kq x14_2 a0_0 a0_1 a0_2 a0_3 a1_0 a1_1 = some (r1, r2, r3, r4, r5)) ∧ Aside0 (kq ≤ k) ∧ Aside0 (wc.heap[gb267]? = some (.cells #[.int .i64 a0_0, .int .i64 a0_1, .int .i64 a0_2, .int .i64 a0_3] 25 (0, 0))) ∧ Aside0 (wc.heap[gb268]? = some (.cells #[.int .i64 a1_0, .int .i64 a1_1] 23 (0, 0))) ∧ Aside0 (wc.heap[gb269]? = some (.cells #[.int .i64 0, .int .i64 0, .int .i64 0, .int .i64 0] 25 (0, 0))) ∧ Aside0 (Below w.heap.size w wc))
 case first =>
  have H := HC3.out
  clear HC3
  replace H := Option.bind_eq_some_iff.mp H
  obtain ⟨t270, A70, H⟩ := H
  replace H : (if t270 = true then ((impl_IsTurn.f k a1_0 a1_1).bind fun t271 => (impl_TurnSeen.j0 k (!t271) a0_0 a0_1 a0_2 a0_3 a1_0 a1_1)) else (impl_TurnSeen.j0 k true a0_0 a0_1 a0_2 a0_3 a1_0 a1_1)) = some (r1, r2, r3, r4, r5) := H
  have A7 := Aside0.mk A70
  clear A70
  by_cases c8 : t270 = true
  ·
   subst c8
   have H1 : ((impl_IsTurn.f k a1_0 a1_1).bind fun t271 => (impl_TurnSeen.j0 k (!t271) a0_0 a0_1 a0_2 a0_3 a1_0 a1_1)) = some (r1, r2, r3, r4, r5) := by rw [if_pos rfl] at H; exact H
   clear H
   have H := H1
   clear H1
   replace H := Option.bind_eq_some_iff.mp H
   obtain ⟨t271, A90, H⟩ := H
   replace H : (impl_TurnSeen.j0 k (!t271) a0_0 a0_1 a0_2 a0_3 a1_0 a1_1) = some (r1, r2, r3, r4, r5) := H
   have A9 := Aside0.mk A90
   clear A90
   as_aux_lemma =>
    have H' := Aside0.mk H
    clear H
    obtain ⟨hnb10, hnc10⟩ := nn_ NB267_268
    obtain ⟨hnb11, hnc11⟩ := nn_ NB267_269
    have hcz12_0 := cz_ BK267 0 (.int .i64 a0_0)
    have hcz12_1 := cz_ BK267 1 (.int .i64 a0_1)
    have hcz12_2 := cz_ BK267 2 (.int .i64 a0_2)
    have hcz12_3 := cz_ BK267 3 (.int .i64 a0_3)
    have hfz12_0 := blk_frozen BK267.out 0
    have hfz12_1 := blk_frozen BK267.out 1
    have hfz12_2 := blk_frozen BK267.out 2
    have hfz12_3 := blk_frozen BK267.out 3
    go_wp2_with (first | ((with_reducible refine gate_callee (f := 13) rfl ?_); refine gs_ (some 8) Try.func13 #[.agg #[.int .i64 a0_0, .int .i64 a0_1, .int .i64 a0_2, .int .i64 a0_3]] ?_; (with_reducible refine (impl_IsSeen.calls k a0_0 a0_1 a0_2 a0_3 true _ A7.out).mono ?_); rintro e w13 ⟨rfl, hb⟩; refine ⟨_, rfl, ?_⟩; replace BK267 := bb BK267 hb; replace BK268 := bb BK268 hb; replace BK269 := bb BK269 hb; replace HB := hs HB hb; (try clear hb); (try clear hb2); (try clear hk); (try clear hi); obtain ⟨hnb14, hnc14⟩ := nn_ NB268_269; have hcz15_0 := cz_ BK268 0 (.int .i64 a1_0); have hcz15_1 := cz_ BK268 1 (.int .i64 a1_1); have hfz15_0 := blk_frozen BK268.out 0; have hfz15_1 := blk_frozen BK268.out 1) | (go_at_call 68; refine calls_of_args (args' := #[.agg #[.int .i64 a1_0, .int .i64 a1_1]]) (by first | rfl) ?_; (with_reducible refine (impl_IsTurn.calls k a1_0 a1_1 t271 _ A9.out).mono ?_); rintro e w16 ⟨rfl, hb⟩; replace BK267 := bb BK267 hb; replace BK268 := bb BK268 hb; replace BK269 := bb BK269 hb; replace HB := hs HB hb; (try clear hb); (try clear hb2); (try clear hk); (try clear hi)))
    go_meet
    case rel => exact ⟨_, (!t271), (by first | rfl | (simp; done) | (simp [*]; done)), H', ⟨by first | omega | exact Nat.le_refl _⟩, bk_ BK267, bk_ BK268, bk_ BK269, hb_ HB⟩
  ·
   replace c8 := Bool.eq_false_iff.mpr c8
   subst c8
   have H1 : (impl_TurnSeen.j0 k true a0_0 a0_1 a0_2 a0_3 a1_0 a1_1) = some (r1, r2, r3, r4, r5) := by rw [if_neg (show ¬ (false = true) by decide)] at H; exact H
   clear H
   have H := H1
   clear H1
   as_aux_lemma =>
    have H' := Aside0.mk H
    clear H
    obtain ⟨hnb17, hnc17⟩ := nn_ NB267_268
    obtain ⟨hnb18, hnc18⟩ := nn_ NB267_269
    have hcz19_0 := cz_ BK267 0 (.int .i64 a0_0)
    have hcz19_1 := cz_ BK267 1 (.int .i64 a0_1)
    have hcz19_2 := cz_ BK267 2 (.int .i64 a0_2)
    have hcz19_3 := cz_ BK267 3 (.int .i64 a0_3)
    have hfz19_0 := blk_frozen BK267.out 0
    have hfz19_1 := blk_frozen BK267.out 1
    have hfz19_2 := blk_frozen BK267.out 2
    have hfz19_3 := blk_frozen BK267.out 3
    go_wp2_with (first | ((with_reducible refine gate_callee (f := 13) rfl ?_); refine gs_ (some 8) Try.func13 #[.agg #[.int .i64 a0_0, .int .i64 a0_1, .int .i64 a0_2, .int .i64 a0_3]] ?_; (with_reducible refine (impl_IsSeen.calls k a0_0 a0_1 a0_2 a0_3 false _ A7.out).mono ?_); rintro e w20 ⟨rfl, hb⟩; refine ⟨_, rfl, ?_⟩; replace BK267 := bb BK267 hb; replace BK268 := bb BK268 hb; replace BK269 := bb BK269 hb; replace HB := hs HB hb; (try clear hb); (try clear hb2); (try clear hk); (try clear hi)))
    go_meet
    case rel => exact ⟨_, (true), (by first | rfl | (simp; done) | (simp [*]; done)), H', ⟨by first | omega | exact Nat.le_refl _⟩, bk_ BK267, bk_ BK268, bk_ BK269, hb_ HB⟩
 case rest =>
  clear HC3
  obtain ⟨kq, x14_2, rfl, HA, HJ2, BK267, BK268, BK269, HB⟩ := hcut
  cases kq with
  | zero => exact absurd HA.out (by simp [impl_TurnSeen.j0])
  | succ kj2 =>
   have H := HA.out
   clear HA
   simp only [impl_TurnSeen.j0] at H
   by_cases c21 : x14_2 = true
   ·
    subst c21
    have H1 : (some (0, 0, 0, 0, false)) = some (r1, r2, r3, r4, r5) := by rw [if_pos rfl] at H; exact H
    clear H
    have H := H1
    clear H1
    as_aux_lemma =>
     simp only [Option.some.injEq, Prod.mk.injEq] at H
     obtain ⟨rfl, rfl, rfl, rfl, rfl⟩ := H
     obtain ⟨hnb22, hnc22⟩ := nn_ NB269_267
     obtain ⟨hnb23, hnc23⟩ := nn_ NB269_268
     have hcz24_0 := cz_ BK269 0 (.int .i64 0)
     have hcz24_1 := cz_ BK269 1 (.int .i64 0)
     have hcz24_2 := cz_ BK269 2 (.int .i64 0)
     have hcz24_3 := cz_ BK269 3 (.int .i64 0)
     have hfz24_0 := blk_frozen BK269.out 0
     have hfz24_1 := blk_frozen BK269.out 1
     have hfz24_2 := blk_frozen BK269.out 2
     have hfz24_3 := blk_frozen BK269.out 3
     go_wp2
     refine bodyPost_ret (results_ct rfl _ _ gb269 25 #[.int .i64 0, .int .i64 0, .int .i64 0, .int .i64 0] (0, 0) _ rfl (by (with_reducible repeat (first | refine blk_drewN ?_ _ | refine blk_drew ?_ | refine blk_alloc ?_ _)); refine blk_put (cs := #[.int .i64 0, .int .i64 0, .int .i64 0, .int .i64 0]) ?_ 3 _ rfl; (with_reducible repeat (first | refine blk_drewN ?_ _ | refine blk_drew ?_ | refine blk_alloc ?_ _)); refine blk_put (cs := #[.int .i64 0, .int .i64 0, .int .i64 0, .int .i64 0]) ?_ 2 _ rfl; (with_reducible repeat (first | refine blk_drewN ?_ _ | refine blk_drew ?_ | refine blk_alloc ?_ _)); refine blk_put (cs := #[.int .i64 0, .int .i64 0, .int .i64 0, .int .i64 0]) ?_ 1 _ rfl; (with_reducible repeat (first | refine blk_drewN ?_ _ | refine blk_drew ?_ | refine blk_alloc ?_ _)); refine blk_put (cs := #[.int .i64 0, .int .i64 0, .int .i64 0, .int .i64 0]) ?_ 0 _ rfl; (with_reducible repeat (first | refine blk_drewN ?_ _ | refine blk_drew ?_ | refine blk_alloc ?_ _)); exact BK269.out) Try.underlying25 rfl (by kernel_rfl)) rfl ?_
     exact ⟨by first | rfl | (simp [errW_none, errW_some] <;> rfl) | (simp [*, errW_none, errW_some] <;> rfl), (ho_ HB)⟩
   ·
    replace c21 := Bool.eq_false_iff.mpr c21
    subst c21
    have H1 : ((impl_Turn_plus.f kj2 a0_0 a0_1 a1_0 a1_1).bind fun bt272 => ((impl_Turn_plus.f kj2 a0_2 a0_3 a1_0 a1_1).bind fun bt274 => ((impl_IsSeen.f kj2 bt272.1 bt272.2 bt274.1 bt274.2).bind fun t277 => (if t277 = true then (some (bt272.1, bt272.2, bt274.1, bt274.2, true)) else (some (0, 0, 0, 0, false)))))) = some (r1, r2, r3, r4, r5) := by rw [if_neg (show ¬ (false = true) by decide)] at H; exact H
    clear H
    have H := H1
    clear H1
    replace H := Option.bind_eq_some_iff.mp H
    obtain ⟨⟨t272, t273⟩, A250, H⟩ := H
    replace H : ((impl_Turn_plus.f kj2 a0_2 a0_3 a1_0 a1_1).bind fun bt274 => ((impl_IsSeen.f kj2 t272 t273 bt274.1 bt274.2).bind fun t277 => (if t277 = true then (some (t272, t273, bt274.1, bt274.2, true)) else (some (0, 0, 0, 0, false))))) = some (r1, r2, r3, r4, r5) := H
    have A25 := Aside0.mk A250
    clear A250
    replace H := Option.bind_eq_some_iff.mp H
    obtain ⟨⟨t274, t275⟩, A260, H⟩ := H
    replace H : ((impl_IsSeen.f kj2 t272 t273 t274 t275).bind fun t277 => (if t277 = true then (some (t272, t273, t274, t275, true)) else (some (0, 0, 0, 0, false)))) = some (r1, r2, r3, r4, r5) := H
    have A26 := Aside0.mk A260
    clear A260
    replace H := Option.bind_eq_some_iff.mp H
    obtain ⟨t277, A270, H⟩ := H
    replace H : (if t277 = true then (some (t272, t273, t274, t275, true)) else (some (0, 0, 0, 0, false))) = some (r1, r2, r3, r4, r5) := H
    have A27 := Aside0.mk A270
    clear A270
    by_cases c28 : t277 = true
    ·
     subst c28
     have H1 : (some (t272, t273, t274, t275, true)) = some (r1, r2, r3, r4, r5) := by rw [if_pos rfl] at H; exact H
     clear H
     have H := H1
     clear H1
     as_aux_lemma =>
      simp only [Option.some.injEq, Prod.mk.injEq] at H
      obtain ⟨rfl, rfl, rfl, rfl, rfl⟩ := H
      try go_wp2
      replace BK267 := Aside0.mk (blk_drew BK267.out)
      replace BK268 := Aside0.mk (blk_drew BK268.out)
      replace BK269 := Aside0.mk (blk_drew BK269.out)
      replace HB := Aside0.mk (below_drew1 HB.out)
      refine start_ (n := 11) (S := fun w' => w'.cell? ⟨gb267, 0, none⟩ = some (.int .i64 a0_0) ∧ w'.cell? ⟨gb267, 1, none⟩ = some (.int .i64 a0_1) ∧ w'.cell? ⟨gb267, 2, none⟩ = some (.int .i64 a0_2) ∧ w'.cell? ⟨gb267, 3, none⟩ = some (.int .i64 a0_3) ∧ w'.cell? ⟨gb268, 0, none⟩ = some (.int .i64 a1_0) ∧ w'.cell? ⟨gb268, 1, none⟩ = some (.int .i64 a1_1)) (ds := []) #[false, false, false, false, false, false, false, false, false, false, false] (by kernel_rfl) rfl rfl ⟨(blk_cell BK267.out 0).trans rfl, (blk_cell BK267.out 1).trans rfl, (blk_cell BK267.out 2).trans rfl, (blk_cell BK267.out 3).trans rfl, (blk_cell BK268.out 0).trans rfl, (blk_cell BK268.out 1).trans rfl⟩ (fun hHeld => ?_); refine with_tabW impl_TurnSeen.tab3 impl_TurnSeen.bits3 (fun HT_ HW_ => ?_)
      generalize wc.drew = w29 at BK267 BK268 BK269 HB hHeld ⊢
      refine pu_ 0 (some 16) HT_.out ?_
      refine pu_ 4 (some 20) HT_.out ?_
      refine take_ (i := 1) (N := some 17) (v := ?_) (a' := ?_) #[true, true, false, false, true, false, false, false, false, false, false] rfl rfl (take_ofW HT_.out HW_.out (by kernel_rfl)) (fun _ _ _ h => h) (Or.inl ⟨by rfl, ?_⟩) hHeld ?_ ?_
      rotate_left
      ·
       rintro w' ⟨s0, s1, s2, s3, s4, s5⟩
       go_simp
       with_reducible rfl
      rotate_left
      ·
       simp only [Act.put, List.setIfInBounds_toArray, List.set_cons_zero, List.set_cons_succ, i64_w, i32_w]
       rfl
      refine take_ (i := 2) (N := some 18) (v := ?_) (a' := ?_) #[true, true, true, false, true, false, false, false, false, false, false] rfl rfl (take_ofW HT_.out HW_.out (by kernel_rfl)) (fun _ _ _ h => h) (Or.inl ⟨by rfl, ?_⟩) hHeld ?_ ?_
      rotate_left
      ·
       rintro w' ⟨s0, s1, s2, s3, s4, s5⟩
       go_simp
       with_reducible rfl
      rotate_left
      ·
       simp only [Act.put, List.setIfInBounds_toArray, List.set_cons_zero, List.set_cons_succ, i64_w, i32_w]
       rfl
      refine take_ (i := 5) (N := some 21) (v := ?_) (a' := ?_) #[true, true, true, false, true, true, false, false, false, false, false] rfl rfl (take_ofW HT_.out HW_.out (by kernel_rfl)) (fun _ _ _ h => h) (Or.inl ⟨by rfl, ?_⟩) hHeld ?_ ?_
      rotate_left
      ·
       rintro w' ⟨s0, s1, s2, s3, s4, s5⟩
       go_simp
       with_reducible rfl
      rotate_left
      ·
       simp only [Act.put, List.setIfInBounds_toArray, List.set_cons_zero, List.set_cons_succ, i64_w, i32_w]
       rfl
      refine take_ (i := 6) (N := some 22) (v := ?_) (a' := ?_) #[true, true, true, false, true, true, true, false, false, false, false] rfl rfl (take_ofW HT_.out HW_.out (by kernel_rfl)) (fun _ _ _ h => h) (Or.inl ⟨by rfl, ?_⟩) hHeld ?_ ?_
      rotate_left
      ·
       rintro w' ⟨s0, s1, s2, s3, s4, s5⟩
       go_simp
       with_reducible rfl
      rotate_left
      ·
       simp only [Act.put, List.setIfInBounds_toArray, List.set_cons_zero, List.set_cons_succ, i64_w, i32_w]
       rfl
      refine join_ (σ := Nat) 1 #[true, true, true, true, true, true, true, true, true, true, false] (fun s_ => [(19, .agg #[.int .i64 t272, .int .i64 t273]), (23, .agg #[.int .i64 t274, .int .i64 t275]), (6, .pointer (some ⟨s_, 0, none⟩)), (24, .agg #[.int .i64 t272, .int .i64 t273, .int .i64 t274, .int .i64 t275])]) (fun s_ w' => (w'.cell? ⟨gb267, 0, none⟩ = some (.int .i64 a0_0) ∧ w'.cell? ⟨gb267, 1, none⟩ = some (.int .i64 a0_1) ∧ w'.cell? ⟨gb267, 2, none⟩ = some (.int .i64 a0_2) ∧ w'.cell? ⟨gb267, 3, none⟩ = some (.int .i64 a0_3) ∧ w'.cell? ⟨gb268, 0, none⟩ = some (.int .i64 a1_0) ∧ w'.cell? ⟨gb268, 1, none⟩ = some (.int .i64 a1_1)) ∧ (w'.heap[gb267]? = some (.cells #[.int .i64 a0_0, .int .i64 a0_1, .int .i64 a0_2, .int .i64 a0_3] 25 (0, 0))) ∧ (w'.heap[gb268]? = some (.cells #[.int .i64 a1_0, .int .i64 a1_1] 23 (0, 0))) ∧ (w'.heap[gb269]? = some (.cells #[.int .i64 0, .int .i64 0, .int .i64 0, .int .i64 0] 25 (0, 0))) ∧ (w'.heap[s_]? = some (.cells #[.int .i64 0, .int .i64 0, .int .i64 0, .int .i64 0] 25 (0, 0))) ∧ (w.heap.size ≤ s_) ∧ (w.heap.size ≤ s_) ∧ (gb267 ≠ s_) ∧ (s_ ≠ gb267) ∧ (gb268 ≠ s_) ∧ (s_ ≠ gb268) ∧ (gb269 ≠ s_) ∧ (s_ ≠ gb269) ∧ (Below w.heap.size w w')) ?_ ?_
      rotate_left
      ·
       intro hCont
       refine two_ (i := 3) (j := 9) (Ni := some 19) (Nj := some 6) #[true, true, true, true, true, true, true, false, false, false, false] #[true, true, true, false, true, true, true, false, false, true, false] rfl rfl rfl rfl (two_of HT_.out (by kernel_rfl)) (by decide) (by decide) (fun K hK => ?_) (fun K hK => ?_)
       ·
        skip
        refine goes_ Try.func69 (by kernel_rfl) rfl #[.agg #[.int .i64 a0_0, .int .i64 a0_1], .agg #[.int .i64 a1_0, .int .i64 a1_1]] (by rfl) rfl rfl (by (try simp only [List.map_toArray, List.map_cons, List.map_nil]); first | done | rfl | (simp only [List.length_drop, List.length_take]; rfl)) ?_
        with_reducible refine (impl_Turn_plus.calls kj2 a0_0 a0_1 a1_0 a1_1 t272 t273 _ A25.out).mono ?_
        rintro e w30 ⟨rfl, hb⟩
        refine ⟨_, rfl, ?_⟩
        replace BK267 := bb BK267 hb
        replace BK268 := bb BK268 hb
        replace BK269 := bb BK269 hb
        replace HB := hs HB hb
        (try clear hb)
        (try clear hb2)
        (try clear hk)
        (try clear hi)
        refine hK.out _ _ ⟨(blk_cell BK267.out 0).trans rfl, (blk_cell BK267.out 1).trans rfl, (blk_cell BK267.out 2).trans rfl, (blk_cell BK267.out 3).trans rfl, (blk_cell BK268.out 0).trans rfl, (blk_cell BK268.out 1).trans rfl⟩ (fun hHeld => ?_)
        clear hK K
        refine norm_ (a' := ?_) ?_ ?_
        rotate_left
        ·
         show Act.put _ (some 19) _ = _
         simp only [Act.put, List.setIfInBounds_toArray, List.set_cons_zero, List.set_cons_succ, i64_w, i32_w]
         rfl
        refine two_ (i := 7) (j := 9) (Ni := some 23) (Nj := some 6) #[true, true, true, true, true, true, true, true, false, false, false] #[true, true, true, true, true, true, true, false, false, true, false] rfl rfl rfl rfl (two_of HT_.out (by kernel_rfl)) (by decide) (by decide) (fun K hK => ?_) (fun K hK => ?_)
        ·
         skip
         refine goes_ Try.func69 (by kernel_rfl) rfl #[.agg #[.int .i64 a0_2, .int .i64 a0_3], .agg #[.int .i64 a1_0, .int .i64 a1_1]] (by rfl) rfl rfl (by (try simp only [List.map_toArray, List.map_cons, List.map_nil]); first | done | rfl | (simp only [List.length_drop, List.length_take]; rfl)) ?_
         with_reducible refine (impl_Turn_plus.calls kj2 a0_2 a0_3 a1_0 a1_1 t274 t275 _ A26.out).mono ?_
         rintro e w31 ⟨rfl, hb⟩
         refine ⟨_, rfl, ?_⟩
         replace BK267 := bb BK267 hb
         replace BK268 := bb BK268 hb
         replace BK269 := bb BK269 hb
         replace HB := hs HB hb
         (try clear hb)
         (try clear hb2)
         (try clear hk)
         (try clear hi)
         refine hK.out _ _ ⟨(blk_cell BK267.out 0).trans rfl, (blk_cell BK267.out 1).trans rfl, (blk_cell BK267.out 2).trans rfl, (blk_cell BK267.out 3).trans rfl, (blk_cell BK268.out 0).trans rfl, (blk_cell BK268.out 1).trans rfl⟩ (fun hHeld => ?_)
         clear hK K
         refine norm_ (a' := ?_) ?_ ?_
         rotate_left
         ·
          show Act.put _ (some 23) _ = _
          simp only [Act.put, List.setIfInBounds_toArray, List.set_cons_zero, List.set_cons_succ, i64_w, i32_w]
          rfl
         refine pu_ 8 (some 24) HT_.out ?_
         refine one_ (i := 9) (N := some 6) #[true, true, true, true, true, true, true, true, true, true, false] rfl rfl (one_of HT_.out (by kernel_rfl)) (by decide) (fun K hK => ?_)
         refine box_step ?hg (N := 6) ?hd (cs := #[.int .i64 0, .int .i64 0, .int .i64 0, .int .i64 0]) (t := 25) ?hr ?_; (case hd => rfl); (case hg => rfl); (case hr => first | (go_simp; done) | (go_simp; rfl))
         intro gb276 hg w32 hbox hb
         have BK276 := Aside0.mk (hbox)
         have GW276 := ge_ HB hg
         have GE276 := ge_ HB hg
         obtain ⟨NB267_276, NB276_267⟩ := nq_ BK267 hg
         obtain ⟨NB268_276, NB276_268⟩ := nq_ BK268 hg
         obtain ⟨NB269_276, NB276_269⟩ := nq_ BK269 hg
         replace BK267 := bb BK267 hb
         replace BK268 := bb BK268 hb
         replace BK269 := bb BK269 hb
         replace HB := hs HB hb
         clear hb hbox hg
         refine hK.out _ _ ⟨(blk_cell BK267.out 0).trans rfl, (blk_cell BK267.out 1).trans rfl, (blk_cell BK267.out 2).trans rfl, (blk_cell BK267.out 3).trans rfl, (blk_cell BK268.out 0).trans rfl, (blk_cell BK268.out 1).trans rfl⟩ (fun hHeld => ?_)
         clear hK K
         refine norm_ (a' := ?_) ?_ ?_
         rotate_left
         ·
          show Act.put _ (some 6) _ = _
          simp only [Act.put, List.setIfInBounds_toArray, List.set_cons_zero, List.set_cons_succ, i64_w, i32_w]
          rfl
         exact norm_ (by simp only [putAll, Act.put, List.setIfInBounds_toArray, List.set_cons_zero, List.set_cons_succ]) (hCont (gb276) _ ⟨hHeld, (by (with_reducible repeat (first | refine blk_drewN ?_ _ | refine blk_drew ?_ | refine blk_alloc ?_ _)); exact BK267.out), (by (with_reducible repeat (first | refine blk_drewN ?_ _ | refine blk_drew ?_ | refine blk_alloc ?_ _)); exact BK268.out), (by (with_reducible repeat (first | refine blk_drewN ?_ _ | refine blk_drew ?_ | refine blk_alloc ?_ _)); exact BK269.out), (by (with_reducible repeat (first | refine blk_drewN ?_ _ | refine blk_drew ?_ | refine blk_alloc ?_ _)); exact BK276.out), GW276.out, GE276.out, NB267_276.out, NB276_267.out, NB268_276.out, NB276_268.out, NB269_276.out, NB276_269.out, (ho_ HB)⟩)
        ·
         skip
         refine box_step ?hg (N := 6) ?hd (cs := #[.int .i64 0, .int .i64 0, .int .i64 0, .int .i64 0]) (t := 25) ?hr ?_; (case hd => rfl); (case hg => rfl); (case hr => first | (go_simp; done) | (go_simp; rfl))
         intro gb276 hg w31 hbox hb
         have BK276 := Aside0.mk (hbox)
         have GW276 := ge_ HB hg
         have GE276 := ge_ HB hg
         obtain ⟨NB267_276, NB276_267⟩ := nq_ BK267 hg
         obtain ⟨NB268_276, NB276_268⟩ := nq_ BK268 hg
         obtain ⟨NB269_276, NB276_269⟩ := nq_ BK269 hg
         replace BK267 := bb BK267 hb
         replace BK268 := bb BK268 hb
         replace BK269 := bb BK269 hb
         replace HB := hs HB hb
         clear hb hbox hg
         refine hK.out _ _ ⟨(blk_cell BK267.out 0).trans rfl, (blk_cell BK267.out 1).trans rfl, (blk_cell BK267.out 2).trans rfl, (blk_cell BK267.out 3).trans rfl, (blk_cell BK268.out 0).trans rfl, (blk_cell BK268.out 1).trans rfl⟩ (fun hHeld => ?_)
         clear hK K
         refine norm_ (a' := ?_) ?_ ?_
         rotate_left
         ·
          show Act.put _ (some 6) _ = _
          simp only [Act.put, List.setIfInBounds_toArray, List.set_cons_zero, List.set_cons_succ, i64_w, i32_w]
          rfl
         refine one_ (i := 7) (N := some 23) #[true, true, true, true, true, true, true, true, false, true, false] rfl rfl (one_of HT_.out (by kernel_rfl)) (by decide) (fun K hK => ?_)
         refine goes_ Try.func69 (by kernel_rfl) rfl #[.agg #[.int .i64 a0_2, .int .i64 a0_3], .agg #[.int .i64 a1_0, .int .i64 a1_1]] (by rfl) rfl rfl (by (try simp only [List.map_toArray, List.map_cons, List.map_nil]); first | done | rfl | (simp only [List.length_drop, List.length_take]; rfl)) ?_
         with_reducible refine (impl_Turn_plus.calls kj2 a0_2 a0_3 a1_0 a1_1 t274 t275 _ A26.out).mono ?_
         rintro e w32 ⟨rfl, hb⟩
         refine ⟨_, rfl, ?_⟩
         replace BK267 := bb BK267 hb
         replace BK268 := bb BK268 hb
         replace BK269 := bb BK269 hb
         replace BK276 := bb BK276 hb
         replace HB := hs HB hb
         (try clear hb)
         (try clear hb2)
         (try clear hk)
         (try clear hi)
         refine hK.out _ _ ⟨(blk_cell BK267.out 0).trans rfl, (blk_cell BK267.out 1).trans rfl, (blk_cell BK267.out 2).trans rfl, (blk_cell BK267.out 3).trans rfl, (blk_cell BK268.out 0).trans rfl, (blk_cell BK268.out 1).trans rfl⟩ (fun hHeld => ?_)
         clear hK K
         refine norm_ (a' := ?_) ?_ ?_
         rotate_left
         ·
          show Act.put _ (some 23) _ = _
          simp only [Act.put, List.setIfInBounds_toArray, List.set_cons_zero, List.set_cons_succ, i64_w, i32_w]
          rfl
         refine pu_ 8 (some 24) HT_.out ?_
         exact norm_ (by simp only [putAll, Act.put, List.setIfInBounds_toArray, List.set_cons_zero, List.set_cons_succ]) (hCont (gb276) _ ⟨hHeld, (by (with_reducible repeat (first | refine blk_drewN ?_ _ | refine blk_drew ?_ | refine blk_alloc ?_ _)); exact BK267.out), (by (with_reducible repeat (first | refine blk_drewN ?_ _ | refine blk_drew ?_ | refine blk_alloc ?_ _)); exact BK268.out), (by (with_reducible repeat (first | refine blk_drewN ?_ _ | refine blk_drew ?_ | refine blk_alloc ?_ _)); exact BK269.out), (by (with_reducible repeat (first | refine blk_drewN ?_ _ | refine blk_drew ?_ | refine blk_alloc ?_ _)); exact BK276.out), GW276.out, GE276.out, NB267_276.out, NB276_267.out, NB268_276.out, NB276_268.out, NB269_276.out, NB276_269.out, (ho_ HB)⟩)
       ·
        skip
        refine box_step ?hg (N := 6) ?hd (cs := #[.int .i64 0, .int .i64 0, .int .i64 0, .int .i64 0]) (t := 25) ?hr ?_; (case hd => rfl); (case hg => rfl); (case hr => first | (go_simp; done) | (go_simp; rfl))
        intro gb276 hg w30 hbox hb
        have BK276 := Aside0.mk (hbox)
        have GW276 := ge_ HB hg
        have GE276 := ge_ HB hg
        obtain ⟨NB267_276, NB276_267⟩ := nq_ BK267 hg
        obtain ⟨NB268_276, NB276_268⟩ := nq_ BK268 hg
        obtain ⟨NB269_276, NB276_269⟩ := nq_ BK269 hg
        replace BK267 := bb BK267 hb
        replace BK268 := bb BK268 hb
        replace BK269 := bb BK269 hb
        replace HB := hs HB hb
        clear hb hbox hg
        refine hK.out _ _ ⟨(blk_cell BK267.out 0).trans rfl, (blk_cell BK267.out 1).trans rfl, (blk_cell BK267.out 2).trans rfl, (blk_cell BK267.out 3).trans rfl, (blk_cell BK268.out 0).trans rfl, (blk_cell BK268.out 1).trans rfl⟩ (fun hHeld => ?_)
        clear hK K
        refine norm_ (a' := ?_) ?_ ?_
        rotate_left
        ·
         show Act.put _ (some 6) _ = _
         simp only [Act.put, List.setIfInBounds_toArray, List.set_cons_zero, List.set_cons_succ, i64_w, i32_w]
         rfl
        refine one_ (i := 3) (N := some 19) #[true, true, true, true, true, true, true, false, false, true, false] rfl rfl (one_of HT_.out (by kernel_rfl)) (by decide) (fun K hK => ?_)
        refine goes_ Try.func69 (by kernel_rfl) rfl #[.agg #[.int .i64 a0_0, .int .i64 a0_1], .agg #[.int .i64 a1_0, .int .i64 a1_1]] (by rfl) rfl rfl (by (try simp only [List.map_toArray, List.map_cons, List.map_nil]); first | done | rfl | (simp only [List.length_drop, List.length_take]; rfl)) ?_
        with_reducible refine (impl_Turn_plus.calls kj2 a0_0 a0_1 a1_0 a1_1 t272 t273 _ A25.out).mono ?_
        rintro e w31 ⟨rfl, hb⟩
        refine ⟨_, rfl, ?_⟩
        replace BK267 := bb BK267 hb
        replace BK268 := bb BK268 hb
        replace BK269 := bb BK269 hb
        replace BK276 := bb BK276 hb
        replace HB := hs HB hb
        (try clear hb)
        (try clear hb2)
        (try clear hk)
        (try clear hi)
        refine hK.out _ _ ⟨(blk_cell BK267.out 0).trans rfl, (blk_cell BK267.out 1).trans rfl, (blk_cell BK267.out 2).trans rfl, (blk_cell BK267.out 3).trans rfl, (blk_cell BK268.out 0).trans rfl, (blk_cell BK268.out 1).trans rfl⟩ (fun hHeld => ?_)
        clear hK K
        refine norm_ (a' := ?_) ?_ ?_
        rotate_left
        ·
         show Act.put _ (some 19) _ = _
         simp only [Act.put, List.setIfInBounds_toArray, List.set_cons_zero, List.set_cons_succ, i64_w, i32_w]
         rfl
        refine one_ (i := 7) (N := some 23) #[true, true, true, true, true, true, true, true, false, true, false] rfl rfl (one_of HT_.out (by kernel_rfl)) (by decide) (fun K hK => ?_)
        refine goes_ Try.func69 (by kernel_rfl) rfl #[.agg #[.int .i64 a0_2, .int .i64 a0_3], .agg #[.int .i64 a1_0, .int .i64 a1_1]] (by rfl) rfl rfl (by (try simp only [List.map_toArray, List.map_cons, List.map_nil]); first | done | rfl | (simp only [List.length_drop, List.length_take]; rfl)) ?_
        with_reducible refine (impl_Turn_plus.calls kj2 a0_2 a0_3 a1_0 a1_1 t274 t275 _ A26.out).mono ?_
        rintro e w32 ⟨rfl, hb⟩
        refine ⟨_, rfl, ?_⟩
        replace BK267 := bb BK267 hb
        replace BK268 := bb BK268 hb
        replace BK269 := bb BK269 hb
        replace BK276 := bb BK276 hb
        replace HB := hs HB hb
        (try clear hb)
        (try clear hb2)
        (try clear hk)
        (try clear hi)
        refine hK.out _ _ ⟨(blk_cell BK267.out 0).trans rfl, (blk_cell BK267.out 1).trans rfl, (blk_cell BK267.out 2).trans rfl, (blk_cell BK267.out 3).trans rfl, (blk_cell BK268.out 0).trans rfl, (blk_cell BK268.out 1).trans rfl⟩ (fun hHeld => ?_)
        clear hK K
        refine norm_ (a' := ?_) ?_ ?_
        rotate_left
        ·
         show Act.put _ (some 23) _ = _
         simp only [Act.put, List.setIfInBounds_toArray, List.set_cons_zero, List.set_cons_succ, i64_w, i32_w]
         rfl
        refine pu_ 8 (some 24) HT_.out ?_
        exact norm_ (by simp only [putAll, Act.put, List.setIfInBounds_toArray, List.set_cons_zero, List.set_cons_succ]) (hCont (gb276) _ ⟨hHeld, (by (with_reducible repeat (first | refine blk_drewN ?_ _ | refine blk_drew ?_ | refine blk_alloc ?_ _)); exact BK267.out), (by (with_reducible repeat (first | refine blk_drewN ?_ _ | refine blk_drew ?_ | refine blk_alloc ?_ _)); exact BK268.out), (by (with_reducible repeat (first | refine blk_drewN ?_ _ | refine blk_drew ?_ | refine blk_alloc ?_ _)); exact BK269.out), (by (with_reducible repeat (first | refine blk_drewN ?_ _ | refine blk_drew ?_ | refine blk_alloc ?_ _)); exact BK276.out), GW276.out, GE276.out, NB267_276.out, NB276_267.out, NB268_276.out, NB276_268.out, NB269_276.out, NB276_269.out, (ho_ HB)⟩)
      rintro gb276 w33 ⟨hS_, h0_, h1_, h2_, h3_, h4_, h5_, h6_, h7_, h8_, h9_, h10_, h11_, h12_⟩
      have n0_ : Aside0 (w33.heap[gb267]? = some (.cells #[.int .i64 a0_0, .int .i64 a0_1, .int .i64 a0_2, .int .i64 a0_3] 25 (0, 0))) := ⟨h0_⟩
      have n1_ : Aside0 (w33.heap[gb268]? = some (.cells #[.int .i64 a1_0, .int .i64 a1_1] 23 (0, 0))) := ⟨h1_⟩
      have n2_ : Aside0 (w33.heap[gb269]? = some (.cells #[.int .i64 0, .int .i64 0, .int .i64 0, .int .i64 0] 25 (0, 0))) := ⟨h2_⟩
      have n3_ : Aside0 (w33.heap[gb276]? = some (.cells #[.int .i64 0, .int .i64 0, .int .i64 0, .int .i64 0] 25 (0, 0))) := ⟨h3_⟩
      have n4_ : Aside0 (w.heap.size ≤ gb276) := ⟨h4_⟩
      have n5_ : Aside0 (w.heap.size ≤ gb276) := ⟨h5_⟩
      have n6_ : Aside0 (gb267 ≠ gb276) := ⟨h6_⟩
      have n7_ : Aside0 (gb276 ≠ gb267) := ⟨h7_⟩
      have n8_ : Aside0 (gb268 ≠ gb276) := ⟨h8_⟩
      have n9_ : Aside0 (gb276 ≠ gb268) := ⟨h9_⟩
      have n10_ : Aside0 (gb269 ≠ gb276) := ⟨h10_⟩
      have n11_ : Aside0 (gb276 ≠ gb269) := ⟨h11_⟩
      have n12_ : Aside0 (Below w.heap.size w w33) := ⟨h12_⟩
      clear BK267
      clear BK268
      clear BK269
      clear HB
      clear h0_ h1_ h2_ h3_ h4_ h5_ h6_ h7_ h8_ h9_ h10_ h11_ h12_
      have BK267 := n0_
      have BK268 := n1_
      have BK269 := n2_
      have BK276 := n3_
      have GW276 := n4_
      have GE276 := n5_
      have NB267_276 := n6_
      have NB276_267 := n7_
      have NB268_276 := n8_
      have NB276_268 := n9_
      have NB269_276 := n10_
      have NB276_269 := n11_
      have HB := n12_
      clear n0_ n1_ n2_ n3_ n4_ n5_ n6_ n7_ n8_ n9_ n10_ n11_ n12_
      have hHeld : w33.cell? ⟨gb267, 0, none⟩ = some (.int .i64 a0_0) ∧ w33.cell? ⟨gb267, 1, none⟩ = some (.int .i64 a0_1) ∧ w33.cell? ⟨gb267, 2, none⟩ = some (.int .i64 a0_2) ∧ w33.cell? ⟨gb267, 3, none⟩ = some (.int .i64 a0_3) ∧ w33.cell? ⟨gb268, 0, none⟩ = some (.int .i64 a1_0) ∧ w33.cell? ⟨gb268, 1, none⟩ = some (.int .i64 a1_1) := hS_
      refine norm_ (a' := ?_) ?_ ?_
      rotate_left
      ·
       simp only [putAll, Act.put, List.setIfInBounds_toArray, List.set_cons_zero, List.set_cons_succ]
       rfl
      refine one_ (i := 10) (N := none) #[true, true, true, true, true, true, true, true, true, true, true] rfl rfl (one_of HT_.out (by kernel_rfl)) (by decide) (fun K hK => ?_)
      have hs34 : w33.cell? ⟨gb276, 0, none⟩ = some (.int .i64 0) := (blk_cell BK276.out 0).trans rfl
      have hfs34 := blk_frozen BK276.out 0
      have hns34_0 := NB267_276.out
      have hns34_1 := NB268_276.out
      have hns34_2 := NB269_276.out
      have hms34_0 := NB276_267.out
      have hms34_1 := NB276_268.out
      have hms34_2 := NB276_269.out
      have hs35 : w33.cell? ⟨gb276, 1, none⟩ = some (.int .i64 0) := (blk_cell BK276.out 1).trans rfl
      have hfs35 := blk_frozen BK276.out 1
      have hns35_0 := NB267_276.out
      have hns35_1 := NB268_276.out
      have hns35_2 := NB269_276.out
      have hms35_0 := NB276_267.out
      have hms35_1 := NB276_268.out
      have hms35_2 := NB276_269.out
      have hs36 : w33.cell? ⟨gb276, 2, none⟩ = some (.int .i64 0) := (blk_cell BK276.out 2).trans rfl
      have hfs36 := blk_frozen BK276.out 2
      have hns36_0 := NB267_276.out
      have hns36_1 := NB268_276.out
      have hns36_2 := NB269_276.out
      have hms36_0 := NB276_267.out
      have hms36_1 := NB276_268.out
      have hms36_2 := NB276_269.out
      have hs37 : w33.cell? ⟨gb276, 3, none⟩ = some (.int .i64 0) := (blk_cell BK276.out 3).trans rfl
      have hfs37 := blk_frozen BK276.out 3
      have hns37_0 := NB267_276.out
      have hns37_1 := NB268_276.out
      have hns37_2 := NB269_276.out
      have hms37_0 := NB276_267.out
      have hms37_1 := NB276_268.out
      have hms37_2 := NB276_269.out
      refine skip_ (w1 := ?_) (by rfl) rfl ?_ ?_
      rotate_left
      ·
       go_simp
       rfl
      refine hK.out _ _ ⟨((cell_far (p := ⟨gb276, _, none⟩) NB267_276.out _).trans (((cell_far (p := ⟨gb276, _, none⟩) NB267_276.out _).trans (((cell_far (p := ⟨gb276, _, none⟩) NB267_276.out _).trans (((cell_far (p := ⟨gb276, _, none⟩) NB267_276.out _).trans (hHeld.1)))))))), ((cell_far (p := ⟨gb276, _, none⟩) NB267_276.out _).trans (((cell_far (p := ⟨gb276, _, none⟩) NB267_276.out _).trans (((cell_far (p := ⟨gb276, _, none⟩) NB267_276.out _).trans (((cell_far (p := ⟨gb276, _, none⟩) NB267_276.out _).trans (hHeld.2.1)))))))), ((cell_far (p := ⟨gb276, _, none⟩) NB267_276.out _).trans (((cell_far (p := ⟨gb276, _, none⟩) NB267_276.out _).trans (((cell_far (p := ⟨gb276, _, none⟩) NB267_276.out _).trans (((cell_far (p := ⟨gb276, _, none⟩) NB267_276.out _).trans (hHeld.2.2.1)))))))), ((cell_far (p := ⟨gb276, _, none⟩) NB267_276.out _).trans (((cell_far (p := ⟨gb276, _, none⟩) NB267_276.out _).trans (((cell_far (p := ⟨gb276, _, none⟩) NB267_276.out _).trans (((cell_far (p := ⟨gb276, _, none⟩) NB267_276.out _).trans (hHeld.2.2.2.1)))))))), ((cell_far (p := ⟨gb276, _, none⟩) NB268_276.out _).trans (((cell_far (p := ⟨gb276, _, none⟩) NB268_276.out _).trans (((cell_far (p := ⟨gb276, _, none⟩) NB268_276.out _).trans (((cell_far (p := ⟨gb276, _, none⟩) NB268_276.out _).trans (hHeld.2.2.2.2.1)))))))), ((cell_far (p := ⟨gb276, _, none⟩) NB268_276.out _).trans (((cell_far (p := ⟨gb276, _, none⟩) NB268_276.out _).trans (((cell_far (p := ⟨gb276, _, none⟩) NB268_276.out _).trans (((cell_far (p := ⟨gb276, _, none⟩) NB268_276.out _).trans (hHeld.2.2.2.2.2))))))))⟩ (fun hHeld => ?_)
      clear hK K
      refine done_ (done_of HT_.out (by kernel_rfl)) ?_
      obtain ⟨hnb38, hnc38⟩ := nn_ NB276_267
      obtain ⟨hnb39, hnc39⟩ := nn_ NB276_268
      obtain ⟨hnb40, hnc40⟩ := nn_ NB276_269
      have hcz41_0 := cz_ BK276 0 (.int .i64 0)
      have hcz41_1 := cz_ BK276 1 (.int .i64 0)
      have hcz41_2 := cz_ BK276 2 (.int .i64 0)
      have hcz41_3 := cz_ BK276 3 (.int .i64 0)
      have hfz41_0 := blk_frozen BK276.out 0
      have hfz41_1 := blk_frozen BK276.out 1
      have hfz41_2 := blk_frozen BK276.out 2
      have hfz41_3 := blk_frozen BK276.out 3
      try go_wp2_with (first | ((with_reducible refine gate_callee (f := 13) rfl ?_); refine gs_ (some 26) Try.func13 #[.agg #[.int .i64 t272, .int .i64 t273, .int .i64 t274, .int .i64 t275]] ?_; (with_reducible refine (impl_IsSeen.calls kj2 t272 t273 t274 t275 true _ A27.out).mono ?_); rintro e w42 ⟨rfl, hb⟩; refine ⟨_, rfl, ?_⟩; replace BK267 := bb BK267 hb; replace BK268 := bb BK268 hb; replace BK269 := bb BK269 hb; replace BK276 := Aside0.mk (blk_below (g := gb276) (o := .cells #[.int .i64 t272, .int .i64 t273, .int .i64 t274, .int .i64 t275] 25 (0, 0)) (by (with_reducible repeat (first | refine blk_drewN ?_ _ | refine blk_drew ?_ | refine blk_alloc ?_ _)); refine blk_put (cs := #[.int .i64 t272, .int .i64 t273, .int .i64 t274, .int .i64 0]) ?_ 3 _ rfl; (with_reducible repeat (first | refine blk_drewN ?_ _ | refine blk_drew ?_ | refine blk_alloc ?_ _)); refine blk_put (cs := #[.int .i64 t272, .int .i64 t273, .int .i64 0, .int .i64 0]) ?_ 2 _ rfl; (with_reducible repeat (first | refine blk_drewN ?_ _ | refine blk_drew ?_ | refine blk_alloc ?_ _)); refine blk_put (cs := #[.int .i64 t272, .int .i64 0, .int .i64 0, .int .i64 0]) ?_ 1 _ rfl; (with_reducible repeat (first | refine blk_drewN ?_ _ | refine blk_drew ?_ | refine blk_alloc ?_ _)); refine blk_put (cs := #[.int .i64 0, .int .i64 0, .int .i64 0, .int .i64 0]) ?_ 0 _ rfl; (with_reducible repeat (first | refine blk_drewN ?_ _ | refine blk_drew ?_ | refine blk_alloc ?_ _)); exact BK276.out) hb); replace HB := hs HB hb; (try clear hb); (try clear hb2); (try clear hk); (try clear hi); have hcz43_0 := cz_ BK276 0 (.int .i64 t272); have hcz43_1 := cz_ BK276 1 (.int .i64 t273); have hcz43_2 := cz_ BK276 2 (.int .i64 t274); have hcz43_3 := cz_ BK276 3 (.int .i64 t275); have hfz43_0 := blk_frozen BK276.out 0; have hfz43_1 := blk_frozen BK276.out 1; have hfz43_2 := blk_frozen BK276.out 2; have hfz43_3 := blk_frozen BK276.out 3; obtain ⟨hnb44, hnc44⟩ := nn_ NB269_267; obtain ⟨hnb45, hnc45⟩ := nn_ NB269_268; have hcz46_0 := cz_ BK269 0 (.int .i64 0); have hcz46_1 := cz_ BK269 1 (.int .i64 0); have hcz46_2 := cz_ BK269 2 (.int .i64 0); have hcz46_3 := cz_ BK269 3 (.int .i64 0); have hfz46_0 := blk_frozen BK269.out 0; have hfz46_1 := blk_frozen BK269.out 1; have hfz46_2 := blk_frozen BK269.out 2; have hfz46_3 := blk_frozen BK269.out 3))
      refine bodyPost_ret (results_ct rfl _ _ gb269 25 #[.int .i64 t272, .int .i64 t273, .int .i64 t274, .int .i64 t275] (0, 0) _ rfl (by (with_reducible repeat (first | refine blk_drewN ?_ _ | refine blk_drew ?_ | refine blk_alloc ?_ _)); refine blk_put (cs := #[.int .i64 t272, .int .i64 t273, .int .i64 t274, .int .i64 0]) ?_ 3 _ rfl; (with_reducible repeat (first | refine blk_drewN ?_ _ | refine blk_drew ?_ | refine blk_alloc ?_ _)); refine blk_put (cs := #[.int .i64 t272, .int .i64 t273, .int .i64 0, .int .i64 0]) ?_ 2 _ rfl; (with_reducible repeat (first | refine blk_drewN ?_ _ | refine blk_drew ?_ | refine blk_alloc ?_ _)); refine blk_put (cs := #[.int .i64 t272, .int .i64 0, .int .i64 0, .int .i64 0]) ?_ 1 _ rfl; (with_reducible repeat (first | refine blk_drewN ?_ _ | refine blk_drew ?_ | refine blk_alloc ?_ _)); refine blk_put (cs := #[.int .i64 0, .int .i64 0, .int .i64 0, .int .i64 0]) ?_ 0 _ rfl; (with_reducible repeat (first | refine blk_drewN ?_ _ | refine blk_drew ?_ | refine blk_alloc ?_ _)); exact BK269.out) Try.underlying25 rfl (by kernel_rfl)) rfl ?_
      exact ⟨by first | rfl | (simp [errW_none, errW_some] <;> rfl) | (simp [*, errW_none, errW_some] <;> rfl), (ho_ HB)⟩
    ·
     replace c28 := Bool.eq_false_iff.mpr c28
     subst c28
     have H1 : (some (0, 0, 0, 0, false)) = some (r1, r2, r3, r4, r5) := by rw [if_neg (show ¬ (false = true) by decide)] at H; exact H
     clear H
     have H := H1
     clear H1
     as_aux_lemma =>
      simp only [Option.some.injEq, Prod.mk.injEq] at H
      obtain ⟨rfl, rfl, rfl, rfl, rfl⟩ := H
      try go_wp2
      replace BK267 := Aside0.mk (blk_drew BK267.out)
      replace BK268 := Aside0.mk (blk_drew BK268.out)
      replace BK269 := Aside0.mk (blk_drew BK269.out)
      replace HB := Aside0.mk (below_drew1 HB.out)
      refine start_ (n := 11) (S := fun w' => w'.cell? ⟨gb267, 0, none⟩ = some (.int .i64 a0_0) ∧ w'.cell? ⟨gb267, 1, none⟩ = some (.int .i64 a0_1) ∧ w'.cell? ⟨gb267, 2, none⟩ = some (.int .i64 a0_2) ∧ w'.cell? ⟨gb267, 3, none⟩ = some (.int .i64 a0_3) ∧ w'.cell? ⟨gb268, 0, none⟩ = some (.int .i64 a1_0) ∧ w'.cell? ⟨gb268, 1, none⟩ = some (.int .i64 a1_1)) (ds := []) #[false, false, false, false, false, false, false, false, false, false, false] (by kernel_rfl) rfl rfl ⟨(blk_cell BK267.out 0).trans rfl, (blk_cell BK267.out 1).trans rfl, (blk_cell BK267.out 2).trans rfl, (blk_cell BK267.out 3).trans rfl, (blk_cell BK268.out 0).trans rfl, (blk_cell BK268.out 1).trans rfl⟩ (fun hHeld => ?_); refine with_tabW impl_TurnSeen.tab3 impl_TurnSeen.bits3 (fun HT_ HW_ => ?_)
      generalize wc.drew = w47 at BK267 BK268 BK269 HB hHeld ⊢
      refine pu_ 0 (some 16) HT_.out ?_
      refine pu_ 4 (some 20) HT_.out ?_
      refine take_ (i := 1) (N := some 17) (v := ?_) (a' := ?_) #[true, true, false, false, true, false, false, false, false, false, false] rfl rfl (take_ofW HT_.out HW_.out (by kernel_rfl)) (fun _ _ _ h => h) (Or.inl ⟨by rfl, ?_⟩) hHeld ?_ ?_
      rotate_left
      ·
       rintro w' ⟨s0, s1, s2, s3, s4, s5⟩
       go_simp
       with_reducible rfl
      rotate_left
      ·
       simp only [Act.put, List.setIfInBounds_toArray, List.set_cons_zero, List.set_cons_succ, i64_w, i32_w]
       rfl
      refine take_ (i := 2) (N := some 18) (v := ?_) (a' := ?_) #[true, true, true, false, true, false, false, false, false, false, false] rfl rfl (take_ofW HT_.out HW_.out (by kernel_rfl)) (fun _ _ _ h => h) (Or.inl ⟨by rfl, ?_⟩) hHeld ?_ ?_
      rotate_left
      ·
       rintro w' ⟨s0, s1, s2, s3, s4, s5⟩
       go_simp
       with_reducible rfl
      rotate_left
      ·
       simp only [Act.put, List.setIfInBounds_toArray, List.set_cons_zero, List.set_cons_succ, i64_w, i32_w]
       rfl
      refine take_ (i := 5) (N := some 21) (v := ?_) (a' := ?_) #[true, true, true, false, true, true, false, false, false, false, false] rfl rfl (take_ofW HT_.out HW_.out (by kernel_rfl)) (fun _ _ _ h => h) (Or.inl ⟨by rfl, ?_⟩) hHeld ?_ ?_
      rotate_left
      ·
       rintro w' ⟨s0, s1, s2, s3, s4, s5⟩
       go_simp
       with_reducible rfl
      rotate_left
      ·
       simp only [Act.put, List.setIfInBounds_toArray, List.set_cons_zero, List.set_cons_succ, i64_w, i32_w]
       rfl
      refine take_ (i := 6) (N := some 22) (v := ?_) (a' := ?_) #[true, true, true, false, true, true, true, false, false, false, false] rfl rfl (take_ofW HT_.out HW_.out (by kernel_rfl)) (fun _ _ _ h => h) (Or.inl ⟨by rfl, ?_⟩) hHeld ?_ ?_
      rotate_left
      ·
       rintro w' ⟨s0, s1, s2, s3, s4, s5⟩
       go_simp
       with_reducible rfl
      rotate_left
      ·
       simp only [Act.put, List.setIfInBounds_toArray, List.set_cons_zero, List.set_cons_succ, i64_w, i32_w]
       rfl
      refine join_ (σ := Nat) 1 #[true, true, true, true, true, true, true, true, true, true, false] (fun s_ => [(19, .agg #[.int .i64 t272, .int .i64 t273]), (23, .agg #[.int .i64 t274, .int .i64 t275]), (6, .pointer (some ⟨s_, 0, none⟩)), (24, .agg #[.int .i64 t272, .int .i64 t273, .int .i64 t274, .int .i64 t275])]) (fun s_ w' => (w'.cell? ⟨gb267, 0, none⟩ = some (.int .i64 a0_0) ∧ w'.cell? ⟨gb267, 1, none⟩ = some (.int .i64 a0_1) ∧ w'.cell? ⟨gb267, 2, none⟩ = some (.int .i64 a0_2) ∧ w'.cell? ⟨gb267, 3, none⟩ = some (.int .i64 a0_3) ∧ w'.cell? ⟨gb268, 0, none⟩ = some (.int .i64 a1_0) ∧ w'.cell? ⟨gb268, 1, none⟩ = some (.int .i64 a1_1)) ∧ (w'.heap[gb267]? = some (.cells #[.int .i64 a0_0, .int .i64 a0_1, .int .i64 a0_2, .int .i64 a0_3] 25 (0, 0))) ∧ (w'.heap[gb268]? = some (.cells #[.int .i64 a1_0, .int .i64 a1_1] 23 (0, 0))) ∧ (w'.heap[gb269]? = some (.cells #[.int .i64 0, .int .i64 0, .int .i64 0, .int .i64 0] 25 (0, 0))) ∧ (w'.heap[s_]? = some (.cells #[.int .i64 0, .int .i64 0, .int .i64 0, .int .i64 0] 25 (0, 0))) ∧ (w.heap.size ≤ s_) ∧ (w.heap.size ≤ s_) ∧ (gb267 ≠ s_) ∧ (s_ ≠ gb267) ∧ (gb268 ≠ s_) ∧ (s_ ≠ gb268) ∧ (gb269 ≠ s_) ∧ (s_ ≠ gb269) ∧ (Below w.heap.size w w')) ?_ ?_
      rotate_left
      ·
       intro hCont
       refine two_ (i := 3) (j := 9) (Ni := some 19) (Nj := some 6) #[true, true, true, true, true, true, true, false, false, false, false] #[true, true, true, false, true, true, true, false, false, true, false] rfl rfl rfl rfl (two_of HT_.out (by kernel_rfl)) (by decide) (by decide) (fun K hK => ?_) (fun K hK => ?_)
       ·
        skip
        refine goes_ Try.func69 (by kernel_rfl) rfl #[.agg #[.int .i64 a0_0, .int .i64 a0_1], .agg #[.int .i64 a1_0, .int .i64 a1_1]] (by rfl) rfl rfl (by (try simp only [List.map_toArray, List.map_cons, List.map_nil]); first | done | rfl | (simp only [List.length_drop, List.length_take]; rfl)) ?_
        with_reducible refine (impl_Turn_plus.calls kj2 a0_0 a0_1 a1_0 a1_1 t272 t273 _ A25.out).mono ?_
        rintro e w48 ⟨rfl, hb⟩
        refine ⟨_, rfl, ?_⟩
        replace BK267 := bb BK267 hb
        replace BK268 := bb BK268 hb
        replace BK269 := bb BK269 hb
        replace HB := hs HB hb
        (try clear hb)
        (try clear hb2)
        (try clear hk)
        (try clear hi)
        refine hK.out _ _ ⟨(blk_cell BK267.out 0).trans rfl, (blk_cell BK267.out 1).trans rfl, (blk_cell BK267.out 2).trans rfl, (blk_cell BK267.out 3).trans rfl, (blk_cell BK268.out 0).trans rfl, (blk_cell BK268.out 1).trans rfl⟩ (fun hHeld => ?_)
        clear hK K
        refine norm_ (a' := ?_) ?_ ?_
        rotate_left
        ·
         show Act.put _ (some 19) _ = _
         simp only [Act.put, List.setIfInBounds_toArray, List.set_cons_zero, List.set_cons_succ, i64_w, i32_w]
         rfl
        refine two_ (i := 7) (j := 9) (Ni := some 23) (Nj := some 6) #[true, true, true, true, true, true, true, true, false, false, false] #[true, true, true, true, true, true, true, false, false, true, false] rfl rfl rfl rfl (two_of HT_.out (by kernel_rfl)) (by decide) (by decide) (fun K hK => ?_) (fun K hK => ?_)
        ·
         skip
         refine goes_ Try.func69 (by kernel_rfl) rfl #[.agg #[.int .i64 a0_2, .int .i64 a0_3], .agg #[.int .i64 a1_0, .int .i64 a1_1]] (by rfl) rfl rfl (by (try simp only [List.map_toArray, List.map_cons, List.map_nil]); first | done | rfl | (simp only [List.length_drop, List.length_take]; rfl)) ?_
         with_reducible refine (impl_Turn_plus.calls kj2 a0_2 a0_3 a1_0 a1_1 t274 t275 _ A26.out).mono ?_
         rintro e w49 ⟨rfl, hb⟩
         refine ⟨_, rfl, ?_⟩
         replace BK267 := bb BK267 hb
         replace BK268 := bb BK268 hb
         replace BK269 := bb BK269 hb
         replace HB := hs HB hb
         (try clear hb)
         (try clear hb2)
         (try clear hk)
         (try clear hi)
         refine hK.out _ _ ⟨(blk_cell BK267.out 0).trans rfl, (blk_cell BK267.out 1).trans rfl, (blk_cell BK267.out 2).trans rfl, (blk_cell BK267.out 3).trans rfl, (blk_cell BK268.out 0).trans rfl, (blk_cell BK268.out 1).trans rfl⟩ (fun hHeld => ?_)
         clear hK K
         refine norm_ (a' := ?_) ?_ ?_
         rotate_left
         ·
          show Act.put _ (some 23) _ = _
          simp only [Act.put, List.setIfInBounds_toArray, List.set_cons_zero, List.set_cons_succ, i64_w, i32_w]
          rfl
         refine pu_ 8 (some 24) HT_.out ?_
         refine one_ (i := 9) (N := some 6) #[true, true, true, true, true, true, true, true, true, true, false] rfl rfl (one_of HT_.out (by kernel_rfl)) (by decide) (fun K hK => ?_)
         refine box_step ?hg (N := 6) ?hd (cs := #[.int .i64 0, .int .i64 0, .int .i64 0, .int .i64 0]) (t := 25) ?hr ?_; (case hd => rfl); (case hg => rfl); (case hr => first | (go_simp; done) | (go_simp; rfl))
         intro gb276 hg w50 hbox hb
         have BK276 := Aside0.mk (hbox)
         have GW276 := ge_ HB hg
         have GE276 := ge_ HB hg
         obtain ⟨NB267_276, NB276_267⟩ := nq_ BK267 hg
         obtain ⟨NB268_276, NB276_268⟩ := nq_ BK268 hg
         obtain ⟨NB269_276, NB276_269⟩ := nq_ BK269 hg
         replace BK267 := bb BK267 hb
         replace BK268 := bb BK268 hb
         replace BK269 := bb BK269 hb
         replace HB := hs HB hb
         clear hb hbox hg
         refine hK.out _ _ ⟨(blk_cell BK267.out 0).trans rfl, (blk_cell BK267.out 1).trans rfl, (blk_cell BK267.out 2).trans rfl, (blk_cell BK267.out 3).trans rfl, (blk_cell BK268.out 0).trans rfl, (blk_cell BK268.out 1).trans rfl⟩ (fun hHeld => ?_)
         clear hK K
         refine norm_ (a' := ?_) ?_ ?_
         rotate_left
         ·
          show Act.put _ (some 6) _ = _
          simp only [Act.put, List.setIfInBounds_toArray, List.set_cons_zero, List.set_cons_succ, i64_w, i32_w]
          rfl
         exact norm_ (by simp only [putAll, Act.put, List.setIfInBounds_toArray, List.set_cons_zero, List.set_cons_succ]) (hCont (gb276) _ ⟨hHeld, (by (with_reducible repeat (first | refine blk_drewN ?_ _ | refine blk_drew ?_ | refine blk_alloc ?_ _)); exact BK267.out), (by (with_reducible repeat (first | refine blk_drewN ?_ _ | refine blk_drew ?_ | refine blk_alloc ?_ _)); exact BK268.out), (by (with_reducible repeat (first | refine blk_drewN ?_ _ | refine blk_drew ?_ | refine blk_alloc ?_ _)); exact BK269.out), (by (with_reducible repeat (first | refine blk_drewN ?_ _ | refine blk_drew ?_ | refine blk_alloc ?_ _)); exact BK276.out), GW276.out, GE276.out, NB267_276.out, NB276_267.out, NB268_276.out, NB276_268.out, NB269_276.out, NB276_269.out, (ho_ HB)⟩)
        ·
         skip
         refine box_step ?hg (N := 6) ?hd (cs := #[.int .i64 0, .int .i64 0, .int .i64 0, .int .i64 0]) (t := 25) ?hr ?_; (case hd => rfl); (case hg => rfl); (case hr => first | (go_simp; done) | (go_simp; rfl))
         intro gb276 hg w49 hbox hb
         have BK276 := Aside0.mk (hbox)
         have GW276 := ge_ HB hg
         have GE276 := ge_ HB hg
         obtain ⟨NB267_276, NB276_267⟩ := nq_ BK267 hg
         obtain ⟨NB268_276, NB276_268⟩ := nq_ BK268 hg
         obtain ⟨NB269_276, NB276_269⟩ := nq_ BK269 hg
         replace BK267 := bb BK267 hb
         replace BK268 := bb BK268 hb
         replace BK269 := bb BK269 hb
         replace HB := hs HB hb
         clear hb hbox hg
         refine hK.out _ _ ⟨(blk_cell BK267.out 0).trans rfl, (blk_cell BK267.out 1).trans rfl, (blk_cell BK267.out 2).trans rfl, (blk_cell BK267.out 3).trans rfl, (blk_cell BK268.out 0).trans rfl, (blk_cell BK268.out 1).trans rfl⟩ (fun hHeld => ?_)
         clear hK K
         refine norm_ (a' := ?_) ?_ ?_
         rotate_left
         ·
          show Act.put _ (some 6) _ = _
          simp only [Act.put, List.setIfInBounds_toArray, List.set_cons_zero, List.set_cons_succ, i64_w, i32_w]
          rfl
         refine one_ (i := 7) (N := some 23) #[true, true, true, true, true, true, true, true, false, true, false] rfl rfl (one_of HT_.out (by kernel_rfl)) (by decide) (fun K hK => ?_)
         refine goes_ Try.func69 (by kernel_rfl) rfl #[.agg #[.int .i64 a0_2, .int .i64 a0_3], .agg #[.int .i64 a1_0, .int .i64 a1_1]] (by rfl) rfl rfl (by (try simp only [List.map_toArray, List.map_cons, List.map_nil]); first | done | rfl | (simp only [List.length_drop, List.length_take]; rfl)) ?_
         with_reducible refine (impl_Turn_plus.calls kj2 a0_2 a0_3 a1_0 a1_1 t274 t275 _ A26.out).mono ?_
         rintro e w50 ⟨rfl, hb⟩
         refine ⟨_, rfl, ?_⟩
         replace BK267 := bb BK267 hb
         replace BK268 := bb BK268 hb
         replace BK269 := bb BK269 hb
         replace BK276 := bb BK276 hb
         replace HB := hs HB hb
         (try clear hb)
         (try clear hb2)
         (try clear hk)
         (try clear hi)
         refine hK.out _ _ ⟨(blk_cell BK267.out 0).trans rfl, (blk_cell BK267.out 1).trans rfl, (blk_cell BK267.out 2).trans rfl, (blk_cell BK267.out 3).trans rfl, (blk_cell BK268.out 0).trans rfl, (blk_cell BK268.out 1).trans rfl⟩ (fun hHeld => ?_)
         clear hK K
         refine norm_ (a' := ?_) ?_ ?_
         rotate_left
         ·
          show Act.put _ (some 23) _ = _
          simp only [Act.put, List.setIfInBounds_toArray, List.set_cons_zero, List.set_cons_succ, i64_w, i32_w]
          rfl
         refine pu_ 8 (some 24) HT_.out ?_
         exact norm_ (by simp only [putAll, Act.put, List.setIfInBounds_toArray, List.set_cons_zero, List.set_cons_succ]) (hCont (gb276) _ ⟨hHeld, (by (with_reducible repeat (first | refine blk_drewN ?_ _ | refine blk_drew ?_ | refine blk_alloc ?_ _)); exact BK267.out), (by (with_reducible repeat (first | refine blk_drewN ?_ _ | refine blk_drew ?_ | refine blk_alloc ?_ _)); exact BK268.out), (by (with_reducible repeat (first | refine blk_drewN ?_ _ | refine blk_drew ?_ | refine blk_alloc ?_ _)); exact BK269.out), (by (with_reducible repeat (first | refine blk_drewN ?_ _ | refine blk_drew ?_ | refine blk_alloc ?_ _)); exact BK276.out), GW276.out, GE276.out, NB267_276.out, NB276_267.out, NB268_276.out, NB276_268.out, NB269_276.out, NB276_269.out, (ho_ HB)⟩)
       ·
        skip
        refine box_step ?hg (N := 6) ?hd (cs := #[.int .i64 0, .int .i64 0, .int .i64 0, .int .i64 0]) (t := 25) ?hr ?_; (case hd => rfl); (case hg => rfl); (case hr => first | (go_simp; done) | (go_simp; rfl))
        intro gb276 hg w48 hbox hb
        have BK276 := Aside0.mk (hbox)
        have GW276 := ge_ HB hg
        have GE276 := ge_ HB hg
        obtain ⟨NB267_276, NB276_267⟩ := nq_ BK267 hg
        obtain ⟨NB268_276, NB276_268⟩ := nq_ BK268 hg
        obtain ⟨NB269_276, NB276_269⟩ := nq_ BK269 hg
        replace BK267 := bb BK267 hb
        replace BK268 := bb BK268 hb
        replace BK269 := bb BK269 hb
        replace HB := hs HB hb
        clear hb hbox hg
        refine hK.out _ _ ⟨(blk_cell BK267.out 0).trans rfl, (blk_cell BK267.out 1).trans rfl, (blk_cell BK267.out 2).trans rfl, (blk_cell BK267.out 3).trans rfl, (blk_cell BK268.out 0).trans rfl, (blk_cell BK268.out 1).trans rfl⟩ (fun hHeld => ?_)
        clear hK K
        refine norm_ (a' := ?_) ?_ ?_
        rotate_left
        ·
         show Act.put _ (some 6) _ = _
         simp only [Act.put, List.setIfInBounds_toArray, List.set_cons_zero, List.set_cons_succ, i64_w, i32_w]
         rfl
        refine one_ (i := 3) (N := some 19) #[true, true, true, true, true, true, true, false, false, true, false] rfl rfl (one_of HT_.out (by kernel_rfl)) (by decide) (fun K hK => ?_)
        refine goes_ Try.func69 (by kernel_rfl) rfl #[.agg #[.int .i64 a0_0, .int .i64 a0_1], .agg #[.int .i64 a1_0, .int .i64 a1_1]] (by rfl) rfl rfl (by (try simp only [List.map_toArray, List.map_cons, List.map_nil]); first | done | rfl | (simp only [List.length_drop, List.length_take]; rfl)) ?_
        with_reducible refine (impl_Turn_plus.calls kj2 a0_0 a0_1 a1_0 a1_1 t272 t273 _ A25.out).mono ?_
        rintro e w49 ⟨rfl, hb⟩
        refine ⟨_, rfl, ?_⟩
        replace BK267 := bb BK267 hb
        replace BK268 := bb BK268 hb
        replace BK269 := bb BK269 hb
        replace BK276 := bb BK276 hb
        replace HB := hs HB hb
        (try clear hb)
        (try clear hb2)
        (try clear hk)
        (try clear hi)
        refine hK.out _ _ ⟨(blk_cell BK267.out 0).trans rfl, (blk_cell BK267.out 1).trans rfl, (blk_cell BK267.out 2).trans rfl, (blk_cell BK267.out 3).trans rfl, (blk_cell BK268.out 0).trans rfl, (blk_cell BK268.out 1).trans rfl⟩ (fun hHeld => ?_)
        clear hK K
        refine norm_ (a' := ?_) ?_ ?_
        rotate_left
        ·
         show Act.put _ (some 19) _ = _
         simp only [Act.put, List.setIfInBounds_toArray, List.set_cons_zero, List.set_cons_succ, i64_w, i32_w]
         rfl
        refine one_ (i := 7) (N := some 23) #[true, true, true, true, true, true, true, true, false, true, false] rfl rfl (one_of HT_.out (by kernel_rfl)) (by decide) (fun K hK => ?_)
        refine goes_ Try.func69 (by kernel_rfl) rfl #[.agg #[.int .i64 a0_2, .int .i64 a0_3], .agg #[.int .i64 a1_0, .int .i64 a1_1]] (by rfl) rfl rfl (by (try simp only [List.map_toArray, List.map_cons, List.map_nil]); first | done | rfl | (simp only [List.length_drop, List.length_take]; rfl)) ?_
        with_reducible refine (impl_Turn_plus.calls kj2 a0_2 a0_3 a1_0 a1_1 t274 t275 _ A26.out).mono ?_
        rintro e w50 ⟨rfl, hb⟩
        refine ⟨_, rfl, ?_⟩
        replace BK267 := bb BK267 hb
        replace BK268 := bb BK268 hb
        replace BK269 := bb BK269 hb
        replace BK276 := bb BK276 hb
        replace HB := hs HB hb
        (try clear hb)
        (try clear hb2)
        (try clear hk)
        (try clear hi)
        refine hK.out _ _ ⟨(blk_cell BK267.out 0).trans rfl, (blk_cell BK267.out 1).trans rfl, (blk_cell BK267.out 2).trans rfl, (blk_cell BK267.out 3).trans rfl, (blk_cell BK268.out 0).trans rfl, (blk_cell BK268.out 1).trans rfl⟩ (fun hHeld => ?_)
        clear hK K
        refine norm_ (a' := ?_) ?_ ?_
        rotate_left
        ·
         show Act.put _ (some 23) _ = _
         simp only [Act.put, List.setIfInBounds_toArray, List.set_cons_zero, List.set_cons_succ, i64_w, i32_w]
         rfl
        refine pu_ 8 (some 24) HT_.out ?_
        exact norm_ (by simp only [putAll, Act.put, List.setIfInBounds_toArray, List.set_cons_zero, List.set_cons_succ]) (hCont (gb276) _ ⟨hHeld, (by (with_reducible repeat (first | refine blk_drewN ?_ _ | refine blk_drew ?_ | refine blk_alloc ?_ _)); exact BK267.out), (by (with_reducible repeat (first | refine blk_drewN ?_ _ | refine blk_drew ?_ | refine blk_alloc ?_ _)); exact BK268.out), (by (with_reducible repeat (first | refine blk_drewN ?_ _ | refine blk_drew ?_ | refine blk_alloc ?_ _)); exact BK269.out), (by (with_reducible repeat (first | refine blk_drewN ?_ _ | refine blk_drew ?_ | refine blk_alloc ?_ _)); exact BK276.out), GW276.out, GE276.out, NB267_276.out, NB276_267.out, NB268_276.out, NB276_268.out, NB269_276.out, NB276_269.out, (ho_ HB)⟩)
      rintro gb276 w51 ⟨hS_, h0_, h1_, h2_, h3_, h4_, h5_, h6_, h7_, h8_, h9_, h10_, h11_, h12_⟩
      have n0_ : Aside0 (w51.heap[gb267]? = some (.cells #[.int .i64 a0_0, .int .i64 a0_1, .int .i64 a0_2, .int .i64 a0_3] 25 (0, 0))) := ⟨h0_⟩
      have n1_ : Aside0 (w51.heap[gb268]? = some (.cells #[.int .i64 a1_0, .int .i64 a1_1] 23 (0, 0))) := ⟨h1_⟩
      have n2_ : Aside0 (w51.heap[gb269]? = some (.cells #[.int .i64 0, .int .i64 0, .int .i64 0, .int .i64 0] 25 (0, 0))) := ⟨h2_⟩
      have n3_ : Aside0 (w51.heap[gb276]? = some (.cells #[.int .i64 0, .int .i64 0, .int .i64 0, .int .i64 0] 25 (0, 0))) := ⟨h3_⟩
      have n4_ : Aside0 (w.heap.size ≤ gb276) := ⟨h4_⟩
      have n5_ : Aside0 (w.heap.size ≤ gb276) := ⟨h5_⟩
      have n6_ : Aside0 (gb267 ≠ gb276) := ⟨h6_⟩
      have n7_ : Aside0 (gb276 ≠ gb267) := ⟨h7_⟩
      have n8_ : Aside0 (gb268 ≠ gb276) := ⟨h8_⟩
      have n9_ : Aside0 (gb276 ≠ gb268) := ⟨h9_⟩
      have n10_ : Aside0 (gb269 ≠ gb276) := ⟨h10_⟩
      have n11_ : Aside0 (gb276 ≠ gb269) := ⟨h11_⟩
      have n12_ : Aside0 (Below w.heap.size w w51) := ⟨h12_⟩
      clear BK267
      clear BK268
      clear BK269
      clear HB
      clear h0_ h1_ h2_ h3_ h4_ h5_ h6_ h7_ h8_ h9_ h10_ h11_ h12_
      have BK267 := n0_
      have BK268 := n1_
      have BK269 := n2_
      have BK276 := n3_
      have GW276 := n4_
      have GE276 := n5_
      have NB267_276 := n6_
      have NB276_267 := n7_
      have NB268_276 := n8_
      have NB276_268 := n9_
      have NB269_276 := n10_
      have NB276_269 := n11_
      have HB := n12_
      clear n0_ n1_ n2_ n3_ n4_ n5_ n6_ n7_ n8_ n9_ n10_ n11_ n12_
      have hHeld : w51.cell? ⟨gb267, 0, none⟩ = some (.int .i64 a0_0) ∧ w51.cell? ⟨gb267, 1, none⟩ = some (.int .i64 a0_1) ∧ w51.cell? ⟨gb267, 2, none⟩ = some (.int .i64 a0_2) ∧ w51.cell? ⟨gb267, 3, none⟩ = some (.int .i64 a0_3) ∧ w51.cell? ⟨gb268, 0, none⟩ = some (.int .i64 a1_0) ∧ w51.cell? ⟨gb268, 1, none⟩ = some (.int .i64 a1_1) := hS_
      refine norm_ (a' := ?_) ?_ ?_
      rotate_left
      ·
       simp only [putAll, Act.put, List.setIfInBounds_toArray, List.set_cons_zero, List.set_cons_succ]
       rfl
      refine one_ (i := 10) (N := none) #[true, true, true, true, true, true, true, true, true, true, true] rfl rfl (one_of HT_.out (by kernel_rfl)) (by decide) (fun K hK => ?_)
      have hs52 : w51.cell? ⟨gb276, 0, none⟩ = some (.int .i64 0) := (blk_cell BK276.out 0).trans rfl
      have hfs52 := blk_frozen BK276.out 0
      have hns52_0 := NB267_276.out
      have hns52_1 := NB268_276.out
      have hns52_2 := NB269_276.out
      have hms52_0 := NB276_267.out
      have hms52_1 := NB276_268.out
      have hms52_2 := NB276_269.out
      have hs53 : w51.cell? ⟨gb276, 1, none⟩ = some (.int .i64 0) := (blk_cell BK276.out 1).trans rfl
      have hfs53 := blk_frozen BK276.out 1
      have hns53_0 := NB267_276.out
      have hns53_1 := NB268_276.out
      have hns53_2 := NB269_276.out
      have hms53_0 := NB276_267.out
      have hms53_1 := NB276_268.out
      have hms53_2 := NB276_269.out
      have hs54 : w51.cell? ⟨gb276, 2, none⟩ = some (.int .i64 0) := (blk_cell BK276.out 2).trans rfl
      have hfs54 := blk_frozen BK276.out 2
      have hns54_0 := NB267_276.out
      have hns54_1 := NB268_276.out
      have hns54_2 := NB269_276.out
      have hms54_0 := NB276_267.out
      have hms54_1 := NB276_268.out
      have hms54_2 := NB276_269.out
      have hs55 : w51.cell? ⟨gb276, 3, none⟩ = some (.int .i64 0) := (blk_cell BK276.out 3).trans rfl
      have hfs55 := blk_frozen BK276.out 3
      have hns55_0 := NB267_276.out
      have hns55_1 := NB268_276.out
      have hns55_2 := NB269_276.out
      have hms55_0 := NB276_267.out
      have hms55_1 := NB276_268.out
      have hms55_2 := NB276_269.out
      refine skip_ (w1 := ?_) (by rfl) rfl ?_ ?_
      rotate_left
      ·
       go_simp
       rfl
      refine hK.out _ _ ⟨((cell_far (p := ⟨gb276, _, none⟩) NB267_276.out _).trans (((cell_far (p := ⟨gb276, _, none⟩) NB267_276.out _).trans (((cell_far (p := ⟨gb276, _, none⟩) NB267_276.out _).trans (((cell_far (p := ⟨gb276, _, none⟩) NB267_276.out _).trans (hHeld.1)))))))), ((cell_far (p := ⟨gb276, _, none⟩) NB267_276.out _).trans (((cell_far (p := ⟨gb276, _, none⟩) NB267_276.out _).trans (((cell_far (p := ⟨gb276, _, none⟩) NB267_276.out _).trans (((cell_far (p := ⟨gb276, _, none⟩) NB267_276.out _).trans (hHeld.2.1)))))))), ((cell_far (p := ⟨gb276, _, none⟩) NB267_276.out _).trans (((cell_far (p := ⟨gb276, _, none⟩) NB267_276.out _).trans (((cell_far (p := ⟨gb276, _, none⟩) NB267_276.out _).trans (((cell_far (p := ⟨gb276, _, none⟩) NB267_276.out _).trans (hHeld.2.2.1)))))))), ((cell_far (p := ⟨gb276, _, none⟩) NB267_276.out _).trans (((cell_far (p := ⟨gb276, _, none⟩) NB267_276.out _).trans (((cell_far (p := ⟨gb276, _, none⟩) NB267_276.out _).trans (((cell_far (p := ⟨gb276, _, none⟩) NB267_276.out _).trans (hHeld.2.2.2.1)))))))), ((cell_far (p := ⟨gb276, _, none⟩) NB268_276.out _).trans (((cell_far (p := ⟨gb276, _, none⟩) NB268_276.out _).trans (((cell_far (p := ⟨gb276, _, none⟩) NB268_276.out _).trans (((cell_far (p := ⟨gb276, _, none⟩) NB268_276.out _).trans (hHeld.2.2.2.2.1)))))))), ((cell_far (p := ⟨gb276, _, none⟩) NB268_276.out _).trans (((cell_far (p := ⟨gb276, _, none⟩) NB268_276.out _).trans (((cell_far (p := ⟨gb276, _, none⟩) NB268_276.out _).trans (((cell_far (p := ⟨gb276, _, none⟩) NB268_276.out _).trans (hHeld.2.2.2.2.2))))))))⟩ (fun hHeld => ?_)
      clear hK K
      refine done_ (done_of HT_.out (by kernel_rfl)) ?_
      obtain ⟨hnb56, hnc56⟩ := nn_ NB276_267
      obtain ⟨hnb57, hnc57⟩ := nn_ NB276_268
      obtain ⟨hnb58, hnc58⟩ := nn_ NB276_269
      have hcz59_0 := cz_ BK276 0 (.int .i64 0)
      have hcz59_1 := cz_ BK276 1 (.int .i64 0)
      have hcz59_2 := cz_ BK276 2 (.int .i64 0)
      have hcz59_3 := cz_ BK276 3 (.int .i64 0)
      have hfz59_0 := blk_frozen BK276.out 0
      have hfz59_1 := blk_frozen BK276.out 1
      have hfz59_2 := blk_frozen BK276.out 2
      have hfz59_3 := blk_frozen BK276.out 3
      try go_wp2_with (first | ((with_reducible refine gate_callee (f := 13) rfl ?_); refine gs_ (some 26) Try.func13 #[.agg #[.int .i64 t272, .int .i64 t273, .int .i64 t274, .int .i64 t275]] ?_; (with_reducible refine (impl_IsSeen.calls kj2 t272 t273 t274 t275 false _ A27.out).mono ?_); rintro e w60 ⟨rfl, hb⟩; refine ⟨_, rfl, ?_⟩; replace BK267 := bb BK267 hb; replace BK268 := bb BK268 hb; replace BK269 := bb BK269 hb; replace BK276 := Aside0.mk (blk_below (g := gb276) (o := .cells #[.int .i64 t272, .int .i64 t273, .int .i64 t274, .int .i64 t275] 25 (0, 0)) (by (with_reducible repeat (first | refine blk_drewN ?_ _ | refine blk_drew ?_ | refine blk_alloc ?_ _)); refine blk_put (cs := #[.int .i64 t272, .int .i64 t273, .int .i64 t274, .int .i64 0]) ?_ 3 _ rfl; (with_reducible repeat (first | refine blk_drewN ?_ _ | refine blk_drew ?_ | refine blk_alloc ?_ _)); refine blk_put (cs := #[.int .i64 t272, .int .i64 t273, .int .i64 0, .int .i64 0]) ?_ 2 _ rfl; (with_reducible repeat (first | refine blk_drewN ?_ _ | refine blk_drew ?_ | refine blk_alloc ?_ _)); refine blk_put (cs := #[.int .i64 t272, .int .i64 0, .int .i64 0, .int .i64 0]) ?_ 1 _ rfl; (with_reducible repeat (first | refine blk_drewN ?_ _ | refine blk_drew ?_ | refine blk_alloc ?_ _)); refine blk_put (cs := #[.int .i64 0, .int .i64 0, .int .i64 0, .int .i64 0]) ?_ 0 _ rfl; (with_reducible repeat (first | refine blk_drewN ?_ _ | refine blk_drew ?_ | refine blk_alloc ?_ _)); exact BK276.out) hb); replace HB := hs HB hb; (try clear hb); (try clear hb2); (try clear hk); (try clear hi); obtain ⟨hnb61, hnc61⟩ := nn_ NB269_267; obtain ⟨hnb62, hnc62⟩ := nn_ NB269_268; have hcz63_0 := cz_ BK269 0 (.int .i64 0); have hcz63_1 := cz_ BK269 1 (.int .i64 0); have hcz63_2 := cz_ BK269 2 (.int .i64 0); have hcz63_3 := cz_ BK269 3 (.int .i64 0); have hfz63_0 := blk_frozen BK269.out 0; have hfz63_1 := blk_frozen BK269.out 1; have hfz63_2 := blk_frozen BK269.out 2; have hfz63_3 := blk_frozen BK269.out 3))
      refine bodyPost_ret (results_ct rfl _ _ gb269 25 #[.int .i64 0, .int .i64 0, .int .i64 0, .int .i64 0] (0, 0) _ rfl (by (with_reducible repeat (first | refine blk_drewN ?_ _ | refine blk_drew ?_ | refine blk_alloc ?_ _)); refine blk_put (cs := #[.int .i64 0, .int .i64 0, .int .i64 0, .int .i64 0]) ?_ 3 _ rfl; (with_reducible repeat (first | refine blk_drewN ?_ _ | refine blk_drew ?_ | refine blk_alloc ?_ _)); refine blk_put (cs := #[.int .i64 0, .int .i64 0, .int .i64 0, .int .i64 0]) ?_ 2 _ rfl; (with_reducible repeat (first | refine blk_drewN ?_ _ | refine blk_drew ?_ | refine blk_alloc ?_ _)); refine blk_put (cs := #[.int .i64 0, .int .i64 0, .int .i64 0, .int .i64 0]) ?_ 1 _ rfl; (with_reducible repeat (first | refine blk_drewN ?_ _ | refine blk_drew ?_ | refine blk_alloc ?_ _)); refine blk_put (cs := #[.int .i64 0, .int .i64 0, .int .i64 0, .int .i64 0]) ?_ 0 _ rfl; (with_reducible repeat (first | refine blk_drewN ?_ _ | refine blk_drew ?_ | refine blk_alloc ?_ _)); exact BK269.out) Try.underlying25 rfl (by kernel_rfl)) rfl ?_
      exact ⟨by first | rfl | (simp [errW_none, errW_some] <;> rfl) | (simp [*, errW_none, errW_some] <;> rfl), (ho_ HB)⟩

end Go.Proofs.Ytkfcaldjepmffaa.GFnDialsTurnedOfAll
