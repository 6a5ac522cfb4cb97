-- Written by a program of this session (a copy of the kit's print program that takes contracts of one's own); Lean checks it.
import Derived.Test.YtkfcaldjepmffaaGFnDialsTurnedOfAllx0
import Derived.Test.YtkfcaldjepmffaaGFnDialsTurnedOfAllx3
import Derived.Test.YtkfcaldjepmffaaGFnDialsTurnedOfAllx5
import Derived.Test.YtkfcaldjepmffaaGFnDialsTurnedOfAllx6
namespace Go.Proofs.Ytkfcaldjepmffaa.GFnDialsTurnedOfAll
open Go.RowKit Go.Proofs.YtkfcaldjepmffaaW.PrintWords Go.Proofs.YtkfcaldjepmffaaW.PrintLast Go.Proofs.YtkfcaldjepmffaaW.PrintMore
attribute [local go_sem] max2_int min2_int max_two min_two max_three min_three max_four min_four   -- for this text's walks alone
set_option linter.unusedVariables false
set_option linter.unusedSimpArgs false

/-! ### impl_TurnsOfDial: function 31 -/
def impl_TurnsOfDial.l0 : Nat → List (S23) → List (S23) → Int → Int → Int → Int → Int → Int → Option ((List (S23)) × Bool)
 | 0, _, _, _, _, _, _, _, _ => none
 | k + 1, x8, x20, x21, x22, x224000, x224001, x224002, x224003 => if x22 < x21 then (if 0 ≤ x22 then (if x22 < (x20.length : Int) then ((impl_Turn_minus.f k x224000 x224001 ((rd_T23 x20 x22).f0) ((rd_T23 x20 x22).f1)).bind fun bt233 => (if x8.length < 8796093022208 then (impl_TurnsOfDial.l0 k (x8 ++ [(⟨bt233.1, bt233.2⟩ : S23)]) x20 x21 (wrap64 (x22 + 1)) x224000 x224001 x224002 x224003) else (none))) else (none)) else (none)) else ((impl_ifTurns.f k x8 true).bind fun bt238 => (some (bt238.1, bt238.2)))
def impl_TurnsOfDial.f (k : Nat) (a0 : Int) (a1_0 : Int) (a1_1 : Int) (a1_2 : Int) (a1_3 : Int) : Option ((List (S23)) × Bool) := (impl_TimesTurned.f k a0 a1_0 a1_1 a1_2 a1_3).bind fun bt224 => (if bt224.2 = true then (impl_TurnsOfDial.l0 k (([] : List (S23))) bt224.1 (bt224.1.length : Int) 0 a1_0 a1_1 a1_2 a1_3) else (some (([] : List (S23)), false)))
theorem impl_TurnsOfDial.mono_l : ∀ k, (∀ y0 y1 y2 y3 y4 y5 y6 y7, LeO (impl_TurnsOfDial.l0 k y0 y1 y2 y3 y4 y5 y6 y7) (impl_TurnsOfDial.l0 (k + 1) y0 y1 y2 y3 y4 y5 y6 y7))
 | 0 => fun _ _ _ _ _ _ _ _ r h => by simp [impl_TurnsOfDial.l0] at h
 | k + 1 => by
  have ih0 := impl_TurnsOfDial.mono_l k
  ·
   intro y0 y1 y2 y3 y4 y5 y6 y7
   unfold impl_TurnsOfDial.l0
   repeat' first
   | (with_reducible exact ih0 _ _ _ _ _ _ _ _)
   | (with_reducible exact impl_TimesTurned.mono _ _ _ _ _ _)
   | (with_reducible exact impl_Turn_minus.mono _ _ _ _ _)
   | (with_reducible exact impl_ifTurns.mono _ _ _)
   | (with_reducible exact LeO.refl _)
   | (with_reducible exact LeO.none _)
   | (with_reducible refine LeO.ite ?_ ?_)
   | (with_reducible refine LeO.bind ?_ (fun _ => ?_))
   | exact ih0 _ _ _ _ _ _ _ _
   | exact impl_TimesTurned.mono _ _ _ _ _ _
   | exact impl_Turn_minus.mono _ _ _ _ _
   | exact impl_ifTurns.mono _ _ _
   | exact LeO.none _
   | refine LeO.ite ?_ ?_
   | refine LeO.bind ?_ (fun _ => ?_)
theorem impl_TurnsOfDial.mono : ∀ a0 a1 a2 a3 a4 k, LeO (impl_TurnsOfDial.f k a0 a1 a2 a3 a4) (impl_TurnsOfDial.f (k + 1) a0 a1 a2 a3 a4) := by
 intro a0 a1 a2 a3 a4 k
 have ih0 := impl_TurnsOfDial.mono_l k
 unfold impl_TurnsOfDial.f
 repeat' first
   | (with_reducible exact ih0 _ _ _ _ _ _ _ _)
   | (with_reducible exact impl_TimesTurned.mono _ _ _ _ _ _)
   | (with_reducible exact impl_Turn_minus.mono _ _ _ _ _)
   | (with_reducible exact impl_ifTurns.mono _ _ _)
   | (with_reducible exact LeO.refl _)
   | (with_reducible exact LeO.none _)
   | (with_reducible refine LeO.ite ?_ ?_)
   | (with_reducible refine LeO.bind ?_ (fun _ => ?_))
   | exact ih0 _ _ _ _ _ _ _ _
   | exact impl_TimesTurned.mono _ _ _ _ _ _
   | exact impl_Turn_minus.mono _ _ _ _ _
   | exact impl_ifTurns.mono _ _ _
   | exact LeO.none _
   | refine LeO.ite ?_ ?_
   | refine LeO.bind ?_ (fun _ => ?_)
set_option maxHeartbeats 8000000 in
set_option maxRecDepth 100000 in
theorem impl_TurnsOfDial.calls (k : Nat) (a0 : Int) (a1_0 : Int) (a1_1 : Int) (a1_2 : Int) (a1_3 : Int) (r1 : List (S23)) (r2 : Bool) (w : World) (h : impl_TurnsOfDial.f k a0 a1_0 a1_1 a1_2 a1_3 = some (r1, r2)) :
  Calls Try.prog 31 #[.int .i64 a0, .agg #[.int .i64 a1_0, .int .i64 a1_1, .int .i64 a1_2, .int .i64 a1_3]] w fun e w' => ∃ v0_ : Value, e = .returned (.tuple #[v0_, .bool r2]) ∧ Kd.R k23 23 w' w.heap.size (fun _ => True) v0_ r1 ∧ Below w.heap.size w w' := by
 have hu25 := Try.underlying25
 have hu23 := Try.underlying23
 have HB := Aside0.mk (Below.refl w.heap.size w)
 have H : ((impl_TimesTurned.f k a0 a1_0 a1_1 a1_2 a1_3).bind fun bt224 => (if bt224.2 = true then (impl_TurnsOfDial.l0 k (([] : List (S23))) bt224.1 (bt224.1.length : Int) 0 a1_0 a1_1 a1_2 a1_3) else (some (([] : List (S23)), false)))) = some (r1, r2) := h
 clear h
 replace H := Option.bind_eq_some_iff.mp H
 obtain ⟨⟨t224, t227⟩, A30, H⟩ := H
 replace H : (if t227 = true then (impl_TurnsOfDial.l0 k (([] : List (S23))) t224 (t224.length : Int) 0 a1_0 a1_1 a1_2 a1_3) else (some (([] : List (S23)), false))) = some (r1, r2) := H
 have A3 := Aside0.mk A30
 clear A30
 by_cases c4 : t227 = true
 ·
  subst c4
  have H1 : (impl_TurnsOfDial.l0 k (([] : List (S23))) t224 (t224.length : Int) 0 a1_0 a1_1 a1_2 a1_3) = some (r1, r2) := by rw [if_pos rfl] at H; exact H
  clear H
  have H := H1
  clear H1
  obtain ⟨y228, hy228⟩ : ∃ y_ : List (S23), y_ = (([] : List (S23))) := ⟨_, rfl⟩
  replace H : (impl_TurnsOfDial.l0 k y228 t224 (t224.length : Int) 0 a1_0 a1_1 a1_2 a1_3) = some (r1, r2) := by first | (rw [hy228]; with_reducible exact H) | (have H2_ := (Option.bind_some _ _).symm.trans H; rw [hy228]; with_reducible exact H2_) | (have H2_ := (Option.bind_some _ _).symm.trans H; with_reducible exact H2_) | with_reducible exact H | (rw [hy228]; exact H) | exact H
  have Ny228 := Aside0.mk hy228
  clear hy228
  have H' := Aside0.mk H
  clear H
  go_enter Try.func31, Try.ntmps31
  go_wp2_with (first | ((with_reducible refine gate_dst (N := 3) rfl ?_); refine be_ (N := 3) (cs := #[.int .i64 a1_0, .int .i64 a1_1, .int .i64 a1_2, .int .i64 a1_3]) (t := 25) ?_; intro gb223 hg w5 hbox hb; have BK223 := Aside0.mk (hbox); have GW223 := ge_ HB hg; have GE223 := ge_ HB hg; replace HB := hs HB hb; clear hb hbox hg; have hcz6_0 := cz_ BK223 0 (.int .i64 a1_0); have hcz6_1 := cz_ BK223 1 (.int .i64 a1_1); have hcz6_2 := cz_ BK223 2 (.int .i64 a1_2); have hcz6_3 := cz_ BK223 3 (.int .i64 a1_3); have hfz6_0 := blk_frozen BK223.out 0; have hfz6_1 := blk_frozen BK223.out 1; have hfz6_2 := blk_frozen BK223.out 2; have hfz6_3 := blk_frozen BK223.out 3) | ((with_reducible refine gate_callee (f := 29) rfl ?_); refine gs_ (some 14) Try.func29 #[.int .i64 a0, .agg #[.int .i64 a1_0, .int .i64 a1_1, .int .i64 a1_2, .int .i64 a1_3]] ?_; (with_reducible refine (impl_TimesTurned.calls k a0 a1_0 a1_1 a1_2 a1_3 t224 true _ A3.out).mono ?_); rintro e w7 ⟨v225, rfl, ho0, hb⟩; refine ⟨_, rfl, ?_⟩; have HO226 := Aside0.mk (Kd.R_lower ho0 (bs_ HB)); replace BK223 := bb BK223 hb; replace HB := hs HB hb; (try clear hb); (try clear hb2); (try clear hk); (try clear hi); (try clear ho0)) | ((with_reducible refine gate_dst (N := 19) rfl ?_); refine Kd.R_lit k23 _ 23 ?hg (N := 19) ?hd (xs := ([] : List (S23))) (inner := []) (ok := fun _ => True) (okp := fun _ => True) ?hr ?hp (fun _ hk => hk) trivial (Below.refl _ _) (Nat.le_refl _) (by simp) ?_; (case hd => rfl); (case hg => rfl); (case hr => first | (go_simp; done) | (go_simp; rfl)); (case hp => exact (Reps.none _ _)); intro v229 w8 ho9 hb hg_ hnew_; clear hg_ hnew_; (first | rw [← Ny228.out] at ho9 | (simp only [Int.reduceToNat] at ho9; rw [← Ny228.out] at ho9)); have HO230 := Aside0.mk (Kd.R_lower (Kd.R_new' ho9 (Kd.R_lt (by (with_reducible repeat (first | apply Kd.R_alloc | apply Kd.R_drewN | apply Kd.R_drew)); exact HO226.out))) (bs_ HB)); replace HO226 := Aside0.mk (Kd.R_elder' (by (with_reducible repeat (first | apply Kd.R_alloc | apply Kd.R_drewN | apply Kd.R_drew)); exact HO226.out) (Kd.R_base ho9) hb); replace BK223 := bb BK223 hb; replace HB := hs HB hb; clear hb ho9; obtain ⟨Ao10, co10, eo10⟩ := Kd.R_slice HO226.out; subst eo10))
  go_loopg [8, 22] k (fun kq v8 v22 w' => ∃ (x8_1 : List (S23)) (x22_1 : Int), v22 = .int .i64 x22_1 ∧ Aside0 (impl_TurnsOfDial.l0 kq x8_1 t224 (t224.length : Int) x22_1 a1_0 a1_1 a1_2 a1_3 = some (r1, r2)) ∧ Aside0 (kq ≤ k) ∧ Aside0 (Kd.R k23 23 w' w.heap.size (fun k_ => some k_ ≠ ((.slice Ao10 t224.length co10) : Value).ownBlock) v8 x8_1) ∧ Aside0 (Kd.R k23 23 w' w.heap.size (fun k_ => some k_ ≠ (v8 : Value).ownBlock) (.slice Ao10 t224.length co10) t224) ∧ Aside0 (w'.heap[gb223]? = some (.cells #[.int .i64 a1_0, .int .i64 a1_1, .int .i64 a1_2, .int .i64 a1_3] 25 (0, 0))) ∧ Aside0 (Below w.heap.size w w'))
  case atStart => exact ⟨(y228), (0), (by first | rfl | (simp; done) | (simp [*]; done)), H', ⟨Nat.le_refl _⟩, ⟨by (with_reducible repeat (first | apply Kd.R_alloc | apply Kd.R_drewN | apply Kd.R_drew)); exact Kd.R_mono HO230.out (fun _ hk => hk.2)⟩, ⟨by (with_reducible repeat (first | apply Kd.R_alloc | apply Kd.R_drewN | apply Kd.R_drew)); exact Kd.R_mono HO226.out (fun _ hk => hk.2)⟩, bk_ BK223, hb_ HB⟩
  case round =>
   clear H'
   try clear c4
   obtain ⟨x8_1, x22_1, rfl, HA, HK1, HO_8, HO_20, BK223, HB⟩ := hrel
   cases gk with
   | zero => exact absurd HA.out (by simp [impl_TurnsOfDial.l0])
   | succ k1 =>
    have H := HA.out
    clear HA
    simp only [impl_TurnsOfDial.l0] at H
    by_cases c11 : x22_1 < (t224.length : Int)
    ·
     rw [if_pos c11] at H
     have c11b0 : decide (x22_1 < (t224.length : Int)) = true := decide_eq_true c11
     clear c11
     by_cases c12 : 0 ≤ x22_1
     ·
      rw [if_pos c12] at H
      have c12b0 : decide (0 ≤ x22_1) = true := decide_eq_true c12
      clear c12
      by_cases c13 : x22_1 < (t224.length : Int)
      ·
       rw [if_pos c13] at H
       have c13b0 : decide (x22_1 < (t224.length : Int)) = true := decide_eq_true c13
       clear c13
       replace H := Option.bind_eq_some_iff.mp H
       obtain ⟨⟨t233, t234⟩, A140, H⟩ := H
       replace H : (if x8_1.length < 8796093022208 then (impl_TurnsOfDial.l0 k1 (x8_1 ++ [(⟨t233, t234⟩ : S23)]) t224 (t224.length : Int) (wrap64 (x22_1 + 1)) a1_0 a1_1 a1_2 a1_3) else (none)) = some (r1, r2) := H
       have A14 := Aside0.mk A140
       clear A140
       by_cases c15 : x8_1.length < 8796093022208
       ·
        rw [if_pos c15] at H
        have LMc15 := Aside0.mk c15
        clear c15
        obtain ⟨y235, hy235⟩ : ∃ y_ : List (S23), y_ = (x8_1 ++ [(⟨t233, t234⟩ : S23)]) := ⟨_, rfl⟩
        replace H : (impl_TurnsOfDial.l0 k1 y235 t224 (t224.length : Int) (wrap64 (x22_1 + 1)) a1_0 a1_1 a1_2 a1_3) = some (r1, r2) := by first | (rw [hy235]; with_reducible exact H) | (have H2_ := (Option.bind_some _ _).symm.trans H; rw [hy235]; with_reducible exact H2_) | (have H2_ := (Option.bind_some _ _).symm.trans H; with_reducible exact H2_) | with_reducible exact H | (rw [hy235]; exact H) | exact H
        have Ny235 := Aside0.mk hy235
        clear hy235
        as_aux_lemma =>
         have H' := Aside0.mk H
         clear H
         have p231 : 0 ≤ (x22_1 : Int) := of_decide_eq_true (by first | (with_reducible assumption) | assumption)
         have q231 : x22_1 < (t224.length : Int) := of_decide_eq_true (by first | (with_reducible assumption) | assumption)
         obtain ⟨ad231, e231, hx231_0, hx231_1⟩ := at_T23 (Kd.R_reads' HO_20.out).2.2 x22_1 p231 q231
         cases e231
         replace p231 := eq_true p231
         replace q231 := eq_true q231
         go_wp2_with (first | ((with_reducible refine gate_dst (N := 10) rfl ?_); refine be_ (N := 10) (cs := #[.int .i64 0, .int .i64 0]) (t := 23) ?_; intro gb232 hg w16 hbox hb; have BK232 := Aside0.mk (hbox); have GW232 := ge_ HB hg; have GE232 := ge_ HB hg; obtain ⟨NB223_232, NB232_223⟩ := nq_ BK223 hg; replace HO_8 := Aside0.mk (Kd.R_below (Kd.R_elderB (by (with_reducible repeat (first | apply Kd.R_alloc | apply Kd.R_drewN | apply Kd.R_drew)); exact HO_8.out) gb232 (Nat.le_of_eq hg.symm)) hb); replace HO_20 := Aside0.mk (Kd.R_below (Kd.R_elderB (by (with_reducible repeat (first | apply Kd.R_alloc | apply Kd.R_drewN | apply Kd.R_drew)); exact HO_20.out) gb232 (Nat.le_of_eq hg.symm)) hb); replace BK223 := bb BK223 hb; replace HB := hs HB hb; clear hb hbox hg; obtain ⟨hnb17, hnc17⟩ := nn_ NB232_223; have hcz18_0 := cz_ BK232 0 (.int .i64 0); have hcz18_1 := cz_ BK232 1 (.int .i64 0); have hfz18_0 := blk_frozen BK232.out 0; have hfz18_1 := blk_frozen BK232.out 1; have hcz19_0 := cz_ BK223 0 (.int .i64 a1_0); have hcz19_1 := cz_ BK223 1 (.int .i64 a1_1); have hcz19_2 := cz_ BK223 2 (.int .i64 a1_2); have hcz19_3 := cz_ BK223 3 (.int .i64 a1_3); have hfz19_0 := blk_frozen BK223.out 0; have hfz19_1 := blk_frozen BK223.out 1; have hfz19_2 := blk_frozen BK223.out 2; have hfz19_3 := blk_frozen BK223.out 3) | ((with_reducible refine gate_callee (f := 64) rfl ?_); refine gs_ (some 30) Try.func64 #[.agg #[.int .i64 a1_0, .int .i64 a1_1], .agg #[.int .i64 ((rd_T23 t224 x22_1).f0), .int .i64 ((rd_T23 t224 x22_1).f1)]] ?_; (with_reducible refine (impl_Turn_minus.calls k1 a1_0 a1_1 ((rd_T23 t224 x22_1).f0) ((rd_T23 t224 x22_1).f1) t233 t234 _ A14.out).mono ?_); rintro e w20 ⟨rfl, hb⟩; refine ⟨_, rfl, ?_⟩; replace HO_8 := hr_ ⟨(Kd.R_mono (Kd.R_far (p := ⟨gb232, 1, none⟩) (Kd.R_far (p := ⟨gb232, 0, none⟩) (Kd.R_mono HO_8.out (fun k_ hk => (⟨hk, hk.2⟩ : _ ∧ k_ ≠ gb232))) (fun _ hk => hk.2) (.int .i64 ((rd_T23 t224 x22_1).f0))) (fun _ hk => hk.2) (.int .i64 ((rd_T23 t224 x22_1).f1))) (fun _ h_ => h_.1))⟩ hb; replace HO_20 := hr_ ⟨(Kd.R_mono (Kd.R_far (p := ⟨gb232, 1, none⟩) (Kd.R_far (p := ⟨gb232, 0, none⟩) (Kd.R_mono HO_20.out (fun k_ hk => (⟨hk, hk.2⟩ : _ ∧ k_ ≠ gb232))) (fun _ hk => hk.2) (.int .i64 ((rd_T23 t224 x22_1).f0))) (fun _ hk => hk.2) (.int .i64 ((rd_T23 t224 x22_1).f1))) (fun _ h_ => h_.1))⟩ hb; replace BK223 := bb BK223 hb; replace BK232 := Aside0.mk (blk_below (g := gb232) (o := .cells #[.int .i64 ((rd_T23 t224 x22_1).f0), .int .i64 ((rd_T23 t224 x22_1).f1)] 23 (0, 0)) (by (with_reducible repeat (first | refine blk_drewN ?_ _ | refine blk_drew ?_ | refine blk_alloc ?_ _)); refine blk_put (cs := #[.int .i64 ((rd_T23 t224 x22_1).f0), .int .i64 0]) ?_ 1 _ rfl; (with_reducible repeat (first | refine blk_drewN ?_ _ | refine blk_drew ?_ | refine blk_alloc ?_ _)); refine blk_put (cs := #[.int .i64 0, .int .i64 0]) ?_ 0 _ rfl; (with_reducible repeat (first | refine blk_drewN ?_ _ | refine blk_drew ?_ | refine blk_alloc ?_ _)); exact BK232.out) hb); replace HB := hs HB hb; (try clear hb); (try clear hb2); (try clear hk); (try clear hi)) | ((with_reducible refine gate_builtin (b := .append) (xs := #[.tmp 26, .tmp 31]) rfl ?_); at_builtin; refine Kd.R_append k23 (w0 := w) w.heap.size rfl (.tmp 26) (.tmp 31) 34 23 (.agg #[(.int .i64 0), (.int .i64 0)]) 16 rfl Try.underlying34 info23 rfl (by decide) (by omega) u8 x8_1 (⟨t233, t234⟩ : S23) [.int .i64 t233, .int .i64 t234] (fun k_ => some k_ ≠ (.slice (some ad231) t224.length co10 : Value).ownBlock ∧ k_ ≠ gb232) (fun _ => False) rfl rfl ?aP (fun _ hk => hk.elim) ?aF ?aO ?aB ?aS ?aL ?_; (case aP => exact k23_mkM _ _ _ (⟨t233, t234⟩ : S23)); (case aB => exact (ho_ HB)); (case aF => exact (fun k_ hk => ⟨Kd.fresh' (Kd.R_lt (by (with_reducible repeat (first | apply Kd.R_alloc | apply Kd.R_drewN | apply Kd.R_drew)); exact HO_20.out)) k_ hk, Kd.freshB (g := gb232) (o := .cells #[.int .i64 ((rd_T23 t224 x22_1).f0), .int .i64 ((rd_T23 t224 x22_1).f1)] 23 (0, 0)) (by (with_reducible repeat (first | refine blk_drewN ?_ _ | refine blk_drew ?_ | refine blk_alloc ?_ _)); exact BK232.out) k_ hk⟩)); (case aO => exact (by (with_reducible repeat (first | apply Kd.R_alloc | apply Kd.R_drewN | apply Kd.R_drew)); exact HO_8.out)); (case aS => exact (bs_ HB)); (case aL => have := LMc15.out; omega); intro v236 w21 ho hb hg hat; rw [← Ny235.out] at ho; have n0_ := Aside0.mk (Kd.R_after (ok := (fun k_ => k_ ≠ gb232)) (by (with_reducible repeat (first | apply Kd.R_alloc | apply Kd.R_drewN | apply Kd.R_drew)); exact Kd.R_mono HO_20.out (fun _ hk => ⟨hk.2, hk.1⟩)) hg hat); have n1_ := Aside0.mk (blk_grown (g := gb223) (o := .cells #[.int .i64 a1_0, .int .i64 a1_1, .int .i64 a1_2, .int .i64 a1_3] 25 (0, 0)) (by (with_reducible repeat (first | refine blk_drewN ?_ _ | refine blk_drew ?_ | refine blk_alloc ?_ _)); exact BK223.out) hg (Kd.R_ne HO_8.out BK223.out (by decide))); have n2_ := Aside0.mk (blk_grown (g := gb232) (o := .cells #[.int .i64 ((rd_T23 t224 x22_1).f0), .int .i64 ((rd_T23 t224 x22_1).f1)] 23 (0, 0)) (by (with_reducible repeat (first | refine blk_drewN ?_ _ | refine blk_drew ?_ | refine blk_alloc ?_ _)); exact BK232.out) hg (Kd.R_away HO_8.out (fun _ hk => hk.2))); have n3_ := Aside0.mk (hb); have n4_ := Aside0.mk (ho); clear HO_20; clear BK223; clear BK232; clear HB; clear HO_8; have HO_20 := n0_; have BK223 := n1_; have BK232 := n2_; have HB := n3_; have HO237 := n4_; clear n0_ n1_ n2_ n3_ n4_; clear ho hb hg hat))
         go_roundg k1
         case measure => have := HK1.out; omega
         case rel => exact ⟨(y235), (wrap64 (x22_1 + 1)), (by first | rfl | (simp; done) | (simp [*]; done)), H', ⟨by have := HK1.out; omega⟩, ⟨by (with_reducible repeat (first | apply Kd.R_alloc | apply Kd.R_drewN | apply Kd.R_drew)); exact Kd.R_mono HO237.out (fun _ hk => hk.1)⟩, ⟨by (with_reducible repeat (first | apply Kd.R_alloc | apply Kd.R_drewN | apply Kd.R_drew)); exact Kd.R_mono HO_20.out (fun _ hk => hk.2)⟩, bk_ BK223, hb_ HB⟩
       ·
        rw [if_neg c15] at H
        exact absurd H (by simp)
      ·
       rw [if_neg c13] at H
       exact absurd H (by simp)
     ·
      rw [if_neg c12] at H
      exact absurd H (by simp)
    ·
     rw [if_neg c11] at H
     have c11b0 : decide (x22_1 < (t224.length : Int)) = false := decide_eq_false c11
     clear c11
     replace H := Option.bind_eq_some_iff.mp H
     obtain ⟨⟨t238, t241⟩, A220, H⟩ := H
     replace H : (some (t238, t241)) = some (r1, r2) := H
     have A22 := Aside0.mk A220
     clear A220
     as_aux_lemma =>
      simp only [Option.some.injEq, Prod.mk.injEq] at H
      obtain ⟨rfl, rfl⟩ := H
      obtain ⟨Ao23, co23, eo23⟩ := Kd.R_slice HO_8.out
      subst eo23
      go_wp2_with (first | ((with_reducible refine gate_callee (f := 55) rfl ?_); refine gs_ (some 35) Try.func55 #[.slice Ao23 x8_1.length co23, .bool true] ?_; (with_reducible refine (impl_ifTurns.calls k1 (fun k_ => some k_ = (.slice Ao23 x8_1.length co23 : Value).ownBlock) (.slice Ao23 x8_1.length co23) x8_1 true t238 t241 w _ ?side1 ?side2 A22.out).mono ?_); (case side1 => repeat (first | (with_reducible first | exact HB.out | apply below_alloc | apply pw_below_drewN | apply below_drew1 | refine below_set ?_ GE223.out) | exact HB.out)); (case side2 => exact Kd.R_tight rfl HO_8.out); rintro e w24 ⟨v239, rfl, ho0, hb, hkp⟩; refine ⟨_, rfl, ?_⟩; have n0_ := Aside0.mk (Kd.R_mono (ok' := fun k_ => some k_ ≠ (v239 : Value).ownBlock) (Kd.R_keptB (HO_20.out) hkp (fun k_ hk_ hs_ => (hk_) hs_)) (fun k_ hk_ => fun e_ => Or.elim (ho0.1 k_ e_.symm) (fun hs_ => hk_.2.1 hs_) (fun hn_ => Nat.not_le.2 hk_.2.2 hn_))); have n1_ := Aside0.mk (blk_kept (by (with_reducible repeat (first | refine blk_drewN ?_ _ | refine blk_drew ?_ | refine blk_alloc ?_ _)); exact BK223.out) hkp (fun hs_ => (fun e_ => (Kd.R_ne HO_8.out BK223.out (by decide)) e_) hs_)); have n2_ := Aside0.mk (Kd.R_mono (ok' := fun k_ => some k_ ≠ (.slice Ao10 t224.length co10 : Value).ownBlock) ho0 (fun k_ hk_ => Or.elim hk_ (fun hs_ => fun e_ => (((HO_20.out).1 k_ e_.symm)) hs_) (fun hn_ => (Kd.fresh' (Kd.R_lt (by (with_reducible repeat (first | apply Kd.R_alloc | apply Kd.R_drewN | apply Kd.R_drew)); exact HO_20.out)) k_ hn_)))); have n3_ := Aside0.mk (hb); clear HO_20; clear BK223; clear HB; clear HO_8; have HO_20 := n0_; have BK223 := n1_; have HO240 := n2_; have HB := n3_; clear n0_ n1_ n2_ n3_; (try clear hb); (try clear hkp); (try clear ho0)))
      go_ret2
      exact ⟨_, by first | rfl | (simp [errW_none, errW_some] <;> rfl) | (simp [*, errW_none, errW_some] <;> rfl), by (with_reducible repeat (first | apply Kd.R_alloc | apply Kd.R_drewN | apply Kd.R_drew)); exact Kd.R_mono HO240.out (fun _ hk => trivial), (ho_ HB)⟩
 ·
  replace c4 := Bool.eq_false_iff.mpr c4
  subst c4
  have H1 : (some (([] : List (S23)), false)) = some (r1, r2) := by rw [if_neg (show ¬ (false = true) by decide)] at H; exact H
  clear H
  have H := H1
  clear H1
  as_aux_lemma =>
   simp only [Option.some.injEq, Prod.mk.injEq] at H
   obtain ⟨rfl, rfl⟩ := H
   go_enter Try.func31, Try.ntmps31
   go_wp2_with (first | ((with_reducible refine gate_dst (N := 3) rfl ?_); refine be_ (N := 3) (cs := #[.int .i64 a1_0, .int .i64 a1_1, .int .i64 a1_2, .int .i64 a1_3]) (t := 25) ?_; intro gb223 hg w25 hbox hb; have BK223 := Aside0.mk (hbox); have GW223 := ge_ HB hg; have GE223 := ge_ HB hg; replace HB := hs HB hb; clear hb hbox hg; have hcz26_0 := cz_ BK223 0 (.int .i64 a1_0); have hcz26_1 := cz_ BK223 1 (.int .i64 a1_1); have hcz26_2 := cz_ BK223 2 (.int .i64 a1_2); have hcz26_3 := cz_ BK223 3 (.int .i64 a1_3); have hfz26_0 := blk_frozen BK223.out 0; have hfz26_1 := blk_frozen BK223.out 1; have hfz26_2 := blk_frozen BK223.out 2; have hfz26_3 := blk_frozen BK223.out 3) | ((with_reducible refine gate_callee (f := 29) rfl ?_); refine gs_ (some 14) Try.func29 #[.int .i64 a0, .agg #[.int .i64 a1_0, .int .i64 a1_1, .int .i64 a1_2, .int .i64 a1_3]] ?_; (with_reducible refine (impl_TimesTurned.calls k a0 a1_0 a1_1 a1_2 a1_3 t224 false _ A3.out).mono ?_); rintro e w27 ⟨v225, rfl, ho0, hb⟩; refine ⟨_, rfl, ?_⟩; have HO226 := Aside0.mk (Kd.R_lower ho0 (bs_ HB)); replace BK223 := bb BK223 hb; replace HB := hs HB hb; (try clear hb); (try clear hb2); (try clear hk); (try clear hi); (try clear ho0)))
   go_ret2
   exact ⟨_, by first | rfl | (simp [errW_none, errW_some] <;> rfl) | (simp [*, errW_none, errW_some] <;> rfl), by first | exact Kd.R_nil _ _ _ _ _ | exact Kd.N_nil _ _ _ _ _ | exact Kd.V_nil _ _ _ _ _ | exact Kd.Q_nil _ _ _ _ _ | exact Kd.S_nil _ _ _ _ _, (ho_ HB)⟩

/-! ### spec_diAdd: function 67 -/
def spec_diAdd.f (k : Nat) (a0_0 : Int) (a0_1 : Int) (a1_0 : Int) (a1_1 : Int) (a2 : Int) : Option (Int × Int × Bool) := (spec_diMake.f k (wrap64 ((wrap64 (a0_0 * a1_1)) + (wrap64 ((wrap64 (a2 * a1_0)) * a0_1)))) (wrap64 (a0_1 * a1_1))).bind fun bt245 => (some (bt245.1, bt245.2.1, bt245.2.2))
theorem spec_diAdd.mono : ∀ a0 a1 a2 a3 a4 k, LeO (spec_diAdd.f k a0 a1 a2 a3 a4) (spec_diAdd.f (k + 1) a0 a1 a2 a3 a4) := by
 intro a0 a1 a2 a3 a4 k
 unfold spec_diAdd.f
 repeat' first
   | (with_reducible exact spec_diMake.mono _ _ _)
   | (with_reducible exact LeO.refl _)
   | (with_reducible exact LeO.none _)
   | (with_reducible refine LeO.ite ?_ ?_)
   | (with_reducible refine LeO.bind ?_ (fun _ => ?_))
   | exact spec_diMake.mono _ _ _
   | exact LeO.none _
   | refine LeO.ite ?_ ?_
   | refine LeO.bind ?_ (fun _ => ?_)
set_option maxHeartbeats 8000000 in
set_option maxRecDepth 100000 in
theorem spec_diAdd.calls (k : Nat) (a0_0 : Int) (a0_1 : Int) (a1_0 : Int) (a1_1 : Int) (a2 : Int) (r1 : Int) (r2 : Int) (r3 : Bool) (w : World) (h : spec_diAdd.f k a0_0 a0_1 a1_0 a1_1 a2 = some (r1, r2, r3)) :
  Calls Try.prog 67 #[.agg #[.int .i64 a0_0, .int .i64 a0_1], .agg #[.int .i64 a1_0, .int .i64 a1_1], .int .i64 a2] w fun e w' => e = .returned (.tuple #[.agg #[.int .i64 r1, .int .i64 r2], .bool r3]) ∧ Below w.heap.size w w' := by
 have hu23 := Try.underlying23
 have HB := Aside0.mk (Below.refl w.heap.size w)
 have H : ((spec_diMake.f k (wrap64 ((wrap64 (a0_0 * a1_1)) + (wrap64 ((wrap64 (a2 * a1_0)) * a0_1)))) (wrap64 (a0_1 * a1_1))).bind fun bt245 => (some (bt245.1, bt245.2.1, bt245.2.2))) = some (r1, r2, r3) := h
 clear h
 replace H := Option.bind_eq_some_iff.mp H
 obtain ⟨⟨t245, t246, t247⟩, A40, H⟩ := H
 replace H : (some (t245, t246, t247)) = some (r1, r2, r3) := H
 have A4 := Aside0.mk A40
 clear A40
 as_aux_lemma =>
  simp only [Option.some.injEq, Prod.mk.injEq] at H
  obtain ⟨rfl, rfl, rfl⟩ := H
  go_enter Try.func67, Try.ntmps67
  go_wp2_with (first | ((with_reducible refine gate_dst (N := 3) rfl ?_); refine be_ (N := 3) (cs := #[.int .i64 a0_0, .int .i64 a0_1]) (t := 23) ?_; intro gb242 hg w5 hbox hb; have BK242 := Aside0.mk (hbox); have GW242 := ge_ HB hg; have GE242 := ge_ HB hg; replace HB := hs HB hb; clear hb hbox hg) | ((with_reducible refine gate_dst (N := 4) rfl ?_); refine be_ (N := 4) (cs := #[.int .i64 a1_0, .int .i64 a1_1]) (t := 23) ?_; intro gb243 hg w6 hbox hb; have BK243 := Aside0.mk (hbox); have GW243 := ge_ HB hg; have GE243 := ge_ HB hg; obtain ⟨NB242_243, NB243_242⟩ := nq_ BK242 hg; replace BK242 := bb BK242 hb; replace HB := hs HB hb; clear hb hbox hg) | ((with_reducible refine gate_dst (N := 6) rfl ?_); refine be_ (N := 6) (cs := #[.int .i64 0, .int .i64 0]) (t := 23) ?_; intro gb244 hg w7 hbox hb; have BK244 := Aside0.mk (hbox); have GW244 := ge_ HB hg; have GE244 := ge_ HB hg; obtain ⟨NB242_244, NB244_242⟩ := nq_ BK242 hg; obtain ⟨NB243_244, NB244_243⟩ := nq_ BK243 hg; replace BK242 := bb BK242 hb; replace BK243 := bb BK243 hb; replace HB := hs HB hb; clear hb hbox hg; obtain ⟨hnb8, hnc8⟩ := nn_ NB242_243; obtain ⟨hnb9, hnc9⟩ := nn_ NB242_244; have hcz10_0 := cz_ BK242 0 (.int .i64 a0_0); have hcz10_1 := cz_ BK242 1 (.int .i64 a0_1); have hfz10_0 := blk_frozen BK242.out 0; have hfz10_1 := blk_frozen BK242.out 1; obtain ⟨hnb11, hnc11⟩ := nn_ NB243_244; have hcz12_0 := cz_ BK243 0 (.int .i64 a1_0); have hcz12_1 := cz_ BK243 1 (.int .i64 a1_1); have hfz12_0 := blk_frozen BK243.out 0; have hfz12_1 := blk_frozen BK243.out 1) | ((with_reducible refine gate_callee (f := 71) rfl ?_); refine gs_ (some 26) Try.func71 #[.int .i64 (wrap64 ((wrap64 (a0_0 * a1_1)) + (wrap64 ((wrap64 (a2 * a1_0)) * a0_1)))), .int .i64 (wrap64 (a0_1 * a1_1))] ?_; (with_reducible refine (spec_diMake.calls k (wrap64 ((wrap64 (a0_0 * a1_1)) + (wrap64 ((wrap64 (a2 * a1_0)) * a0_1)))) (wrap64 (a0_1 * a1_1)) t245 t246 t247 _ A4.out).mono ?_); rintro e w13 ⟨rfl, hb⟩; refine ⟨_, rfl, ?_⟩; replace BK242 := bb BK242 hb; replace BK243 := bb BK243 hb; replace BK244 := bb BK244 hb; replace HB := hs HB hb; (try clear hb); (try clear hb2); (try clear hk); (try clear hi); have hcz14_0 := cz_ BK244 0 (.int .i64 0); have hcz14_1 := cz_ BK244 1 (.int .i64 0); have hfz14_0 := blk_frozen BK244.out 0; have hfz14_1 := blk_frozen BK244.out 1))
  refine bodyPost_ret (results_ct rfl _ _ gb244 23 #[.int .i64 t245, .int .i64 t246] (0, 0) _ rfl (by (with_reducible repeat (first | refine blk_drewN ?_ _ | refine blk_drew ?_ | refine blk_alloc ?_ _)); refine blk_put (cs := #[.int .i64 t245, .int .i64 0]) ?_ 1 _ rfl; (with_reducible repeat (first | refine blk_drewN ?_ _ | refine blk_drew ?_ | refine blk_alloc ?_ _)); refine blk_put (cs := #[.int .i64 0, .int .i64 0]) ?_ 0 _ rfl; (with_reducible repeat (first | refine blk_drewN ?_ _ | refine blk_drew ?_ | refine blk_alloc ?_ _)); exact BK244.out) Try.underlying23 rfl (by kernel_rfl)) rfl ?_
  exact ⟨by first | rfl | (simp [errW_none, errW_some] <;> rfl) | (simp [*, errW_none, errW_some] <;> rfl), (ho_ HB)⟩

/-! ### spec_TurnsOfDial: function 32 -/
def spec_TurnsOfDial.l0 : Nat → List (S23) → List (S23) → Int → Int → Int → Int → Int → Int → Option ((List (S23)) × Bool)
 | 0, _, _, _, _, _, _, _, _ => none
 | k + 1, x8, x21, x22, x23, x249000, x249001, x249002, x249003 => if x23 < x22 then (if 0 ≤ x23 then (if x23 < (x21.length : Int) then ((spec_diAdd.f k x249000 x249001 ((rd_T23 x21 x23).f0) ((rd_T23 x21 x23).f1) (-1)).bind fun bt255 => (if bt255.2.2 = true then (if x8.length < 8796093022208 then (spec_TurnsOfDial.l0 k (x8 ++ [(⟨bt255.1, bt255.2.1⟩ : S23)]) x21 x22 (wrap64 (x23 + 1)) x249000 x249001 x249002 x249003) else (none)) else (some (([] : List (S23)), false)))) else (none)) else (none)) else (some (x8, true))
def spec_TurnsOfDial.f (k : Nat) (a0 : Int) (a1_0 : Int) (a1_1 : Int) (a1_2 : Int) (a1_3 : Int) : Option ((List (S23)) × Bool) := (spec_TimesTurned.f k a0 a1_0 a1_1 a1_2 a1_3).bind fun bt249 => (if bt249.2 = true then (spec_TurnsOfDial.l0 k ([] : List (S23)) bt249.1 (bt249.1.length : Int) 0 a1_0 a1_1 a1_2 a1_3) else (some (([] : List (S23)), false)))
theorem spec_TurnsOfDial.mono_l : ∀ k, (∀ y0 y1 y2 y3 y4 y5 y6 y7, LeO (spec_TurnsOfDial.l0 k y0 y1 y2 y3 y4 y5 y6 y7) (spec_TurnsOfDial.l0 (k + 1) y0 y1 y2 y3 y4 y5 y6 y7))
 | 0 => fun _ _ _ _ _ _ _ _ r h => by simp [spec_TurnsOfDial.l0] at h
 | k + 1 => by
  have ih0 := spec_TurnsOfDial.mono_l k
  ·
   intro y0 y1 y2 y3 y4 y5 y6 y7
   unfold spec_TurnsOfDial.l0
   repeat' first
   | (with_reducible exact ih0 _ _ _ _ _ _ _ _)
   | (with_reducible exact spec_TimesTurned.mono _ _ _ _ _ _)
   | (with_reducible exact spec_diAdd.mono _ _ _ _ _ _)
   | (with_reducible exact LeO.refl _)
   | (with_reducible exact LeO.none _)
   | (with_reducible refine LeO.ite ?_ ?_)
   | (with_reducible refine LeO.bind ?_ (fun _ => ?_))
   | exact ih0 _ _ _ _ _ _ _ _
   | exact spec_TimesTurned.mono _ _ _ _ _ _
   | exact spec_diAdd.mono _ _ _ _ _ _
   | exact LeO.none _
   | refine LeO.ite ?_ ?_
   | refine LeO.bind ?_ (fun _ => ?_)
theorem spec_TurnsOfDial.mono : ∀ a0 a1 a2 a3 a4 k, LeO (spec_TurnsOfDial.f k a0 a1 a2 a3 a4) (spec_TurnsOfDial.f (k + 1) a0 a1 a2 a3 a4) := by
 intro a0 a1 a2 a3 a4 k
 have ih0 := spec_TurnsOfDial.mono_l k
 unfold spec_TurnsOfDial.f
 repeat' first
   | (with_reducible exact ih0 _ _ _ _ _ _ _ _)
   | (with_reducible exact spec_TimesTurned.mono _ _ _ _ _ _)
   | (with_reducible exact spec_diAdd.mono _ _ _ _ _ _)
   | (with_reducible exact LeO.refl _)
   | (with_reducible exact LeO.none _)
   | (with_reducible refine LeO.ite ?_ ?_)
   | (with_reducible refine LeO.bind ?_ (fun _ => ?_))
   | exact ih0 _ _ _ _ _ _ _ _
   | exact spec_TimesTurned.mono _ _ _ _ _ _
   | exact spec_diAdd.mono _ _ _ _ _ _
   | exact LeO.none _
   | refine LeO.ite ?_ ?_
   | refine LeO.bind ?_ (fun _ => ?_)
set_option maxHeartbeats 8000000 in
set_option maxRecDepth 100000 in
theorem spec_TurnsOfDial.calls (k : Nat) (a0 : Int) (a1_0 : Int) (a1_1 : Int) (a1_2 : Int) (a1_3 : Int) (r1 : List (S23)) (r2 : Bool) (w : World) (h : spec_TurnsOfDial.f k a0 a1_0 a1_1 a1_2 a1_3 = some (r1, r2)) :
  Calls Try.prog 32 #[.int .i64 a0, .agg #[.int .i64 a1_0, .int .i64 a1_1, .int .i64 a1_2, .int .i64 a1_3]] w fun e w' => ∃ v0_ : Value, e = .returned (.tuple #[v0_, .bool r2]) ∧ Kd.R k23 23 w' w.heap.size (fun _ => True) v0_ r1 ∧ Below w.heap.size w w' := by
 have hu25 := Try.underlying25
 have hu23 := Try.underlying23
 have HB := Aside0.mk (Below.refl w.heap.size w)
 have H : ((spec_TimesTurned.f k a0 a1_0 a1_1 a1_2 a1_3).bind fun bt249 => (if bt249.2 = true then (spec_TurnsOfDial.l0 k ([] : List (S23)) bt249.1 (bt249.1.length : Int) 0 a1_0 a1_1 a1_2 a1_3) else (some (([] : List (S23)), false)))) = some (r1, r2) := h
 clear h
 replace H := Option.bind_eq_some_iff.mp H
 obtain ⟨⟨t249, t252⟩, A30, H⟩ := H
 replace H : (if t252 = true then (spec_TurnsOfDial.l0 k ([] : List (S23)) t249 (t249.length : Int) 0 a1_0 a1_1 a1_2 a1_3) else (some (([] : List (S23)), false))) = some (r1, r2) := H
 have A3 := Aside0.mk A30
 clear A30
 by_cases c4 : t252 = true
 ·
  subst c4
  have H1 : (spec_TurnsOfDial.l0 k ([] : List (S23)) t249 (t249.length : Int) 0 a1_0 a1_1 a1_2 a1_3) = some (r1, r2) := by rw [if_pos rfl] at H; exact H
  clear H
  have H := H1
  clear H1
  have H' := Aside0.mk H
  clear H
  go_enter Try.func32, Try.ntmps32
  go_wp2_with (first | ((with_reducible refine gate_dst (N := 3) rfl ?_); refine be_ (N := 3) (cs := #[.int .i64 a1_0, .int .i64 a1_1, .int .i64 a1_2, .int .i64 a1_3]) (t := 25) ?_; intro gb248 hg w5 hbox hb; have BK248 := Aside0.mk (hbox); have GW248 := ge_ HB hg; have GE248 := ge_ HB hg; replace HB := hs HB hb; clear hb hbox hg; have hcz6_0 := cz_ BK248 0 (.int .i64 a1_0); have hcz6_1 := cz_ BK248 1 (.int .i64 a1_1); have hcz6_2 := cz_ BK248 2 (.int .i64 a1_2); have hcz6_3 := cz_ BK248 3 (.int .i64 a1_3); have hfz6_0 := blk_frozen BK248.out 0; have hfz6_1 := blk_frozen BK248.out 1; have hfz6_2 := blk_frozen BK248.out 2; have hfz6_3 := blk_frozen BK248.out 3) | ((with_reducible refine gate_callee (f := 30) rfl ?_); refine gs_ (some 16) Try.func30 #[.int .i64 a0, .agg #[.int .i64 a1_0, .int .i64 a1_1, .int .i64 a1_2, .int .i64 a1_3]] ?_; (with_reducible refine (spec_TimesTurned.calls k a0 a1_0 a1_1 a1_2 a1_3 t249 true _ A3.out).mono ?_); rintro e w7 ⟨v250, rfl, ho0, hb⟩; refine ⟨_, rfl, ?_⟩; have HO251 := Aside0.mk (Kd.R_lower ho0 (bs_ HB)); replace BK248 := bb BK248 hb; replace HB := hs HB hb; (try clear hb); (try clear hb2); (try clear hk); (try clear hi); (try clear ho0); obtain ⟨Ao8, co8, eo8⟩ := Kd.R_slice HO251.out; subst eo8))
  go_loopg [8, 23] k (fun kq v8 v23 w' => ∃ (x8_1 : List (S23)) (x23_1 : Int), v23 = .int .i64 x23_1 ∧ Aside0 (spec_TurnsOfDial.l0 kq x8_1 t249 (t249.length : Int) x23_1 a1_0 a1_1 a1_2 a1_3 = some (r1, r2)) ∧ Aside0 (kq ≤ k) ∧ Aside0 (Kd.R k23 23 w' w.heap.size (fun k_ => some k_ ≠ ((.slice Ao8 t249.length co8) : Value).ownBlock) v8 x8_1) ∧ Aside0 (Kd.R k23 23 w' w.heap.size (fun k_ => some k_ ≠ (v8 : Value).ownBlock) (.slice Ao8 t249.length co8) t249) ∧ Aside0 (w'.heap[gb248]? = some (.cells #[.int .i64 a1_0, .int .i64 a1_1, .int .i64 a1_2, .int .i64 a1_3] 25 (0, 0))) ∧ Aside0 (Below w.heap.size w w'))
  case atStart => exact ⟨(([] : List (S23))), (0), (by first | rfl | (simp; done) | (simp [*]; done)), H', ⟨Nat.le_refl _⟩, ⟨by first | exact Kd.R_nil _ _ _ _ _ | exact Kd.N_nil _ _ _ _ _ | exact Kd.V_nil _ _ _ _ _ | exact Kd.Q_nil _ _ _ _ _ | exact Kd.S_nil _ _ _ _ _⟩, ⟨by (with_reducible repeat (first | apply Kd.R_alloc | apply Kd.R_drewN | apply Kd.R_drew)); exact Kd.R_mono HO251.out (fun _ hk => (by simp [Value.ownBlock]))⟩, bk_ BK248, hb_ HB⟩
  case round =>
   clear H'
   try clear c4
   obtain ⟨x8_1, x23_1, rfl, HA, HK1, HO_8, HO_21, BK248, HB⟩ := hrel
   cases gk with
   | zero => exact absurd HA.out (by simp [spec_TurnsOfDial.l0])
   | succ k1 =>
    have H := HA.out
    clear HA
    simp only [spec_TurnsOfDial.l0] at H
    by_cases c9 : x23_1 < (t249.length : Int)
    ·
     rw [if_pos c9] at H
     have c9b0 : decide (x23_1 < (t249.length : Int)) = true := decide_eq_true c9
     clear c9
     by_cases c10 : 0 ≤ x23_1
     ·
      rw [if_pos c10] at H
      have c10b0 : decide (0 ≤ x23_1) = true := decide_eq_true c10
      clear c10
      by_cases c11 : x23_1 < (t249.length : Int)
      ·
       rw [if_pos c11] at H
       have c11b0 : decide (x23_1 < (t249.length : Int)) = true := decide_eq_true c11
       clear c11
       replace H := Option.bind_eq_some_iff.mp H
       obtain ⟨⟨t255, t256, t257⟩, A120, H⟩ := H
       replace H : (if t257 = true then (if x8_1.length < 8796093022208 then (spec_TurnsOfDial.l0 k1 (x8_1 ++ [(⟨t255, t256⟩ : S23)]) t249 (t249.length : Int) (wrap64 (x23_1 + 1)) a1_0 a1_1 a1_2 a1_3) else (none)) else (some (([] : List (S23)), false))) = some (r1, r2) := H
       have A12 := Aside0.mk A120
       clear A120
       by_cases c13 : t257 = true
       ·
        subst c13
        have H1 : (if x8_1.length < 8796093022208 then (spec_TurnsOfDial.l0 k1 (x8_1 ++ [(⟨t255, t256⟩ : S23)]) t249 (t249.length : Int) (wrap64 (x23_1 + 1)) a1_0 a1_1 a1_2 a1_3) else (none)) = some (r1, r2) := by rw [if_pos rfl] at H; exact H
        clear H
        have H := H1
        clear H1
        by_cases c14 : x8_1.length < 8796093022208
        ·
         rw [if_pos c14] at H
         have LMc14 := Aside0.mk c14
         clear c14
         obtain ⟨y259, hy259⟩ : ∃ y_ : List (S23), y_ = (x8_1 ++ [(⟨t255, t256⟩ : S23)]) := ⟨_, rfl⟩
         replace H : (spec_TurnsOfDial.l0 k1 y259 t249 (t249.length : Int) (wrap64 (x23_1 + 1)) a1_0 a1_1 a1_2 a1_3) = some (r1, r2) := by first | (rw [hy259]; with_reducible exact H) | (have H2_ := (Option.bind_some _ _).symm.trans H; rw [hy259]; with_reducible exact H2_) | (have H2_ := (Option.bind_some _ _).symm.trans H; with_reducible exact H2_) | with_reducible exact H | (rw [hy259]; exact H) | exact H
         have Ny259 := Aside0.mk hy259
         clear hy259
         as_aux_lemma =>
          have H' := Aside0.mk H
          clear H
          have p253 : 0 ≤ (x23_1 : Int) := of_decide_eq_true (by first | (with_reducible assumption) | assumption)
          have q253 : x23_1 < (t249.length : Int) := of_decide_eq_true (by first | (with_reducible assumption) | assumption)
          obtain ⟨ad253, e253, hx253_0, hx253_1⟩ := at_T23 (Kd.R_reads' HO_21.out).2.2 x23_1 p253 q253
          cases e253
          replace p253 := eq_true p253
          replace q253 := eq_true q253
          go_wp2_with (first | ((with_reducible refine gate_dst (N := 10) rfl ?_); refine be_ (N := 10) (cs := #[.int .i64 0, .int .i64 0]) (t := 23) ?_; intro gb254 hg w15 hbox hb; have BK254 := Aside0.mk (hbox); have GW254 := ge_ HB hg; have GE254 := ge_ HB hg; obtain ⟨NB248_254, NB254_248⟩ := nq_ BK248 hg; replace HO_8 := Aside0.mk (Kd.R_below (Kd.R_elderB (by (with_reducible repeat (first | apply Kd.R_alloc | apply Kd.R_drewN | apply Kd.R_drew)); exact HO_8.out) gb254 (Nat.le_of_eq hg.symm)) hb); replace HO_21 := Aside0.mk (Kd.R_below (Kd.R_elderB (by (with_reducible repeat (first | apply Kd.R_alloc | apply Kd.R_drewN | apply Kd.R_drew)); exact HO_21.out) gb254 (Nat.le_of_eq hg.symm)) hb); replace BK248 := bb BK248 hb; replace HB := hs HB hb; clear hb hbox hg; obtain ⟨hnb16, hnc16⟩ := nn_ NB254_248; have hcz17_0 := cz_ BK254 0 (.int .i64 0); have hcz17_1 := cz_ BK254 1 (.int .i64 0); have hfz17_0 := blk_frozen BK254.out 0; have hfz17_1 := blk_frozen BK254.out 1; have hcz18_0 := cz_ BK248 0 (.int .i64 a1_0); have hcz18_1 := cz_ BK248 1 (.int .i64 a1_1); have hcz18_2 := cz_ BK248 2 (.int .i64 a1_2); have hcz18_3 := cz_ BK248 3 (.int .i64 a1_3); have hfz18_0 := blk_frozen BK248.out 0; have hfz18_1 := blk_frozen BK248.out 1; have hfz18_2 := blk_frozen BK248.out 2; have hfz18_3 := blk_frozen BK248.out 3) | ((with_reducible refine gate_callee (f := 67) rfl ?_); refine gs_ (some 31) Try.func67 #[.agg #[.int .i64 a1_0, .int .i64 a1_1], .agg #[.int .i64 ((rd_T23 t249 x23_1).f0), .int .i64 ((rd_T23 t249 x23_1).f1)], .int .i64 (-1)] ?_; (with_reducible refine (spec_diAdd.calls k1 a1_0 a1_1 ((rd_T23 t249 x23_1).f0) ((rd_T23 t249 x23_1).f1) (-1) t255 t256 true _ A12.out).mono ?_); rintro e w19 ⟨rfl, hb⟩; refine ⟨_, rfl, ?_⟩; replace HO_8 := hr_ ⟨(Kd.R_mono (Kd.R_far (p := ⟨gb254, 1, none⟩) (Kd.R_far (p := ⟨gb254, 0, none⟩) (Kd.R_mono HO_8.out (fun k_ hk => (⟨hk, hk.2⟩ : _ ∧ k_ ≠ gb254))) (fun _ hk => hk.2) (.int .i64 ((rd_T23 t249 x23_1).f0))) (fun _ hk => hk.2) (.int .i64 ((rd_T23 t249 x23_1).f1))) (fun _ h_ => h_.1))⟩ hb; replace HO_21 := hr_ ⟨(Kd.R_mono (Kd.R_far (p := ⟨gb254, 1, none⟩) (Kd.R_far (p := ⟨gb254, 0, none⟩) (Kd.R_mono HO_21.out (fun k_ hk => (⟨hk, hk.2⟩ : _ ∧ k_ ≠ gb254))) (fun _ hk => hk.2) (.int .i64 ((rd_T23 t249 x23_1).f0))) (fun _ hk => hk.2) (.int .i64 ((rd_T23 t249 x23_1).f1))) (fun _ h_ => h_.1))⟩ hb; replace BK248 := bb BK248 hb; replace BK254 := Aside0.mk (blk_below (g := gb254) (o := .cells #[.int .i64 ((rd_T23 t249 x23_1).f0), .int .i64 ((rd_T23 t249 x23_1).f1)] 23 (0, 0)) (by (with_reducible repeat (first | refine blk_drewN ?_ _ | refine blk_drew ?_ | refine blk_alloc ?_ _)); refine blk_put (cs := #[.int .i64 ((rd_T23 t249 x23_1).f0), .int .i64 0]) ?_ 1 _ rfl; (with_reducible repeat (first | refine blk_drewN ?_ _ | refine blk_drew ?_ | refine blk_alloc ?_ _)); refine blk_put (cs := #[.int .i64 0, .int .i64 0]) ?_ 0 _ rfl; (with_reducible repeat (first | refine blk_drewN ?_ _ | refine blk_drew ?_ | refine blk_alloc ?_ _)); exact BK254.out) hb); replace HB := hs HB hb; (try clear hb); (try clear hb2); (try clear hk); (try clear hi)) | ((with_reducible refine gate_dst (N := 11) rfl ?_); refine be_ (N := 11) (cs := #[.int .i64 0, .int .i64 0]) (t := 23) ?_; intro gb258 hg w20 hbox hb; have BK258 := Aside0.mk (hbox); have GW258 := ge_ HB hg; have GE258 := ge_ HB hg; obtain ⟨NB248_258, NB258_248⟩ := nq_ BK248 hg; obtain ⟨NB254_258, NB258_254⟩ := nq_ BK254 hg; replace HO_8 := Aside0.mk (Kd.R_below (Kd.R_elderB (by (with_reducible repeat (first | apply Kd.R_alloc | apply Kd.R_drewN | apply Kd.R_drew)); exact HO_8.out) gb258 (Nat.le_of_eq hg.symm)) hb); replace HO_21 := Aside0.mk (Kd.R_below (Kd.R_elderB (by (with_reducible repeat (first | apply Kd.R_alloc | apply Kd.R_drewN | apply Kd.R_drew)); exact HO_21.out) gb258 (Nat.le_of_eq hg.symm)) hb); replace BK248 := bb BK248 hb; replace BK254 := bb BK254 hb; replace HB := hs HB hb; clear hb hbox hg; obtain ⟨hnb21, hnc21⟩ := nn_ NB258_248; obtain ⟨hnb22, hnc22⟩ := nn_ NB258_254; have hcz23_0 := cz_ BK258 0 (.int .i64 0); have hcz23_1 := cz_ BK258 1 (.int .i64 0); have hfz23_0 := blk_frozen BK258.out 0; have hfz23_1 := blk_frozen BK258.out 1) | ((with_reducible refine gate_builtin (b := .append) (xs := #[.tmp 36, .tmp 38]) rfl ?_); at_builtin; refine Kd.R_append k23 (w0 := w) w.heap.size rfl (.tmp 36) (.tmp 38) 34 23 (.agg #[(.int .i64 0), (.int .i64 0)]) 16 rfl Try.underlying34 info23 rfl (by decide) (by omega) u8 x8_1 (⟨t255, t256⟩ : S23) [.int .i64 t255, .int .i64 t256] (fun k_ => some k_ ≠ (.slice (some ad253) t249.length co8 : Value).ownBlock ∧ k_ ≠ gb254 ∧ k_ ≠ gb258) (fun _ => False) rfl (by first | (go_simp; done) | (go_simp; rfl)) ?aP (fun _ hk => hk.elim) ?aF ?aO ?aB ?aS ?aL ?_; (case aP => exact k23_mkM _ _ _ (⟨t255, t256⟩ : S23)); (case aB => exact (ho_ HB)); (case aF => exact (fun k_ hk => ⟨Kd.fresh' (Kd.R_lt (by (with_reducible repeat (first | apply Kd.R_alloc | apply Kd.R_drewN | apply Kd.R_drew)); exact (Kd.R_mono (Kd.R_far (p := ⟨gb258, 1, none⟩) (Kd.R_far (p := ⟨gb258, 0, none⟩) (Kd.R_mono HO_21.out (fun k_ hk => (⟨hk, hk.2⟩ : _ ∧ k_ ≠ gb258))) (fun _ hk => hk.2) (.int .i64 t255)) (fun _ hk => hk.2) (.int .i64 t256)) (fun _ h_ => h_.1)))) k_ hk, Kd.freshB (g := gb254) (o := .cells #[.int .i64 ((rd_T23 t249 x23_1).f0), .int .i64 ((rd_T23 t249 x23_1).f1)] 23 (0, 0)) (by (with_reducible repeat (first | refine blk_drewN ?_ _ | refine blk_drew ?_ | refine blk_alloc ?_ _)); refine blk_far ?_ NB254_258.out _; (with_reducible repeat (first | refine blk_drewN ?_ _ | refine blk_drew ?_ | refine blk_alloc ?_ _)); refine blk_far ?_ NB254_258.out _; (with_reducible repeat (first | refine blk_drewN ?_ _ | refine blk_drew ?_ | refine blk_alloc ?_ _)); exact BK254.out) k_ hk, Kd.freshB (g := gb258) (o := .cells #[.int .i64 t255, .int .i64 t256] 23 (0, 0)) (by (with_reducible repeat (first | refine blk_drewN ?_ _ | refine blk_drew ?_ | refine blk_alloc ?_ _)); refine blk_put (cs := #[.int .i64 t255, .int .i64 0]) ?_ 1 _ rfl; (with_reducible repeat (first | refine blk_drewN ?_ _ | refine blk_drew ?_ | refine blk_alloc ?_ _)); refine blk_put (cs := #[.int .i64 0, .int .i64 0]) ?_ 0 _ rfl; (with_reducible repeat (first | refine blk_drewN ?_ _ | refine blk_drew ?_ | refine blk_alloc ?_ _)); exact BK258.out) k_ hk⟩)); (case aO => exact (by (with_reducible repeat (first | apply Kd.R_alloc | apply Kd.R_drewN | apply Kd.R_drew)); exact Kd.R_mono (Kd.R_far (p := ⟨gb258, 1, none⟩) (Kd.R_far (p := ⟨gb258, 0, none⟩) (Kd.R_mono HO_8.out (fun k_ hk => (⟨hk, hk.2⟩ : _ ∧ k_ ≠ gb258))) (fun _ hk => hk.2) (.int .i64 t255)) (fun _ hk => hk.2) (.int .i64 t256)) (fun _ hk => ⟨hk.1.1.1, ⟨hk.1.1.2, hk.1.2⟩⟩))); (case aS => exact (bs_ HB)); (case aL => have := LMc14.out; omega); intro v260 w24 ho hb hg hat; rw [← Ny259.out] at ho; have n0_ := Aside0.mk (Kd.R_after (ok := (fun k_ => k_ ≠ gb254 ∧ k_ ≠ gb258)) (by (with_reducible repeat (first | apply Kd.R_alloc | apply Kd.R_drewN | apply Kd.R_drew)); exact Kd.R_mono (Kd.R_far (p := ⟨gb258, 1, none⟩) (Kd.R_far (p := ⟨gb258, 0, none⟩) (Kd.R_mono HO_21.out (fun k_ hk => (⟨hk, hk.2⟩ : _ ∧ k_ ≠ gb258))) (fun _ hk => hk.2) (.int .i64 t255)) (fun _ hk => hk.2) (.int .i64 t256)) (fun _ hk => ⟨⟨hk.1.1.2, hk.1.2⟩, hk.1.1.1⟩)) hg hat); have n1_ := Aside0.mk (blk_grown (g := gb248) (o := .cells #[.int .i64 a1_0, .int .i64 a1_1, .int .i64 a1_2, .int .i64 a1_3] 25 (0, 0)) (by (with_reducible repeat (first | refine blk_drewN ?_ _ | refine blk_drew ?_ | refine blk_alloc ?_ _)); refine blk_far ?_ NB248_258.out _; (with_reducible repeat (first | refine blk_drewN ?_ _ | refine blk_drew ?_ | refine blk_alloc ?_ _)); refine blk_far ?_ NB248_258.out _; (with_reducible repeat (first | refine blk_drewN ?_ _ | refine blk_drew ?_ | refine blk_alloc ?_ _)); exact BK248.out) hg (Kd.R_ne HO_8.out BK248.out (by decide))); have n2_ := Aside0.mk (blk_grown (g := gb254) (o := .cells #[.int .i64 ((rd_T23 t249 x23_1).f0), .int .i64 ((rd_T23 t249 x23_1).f1)] 23 (0, 0)) (by (with_reducible repeat (first | refine blk_drewN ?_ _ | refine blk_drew ?_ | refine blk_alloc ?_ _)); refine blk_far ?_ NB254_258.out _; (with_reducible repeat (first | refine blk_drewN ?_ _ | refine blk_drew ?_ | refine blk_alloc ?_ _)); refine blk_far ?_ NB254_258.out _; (with_reducible repeat (first | refine blk_drewN ?_ _ | refine blk_drew ?_ | refine blk_alloc ?_ _)); exact BK254.out) hg (Kd.R_away HO_8.out (fun _ hk => hk.1.2))); have n3_ := Aside0.mk (blk_grown (g := gb258) (o := .cells #[.int .i64 t255, .int .i64 t256] 23 (0, 0)) (by (with_reducible repeat (first | refine blk_drewN ?_ _ | refine blk_drew ?_ | refine blk_alloc ?_ _)); refine blk_put (cs := #[.int .i64 t255, .int .i64 0]) ?_ 1 _ rfl; (with_reducible repeat (first | refine blk_drewN ?_ _ | refine blk_drew ?_ | refine blk_alloc ?_ _)); refine blk_put (cs := #[.int .i64 0, .int .i64 0]) ?_ 0 _ rfl; (with_reducible repeat (first | refine blk_drewN ?_ _ | refine blk_drew ?_ | refine blk_alloc ?_ _)); exact BK258.out) hg (Kd.R_away HO_8.out (fun _ hk => hk.2))); have n4_ := Aside0.mk (hb); have n5_ := Aside0.mk (ho); clear HO_21; clear BK248; clear BK254; clear BK258; clear HB; clear HO_8; have HO_21 := n0_; have BK248 := n1_; have BK254 := n2_; have BK258 := n3_; have HB := n4_; have HO261 := n5_; clear n0_ n1_ n2_ n3_ n4_ n5_; clear ho hb hg hat))
          go_roundg k1
          case measure => have := HK1.out; omega
          case rel => exact ⟨(y259), (wrap64 (x23_1 + 1)), (by first | rfl | (simp; done) | (simp [*]; done)), H', ⟨by have := HK1.out; omega⟩, ⟨by (with_reducible repeat (first | apply Kd.R_alloc | apply Kd.R_drewN | apply Kd.R_drew)); exact Kd.R_mono HO261.out (fun _ hk => hk.1)⟩, ⟨by (with_reducible repeat (first | apply Kd.R_alloc | apply Kd.R_drewN | apply Kd.R_drew)); exact Kd.R_mono HO_21.out (fun _ hk => hk.2)⟩, bk_ BK248, hb_ HB⟩
        ·
         rw [if_neg c14] at H
         exact absurd H (by simp)
       ·
        replace c13 := Bool.eq_false_iff.mpr c13
        subst c13
        have H1 : (some (([] : List (S23)), false)) = some (r1, r2) := by rw [if_neg (show ¬ (false = true) by decide)] at H; exact H
        clear H
        have H := H1
        clear H1
        as_aux_lemma =>
         simp only [Option.some.injEq, Prod.mk.injEq] at H
         obtain ⟨rfl, rfl⟩ := H
         have p253 : 0 ≤ (x23_1 : Int) := of_decide_eq_true (by first | (with_reducible assumption) | assumption)
         have q253 : x23_1 < (t249.length : Int) := of_decide_eq_true (by first | (with_reducible assumption) | assumption)
         obtain ⟨ad253, e253, hx253_0, hx253_1⟩ := at_T23 (Kd.R_reads' HO_21.out).2.2 x23_1 p253 q253
         cases e253
         replace p253 := eq_true p253
         replace q253 := eq_true q253
         go_wp2_with (first | ((with_reducible refine gate_dst (N := 10) rfl ?_); refine be_ (N := 10) (cs := #[.int .i64 0, .int .i64 0]) (t := 23) ?_; intro gb254 hg w25 hbox hb; have BK254 := Aside0.mk (hbox); have GW254 := ge_ HB hg; have GE254 := ge_ HB hg; obtain ⟨NB248_254, NB254_248⟩ := nq_ BK248 hg; replace HO_8 := Aside0.mk (Kd.R_below (Kd.R_elderB (by (with_reducible repeat (first | apply Kd.R_alloc | apply Kd.R_drewN | apply Kd.R_drew)); exact HO_8.out) gb254 (Nat.le_of_eq hg.symm)) hb); replace HO_21 := Aside0.mk (Kd.R_below (Kd.R_elderB (by (with_reducible repeat (first | apply Kd.R_alloc | apply Kd.R_drewN | apply Kd.R_drew)); exact HO_21.out) gb254 (Nat.le_of_eq hg.symm)) hb); replace BK248 := bb BK248 hb; replace HB := hs HB hb; clear hb hbox hg; obtain ⟨hnb26, hnc26⟩ := nn_ NB254_248; have hcz27_0 := cz_ BK254 0 (.int .i64 0); have hcz27_1 := cz_ BK254 1 (.int .i64 0); have hfz27_0 := blk_frozen BK254.out 0; have hfz27_1 := blk_frozen BK254.out 1; have hcz28_0 := cz_ BK248 0 (.int .i64 a1_0); have hcz28_1 := cz_ BK248 1 (.int .i64 a1_1); have hcz28_2 := cz_ BK248 2 (.int .i64 a1_2); have hcz28_3 := cz_ BK248 3 (.int .i64 a1_3); have hfz28_0 := blk_frozen BK248.out 0; have hfz28_1 := blk_frozen BK248.out 1; have hfz28_2 := blk_frozen BK248.out 2; have hfz28_3 := blk_frozen BK248.out 3) | ((with_reducible refine gate_callee (f := 67) rfl ?_); refine gs_ (some 31) Try.func67 #[.agg #[.int .i64 a1_0, .int .i64 a1_1], .agg #[.int .i64 ((rd_T23 t249 x23_1).f0), .int .i64 ((rd_T23 t249 x23_1).f1)], .int .i64 (-1)] ?_; (with_reducible refine (spec_diAdd.calls k1 a1_0 a1_1 ((rd_T23 t249 x23_1).f0) ((rd_T23 t249 x23_1).f1) (-1) t255 t256 false _ A12.out).mono ?_); rintro e w29 ⟨rfl, hb⟩; refine ⟨_, rfl, ?_⟩; replace HO_8 := hr_ ⟨(Kd.R_mono (Kd.R_far (p := ⟨gb254, 1, none⟩) (Kd.R_far (p := ⟨gb254, 0, none⟩) (Kd.R_mono HO_8.out (fun k_ hk => (⟨hk, hk.2⟩ : _ ∧ k_ ≠ gb254))) (fun _ hk => hk.2) (.int .i64 ((rd_T23 t249 x23_1).f0))) (fun _ hk => hk.2) (.int .i64 ((rd_T23 t249 x23_1).f1))) (fun _ h_ => h_.1))⟩ hb; replace HO_21 := hr_ ⟨(Kd.R_mono (Kd.R_far (p := ⟨gb254, 1, none⟩) (Kd.R_far (p := ⟨gb254, 0, none⟩) (Kd.R_mono HO_21.out (fun k_ hk => (⟨hk, hk.2⟩ : _ ∧ k_ ≠ gb254))) (fun _ hk => hk.2) (.int .i64 ((rd_T23 t249 x23_1).f0))) (fun _ hk => hk.2) (.int .i64 ((rd_T23 t249 x23_1).f1))) (fun _ h_ => h_.1))⟩ hb; replace BK248 := bb BK248 hb; replace BK254 := Aside0.mk (blk_below (g := gb254) (o := .cells #[.int .i64 ((rd_T23 t249 x23_1).f0), .int .i64 ((rd_T23 t249 x23_1).f1)] 23 (0, 0)) (by (with_reducible repeat (first | refine blk_drewN ?_ _ | refine blk_drew ?_ | refine blk_alloc ?_ _)); refine blk_put (cs := #[.int .i64 ((rd_T23 t249 x23_1).f0), .int .i64 0]) ?_ 1 _ rfl; (with_reducible repeat (first | refine blk_drewN ?_ _ | refine blk_drew ?_ | refine blk_alloc ?_ _)); refine blk_put (cs := #[.int .i64 0, .int .i64 0]) ?_ 0 _ rfl; (with_reducible repeat (first | refine blk_drewN ?_ _ | refine blk_drew ?_ | refine blk_alloc ?_ _)); exact BK254.out) hb); replace HB := hs HB hb; (try clear hb); (try clear hb2); (try clear hk); (try clear hi)) | ((with_reducible refine gate_dst (N := 11) rfl ?_); refine be_ (N := 11) (cs := #[.int .i64 0, .int .i64 0]) (t := 23) ?_; intro gb258 hg w30 hbox hb; have BK258 := Aside0.mk (hbox); have GW258 := ge_ HB hg; have GE258 := ge_ HB hg; obtain ⟨NB248_258, NB258_248⟩ := nq_ BK248 hg; obtain ⟨NB254_258, NB258_254⟩ := nq_ BK254 hg; replace HO_8 := Aside0.mk (Kd.R_below (Kd.R_elderB (by (with_reducible repeat (first | apply Kd.R_alloc | apply Kd.R_drewN | apply Kd.R_drew)); exact HO_8.out) gb258 (Nat.le_of_eq hg.symm)) hb); replace HO_21 := Aside0.mk (Kd.R_below (Kd.R_elderB (by (with_reducible repeat (first | apply Kd.R_alloc | apply Kd.R_drewN | apply Kd.R_drew)); exact HO_21.out) gb258 (Nat.le_of_eq hg.symm)) hb); replace BK248 := bb BK248 hb; replace BK254 := bb BK254 hb; replace HB := hs HB hb; clear hb hbox hg; obtain ⟨hnb31, hnc31⟩ := nn_ NB258_248; obtain ⟨hnb32, hnc32⟩ := nn_ NB258_254; have hcz33_0 := cz_ BK258 0 (.int .i64 0); have hcz33_1 := cz_ BK258 1 (.int .i64 0); have hfz33_0 := blk_frozen BK258.out 0; have hfz33_1 := blk_frozen BK258.out 1))
         go_ret2
         exact ⟨_, by first | rfl | (simp [errW_none, errW_some] <;> rfl) | (simp [*, errW_none, errW_some] <;> rfl), by first | exact Kd.R_nil _ _ _ _ _ | exact Kd.N_nil _ _ _ _ _ | exact Kd.V_nil _ _ _ _ _ | exact Kd.Q_nil _ _ _ _ _ | exact Kd.S_nil _ _ _ _ _, (ho_ HB)⟩
      ·
       rw [if_neg c11] at H
       exact absurd H (by simp)
     ·
      rw [if_neg c10] at H
      exact absurd H (by simp)
    ·
     rw [if_neg c9] at H
     have c9b0 : decide (x23_1 < (t249.length : Int)) = false := decide_eq_false c9
     clear c9
     as_aux_lemma =>
      simp only [Option.some.injEq, Prod.mk.injEq] at H
      obtain ⟨rfl, rfl⟩ := H
      go_wp2
      go_ret2
      exact ⟨_, by first | rfl | (simp [errW_none, errW_some] <;> rfl) | (simp [*, errW_none, errW_some] <;> rfl), by (with_reducible repeat (first | apply Kd.R_alloc | apply Kd.R_drewN | apply Kd.R_drew)); exact Kd.R_mono HO_8.out (fun _ hk => trivial), (ho_ HB)⟩
 ·
  replace c4 := Bool.eq_false_iff.mpr c4
  subst c4
  have H1 : (some (([] : List (S23)), false)) = some (r1, r2) := by rw [if_neg (show ¬ (false = true) by decide)] at H; exact H
  clear H
  have H := H1
  clear H1
  as_aux_lemma =>
   simp only [Option.some.injEq, Prod.mk.injEq] at H
   obtain ⟨rfl, rfl⟩ := H
   go_enter Try.func32, Try.ntmps32
   go_wp2_with (first | ((with_reducible refine gate_dst (N := 3) rfl ?_); refine be_ (N := 3) (cs := #[.int .i64 a1_0, .int .i64 a1_1, .int .i64 a1_2, .int .i64 a1_3]) (t := 25) ?_; intro gb248 hg w34 hbox hb; have BK248 := Aside0.mk (hbox); have GW248 := ge_ HB hg; have GE248 := ge_ HB hg; replace HB := hs HB hb; clear hb hbox hg; have hcz35_0 := cz_ BK248 0 (.int .i64 a1_0); have hcz35_1 := cz_ BK248 1 (.int .i64 a1_1); have hcz35_2 := cz_ BK248 2 (.int .i64 a1_2); have hcz35_3 := cz_ BK248 3 (.int .i64 a1_3); have hfz35_0 := blk_frozen BK248.out 0; have hfz35_1 := blk_frozen BK248.out 1; have hfz35_2 := blk_frozen BK248.out 2; have hfz35_3 := blk_frozen BK248.out 3) | ((with_reducible refine gate_callee (f := 30) rfl ?_); refine gs_ (some 16) Try.func30 #[.int .i64 a0, .agg #[.int .i64 a1_0, .int .i64 a1_1, .int .i64 a1_2, .int .i64 a1_3]] ?_; (with_reducible refine (spec_TimesTurned.calls k a0 a1_0 a1_1 a1_2 a1_3 t249 false _ A3.out).mono ?_); rintro e w36 ⟨v250, rfl, ho0, hb⟩; refine ⟨_, rfl, ?_⟩; have HO251 := Aside0.mk (Kd.R_lower ho0 (bs_ HB)); replace BK248 := bb BK248 hb; replace HB := hs HB hb; (try clear hb); (try clear hb2); (try clear hk); (try clear hi); (try clear ho0)))
   go_ret2
   exact ⟨_, by first | rfl | (simp [errW_none, errW_some] <;> rfl) | (simp [*, errW_none, errW_some] <;> rfl), by first | exact Kd.R_nil _ _ _ _ _ | exact Kd.N_nil _ _ _ _ _ | exact Kd.V_nil _ _ _ _ _ | exact Kd.Q_nil _ _ _ _ _ | exact Kd.S_nil _ _ _ _ _, (ho_ HB)⟩

/-! ### impl_Turn_plus: function 69 -/
def impl_Turn_plus.f (k : Nat) (a0_0 : Int) (a0_1 : Int) (a1_0 : Int) (a1_1 : Int) : Option (Int × Int) := (impl_part.f k (wrap64 ((wrap64 (a0_0 * a1_1)) + (wrap64 (a1_0 * a0_1)))) (wrap64 (a0_1 * a1_1))).bind fun bt265 => (some (bt265.1, bt265.2))
theorem impl_Turn_plus.mono : ∀ a0 a1 a2 a3 k, LeO (impl_Turn_plus.f k a0 a1 a2 a3) (impl_Turn_plus.f (k + 1) a0 a1 a2 a3) := by
 intro a0 a1 a2 a3 k
 unfold impl_Turn_plus.f
 repeat' first
   | (with_reducible exact impl_part.mono _ _ _)
   | (with_reducible exact LeO.refl _)
   | (with_reducible exact LeO.none _)
   | (with_reducible refine LeO.ite ?_ ?_)
   | (with_reducible refine LeO.bind ?_ (fun _ => ?_))
   | exact impl_part.mono _ _ _
   | exact LeO.none _
   | refine LeO.ite ?_ ?_
   | refine LeO.bind ?_ (fun _ => ?_)
set_option maxHeartbeats 8000000 in
set_option maxRecDepth 100000 in
theorem impl_Turn_plus.calls (k : Nat) (a0_0 : Int) (a0_1 : Int) (a1_0 : Int) (a1_1 : Int) (r1 : Int) (r2 : Int) (w : World) (h : impl_Turn_plus.f k a0_0 a0_1 a1_0 a1_1 = some (r1, r2)) :
  Calls Try.prog 69 #[.agg #[.int .i64 a0_0, .int .i64 a0_1], .agg #[.int .i64 a1_0, .int .i64 a1_1]] w fun e w' => e = .returned (.agg #[.int .i64 r1, .int .i64 r2]) ∧ Below w.heap.size w w' := by
 have hu23 := Try.underlying23
 have HB := Aside0.mk (Below.refl w.heap.size w)
 have H : ((impl_part.f k (wrap64 ((wrap64 (a0_0 * a1_1)) + (wrap64 (a1_0 * a0_1)))) (wrap64 (a0_1 * a1_1))).bind fun bt265 => (some (bt265.1, bt265.2))) = some (r1, r2) := h
 clear h
 replace H := Option.bind_eq_some_iff.mp H
 obtain ⟨⟨t265, t266⟩, A30, H⟩ := H
 replace H : (some (t265, t266)) = some (r1, r2) := H
 have A3 := Aside0.mk A30
 clear A30
 as_aux_lemma =>
  simp only [Option.some.injEq, Prod.mk.injEq] at H
  obtain ⟨rfl, rfl⟩ := H
  go_enter Try.func69, Try.ntmps69
  go_wp2_with (first | ((with_reducible refine gate_dst (N := 2) rfl ?_); refine be_ (N := 2) (cs := #[.int .i64 a0_0, .int .i64 a0_1]) (t := 23) ?_; intro gb262 hg w4 hbox hb; have BK262 := Aside0.mk (hbox); have GW262 := ge_ HB hg; have GE262 := ge_ HB hg; replace HB := hs HB hb; clear hb hbox hg) | ((with_reducible refine gate_dst (N := 3) rfl ?_); refine be_ (N := 3) (cs := #[.int .i64 a1_0, .int .i64 a1_1]) (t := 23) ?_; intro gb263 hg w5 hbox hb; have BK263 := Aside0.mk (hbox); have GW263 := ge_ HB hg; have GE263 := ge_ HB hg; obtain ⟨NB262_263, NB263_262⟩ := nq_ BK262 hg; replace BK262 := bb BK262 hb; replace HB := hs HB hb; clear hb hbox hg) | ((with_reducible refine gate_dst (N := 4) rfl ?_); refine be_ (N := 4) (cs := #[.int .i64 0, .int .i64 0]) (t := 23) ?_; intro gb264 hg w6 hbox hb; have BK264 := Aside0.mk (hbox); have GW264 := ge_ HB hg; have GE264 := ge_ HB hg; obtain ⟨NB262_264, NB264_262⟩ := nq_ BK262 hg; obtain ⟨NB263_264, NB264_263⟩ := nq_ BK263 hg; replace BK262 := bb BK262 hb; replace BK263 := bb BK263 hb; replace HB := hs HB hb; clear hb hbox hg; obtain ⟨hnb7, hnc7⟩ := nn_ NB262_263; obtain ⟨hnb8, hnc8⟩ := nn_ NB262_264; have hcz9_0 := cz_ BK262 0 (.int .i64 a0_0); have hcz9_1 := cz_ BK262 1 (.int .i64 a0_1); have hfz9_0 := blk_frozen BK262.out 0; have hfz9_1 := blk_frozen BK262.out 1; obtain ⟨hnb10, hnc10⟩ := nn_ NB263_264; have hcz11_0 := cz_ BK263 0 (.int .i64 a1_0); have hcz11_1 := cz_ BK263 1 (.int .i64 a1_1); have hfz11_0 := blk_frozen BK263.out 0; have hfz11_1 := blk_frozen BK263.out 1) | ((with_reducible refine gate_callee (f := 72) rfl ?_); refine gs_ (some 21) Try.func72 #[.int .i64 (wrap64 ((wrap64 (a0_0 * a1_1)) + (wrap64 (a1_0 * a0_1)))), .int .i64 (wrap64 (a0_1 * a1_1))] ?_; (with_reducible refine (impl_part.calls k (wrap64 ((wrap64 (a0_0 * a1_1)) + (wrap64 (a1_0 * a0_1)))) (wrap64 (a0_1 * a1_1)) t265 t266 _ A3.out).mono ?_); rintro e w12 ⟨rfl, hb⟩; refine ⟨_, rfl, ?_⟩; replace BK262 := bb BK262 hb; replace BK263 := bb BK263 hb; replace BK264 := bb BK264 hb; replace HB := hs HB hb; (try clear hb); (try clear hb2); (try clear hk); (try clear hi); have hcz13_0 := cz_ BK264 0 (.int .i64 0); have hcz13_1 := cz_ BK264 1 (.int .i64 0); have hfz13_0 := blk_frozen BK264.out 0; have hfz13_1 := blk_frozen BK264.out 1))
  refine bodyPost_ret (results_cell_row rfl _ _ gb264 23 #[.int .i64 t265, .int .i64 t266] (0, 0) _ rfl (by (with_reducible repeat (first | refine blk_drewN ?_ _ | refine blk_drew ?_ | refine blk_alloc ?_ _)); refine blk_put (cs := #[.int .i64 t265, .int .i64 0]) ?_ 1 _ rfl; (with_reducible repeat (first | refine blk_drewN ?_ _ | refine blk_drew ?_ | refine blk_alloc ?_ _)); refine blk_put (cs := #[.int .i64 0, .int .i64 0]) ?_ 0 _ rfl; (with_reducible repeat (first | refine blk_drewN ?_ _ | refine blk_drew ?_ | refine blk_alloc ?_ _)); exact BK264.out) Try.underlying23 rfl (by kernel_rfl)) rfl ?_
  exact ⟨by first | rfl | (simp [errW_none, errW_some] <;> rfl) | (simp [*, errW_none, errW_some] <;> rfl), (ho_ HB)⟩

end Go.Proofs.Ytkfcaldjepmffaa.GFnDialsTurnedOfAll
