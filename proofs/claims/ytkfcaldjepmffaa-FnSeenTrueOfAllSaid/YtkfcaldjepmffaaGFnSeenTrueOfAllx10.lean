-- Written by a program of this session (a copy of the kit's print program that takes contracts of one's own); Lean checks it.
import Derived.Test.YtkfcaldjepmffaaGFnSeenTrueOfAllx0
import Derived.Test.YtkfcaldjepmffaaGFnSeenTrueOfAllx1
import Derived.Test.YtkfcaldjepmffaaGFnSeenTrueOfAllx2
import Derived.Test.YtkfcaldjepmffaaGFnSeenTrueOfAllx3
import Derived.Test.YtkfcaldjepmffaaGFnSeenTrueOfAllx4
import Derived.Test.YtkfcaldjepmffaaGFnSeenTrueOfAllx5
import Derived.Test.YtkfcaldjepmffaaGFnSeenTrueOfAllx9
namespace Go.Proofs.Ytkfcaldjepmffaa.GFnSeenTrueOfAll
open Go.RowKit Go.Proofs.YtkfcaldjepmffaaW.PrintWords Go.Proofs.YtkfcaldjepmffaaW.PrintLast Go.Proofs.YtkfcaldjepmffaaW.PrintMore
attribute [local go_sem] max2_int min2_int max_two min_two max_three min_three max_four min_four   -- for this text's walks alone
set_option linter.unusedVariables false
set_option linter.unusedSimpArgs false

attribute [local go_sem high] eqA23 eqA25
/-! ### spec_OwnMirrors: function 21 -/
def spec_OwnMirrors.l0 : Nat → Int → List (S23) → List (S23) → Int → Int → Option ((List (S23)) × Bool)
 | 0, _, _, _, _, _ => none
 | k + 1, x0, x4, x10, x11, x12 => if x12 < x11 then (if 0 ≤ x12 then (if x12 < (x10.length : Int) then ((spec_seOf.f k x0 ((rd_T23 x10 x12).f0) ((rd_T23 x10 x12).f1)).bind fun bt326 => ((spec_seMirror.f k bt326.1 bt326.2.1 bt326.2.2.1 bt326.2.2.2).bind fun bt330 => ((spec_seOf.f k x0 ((rd_T23 x10 x12).f0) ((rd_T23 x10 x12).f1)).bind fun bt334 => (if ((bt330.1 == bt334.1 && (bt330.2.1 == bt334.2.1)) && ((bt330.2.2.1 == bt334.2.2.1 && (bt330.2.2.2 == bt334.2.2.2)))) = true then (if x4.length < 8796093022208 then (spec_OwnMirrors.l0 k x0 (x4 ++ [(⟨(rd_T23 x10 x12).f0, (rd_T23 x10 x12).f1⟩ : S23)]) x10 x11 (wrap64 (x12 + 1))) else (none)) else (spec_OwnMirrors.l0 k x0 x4 x10 x11 (wrap64 (x12 + 1))))))) else (none)) else (none)) else (some (x4, true))
def spec_OwnMirrors.f (k : Nat) (a0 : Int) : Option ((List (S23)) × Bool) := (spec_diHours.f a0).bind fun t320 => (if t320 = true then ((spec_seParts.f k 0 2).bind fun t321 => (spec_OwnMirrors.l0 k a0 ([] : List (S23)) t321 (t321.length : Int) 0)) else (some (([] : List (S23)), false)))
theorem spec_OwnMirrors.mono_l : ∀ k, (∀ y0 y1 y2 y3 y4, LeO (spec_OwnMirrors.l0 k y0 y1 y2 y3 y4) (spec_OwnMirrors.l0 (k + 1) y0 y1 y2 y3 y4))
 | 0 => fun _ _ _ _ _ r h => by simp [spec_OwnMirrors.l0] at h
 | k + 1 => by
  have ih0 := spec_OwnMirrors.mono_l k
  ·
   intro y0 y1 y2 y3 y4
   unfold spec_OwnMirrors.l0
   repeat' first
   | (with_reducible exact ih0 _ _ _ _ _)
   | (with_reducible exact spec_seMirror.mono _ _ _ _ _)
   | (with_reducible exact spec_seOf.mono _ _ _ _)
   | (with_reducible exact spec_seParts.mono _ _ _)
   | (with_reducible exact LeO.refl _)
   | (with_reducible exact LeO.none _)
   | (with_reducible refine LeO.ite ?_ ?_)
   | (with_reducible refine LeO.bind ?_ (fun _ => ?_))
   | exact ih0 _ _ _ _ _
   | exact spec_seMirror.mono _ _ _ _ _
   | exact spec_seOf.mono _ _ _ _
   | exact spec_seParts.mono _ _ _
   | exact LeO.none _
   | refine LeO.ite ?_ ?_
   | refine LeO.bind ?_ (fun _ => ?_)
theorem spec_OwnMirrors.mono : ∀ a0 k, LeO (spec_OwnMirrors.f k a0) (spec_OwnMirrors.f (k + 1) a0) := by
 intro a0 k
 have ih0 := spec_OwnMirrors.mono_l k
 unfold spec_OwnMirrors.f
 repeat' first
   | (with_reducible exact ih0 _ _ _ _ _)
   | (with_reducible exact spec_seMirror.mono _ _ _ _ _)
   | (with_reducible exact spec_seOf.mono _ _ _ _)
   | (with_reducible exact spec_seParts.mono _ _ _)
   | (with_reducible exact LeO.refl _)
   | (with_reducible exact LeO.none _)
   | (with_reducible refine LeO.ite ?_ ?_)
   | (with_reducible refine LeO.bind ?_ (fun _ => ?_))
   | exact ih0 _ _ _ _ _
   | exact spec_seMirror.mono _ _ _ _ _
   | exact spec_seOf.mono _ _ _ _
   | exact spec_seParts.mono _ _ _
   | exact LeO.none _
   | refine LeO.ite ?_ ?_
   | refine LeO.bind ?_ (fun _ => ?_)
def spec_OwnMirrors.T7 : Bool × List (List Nat × List Nat) := (true, [([], []), ([], []), ([0, 1], [0, 1]), ([2, 2], [2]), ([], []), ([], []), ([4, 5, 3], [4, 5]), ([3, 6], [3, 6])])
def spec_OwnMirrors.B7 : List Nat := [0, 0, 3, 7, 0, 0, 63, 127]
theorem spec_OwnMirrors.tab7 : rtab .any (opsOf Try.f21 7) = spec_OwnMirrors.T7 := by kernel_rfl
theorem spec_OwnMirrors.bits7 : waitsOk spec_OwnMirrors.T7.2 spec_OwnMirrors.B7 = true := by kernel_rfl
set_option maxHeartbeats 8000000 in
set_option maxRecDepth 100000 in
theorem spec_OwnMirrors.calls (k : Nat) (a0 : Int) (r1 : List (S23)) (r2 : Bool) (w : World) (h : spec_OwnMirrors.f k a0 = some (r1, r2)) :
  Calls Try.prog 21 #[.int .i64 a0] w fun e w' => ∃ v0_ : Value, e = .returned (.tuple #[v0_, .bool r2]) ∧ Kd.R k23 23 w' w.heap.size (fun _ => True) v0_ r1 ∧ Below w.heap.size w w' := by
 have hu23 := Try.underlying23
 have HB := Aside0.mk (Below.refl w.heap.size w)
 have H : ((spec_diHours.f a0).bind fun t320 => (if t320 = true then ((spec_seParts.f k 0 2).bind fun t321 => (spec_OwnMirrors.l0 k a0 ([] : List (S23)) t321 (t321.length : Int) 0)) else (some (([] : List (S23)), false)))) = some (r1, r2) := h
 clear h
 replace H := Option.bind_eq_some_iff.mp H
 obtain ⟨t320, A20, H⟩ := H
 replace H : (if t320 = true then ((spec_seParts.f k 0 2).bind fun t321 => (spec_OwnMirrors.l0 k a0 ([] : List (S23)) t321 (t321.length : Int) 0)) else (some (([] : List (S23)), false))) = some (r1, r2) := H
 have A2 := Aside0.mk A20
 clear A20
 by_cases c3 : t320 = true
 ·
  subst c3
  have H1 : ((spec_seParts.f k 0 2).bind fun t321 => (spec_OwnMirrors.l0 k a0 ([] : List (S23)) t321 (t321.length : Int) 0)) = some (r1, r2) := by rw [if_pos rfl] at H; exact H
  clear H
  have H := H1
  clear H1
  replace H := Option.bind_eq_some_iff.mp H
  obtain ⟨t321, A40, H⟩ := H
  replace H : (spec_OwnMirrors.l0 k a0 ([] : List (S23)) t321 (t321.length : Int) 0) = some (r1, r2) := H
  have A4 := Aside0.mk A40
  clear A40
  have H' := Aside0.mk H
  clear H
  go_enter Try.func21, Try.ntmps21
  go_wp2_with (first | ((with_reducible refine gate_callee (f := 57) rfl ?_); refine gs_ (some 8) Try.func57 #[.int .i64 a0] ?_; (with_reducible refine (spec_diHours.calls a0 true _ A2.out).mono ?_); rintro e w' ⟨rfl, ⟨nd, rfl⟩⟩; refine ⟨_, rfl, ?_⟩) | ((with_reducible refine gate_callee (f := 58) rfl ?_); refine gs_ (some 10) Try.func58 #[.int .i64 0, .int .i64 2] ?_; (with_reducible refine (spec_seParts.calls k 0 2 t321 _ A4.out).mono ?_); rintro e w5 ⟨v322, rfl, ho0, hb⟩; refine ⟨_, rfl, ?_⟩; have HO323 := Aside0.mk (Kd.R_lower ho0 (bs_ HB)); replace HB := hs HB hb; (try clear hb); (try clear hb2); (try clear hk); (try clear hi); (try clear ho0); obtain ⟨Ao6, co6, eo6⟩ := Kd.R_slice HO323.out; subst eo6))
  go_loopg [4, 12] k (fun kq v4 v12 w' => ∃ (x4_1 : List (S23)) (x12_1 : Int), v12 = .int .i64 x12_1 ∧ Aside0 (spec_OwnMirrors.l0 kq a0 x4_1 t321 (t321.length : Int) x12_1 = some (r1, r2)) ∧ Aside0 (kq ≤ k) ∧ Aside0 (Kd.R k23 23 w' w.heap.size (fun k_ => some k_ ≠ ((.slice Ao6 t321.length co6) : Value).ownBlock) v4 x4_1) ∧ Aside0 (Kd.R k23 23 w' w.heap.size (fun k_ => some k_ ≠ (v4 : Value).ownBlock) (.slice Ao6 t321.length co6) t321) ∧ Aside0 (Below w.heap.size w w'))
  case atStart => exact ⟨(([] : List (S23))), (0), (by first | rfl | (simp; done) | (simp [*]; done)), H', ⟨Nat.le_refl _⟩, ⟨by first | exact Kd.R_nil _ _ _ _ _ | exact Kd.N_nil _ _ _ _ _ | exact Kd.V_nil _ _ _ _ _ | exact Kd.Q_nil _ _ _ _ _ | exact Kd.S_nil _ _ _ _ _⟩, ⟨by (with_reducible repeat (first | apply Kd.R_alloc | apply Kd.R_drewN | apply Kd.R_drew)); exact Kd.R_mono HO323.out (fun _ hk => (by simp [Value.ownBlock]))⟩, hb_ HB⟩
  case round =>
   clear H'
   try clear c3
   obtain ⟨x4_1, x12_1, rfl, HA, HK1, HO_4, HO_10, HB⟩ := hrel
   cases gk with
   | zero => exact absurd HA.out (by simp [spec_OwnMirrors.l0])
   | succ k1 =>
    have H := HA.out
    clear HA
    simp only [spec_OwnMirrors.l0] at H
    by_cases c7 : x12_1 < (t321.length : Int)
    ·
     rw [if_pos c7] at H
     have c7b0 : decide (x12_1 < (t321.length : Int)) = true := decide_eq_true c7
     clear c7
     by_cases c8 : 0 ≤ x12_1
     ·
      rw [if_pos c8] at H
      have c8b0 : decide (0 ≤ x12_1) = true := decide_eq_true c8
      clear c8
      by_cases c9 : x12_1 < (t321.length : Int)
      ·
       rw [if_pos c9] at H
       have c9b0 : decide (x12_1 < (t321.length : Int)) = true := decide_eq_true c9
       clear c9
       replace H := Option.bind_eq_some_iff.mp H
       obtain ⟨⟨t326, t327, t328, t329⟩, A100, H⟩ := H
       replace H : ((spec_seMirror.f k1 t326 t327 t328 t329).bind fun bt330 => ((spec_seOf.f k1 a0 ((rd_T23 t321 x12_1).f0) ((rd_T23 t321 x12_1).f1)).bind fun bt334 => (if ((bt330.1 == bt334.1 && (bt330.2.1 == bt334.2.1)) && ((bt330.2.2.1 == bt334.2.2.1 && (bt330.2.2.2 == bt334.2.2.2)))) = true then (if x4_1.length < 8796093022208 then (spec_OwnMirrors.l0 k1 a0 (x4_1 ++ [(⟨(rd_T23 t321 x12_1).f0, (rd_T23 t321 x12_1).f1⟩ : S23)]) t321 (t321.length : Int) (wrap64 (x12_1 + 1))) else (none)) else (spec_OwnMirrors.l0 k1 a0 x4_1 t321 (t321.length : Int) (wrap64 (x12_1 + 1)))))) = some (r1, r2) := H
       have A10 := Aside0.mk A100
       clear A100
       replace H := Option.bind_eq_some_iff.mp H
       obtain ⟨⟨t330, t331, t332, t333⟩, A110, H⟩ := H
       replace H : ((spec_seOf.f k1 a0 ((rd_T23 t321 x12_1).f0) ((rd_T23 t321 x12_1).f1)).bind fun bt334 => (if ((t330 == bt334.1 && (t331 == bt334.2.1)) && ((t332 == bt334.2.2.1 && (t333 == bt334.2.2.2)))) = true then (if x4_1.length < 8796093022208 then (spec_OwnMirrors.l0 k1 a0 (x4_1 ++ [(⟨(rd_T23 t321 x12_1).f0, (rd_T23 t321 x12_1).f1⟩ : S23)]) t321 (t321.length : Int) (wrap64 (x12_1 + 1))) else (none)) else (spec_OwnMirrors.l0 k1 a0 x4_1 t321 (t321.length : Int) (wrap64 (x12_1 + 1))))) = some (r1, r2) := H
       have A11 := Aside0.mk A110
       clear A110
       replace H := Option.bind_eq_some_iff.mp H
       obtain ⟨⟨t334, t335, t336, t337⟩, A120, H⟩ := H
       replace H : (if ((t330 == t334 && (t331 == t335)) && ((t332 == t336 && (t333 == t337)))) = true then (if x4_1.length < 8796093022208 then (spec_OwnMirrors.l0 k1 a0 (x4_1 ++ [(⟨(rd_T23 t321 x12_1).f0, (rd_T23 t321 x12_1).f1⟩ : S23)]) t321 (t321.length : Int) (wrap64 (x12_1 + 1))) else (none)) else (spec_OwnMirrors.l0 k1 a0 x4_1 t321 (t321.length : Int) (wrap64 (x12_1 + 1)))) = some (r1, r2) := H
       have A12 := Aside0.mk A120
       clear A120
       by_cases c13 : ((t330 == t334 && (t331 == t335)) && ((t332 == t336 && (t333 == t337)))) = true
       ·
        rw [if_pos c13] at H
        have c13b0 : ((t330 == t334 && (t331 == t335)) && ((t332 == t336 && (t333 == t337)))) = true := c13
        clear c13
        by_cases c14 : x4_1.length < 8796093022208
        ·
         rw [if_pos c14] at H
         have LMc14 := Aside0.mk c14
         clear c14
         obtain ⟨y338, hy338⟩ : ∃ y_ : List (S23), y_ = (x4_1 ++ [(⟨(rd_T23 t321 x12_1).f0, (rd_T23 t321 x12_1).f1⟩ : S23)]) := ⟨_, rfl⟩
         replace H : (spec_OwnMirrors.l0 k1 a0 y338 t321 (t321.length : Int) (wrap64 (x12_1 + 1))) = some (r1, r2) := by first | (rw [hy338]; with_reducible exact H) | (have H2_ := (Option.bind_some _ _).symm.trans H; rw [hy338]; with_reducible exact H2_) | (have H2_ := (Option.bind_some _ _).symm.trans H; with_reducible exact H2_) | with_reducible exact H | (rw [hy338]; exact H) | exact H
         have Ny338 := Aside0.mk hy338
         clear hy338
         as_aux_lemma =>
          have H' := Aside0.mk H
          clear H
          have p324 : 0 ≤ (x12_1 : Int) := of_decide_eq_true (by first | (with_reducible assumption) | assumption)
          have q324 : x12_1 < (t321.length : Int) := of_decide_eq_true (by first | (with_reducible assumption) | assumption)
          obtain ⟨ad324, e324, hx324_0, hx324_1⟩ := at_T23 (Kd.R_reads' HO_10.out).2.2 x12_1 p324 q324
          cases e324
          replace p324 := eq_true p324
          replace q324 := eq_true q324
          try go_wp2_with (first | ((with_reducible refine gate_dst (N := 6) rfl ?_); refine be_ (N := 6) (cs := #[.int .i64 0, .int .i64 0]) (t := 23) ?_; intro gb325 hg w15 hbox hb; have BK325 := Aside0.mk (hbox); have GW325 := ge_ HB hg; have GE325 := ge_ HB hg; replace HO_4 := Aside0.mk (Kd.R_below (Kd.R_elderB (by (with_reducible repeat (first | apply Kd.R_alloc | apply Kd.R_drewN | apply Kd.R_drew)); exact HO_4.out) gb325 (Nat.le_of_eq hg.symm)) hb); replace HO_10 := Aside0.mk (Kd.R_below (Kd.R_elderB (by (with_reducible repeat (first | apply Kd.R_alloc | apply Kd.R_drewN | apply Kd.R_drew)); exact HO_10.out) gb325 (Nat.le_of_eq hg.symm)) hb); replace HB := hs HB hb; clear hb hbox hg; have hcz16_0 := cz_ BK325 0 (.int .i64 0); have hcz16_1 := cz_ BK325 1 (.int .i64 0); have hfz16_0 := blk_frozen BK325.out 0; have hfz16_1 := blk_frozen BK325.out 1))
          have n0_ : Aside0 (Kd.R k23 23 ((w15.setCell ⟨gb325, 0, none⟩ (.int .i64 ((rd_T23 t321 x12_1).f0))).setCell ⟨gb325, 1, none⟩ (.int .i64 ((rd_T23 t321 x12_1).f1))) w.heap.size (fun k_ => some k_ ≠ (.slice (some ad324) t321.length co6 : Value).ownBlock ∧ k_ ≠ gb325) u4 x4_1) := ⟨by (with_reducible repeat (first | apply Kd.R_alloc | apply Kd.R_drewN | apply Kd.R_drew)); exact Kd.R_mono (Kd.R_far (p := ⟨gb325, 1, none⟩) (Kd.R_far (p := ⟨gb325, 0, none⟩) (Kd.R_mono HO_4.out (fun k_ hk => (⟨hk, hk.2⟩ : _ ∧ k_ ≠ gb325))) (fun _ hk => hk.2) (.int .i64 ((rd_T23 t321 x12_1).f0))) (fun _ hk => hk.2) (.int .i64 ((rd_T23 t321 x12_1).f1))) (fun _ hk => ⟨hk.1.1, hk.1.2⟩)⟩
          have n1_ : Aside0 (Kd.R k23 23 ((w15.setCell ⟨gb325, 0, none⟩ (.int .i64 ((rd_T23 t321 x12_1).f0))).setCell ⟨gb325, 1, none⟩ (.int .i64 ((rd_T23 t321 x12_1).f1))) w.heap.size (fun k_ => some k_ ≠ (u4 : Value).ownBlock ∧ k_ ≠ gb325) (.slice (some ad324) t321.length co6) t321) := ⟨by (with_reducible repeat (first | apply Kd.R_alloc | apply Kd.R_drewN | apply Kd.R_drew)); exact Kd.R_mono (Kd.R_far (p := ⟨gb325, 1, none⟩) (Kd.R_far (p := ⟨gb325, 0, none⟩) (Kd.R_mono HO_10.out (fun k_ hk => (⟨hk, hk.2⟩ : _ ∧ k_ ≠ gb325))) (fun _ hk => hk.2) (.int .i64 ((rd_T23 t321 x12_1).f0))) (fun _ hk => hk.2) (.int .i64 ((rd_T23 t321 x12_1).f1))) (fun _ hk => ⟨hk.1.1, hk.1.2⟩)⟩
          have n2_ : Aside0 (((w15.setCell ⟨gb325, 0, none⟩ (.int .i64 ((rd_T23 t321 x12_1).f0))).setCell ⟨gb325, 1, none⟩ (.int .i64 ((rd_T23 t321 x12_1).f1))).heap[gb325]? = some (.cells #[.int .i64 ((rd_T23 t321 x12_1).f0), .int .i64 ((rd_T23 t321 x12_1).f1)] 23 (0, 0))) := ⟨by (with_reducible repeat (first | refine blk_drewN ?_ _ | refine blk_drew ?_ | refine blk_alloc ?_ _)); refine blk_put (cs := #[.int .i64 ((rd_T23 t321 x12_1).f0), .int .i64 0]) ?_ 1 _ rfl; (with_reducible repeat (first | refine blk_drewN ?_ _ | refine blk_drew ?_ | refine blk_alloc ?_ _)); refine blk_put (cs := #[.int .i64 0, .int .i64 0]) ?_ 0 _ rfl; (with_reducible repeat (first | refine blk_drewN ?_ _ | refine blk_drew ?_ | refine blk_alloc ?_ _)); exact BK325.out⟩
          have n3_ : Aside0 (Below w.heap.size w ((w15.setCell ⟨gb325, 0, none⟩ (.int .i64 ((rd_T23 t321 x12_1).f0))).setCell ⟨gb325, 1, none⟩ (.int .i64 ((rd_T23 t321 x12_1).f1)))) := hb_ HB
          (try clear HO_4)
          (try clear HO_10)
          (try clear BK325)
          (try clear HB)
          generalize ((w15.setCell ⟨gb325, 0, none⟩ (.int .i64 ((rd_T23 t321 x12_1).f0))).setCell ⟨gb325, 1, none⟩ (.int .i64 ((rd_T23 t321 x12_1).f1))) = w17 at n0_ n1_ n2_ n3_ ⊢
          have HO_4 := n0_
          have HO_10 := n1_
          have BK325 := n2_
          have HB := n3_
          clear n0_ n1_ n2_ n3_
          replace HO_4 := Aside0.mk (Kd.R_drew HO_4.out)
          replace HO_10 := Aside0.mk (Kd.R_drew HO_10.out)
          replace BK325 := Aside0.mk (blk_drew BK325.out)
          replace HB := Aside0.mk (below_drew1 HB.out)
          refine start_ (n := 8) (S := fun w' => w'.cell? ⟨gb325, 0, none⟩ = some (.int .i64 ((rd_T23 t321 x12_1).f0)) ∧ w'.cell? ⟨gb325, 1, none⟩ = some (.int .i64 ((rd_T23 t321 x12_1).f1))) (ds := []) #[false, false, false, false, false, false, false, false] (by kernel_rfl) rfl rfl ⟨(blk_cell BK325.out 0).trans rfl, (blk_cell BK325.out 1).trans rfl⟩ (fun hHeld => ?_); refine with_tabW spec_OwnMirrors.tab7 spec_OwnMirrors.bits7 (fun HT_ HW_ => ?_)
          generalize w17.drew = w18 at HO_4 HO_10 BK325 HB hHeld ⊢
          refine pu_ 0 (some 16) HT_.out ?_
          refine pu_ 4 (some 20) HT_.out ?_
          refine take_ (i := 1) (N := some 17) (v := ?_) (a' := ?_) #[true, true, false, false, true, false, false, false] rfl rfl (take_ofW HT_.out HW_.out (by kernel_rfl)) (fun _ _ _ h => h) (Or.inl ⟨by rfl, ?_⟩) hHeld ?_ ?_
          rotate_left
          ·
           rintro w' ⟨s0, s1⟩
           go_simp
           with_reducible rfl
          rotate_left
          ·
           simp only [Act.put, List.setIfInBounds_toArray, List.set_cons_zero, List.set_cons_succ, i64_w, i32_w]
           rfl
          refine take_ (i := 5) (N := some 21) (v := ?_) (a' := ?_) #[true, true, false, false, true, true, false, false] rfl rfl (take_ofW HT_.out HW_.out (by kernel_rfl)) (fun _ _ _ h => h) (Or.inl ⟨by rfl, ?_⟩) hHeld ?_ ?_
          rotate_left
          ·
           rintro w' ⟨s0, s1⟩
           go_simp
           with_reducible rfl
          rotate_left
          ·
           simp only [Act.put, List.setIfInBounds_toArray, List.set_cons_zero, List.set_cons_succ, i64_w, i32_w]
           rfl
          refine one_ (i := 2) (N := some 18) #[true, true, true, false, true, true, false, false] rfl rfl (one_of HT_.out (by kernel_rfl)) (by decide) (fun K hK => ?_)
          refine goes_ Try.func46 (by kernel_rfl) rfl #[.int .i64 a0, .agg #[.int .i64 ((rd_T23 t321 x12_1).f0), .int .i64 ((rd_T23 t321 x12_1).f1)]] (by rfl) rfl rfl (by (try simp only [List.map_toArray, List.map_cons, List.map_nil]); first | done | rfl | (simp only [List.length_drop, List.length_take]; rfl)) ?_
          with_reducible refine (spec_seOf.calls k1 a0 ((rd_T23 t321 x12_1).f0) ((rd_T23 t321 x12_1).f1) t326 t327 t328 t329 _ A10.out).mono ?_
          rintro e w19 ⟨rfl, hb⟩
          refine ⟨_, rfl, ?_⟩
          replace HO_4 := hr_ HO_4 hb
          replace HO_10 := hr_ HO_10 hb
          replace BK325 := bb BK325 hb
          replace HB := hs HB hb
          (try clear hb)
          (try clear hb2)
          (try clear hk)
          (try clear hi)
          refine hK.out _ _ ⟨(blk_cell BK325.out 0).trans rfl, (blk_cell BK325.out 1).trans rfl⟩ (fun hHeld => ?_)
          clear hK K
          refine norm_ (a' := ?_) ?_ ?_
          rotate_left
          ·
           show Act.put _ (some 18) _ = _
           simp only [Act.put, List.setIfInBounds_toArray, List.set_cons_zero, List.set_cons_succ, i64_w, i32_w]
           rfl
          refine one_ (i := 3) (N := some 19) #[true, true, true, true, true, true, false, false] rfl rfl (one_of HT_.out (by kernel_rfl)) (by decide) (fun K hK => ?_)
          refine goes_ Try.func59 (by kernel_rfl) rfl #[.agg #[.int .i64 t326, .int .i64 t327, .int .i64 t328, .int .i64 t329]] (by rfl) rfl rfl (by (try simp only [List.map_toArray, List.map_cons, List.map_nil]); first | done | rfl | (simp only [List.length_drop, List.length_take]; rfl)) ?_
          with_reducible refine (spec_seMirror.calls k1 t326 t327 t328 t329 t330 t331 t332 t333 _ A11.out).mono ?_
          rintro e w20 ⟨rfl, hb⟩
          refine ⟨_, rfl, ?_⟩
          replace HO_4 := hr_ HO_4 hb
          replace HO_10 := hr_ HO_10 hb
          replace BK325 := bb BK325 hb
          replace HB := hs HB hb
          (try clear hb)
          (try clear hb2)
          (try clear hk)
          (try clear hi)
          refine hK.out _ _ ⟨(blk_cell BK325.out 0).trans rfl, (blk_cell BK325.out 1).trans rfl⟩ (fun hHeld => ?_)
          clear hK K
          refine norm_ (a' := ?_) ?_ ?_
          rotate_left
          ·
           show Act.put _ (some 19) _ = _
           simp only [Act.put, List.setIfInBounds_toArray, List.set_cons_zero, List.set_cons_succ, i64_w, i32_w]
           rfl
          refine one_ (i := 6) (N := some 22) #[true, true, true, true, true, true, true, false] rfl rfl (one_of HT_.out (by kernel_rfl)) (by decide) (fun K hK => ?_)
          refine goes_ Try.func46 (by kernel_rfl) rfl #[.int .i64 a0, .agg #[.int .i64 ((rd_T23 t321 x12_1).f0), .int .i64 ((rd_T23 t321 x12_1).f1)]] (by rfl) rfl rfl (by (try simp only [List.map_toArray, List.map_cons, List.map_nil]); first | done | rfl | (simp only [List.length_drop, List.length_take]; rfl)) ?_
          with_reducible refine (spec_seOf.calls k1 a0 ((rd_T23 t321 x12_1).f0) ((rd_T23 t321 x12_1).f1) t334 t335 t336 t337 _ A12.out).mono ?_
          rintro e w21 ⟨rfl, hb⟩
          refine ⟨_, rfl, ?_⟩
          replace HO_4 := hr_ HO_4 hb
          replace HO_10 := hr_ HO_10 hb
          replace BK325 := bb BK325 hb
          replace HB := hs HB hb
          (try clear hb)
          (try clear hb2)
          (try clear hk)
          (try clear hi)
          refine hK.out _ _ ⟨(blk_cell BK325.out 0).trans rfl, (blk_cell BK325.out 1).trans rfl⟩ (fun hHeld => ?_)
          clear hK K
          refine norm_ (a' := ?_) ?_ ?_
          rotate_left
          ·
           show Act.put _ (some 22) _ = _
           simp only [Act.put, List.setIfInBounds_toArray, List.set_cons_zero, List.set_cons_succ, i64_w, i32_w]
           rfl
          refine pu_ 7 (some 23) HT_.out ?_
          refine done_ (done_of HT_.out (by kernel_rfl)) ?_
          have hcz22_0 := cz_ BK325 0 (.int .i64 ((rd_T23 t321 x12_1).f0))
          have hcz22_1 := cz_ BK325 1 (.int .i64 ((rd_T23 t321 x12_1).f1))
          have hfz22_0 := blk_frozen BK325.out 0
          have hfz22_1 := blk_frozen BK325.out 1
          try go_wp2_with (first | ((with_reducible refine gate_builtin (b := .append) (xs := #[.tmp 24, .tmp 26]) rfl ?_); at_builtin; refine Kd.R_append k23 (w0 := w) w.heap.size rfl (.tmp 24) (.tmp 26) 34 23 (.agg #[(.int .i64 0), (.int .i64 0)]) 16 rfl Try.underlying34 info23 rfl (by decide) (by omega) u4 x4_1 (⟨(rd_T23 t321 x12_1).f0, (rd_T23 t321 x12_1).f1⟩ : S23) [.int .i64 ((rd_T23 t321 x12_1).f0), .int .i64 ((rd_T23 t321 x12_1).f1)] (fun k_ => some k_ ≠ (.slice (some ad324) t321.length co6 : Value).ownBlock ∧ k_ ≠ gb325) (fun _ => False) rfl rfl ?aP (fun _ hk => hk.elim) ?aF ?aO ?aB ?aS ?aL ?_; (case aP => exact k23_mkM _ _ _ (⟨(rd_T23 t321 x12_1).f0, (rd_T23 t321 x12_1).f1⟩ : S23)); (case aB => exact (ho_ HB)); (case aF => exact (fun k_ hk => ⟨Kd.fresh' (Kd.R_lt (by (with_reducible repeat (first | apply Kd.R_alloc | apply Kd.R_drewN | apply Kd.R_drew)); exact HO_10.out)) k_ hk, Kd.freshB (g := gb325) (o := .cells #[.int .i64 ((rd_T23 t321 x12_1).f0), .int .i64 ((rd_T23 t321 x12_1).f1)] 23 (0, 0)) (by (with_reducible repeat (first | refine blk_drewN ?_ _ | refine blk_drew ?_ | refine blk_alloc ?_ _)); exact BK325.out) k_ hk⟩)); (case aO => exact (by (with_reducible repeat (first | apply Kd.R_alloc | apply Kd.R_drewN | apply Kd.R_drew)); exact HO_4.out)); (case aS => exact (bs_ HB)); (case aL => have := LMc14.out; omega); intro v339 w23 ho hb hg hat; rw [← Ny338.out] at ho; have n0_ := Aside0.mk (Kd.R_after (ok := (fun k_ => k_ ≠ gb325)) (by (with_reducible repeat (first | apply Kd.R_alloc | apply Kd.R_drewN | apply Kd.R_drew)); exact Kd.R_mono HO_10.out (fun _ hk => ⟨hk.2, hk.1⟩)) hg hat); have n1_ := Aside0.mk (blk_grown (g := gb325) (o := .cells #[.int .i64 ((rd_T23 t321 x12_1).f0), .int .i64 ((rd_T23 t321 x12_1).f1)] 23 (0, 0)) (by (with_reducible repeat (first | refine blk_drewN ?_ _ | refine blk_drew ?_ | refine blk_alloc ?_ _)); exact BK325.out) hg (Kd.R_away HO_4.out (fun _ hk => hk.2))); have n2_ := Aside0.mk (hb); have n3_ := Aside0.mk (ho); clear HO_10; clear BK325; clear HB; clear HO_4; have HO_10 := n0_; have BK325 := n1_; have HB := n2_; have HO340 := n3_; clear n0_ n1_ n2_ n3_; clear ho hb hg hat))
          go_roundg k1
          case measure => have := HK1.out; omega
          case rel => exact ⟨(y338), (wrap64 (x12_1 + 1)), (by first | rfl | (simp; done) | (simp [*]; done)), H', ⟨by have := HK1.out; omega⟩, ⟨by (with_reducible repeat (first | apply Kd.R_alloc | apply Kd.R_drewN | apply Kd.R_drew)); exact Kd.R_mono HO340.out (fun _ hk => hk.1)⟩, ⟨by (with_reducible repeat (first | apply Kd.R_alloc | apply Kd.R_drewN | apply Kd.R_drew)); exact Kd.R_mono HO_10.out (fun _ hk => hk.2)⟩, hb_ HB⟩
        ·
         rw [if_neg c14] at H
         exact absurd H (by simp)
       ·
        rw [if_neg c13] at H
        have c13b0 : ((t330 == t334 && (t331 == t335)) && ((t332 == t336 && (t333 == t337)))) = false := by simpa using c13
        clear c13
        as_aux_lemma =>
         have H' := Aside0.mk H
         clear H
         have p324 : 0 ≤ (x12_1 : Int) := of_decide_eq_true (by first | (with_reducible assumption) | assumption)
         have q324 : x12_1 < (t321.length : Int) := of_decide_eq_true (by first | (with_reducible assumption) | assumption)
         obtain ⟨ad324, e324, hx324_0, hx324_1⟩ := at_T23 (Kd.R_reads' HO_10.out).2.2 x12_1 p324 q324
         cases e324
         replace p324 := eq_true p324
         replace q324 := eq_true q324
         try go_wp2_with (first | ((with_reducible refine gate_dst (N := 6) rfl ?_); refine be_ (N := 6) (cs := #[.int .i64 0, .int .i64 0]) (t := 23) ?_; intro gb325 hg w24 hbox hb; have BK325 := Aside0.mk (hbox); have GW325 := ge_ HB hg; have GE325 := ge_ HB hg; replace HO_4 := Aside0.mk (Kd.R_below (Kd.R_elderB (by (with_reducible repeat (first | apply Kd.R_alloc | apply Kd.R_drewN | apply Kd.R_drew)); exact HO_4.out) gb325 (Nat.le_of_eq hg.symm)) hb); replace HO_10 := Aside0.mk (Kd.R_below (Kd.R_elderB (by (with_reducible repeat (first | apply Kd.R_alloc | apply Kd.R_drewN | apply Kd.R_drew)); exact HO_10.out) gb325 (Nat.le_of_eq hg.symm)) hb); replace HB := hs HB hb; clear hb hbox hg; have hcz25_0 := cz_ BK325 0 (.int .i64 0); have hcz25_1 := cz_ BK325 1 (.int .i64 0); have hfz25_0 := blk_frozen BK325.out 0; have hfz25_1 := blk_frozen BK325.out 1))
         have n0_ : Aside0 (Kd.R k23 23 ((w24.setCell ⟨gb325, 0, none⟩ (.int .i64 ((rd_T23 t321 x12_1).f0))).setCell ⟨gb325, 1, none⟩ (.int .i64 ((rd_T23 t321 x12_1).f1))) w.heap.size (fun k_ => some k_ ≠ (.slice (some ad324) t321.length co6 : Value).ownBlock ∧ k_ ≠ gb325) u4 x4_1) := ⟨by (with_reducible repeat (first | apply Kd.R_alloc | apply Kd.R_drewN | apply Kd.R_drew)); exact Kd.R_mono (Kd.R_far (p := ⟨gb325, 1, none⟩) (Kd.R_far (p := ⟨gb325, 0, none⟩) (Kd.R_mono HO_4.out (fun k_ hk => (⟨hk, hk.2⟩ : _ ∧ k_ ≠ gb325))) (fun _ hk => hk.2) (.int .i64 ((rd_T23 t321 x12_1).f0))) (fun _ hk => hk.2) (.int .i64 ((rd_T23 t321 x12_1).f1))) (fun _ hk => ⟨hk.1.1, hk.1.2⟩)⟩
         have n1_ : Aside0 (Kd.R k23 23 ((w24.setCell ⟨gb325, 0, none⟩ (.int .i64 ((rd_T23 t321 x12_1).f0))).setCell ⟨gb325, 1, none⟩ (.int .i64 ((rd_T23 t321 x12_1).f1))) w.heap.size (fun k_ => some k_ ≠ (u4 : Value).ownBlock ∧ k_ ≠ gb325) (.slice (some ad324) t321.length co6) t321) := ⟨by (with_reducible repeat (first | apply Kd.R_alloc | apply Kd.R_drewN | apply Kd.R_drew)); exact Kd.R_mono (Kd.R_far (p := ⟨gb325, 1, none⟩) (Kd.R_far (p := ⟨gb325, 0, none⟩) (Kd.R_mono HO_10.out (fun k_ hk => (⟨hk, hk.2⟩ : _ ∧ k_ ≠ gb325))) (fun _ hk => hk.2) (.int .i64 ((rd_T23 t321 x12_1).f0))) (fun _ hk => hk.2) (.int .i64 ((rd_T23 t321 x12_1).f1))) (fun _ hk => ⟨hk.1.1, hk.1.2⟩)⟩
         have n2_ : Aside0 (((w24.setCell ⟨gb325, 0, none⟩ (.int .i64 ((rd_T23 t321 x12_1).f0))).setCell ⟨gb325, 1, none⟩ (.int .i64 ((rd_T23 t321 x12_1).f1))).heap[gb325]? = some (.cells #[.int .i64 ((rd_T23 t321 x12_1).f0), .int .i64 ((rd_T23 t321 x12_1).f1)] 23 (0, 0))) := ⟨by (with_reducible repeat (first | refine blk_drewN ?_ _ | refine blk_drew ?_ | refine blk_alloc ?_ _)); refine blk_put (cs := #[.int .i64 ((rd_T23 t321 x12_1).f0), .int .i64 0]) ?_ 1 _ rfl; (with_reducible repeat (first | refine blk_drewN ?_ _ | refine blk_drew ?_ | refine blk_alloc ?_ _)); refine blk_put (cs := #[.int .i64 0, .int .i64 0]) ?_ 0 _ rfl; (with_reducible repeat (first | refine blk_drewN ?_ _ | refine blk_drew ?_ | refine blk_alloc ?_ _)); exact BK325.out⟩
         have n3_ : Aside0 (Below w.heap.size w ((w24.setCell ⟨gb325, 0, none⟩ (.int .i64 ((rd_T23 t321 x12_1).f0))).setCell ⟨gb325, 1, none⟩ (.int .i64 ((rd_T23 t321 x12_1).f1)))) := hb_ HB
         (try clear HO_4)
         (try clear HO_10)
         (try clear BK325)
         (try clear HB)
         generalize ((w24.setCell ⟨gb325, 0, none⟩ (.int .i64 ((rd_T23 t321 x12_1).f0))).setCell ⟨gb325, 1, none⟩ (.int .i64 ((rd_T23 t321 x12_1).f1))) = w26 at n0_ n1_ n2_ n3_ ⊢
         have HO_4 := n0_
         have HO_10 := n1_
         have BK325 := n2_
         have HB := n3_
         clear n0_ n1_ n2_ n3_
         replace HO_4 := Aside0.mk (Kd.R_drew HO_4.out)
         replace HO_10 := Aside0.mk (Kd.R_drew HO_10.out)
         replace BK325 := Aside0.mk (blk_drew BK325.out)
         replace HB := Aside0.mk (below_drew1 HB.out)
         refine start_ (n := 8) (S := fun w' => w'.cell? ⟨gb325, 0, none⟩ = some (.int .i64 ((rd_T23 t321 x12_1).f0)) ∧ w'.cell? ⟨gb325, 1, none⟩ = some (.int .i64 ((rd_T23 t321 x12_1).f1))) (ds := []) #[false, false, false, false, false, false, false, false] (by kernel_rfl) rfl rfl ⟨(blk_cell BK325.out 0).trans rfl, (blk_cell BK325.out 1).trans rfl⟩ (fun hHeld => ?_); refine with_tabW spec_OwnMirrors.tab7 spec_OwnMirrors.bits7 (fun HT_ HW_ => ?_)
         generalize w26.drew = w27 at HO_4 HO_10 BK325 HB hHeld ⊢
         refine pu_ 0 (some 16) HT_.out ?_
         refine pu_ 4 (some 20) HT_.out ?_
         refine take_ (i := 1) (N := some 17) (v := ?_) (a' := ?_) #[true, true, false, false, true, false, false, false] rfl rfl (take_ofW HT_.out HW_.out (by kernel_rfl)) (fun _ _ _ h => h) (Or.inl ⟨by rfl, ?_⟩) hHeld ?_ ?_
         rotate_left
         ·
          rintro w' ⟨s0, s1⟩
          go_simp
          with_reducible rfl
         rotate_left
         ·
          simp only [Act.put, List.setIfInBounds_toArray, List.set_cons_zero, List.set_cons_succ, i64_w, i32_w]
          rfl
         refine take_ (i := 5) (N := some 21) (v := ?_) (a' := ?_) #[true, true, false, false, true, true, false, false] rfl rfl (take_ofW HT_.out HW_.out (by kernel_rfl)) (fun _ _ _ h => h) (Or.inl ⟨by rfl, ?_⟩) hHeld ?_ ?_
         rotate_left
         ·
          rintro w' ⟨s0, s1⟩
          go_simp
          with_reducible rfl
         rotate_left
         ·
          simp only [Act.put, List.setIfInBounds_toArray, List.set_cons_zero, List.set_cons_succ, i64_w, i32_w]
          rfl
         refine one_ (i := 2) (N := some 18) #[true, true, true, false, true, true, false, false] rfl rfl (one_of HT_.out (by kernel_rfl)) (by decide) (fun K hK => ?_)
         refine goes_ Try.func46 (by kernel_rfl) rfl #[.int .i64 a0, .agg #[.int .i64 ((rd_T23 t321 x12_1).f0), .int .i64 ((rd_T23 t321 x12_1).f1)]] (by rfl) rfl rfl (by (try simp only [List.map_toArray, List.map_cons, List.map_nil]); first | done | rfl | (simp only [List.length_drop, List.length_take]; rfl)) ?_
         with_reducible refine (spec_seOf.calls k1 a0 ((rd_T23 t321 x12_1).f0) ((rd_T23 t321 x12_1).f1) t326 t327 t328 t329 _ A10.out).mono ?_
         rintro e w28 ⟨rfl, hb⟩
         refine ⟨_, rfl, ?_⟩
         replace HO_4 := hr_ HO_4 hb
         replace HO_10 := hr_ HO_10 hb
         replace BK325 := bb BK325 hb
         replace HB := hs HB hb
         (try clear hb)
         (try clear hb2)
         (try clear hk)
         (try clear hi)
         refine hK.out _ _ ⟨(blk_cell BK325.out 0).trans rfl, (blk_cell BK325.out 1).trans rfl⟩ (fun hHeld => ?_)
         clear hK K
         refine norm_ (a' := ?_) ?_ ?_
         rotate_left
         ·
          show Act.put _ (some 18) _ = _
          simp only [Act.put, List.setIfInBounds_toArray, List.set_cons_zero, List.set_cons_succ, i64_w, i32_w]
          rfl
         refine one_ (i := 3) (N := some 19) #[true, true, true, true, true, true, false, false] rfl rfl (one_of HT_.out (by kernel_rfl)) (by decide) (fun K hK => ?_)
         refine goes_ Try.func59 (by kernel_rfl) rfl #[.agg #[.int .i64 t326, .int .i64 t327, .int .i64 t328, .int .i64 t329]] (by rfl) rfl rfl (by (try simp only [List.map_toArray, List.map_cons, List.map_nil]); first | done | rfl | (simp only [List.length_drop, List.length_take]; rfl)) ?_
         with_reducible refine (spec_seMirror.calls k1 t326 t327 t328 t329 t330 t331 t332 t333 _ A11.out).mono ?_
         rintro e w29 ⟨rfl, hb⟩
         refine ⟨_, rfl, ?_⟩
         replace HO_4 := hr_ HO_4 hb
         replace HO_10 := hr_ HO_10 hb
         replace BK325 := bb BK325 hb
         replace HB := hs HB hb
         (try clear hb)
         (try clear hb2)
         (try clear hk)
         (try clear hi)
         refine hK.out _ _ ⟨(blk_cell BK325.out 0).trans rfl, (blk_cell BK325.out 1).trans rfl⟩ (fun hHeld => ?_)
         clear hK K
         refine norm_ (a' := ?_) ?_ ?_
         rotate_left
         ·
          show Act.put _ (some 19) _ = _
          simp only [Act.put, List.setIfInBounds_toArray, List.set_cons_zero, List.set_cons_succ, i64_w, i32_w]
          rfl
         refine one_ (i := 6) (N := some 22) #[true, true, true, true, true, true, true, false] rfl rfl (one_of HT_.out (by kernel_rfl)) (by decide) (fun K hK => ?_)
         refine goes_ Try.func46 (by kernel_rfl) rfl #[.int .i64 a0, .agg #[.int .i64 ((rd_T23 t321 x12_1).f0), .int .i64 ((rd_T23 t321 x12_1).f1)]] (by rfl) rfl rfl (by (try simp only [List.map_toArray, List.map_cons, List.map_nil]); first | done | rfl | (simp only [List.length_drop, List.length_take]; rfl)) ?_
         with_reducible refine (spec_seOf.calls k1 a0 ((rd_T23 t321 x12_1).f0) ((rd_T23 t321 x12_1).f1) t334 t335 t336 t337 _ A12.out).mono ?_
         rintro e w30 ⟨rfl, hb⟩
         refine ⟨_, rfl, ?_⟩
         replace HO_4 := hr_ HO_4 hb
         replace HO_10 := hr_ HO_10 hb
         replace BK325 := bb BK325 hb
         replace HB := hs HB hb
         (try clear hb)
         (try clear hb2)
         (try clear hk)
         (try clear hi)
         refine hK.out _ _ ⟨(blk_cell BK325.out 0).trans rfl, (blk_cell BK325.out 1).trans rfl⟩ (fun hHeld => ?_)
         clear hK K
         refine norm_ (a' := ?_) ?_ ?_
         rotate_left
         ·
          show Act.put _ (some 22) _ = _
          simp only [Act.put, List.setIfInBounds_toArray, List.set_cons_zero, List.set_cons_succ, i64_w, i32_w]
          rfl
         refine pu_ 7 (some 23) HT_.out ?_
         refine done_ (done_of HT_.out (by kernel_rfl)) ?_
         try go_wp2
         go_roundg k1
         case measure => have := HK1.out; omega
         case rel => exact ⟨(x4_1), (wrap64 (x12_1 + 1)), (by first | rfl | (simp; done) | (simp [*]; done)), H', ⟨by have := HK1.out; omega⟩, ⟨by (with_reducible repeat (first | apply Kd.R_alloc | apply Kd.R_drewN | apply Kd.R_drew)); exact Kd.R_mono HO_4.out (fun _ hk => hk.1)⟩, ⟨by (with_reducible repeat (first | apply Kd.R_alloc | apply Kd.R_drewN | apply Kd.R_drew)); exact Kd.R_mono HO_10.out (fun _ hk => hk.1)⟩, hb_ HB⟩
      ·
       rw [if_neg c9] at H
       exact absurd H (by simp)
     ·
      rw [if_neg c8] at H
      exact absurd H (by simp)
    ·
     rw [if_neg c7] at H
     have c7b0 : decide (x12_1 < (t321.length : Int)) = false := decide_eq_false c7
     clear c7
     as_aux_lemma =>
      simp only [Option.some.injEq, Prod.mk.injEq] at H
      obtain ⟨rfl, rfl⟩ := H
      go_wp2
      go_ret2
      exact ⟨_, by first | rfl | (simp [errW_none, errW_some] <;> rfl) | (simp [*, errW_none, errW_some] <;> rfl), by (with_reducible repeat (first | apply Kd.R_alloc | apply Kd.R_drewN | apply Kd.R_drew)); exact Kd.R_mono HO_4.out (fun _ hk => trivial), (ho_ HB)⟩
 ·
  replace c3 := Bool.eq_false_iff.mpr c3
  subst c3
  have H1 : (some (([] : List (S23)), false)) = some (r1, r2) := by rw [if_neg (show ¬ (false = true) by decide)] at H; exact H
  clear H
  have H := H1
  clear H1
  as_aux_lemma =>
   simp only [Option.some.injEq, Prod.mk.injEq] at H
   obtain ⟨rfl, rfl⟩ := H
   go_enter Try.func21, Try.ntmps21
   go_wp2_with (first | ((with_reducible refine gate_callee (f := 57) rfl ?_); refine gs_ (some 8) Try.func57 #[.int .i64 a0] ?_; (with_reducible refine (spec_diHours.calls a0 false _ A2.out).mono ?_); rintro e w' ⟨rfl, ⟨nd, rfl⟩⟩; refine ⟨_, rfl, ?_⟩))
   go_ret2
   exact ⟨_, by first | rfl | (simp [errW_none, errW_some] <;> rfl) | (simp [*, errW_none, errW_some] <;> rfl), by first | exact Kd.R_nil _ _ _ _ _ | exact Kd.N_nil _ _ _ _ _ | exact Kd.V_nil _ _ _ _ _ | exact Kd.Q_nil _ _ _ _ _ | exact Kd.S_nil _ _ _ _ _, (ho_ HB)⟩

/-! ### laws_wTurns: function 22 -/
def laws_wTurns.l0 : Nat → List (S23) → List (S23) → Int → Int → Option (Bool)
 | 0, _, _, _, _ => none
 | k + 1, x0, x1, x12, x13 => if x13 < x12 then (if 0 ≤ x13 then (if x13 < (x0.length : Int) then (if x13 < (x1.length : Int) then (if (!(((rd_T23 x0 x13).f0) == ((rd_T23 x1 x13).f0)) || (!(((rd_T23 x0 x13).f1) == ((rd_T23 x1 x13).f1)))) = true then (some false) else (laws_wTurns.l0 k x0 x1 x12 (wrap64 (x13 + 1)))) else (none)) else (none)) else (none)) else (some true)
def laws_wTurns.f (k : Nat) (l0 : List (S23)) (l1 : List (S23)) : Option (Bool) := if (l0.length : Int) = (l1.length : Int) then (laws_wTurns.l0 k l0 l1 (l0.length : Int) 0) else (some false)
theorem laws_wTurns.mono_l : ∀ k, (∀ y0 y1 y2 y3, LeO (laws_wTurns.l0 k y0 y1 y2 y3) (laws_wTurns.l0 (k + 1) y0 y1 y2 y3))
 | 0 => fun _ _ _ _ r h => by simp [laws_wTurns.l0] at h
 | k + 1 => by
  have ih0 := laws_wTurns.mono_l k
  ·
   intro y0 y1 y2 y3
   unfold laws_wTurns.l0
   repeat' first
   | (with_reducible exact ih0 _ _ _ _)
   | (with_reducible exact LeO.refl _)
   | (with_reducible exact LeO.none _)
   | (with_reducible refine LeO.ite ?_ ?_)
   | (with_reducible refine LeO.bind ?_ (fun _ => ?_))
   | exact ih0 _ _ _ _
   | exact LeO.none _
   | refine LeO.ite ?_ ?_
   | refine LeO.bind ?_ (fun _ => ?_)
theorem laws_wTurns.mono : ∀ a0 a1 k, LeO (laws_wTurns.f k a0 a1) (laws_wTurns.f (k + 1) a0 a1) := by
 intro a0 a1 k
 have ih0 := laws_wTurns.mono_l k
 unfold laws_wTurns.f
 repeat' first
   | (with_reducible exact ih0 _ _ _ _)
   | (with_reducible exact LeO.refl _)
   | (with_reducible exact LeO.none _)
   | (with_reducible refine LeO.ite ?_ ?_)
   | (with_reducible refine LeO.bind ?_ (fun _ => ?_))
   | exact ih0 _ _ _ _
   | exact LeO.none _
   | refine LeO.ite ?_ ?_
   | refine LeO.bind ?_ (fun _ => ?_)
set_option maxHeartbeats 8000000 in
set_option maxRecDepth 100000 in
theorem laws_wTurns.calls (k : Nat) (A0 : Option Addr) (c0 : Nat) (l0 : List (S23)) (A1 : Option Addr) (c1 : Nat) (l1 : List (S23)) (r : Bool) (w : World) (hr0 : Kd.C k23 w A0 l0.length l0) (hc0 : l0.length ≤ c0) (hr1 : Kd.C k23 w A1 l1.length l1) (hc1 : l1.length ≤ c1) (h : laws_wTurns.f k l0 l1 = some r) :
  Calls Try.prog 22 #[.slice A0 l0.length c0, .slice A1 l1.length c1] w fun e w' => e = .returned (.bool r) ∧ Drawn0 w w' := by
 have hu23 := Try.underlying23
 have HR0 := Aside0.mk hr0
 have HC0 := Aside0.mk hc0
 clear hr0 hc0
 have HR1 := Aside0.mk hr1
 have HC1 := Aside0.mk hc1
 clear hr1 hc1
 have H : (if (l0.length : Int) = (l1.length : Int) then (laws_wTurns.l0 k l0 l1 (l0.length : Int) 0) else (some false)) = some r := h
 clear h
 by_cases c3 : (l0.length : Int) = (l1.length : Int)
 ·
  rw [if_pos c3] at H
  have c3b0 : ((l0.length : Int) == (l1.length : Int)) = true := beq_iff_eq.mpr c3
  have c3b1 : ((l0.length : Int) != (l1.length : Int)) = false := bne_eq_false_iff_eq.mpr c3
  have c3b2 : (l0.length == l1.length) = true := by first | simpa using c3 | (simp at c3 ⊢; omega)
  clear c3
  have H' := Aside0.mk H
  clear H
  go_enter Try.func22, Try.ntmps22
  go_wp2
  repeat (go_quiet (fail); try go_wp2)
  go_loopg [13] k (fun kq v13 w' => ∃ (x13_1 : Int), v13 = .int .i64 x13_1 ∧ Aside0 (laws_wTurns.l0 kq l0 l1 (l0.length : Int) x13_1 = some r) ∧ Aside0 (kq ≤ k) ∧ Drawn0 w w')
  case atStart => exact ⟨(0), (by first | rfl | (simp; done) | (simp [*]; done)), H', ⟨Nat.le_refl _⟩, by repeat (first | exact Drawn0.refl _ | apply Drawn0.step)⟩
  case round =>
   clear H'
   try clear c1
   try clear c3
   try clear c3b0
   try clear c3b1
   try clear c3b2
   obtain ⟨x13_1, rfl, HA, HK1, ⟨m1, rfl⟩⟩ := hrel
   cases gk with
   | zero => exact absurd HA.out (by simp [laws_wTurns.l0])
   | succ k1 =>
    have H := HA.out
    clear HA
    simp only [laws_wTurns.l0] at H
    by_cases c4 : x13_1 < (l0.length : Int)
    ·
     rw [if_pos c4] at H
     have c4b0 : decide (x13_1 < (l0.length : Int)) = true := decide_eq_true c4
     clear c4
     by_cases c5 : 0 ≤ x13_1
     ·
      rw [if_pos c5] at H
      have c5b0 : decide (0 ≤ x13_1) = true := decide_eq_true c5
      clear c5
      by_cases c6 : x13_1 < (l0.length : Int)
      ·
       rw [if_pos c6] at H
       have c6b0 : decide (x13_1 < (l0.length : Int)) = true := decide_eq_true c6
       clear c6
       by_cases c7 : x13_1 < (l1.length : Int)
       ·
        rw [if_pos c7] at H
        have c7b0 : decide (x13_1 < (l1.length : Int)) = true := decide_eq_true c7
        clear c7
        by_cases c8 : (!(((rd_T23 l0 x13_1).f0) == ((rd_T23 l1 x13_1).f0)) || (!(((rd_T23 l0 x13_1).f1) == ((rd_T23 l1 x13_1).f1)))) = true
        ·
         rw [if_pos c8] at H
         have c8b0 : (!(((rd_T23 l0 x13_1).f0) == ((rd_T23 l1 x13_1).f0)) || (!(((rd_T23 l0 x13_1).f1) == ((rd_T23 l1 x13_1).f1)))) = true := c8
         clear c8
         as_aux_lemma =>
          obtain rfl := Option.some.inj H
          have p341 : 0 ≤ (x13_1 : Int) := of_decide_eq_true (by first | (with_reducible assumption) | assumption)
          have q341 : x13_1 < (l0.length : Int) := of_decide_eq_true (by first | (with_reducible assumption) | assumption)
          obtain ⟨ad341, e341, hx341_0, hx341_1⟩ := at_T23 HR0.out x13_1 p341 q341
          cases e341
          replace p341 := eq_true p341
          replace q341 := eq_true q341
          have p342 : 0 ≤ (x13_1 : Int) := of_decide_eq_true (by first | (with_reducible assumption) | assumption)
          have q342 : x13_1 < (l1.length : Int) := of_decide_eq_true (by first | (with_reducible assumption) | assumption)
          obtain ⟨ad342, e342, hx342_0, hx342_1⟩ := at_T23 HR1.out x13_1 p342 q342
          cases e342
          replace p342 := eq_true p342
          replace q342 := eq_true q342
          go_wp2
          repeat (go_quiet (fail); try go_wp2)
          go_ret
          exact ⟨by first | rfl | (simp; done) | (simp [*]; done), by repeat (first | exact Drawn0.refl _ | apply Drawn0.step)⟩
        ·
         rw [if_neg c8] at H
         have c8b0 : (!(((rd_T23 l0 x13_1).f0) == ((rd_T23 l1 x13_1).f0)) || (!(((rd_T23 l0 x13_1).f1) == ((rd_T23 l1 x13_1).f1)))) = false := by simpa using c8
         clear c8
         as_aux_lemma =>
          have H' := Aside0.mk H
          clear H
          have p341 : 0 ≤ (x13_1 : Int) := of_decide_eq_true (by first | (with_reducible assumption) | assumption)
          have q341 : x13_1 < (l0.length : Int) := of_decide_eq_true (by first | (with_reducible assumption) | assumption)
          obtain ⟨ad341, e341, hx341_0, hx341_1⟩ := at_T23 HR0.out x13_1 p341 q341
          cases e341
          replace p341 := eq_true p341
          replace q341 := eq_true q341
          have p342 : 0 ≤ (x13_1 : Int) := of_decide_eq_true (by first | (with_reducible assumption) | assumption)
          have q342 : x13_1 < (l1.length : Int) := of_decide_eq_true (by first | (with_reducible assumption) | assumption)
          obtain ⟨ad342, e342, hx342_0, hx342_1⟩ := at_T23 HR1.out x13_1 p342 q342
          cases e342
          replace p342 := eq_true p342
          replace q342 := eq_true q342
          go_wp2
          repeat (go_quiet (fail); try go_wp2)
          go_roundg k1
          case measure => have := HK1.out; omega
          case rel => exact ⟨(wrap64 (x13_1 + 1)), (by first | rfl | (simp; done) | (simp [*]; done)), H', ⟨by have := HK1.out; omega⟩, by repeat (first | exact Drawn0.refl _ | apply Drawn0.step)⟩
       ·
        rw [if_neg c7] at H
        exact absurd H (by simp)
      ·
       rw [if_neg c6] at H
       exact absurd H (by simp)
     ·
      rw [if_neg c5] at H
      exact absurd H (by simp)
    ·
     rw [if_neg c4] at H
     have c4b0 : decide (x13_1 < (l0.length : Int)) = false := decide_eq_false c4
     clear c4
     as_aux_lemma =>
      obtain rfl := Option.some.inj H
      go_wp2
      repeat (go_quiet (fail); try go_wp2)
      go_ret
      exact ⟨by first | rfl | (simp; done) | (simp [*]; done), by repeat (first | exact Drawn0.refl _ | apply Drawn0.step)⟩
 ·
  rw [if_neg c3] at H
  have c3b0 : ((l0.length : Int) == (l1.length : Int)) = false := beq_eq_false_iff_ne.mpr c3
  have c3b1 : ((l0.length : Int) != (l1.length : Int)) = true := bne_iff_ne.mpr c3
  have c3b2 : (l0.length == l1.length) = false := by first | simpa using c3 | (simp at c3 ⊢; omega)
  as_aux_lemma =>
   obtain rfl := Option.some.inj H
   go_enter Try.func22, Try.ntmps22
   go_wp2
   repeat (go_quiet (fail); try go_wp2)
   go_ret
   exact ⟨by first | rfl | (simp; done) | (simp [*]; done), by repeat (first | exact Drawn0.refl _ | apply Drawn0.step)⟩

/-! ### impl_Turn_mirror: function 60 -/
def impl_Turn_mirror.f (k : Nat) (a0_0 : Int) (a0_1 : Int) : Option (Int × Int) := (impl_Turn_times.f k a0_0 a0_1 (-1)).bind fun bt345 => (some (bt345.1, bt345.2))
theorem impl_Turn_mirror.mono : ∀ a0 a1 k, LeO (impl_Turn_mirror.f k a0 a1) (impl_Turn_mirror.f (k + 1) a0 a1) := by
 intro a0 a1 k
 unfold impl_Turn_mirror.f
 repeat' first
   | (with_reducible exact impl_Turn_times.mono _ _ _ _)
   | (with_reducible exact LeO.refl _)
   | (with_reducible exact LeO.none _)
   | (with_reducible refine LeO.ite ?_ ?_)
   | (with_reducible refine LeO.bind ?_ (fun _ => ?_))
   | exact impl_Turn_times.mono _ _ _ _
   | exact LeO.none _
   | refine LeO.ite ?_ ?_
   | refine LeO.bind ?_ (fun _ => ?_)
set_option maxHeartbeats 8000000 in
set_option maxRecDepth 100000 in
theorem impl_Turn_mirror.calls (k : Nat) (a0_0 : Int) (a0_1 : Int) (r1 : Int) (r2 : Int) (w : World) (h : impl_Turn_mirror.f k a0_0 a0_1 = some (r1, r2)) :
  Calls Try.prog 60 #[.agg #[.int .i64 a0_0, .int .i64 a0_1]] w fun e w' => e = .returned (.agg #[.int .i64 r1, .int .i64 r2]) ∧ Below w.heap.size w w' := by
 have hu23 := Try.underlying23
 have HB := Aside0.mk (Below.refl w.heap.size w)
 have H : ((impl_Turn_times.f k a0_0 a0_1 (-1)).bind fun bt345 => (some (bt345.1, bt345.2))) = some (r1, r2) := h
 clear h
 replace H := Option.bind_eq_some_iff.mp H
 obtain ⟨⟨t345, t346⟩, A20, H⟩ := H
 replace H : (some (t345, t346)) = some (r1, r2) := H
 have A2 := Aside0.mk A20
 clear A20
 as_aux_lemma =>
  simp only [Option.some.injEq, Prod.mk.injEq] at H
  obtain ⟨rfl, rfl⟩ := H
  go_enter Try.func60, Try.ntmps60
  go_wp2_with (first | ((with_reducible refine gate_dst (N := 1) rfl ?_); refine be_ (N := 1) (cs := #[.int .i64 a0_0, .int .i64 a0_1]) (t := 23) ?_; intro gb343 hg w3 hbox hb; have BK343 := Aside0.mk (hbox); have GW343 := ge_ HB hg; have GE343 := ge_ HB hg; replace HB := hs HB hb; clear hb hbox hg) | ((with_reducible refine gate_dst (N := 2) rfl ?_); refine be_ (N := 2) (cs := #[.int .i64 0, .int .i64 0]) (t := 23) ?_; intro gb344 hg w4 hbox hb; have BK344 := Aside0.mk (hbox); have GW344 := ge_ HB hg; have GE344 := ge_ HB hg; obtain ⟨NB343_344, NB344_343⟩ := nq_ BK343 hg; replace BK343 := bb BK343 hb; replace HB := hs HB hb; clear hb hbox hg; obtain ⟨hnb5, hnc5⟩ := nn_ NB343_344; have hcz6_0 := cz_ BK343 0 (.int .i64 a0_0); have hcz6_1 := cz_ BK343 1 (.int .i64 a0_1); have hfz6_0 := blk_frozen BK343.out 0; have hfz6_1 := blk_frozen BK343.out 1) | ((with_reducible refine gate_callee (f := 49) rfl ?_); refine gs_ (some 4) Try.func49 #[.agg #[.int .i64 a0_0, .int .i64 a0_1], .int .i64 (-1)] ?_; (with_reducible refine (impl_Turn_times.calls k a0_0 a0_1 (-1) t345 t346 _ A2.out).mono ?_); rintro e w7 ⟨rfl, hb⟩; refine ⟨_, rfl, ?_⟩; replace BK343 := bb BK343 hb; replace BK344 := bb BK344 hb; replace HB := hs HB hb; (try clear hb); (try clear hb2); (try clear hk); (try clear hi); have hcz8_0 := cz_ BK344 0 (.int .i64 0); have hcz8_1 := cz_ BK344 1 (.int .i64 0); have hfz8_0 := blk_frozen BK344.out 0; have hfz8_1 := blk_frozen BK344.out 1))
  refine bodyPost_ret (results_cell_row rfl _ _ gb344 23 #[.int .i64 t345, .int .i64 t346] (0, 0) _ rfl (by (with_reducible repeat (first | refine blk_drewN ?_ _ | refine blk_drew ?_ | refine blk_alloc ?_ _)); refine blk_put (cs := #[.int .i64 t345, .int .i64 0]) ?_ 1 _ rfl; (with_reducible repeat (first | refine blk_drewN ?_ _ | refine blk_drew ?_ | refine blk_alloc ?_ _)); refine blk_put (cs := #[.int .i64 0, .int .i64 0]) ?_ 0 _ rfl; (with_reducible repeat (first | refine blk_drewN ?_ _ | refine blk_drew ?_ | refine blk_alloc ?_ _)); exact BK344.out) Try.underlying23 rfl (by kernel_rfl)) rfl ?_
  exact ⟨by first | rfl | (simp [errW_none, errW_some] <;> rfl) | (simp [*, errW_none, errW_some] <;> rfl), (ho_ HB)⟩

end Go.Proofs.Ytkfcaldjepmffaa.GFnSeenTrueOfAll
