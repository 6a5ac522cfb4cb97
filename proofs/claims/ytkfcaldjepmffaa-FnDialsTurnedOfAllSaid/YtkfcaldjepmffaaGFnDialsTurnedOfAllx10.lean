-- Written by a program of this session (a copy of the kit's print program that takes contracts of one's own); Lean checks it.
import Derived.Test.YtkfcaldjepmffaaGFnDialsTurnedOfAllx0
import Derived.Test.YtkfcaldjepmffaaGFnDialsTurnedOfAllx9
namespace Go.Proofs.Ytkfcaldjepmffaa.GFnDialsTurnedOfAll
open Go.RowKit Go.Proofs.YtkfcaldjepmffaaW.PrintWords Go.Proofs.YtkfcaldjepmffaaW.PrintLast Go.Proofs.YtkfcaldjepmffaaW.PrintMore
attribute [local go_sem] max2_int min2_int max_two min_two max_three min_three max_four min_four   -- for this text's walks alone
set_option linter.unusedVariables false
set_option linter.unusedSimpArgs false

/-! ### impl_Turn_91: function 91 -/
mutual
def impl_Turn_91.l0 : Nat → List (S23) → Int → Int → Int → Option ((List (S23)))
 | 0, _, _, _, _ => none
 | k + 1, x0, x1, x2, x8 => if x8 < x2 then (impl_Turn_91.l1 k x0 x1 x2 x8 x8) else (some x0)
def impl_Turn_91.l1 : Nat → List (S23) → Int → Int → Int → Int → Option ((List (S23)))
 | 0, _, _, _, _, _ => none
 | k + 1, x0, x1, x2, x8, x9 => if x9 > x1 then (if 0 ≤ x9 then (if x9 < (x0.length : Int) then (if 0 ≤ (wrap64 (x9 - 1)) then (if (wrap64 (x9 - 1)) < (x0.length : Int) then ((impl_Turn_compare.f ((rd_T23 x0 x9).f0) ((rd_T23 x0 x9).f1) ((rd_T23 x0 (wrap64 (x9 - 1))).f0) ((rd_T23 x0 (wrap64 (x9 - 1))).f1)).bind fun t310 => (if t310 < 0 then (impl_Turn_91.l1 k ((x0.set (x9 : Int).toNat (⟨(rd_T23 x0 (wrap64 (x9 - 1))).f0, (rd_T23 x0 (wrap64 (x9 - 1))).f1⟩ : S23)).set ((wrap64 (x9 - 1)) : Int).toNat (⟨(rd_T23 x0 x9).f0, (rd_T23 x0 x9).f1⟩ : S23)) x1 x2 x8 (wrap64 (x9 - 1))) else (impl_Turn_91.l0 k x0 x1 x2 (wrap64 (x8 + 1))))) else (none)) else (none)) else (none)) else (none)) else (impl_Turn_91.l0 k x0 x1 x2 (wrap64 (x8 + 1)))
end
def impl_Turn_91.f (k : Nat) (l0 : List (S23)) (a1 : Int) (a2 : Int) : Option ((List (S23))) := impl_Turn_91.l0 k l0 a1 a2 (wrap64 (a1 + 1))
theorem impl_Turn_91.mono_l : ∀ k, (∀ y0 y1 y2 y3, LeO (impl_Turn_91.l0 k y0 y1 y2 y3) (impl_Turn_91.l0 (k + 1) y0 y1 y2 y3)) ∧ (∀ y0 y1 y2 y3 y4, LeO (impl_Turn_91.l1 k y0 y1 y2 y3 y4) (impl_Turn_91.l1 (k + 1) y0 y1 y2 y3 y4))
 | 0 => ⟨fun _ _ _ _ r h => by simp [impl_Turn_91.l0] at h, fun _ _ _ _ _ r h => by simp [impl_Turn_91.l1] at h⟩
 | k + 1 => by
  obtain ⟨ih0, ih1⟩ := impl_Turn_91.mono_l k
  refine ⟨?_, ?_⟩
  ·
   intro y0 y1 y2 y3
   unfold impl_Turn_91.l0
   repeat' first
   | (with_reducible exact ih0 _ _ _ _)
   | (with_reducible exact ih1 _ _ _ _ _)
   | (with_reducible exact LeO.refl _)
   | (with_reducible exact LeO.none _)
   | (with_reducible refine LeO.ite ?_ ?_)
   | (with_reducible refine LeO.bind ?_ (fun _ => ?_))
   | exact ih0 _ _ _ _
   | exact ih1 _ _ _ _ _
   | exact LeO.none _
   | refine LeO.ite ?_ ?_
   | refine LeO.bind ?_ (fun _ => ?_)
  ·
   intro y0 y1 y2 y3 y4
   unfold impl_Turn_91.l1
   repeat' first
   | (with_reducible exact ih0 _ _ _ _)
   | (with_reducible exact ih1 _ _ _ _ _)
   | (with_reducible exact LeO.refl _)
   | (with_reducible exact LeO.none _)
   | (with_reducible refine LeO.ite ?_ ?_)
   | (with_reducible refine LeO.bind ?_ (fun _ => ?_))
   | exact ih0 _ _ _ _
   | exact ih1 _ _ _ _ _
   | exact LeO.none _
   | refine LeO.ite ?_ ?_
   | refine LeO.bind ?_ (fun _ => ?_)
theorem impl_Turn_91.mono : ∀ a0 a1 a2 k, LeO (impl_Turn_91.f k a0 a1 a2) (impl_Turn_91.f (k + 1) a0 a1 a2) := by
 intro a0 a1 a2 k
 obtain ⟨ih0, ih1⟩ := impl_Turn_91.mono_l k
 unfold impl_Turn_91.f
 repeat' first
   | (with_reducible exact ih0 _ _ _ _)
   | (with_reducible exact ih1 _ _ _ _ _)
   | (with_reducible exact LeO.refl _)
   | (with_reducible exact LeO.none _)
   | (with_reducible refine LeO.ite ?_ ?_)
   | (with_reducible refine LeO.bind ?_ (fun _ => ?_))
   | exact ih0 _ _ _ _
   | exact ih1 _ _ _ _ _
   | exact LeO.none _
   | refine LeO.ite ?_ ?_
   | refine LeO.bind ?_ (fun _ => ?_)
def impl_Turn_91.T4 : Bool × List (List Nat × List Nat) := (true, [([], []), ([], []), ([0, 1], [0, 1]), ([2], [2]), ([3], [3]), ([3], [3]), ([3], [3]), ([5, 6, 3], [3, 5, 6]), ([7, 3], [3, 7]), ([3], [3]), ([3], [3]), ([10, 3], [3, 10]), ([9, 11, 3], [3, 9, 11]), ([12, 3], [3, 12]), ([4, 8, 13, 3, 3], [3, 4, 8, 13]), ([14, 3], [3, 14]), ([3, 15], [3, 15])])
def impl_Turn_91.B4 : List Nat := [0, 0, 3, 7, 15, 15, 15, 111, 239, 15, 15, 1039, 3599, 7695, 16383, 32767, 65535]
theorem impl_Turn_91.tab4 : rtab .any (opsOf Try.f91 4) = impl_Turn_91.T4 := by kernel_rfl
theorem impl_Turn_91.bits4 : waitsOk impl_Turn_91.T4.2 impl_Turn_91.B4 = true := by kernel_rfl
def impl_Turn_91.T6 : Bool × List (List Nat × List Nat) := (true, [([], []), ([], []), ([], []), ([], []), ([3], [3]), ([], []), ([], []), ([6], [6]), ([5, 7], [5, 7]), ([8], [8]), ([], []), ([], []), ([10, 11], [10, 11]), ([12], [12]), ([0, 1, 0, 1, 5, 6, 7, 8, 9, 13], [0, 1]), ([14, 9, 0, 1, 5, 6, 7, 8, 9, 13], [9, 14]), ([2, 4, 0, 1, 2, 3, 4, 5, 6, 7, 8, 9, 10, 11, 12, 13, 14, 15], [2, 4]), ([16, 13, 15, 0, 1, 2, 3, 4, 5, 6, 7, 8, 9, 10, 11, 12, 13, 14, 15], [13, 16])])
def impl_Turn_91.B6 : List Nat := [0, 0, 0, 0, 8, 0, 0, 64, 224, 480, 0, 0, 3072, 7168, 16355, 32739, 65535, 131071]
theorem impl_Turn_91.tab6 : rtab .any (opsOf Try.f91 6) = impl_Turn_91.T6 := by kernel_rfl
theorem impl_Turn_91.bits6 : waitsOk impl_Turn_91.T6.2 impl_Turn_91.B6 = true := by kernel_rfl
set_option maxHeartbeats 8000000 in
set_option maxRecDepth 100000 in
theorem impl_Turn_91.calls (k : Nat) (P0_ : Nat → Prop) (u9000_ : Value) (l0 : List (S23)) (a1 : Int) (a2 : Int) (r : List (S23)) (w0 w : World) (hB : Below w0.heap.size w0 w) (ho0 : Kd.R k23 23 w w0.heap.size P0_ u9000_ l0) (h : impl_Turn_91.f k l0 a1 a2 = some r) :
  Calls Try.prog 91 #[u9000_, .int .i64 a1, .int .i64 a2, .func (.func 75) #[] #[]] w fun e w' => e = .returned (.tuple #[]) ∧ Kd.R k23 23 w' w0.heap.size (fun k_ => (P0_ k_ ∨ w.heap.size ≤ k_)) u9000_ r ∧ Below w0.heap.size w0 w' ∧ Kept w w' (fun k_ => P0_ k_) := by
 have hu23 := Try.underlying23
 have HO0 := Aside0.mk (show Kd.R k23 23 w w0.heap.size (fun k_ => (P0_ k_ ∨ w.heap.size ≤ k_)) u9000_ l0 from Kd.R_mono ho0 (fun k_ hk => (.inl hk)))
 have HK := Aside0.mk (Kept.refl w (fun k_ => P0_ k_))
 have HW0 := Aside0.mk hB.size
 have HB := Aside0.mk hB
 clear hB
 have H : (impl_Turn_91.l0 k l0 a1 a2 (wrap64 (a1 + 1))) = some r := h
 clear h
 have H' := Aside0.mk H
 clear H
 go_enter Try.func91, Try.ntmps91
 go_wp2
 go_loopg [8] k (fun kq v8 w' => ∃ (x0_1 : List (S23)) (x8_1 : Int), v8 = .int .i64 x8_1 ∧ Aside0 (impl_Turn_91.l0 kq x0_1 a1 a2 x8_1 = some r) ∧ Aside0 (kq ≤ k) ∧ Aside0 (Kd.R k23 23 w' w0.heap.size (fun k_ => (P0_ k_ ∨ w.heap.size ≤ k_)) u9000_ x0_1) ∧ Aside0 (Kept w w' (fun k_ => P0_ k_)) ∧ Aside0 (Below w0.heap.size w0 w'))
 case atStart => exact ⟨(l0), (wrap64 (a1 + 1)), (by first | rfl | (simp; done) | (simp [*]; done)), H', ⟨Nat.le_refl _⟩, ⟨by (with_reducible repeat (first | apply Kd.R_alloc | apply Kd.R_drewN | apply Kd.R_drew)); exact HO0.out⟩, ⟨by repeat (first | (with_reducible first | exact HK.out | apply Kept.alloc | apply Kept.drewN | apply Kept.drew) | exact HK.out)⟩, hb_ HB⟩
 case round =>
  clear H'
  obtain ⟨x0_1, x8_1, rfl, HA, HK1, HO_0, HK, HB⟩ := hrel
  cases gk with
  | zero => exact absurd HA.out (by simp [impl_Turn_91.l0])
  | succ k1 =>
   have H := HA.out
   clear HA
   simp only [impl_Turn_91.l0] at H
   by_cases c4 : x8_1 < a2
   ·
    rw [if_pos c4] at H
    have c4b0 : decide (x8_1 < a2) = true := decide_eq_true c4
    clear c4
    have H' := Aside0.mk H
    clear H
    go_wp2
    go_loopg [9] k1 (fun kq v9 w' => ∃ (x0_2 : List (S23)) (x9_2 : Int), v9 = .int .i64 x9_2 ∧ Aside0 (impl_Turn_91.l1 kq x0_2 a1 a2 x8_1 x9_2 = some r) ∧ Aside0 (kq ≤ k1) ∧ Aside0 (Kd.R k23 23 w' w0.heap.size (fun k_ => (P0_ k_ ∨ w.heap.size ≤ k_)) u9000_ x0_2) ∧ Aside0 (Kept w w' (fun k_ => P0_ k_)) ∧ Aside0 (Below w0.heap.size w0 w'))
    case atStart => exact ⟨(x0_1), (x8_1), (by first | rfl | (simp; done) | (simp [*]; done)), H', ⟨Nat.le_refl _⟩, ⟨by (with_reducible repeat (first | apply Kd.R_alloc | apply Kd.R_drewN | apply Kd.R_drew)); exact HO_0.out⟩, ⟨by repeat (first | (with_reducible first | exact HK.out | apply Kept.alloc | apply Kept.drewN | apply Kept.drew) | exact HK.out)⟩, hb_ HB⟩
    case round =>
     clear H'
     try clear c4
     try clear c4b0
     obtain ⟨x0_2, x9_2, rfl, HA, HK2, HO_0, HK, HB⟩ := hrel
     cases gk with
     | zero => exact absurd HA.out (by simp [impl_Turn_91.l1])
     | succ k2 =>
      have H := HA.out
      clear HA
      simp only [impl_Turn_91.l1] at H
      by_cases c5 : x9_2 > a1
      ·
       rw [if_pos c5] at H
       have c5b0 : decide (a1 < x9_2) = true := decide_eq_true c5
       clear c5
       by_cases c6 : 0 ≤ x9_2
       ·
        rw [if_pos c6] at H
        have c6b0 : decide (0 ≤ x9_2) = true := decide_eq_true c6
        clear c6
        by_cases c7 : x9_2 < (x0_2.length : Int)
        ·
         rw [if_pos c7] at H
         have c7b0 : decide (x9_2 < (x0_2.length : Int)) = true := decide_eq_true c7
         clear c7
         obtain ⟨ji8, hji8⟩ : ∃ j_ : Int, (wrap64 (x9_2 - 1)) = j_ := ⟨_, rfl⟩
         replace H : (if 0 ≤ (ji8) then (if (ji8) < (x0_2.length : Int) then ((impl_Turn_compare.f ((rd_T23 x0_2 x9_2).f0) ((rd_T23 x0_2 x9_2).f1) ((rd_T23 x0_2 (ji8)).f0) ((rd_T23 x0_2 (ji8)).f1)).bind fun t310 => (if t310 < 0 then (impl_Turn_91.l1 k2 ((x0_2.set (x9_2 : Int).toNat (⟨(rd_T23 x0_2 (ji8)).f0, (rd_T23 x0_2 (ji8)).f1⟩ : S23)).set ((ji8) : Int).toNat (⟨(rd_T23 x0_2 x9_2).f0, (rd_T23 x0_2 x9_2).f1⟩ : S23)) a1 a2 x8_1 ji8) else (impl_Turn_91.l0 k2 x0_2 a1 a2 (wrap64 (x8_1 + 1))))) else (none)) else (none)) = some r := by first | (rw [hji8] at H; exact H) | (simp only [hji8] at H ⊢; exact H)
         have hji8w : (IntKind.i64.wrap (x9_2 - 1)) = ji8 := (i64_w _).trans hji8
         by_cases c9 : 0 ≤ (ji8)
         ·
          rw [if_pos c9] at H
          have c9b0 : decide (0 ≤ (ji8)) = true := decide_eq_true c9
          clear c9
          by_cases c10 : (ji8) < (x0_2.length : Int)
          ·
           rw [if_pos c10] at H
           have c10b0 : decide ((ji8) < (x0_2.length : Int)) = true := decide_eq_true c10
           clear c10
           replace H := Option.bind_eq_some_iff.mp H
           obtain ⟨t310, A110, H⟩ := H
           replace H : (if t310 < 0 then (impl_Turn_91.l1 k2 ((x0_2.set (x9_2 : Int).toNat (⟨(rd_T23 x0_2 (ji8)).f0, (rd_T23 x0_2 (ji8)).f1⟩ : S23)).set ((ji8) : Int).toNat (⟨(rd_T23 x0_2 x9_2).f0, (rd_T23 x0_2 x9_2).f1⟩ : S23)) a1 a2 x8_1 ji8) else (impl_Turn_91.l0 k2 x0_2 a1 a2 (wrap64 (x8_1 + 1)))) = some r := H
           have A11 := Aside0.mk A110
           clear A110
           by_cases c12 : t310 < 0
           ·
            rw [if_pos c12] at H
            have c12b0 : decide (t310 < 0) = true := decide_eq_true c12
            clear c12
            obtain ⟨y313, hy313⟩ : ∃ y_ : List (S23), y_ = (x0_2.set (x9_2 : Int).toNat (⟨(rd_T23 x0_2 (ji8)).f0, (rd_T23 x0_2 (ji8)).f1⟩ : S23)) := ⟨_, rfl⟩
            replace H : (impl_Turn_91.l1 k2 (y313.set ((ji8) : Int).toNat (⟨(rd_T23 x0_2 x9_2).f0, (rd_T23 x0_2 x9_2).f1⟩ : S23)) a1 a2 x8_1 ji8) = some r := by first | (rw [hy313]; with_reducible exact H) | (have H2_ := (Option.bind_some _ _).symm.trans H; rw [hy313]; with_reducible exact H2_) | (have H2_ := (Option.bind_some _ _).symm.trans H; with_reducible exact H2_) | with_reducible exact H | (rw [hy313]; exact H) | exact H
            have Ny313 := Aside0.mk hy313
            clear hy313
            obtain ⟨y314, hy314⟩ : ∃ y_ : List (S23), y_ = (y313.set ((ji8) : Int).toNat (⟨(rd_T23 x0_2 x9_2).f0, (rd_T23 x0_2 x9_2).f1⟩ : S23)) := ⟨_, rfl⟩
            replace H : (impl_Turn_91.l1 k2 y314 a1 a2 x8_1 ji8) = some r := by first | (rw [hy314]; with_reducible exact H) | (have H2_ := (Option.bind_some _ _).symm.trans H; rw [hy314]; with_reducible exact H2_) | (have H2_ := (Option.bind_some _ _).symm.trans H; with_reducible exact H2_) | with_reducible exact H | (rw [hy314]; exact H) | exact H
            have Ny314 := Aside0.mk hy314
            clear hy314
            ·
             have H' := Aside0.mk H
             clear H
             try go_wp2
             replace HO_0 := Aside0.mk (Kd.R_drew HO_0.out)
             replace HK := Aside0.mk (Kept.drew HK.out)
             replace HB := Aside0.mk (below_drew1 HB.out)
             obtain ⟨Ao16, co16, eo16⟩ := Kd.R_slice HO_0.out
             (first | subst eo16 | (injection eo16 with f1_ f2_ f3_; have f4_ := f1_.symm; have f5_ := f3_.symm; clear f1_ f2_ f3_; subst f4_; subst f5_))
             have p308 : 0 ≤ (x9_2 : Int) := of_decide_eq_true (by first | (with_reducible assumption) | assumption)
             have q308 : x9_2 < (x0_2.length : Int) := of_decide_eq_true (by first | (with_reducible assumption) | assumption)
             obtain ⟨ad308, e308, hx308_0, hx308_1⟩ := at_T23 (Kd.R_reads' HO_0.out).2.2 x9_2 p308 q308
             cases e308
             replace p308 := eq_true p308
             replace q308 := eq_true q308
             have p309 : 0 ≤ ((ji8) : Int) := of_decide_eq_true (by first | (with_reducible assumption) | assumption)
             have q309 : (ji8) < (x0_2.length : Int) := of_decide_eq_true (by first | (with_reducible assumption) | assumption)
             obtain ⟨ad309, e309, hx309_0, hx309_1⟩ := at_T23 (Kd.R_reads' HO_0.out).2.2 (ji8) p309 q309
             obtain rfl : ad308 = ad309 := (by injection e309)
             replace p309 := eq_true p309
             replace q309 := eq_true q309
             refine start_ (n := 17) (S := fun w' => w'.cell? (ad308.add ((x9_2).toNat * 2)) = some (.int .i64 ((rd_T23 x0_2 x9_2).f0)) ∧ w'.cell? ⟨(ad308.add ((x9_2).toNat * 2)).block, (ad308.add ((x9_2).toNat * 2)).off + 1, none⟩ = some (.int .i64 ((rd_T23 x0_2 x9_2).f1)) ∧ w'.cell? (ad308.add (((ji8)).toNat * 2)) = some (.int .i64 ((rd_T23 x0_2 (ji8)).f0)) ∧ w'.cell? ⟨(ad308.add (((ji8)).toNat * 2)).block, (ad308.add (((ji8)).toNat * 2)).off + 1, none⟩ = some (.int .i64 ((rd_T23 x0_2 (ji8)).f1))) (ds := []) #[false, false, false, false, false, false, false, false, false, false, false, false, false, false, false, false, false] (by kernel_rfl) rfl rfl ⟨hx308_0, hx308_1, hx309_0, hx309_1⟩ (fun hHeld => ?_); refine with_tabW impl_Turn_91.tab4 impl_Turn_91.bits4 (fun HT_ HW_ => ?_)
             generalize wr.drew = w15 at HO_0 HK HB hx308_0 hx308_1 hx309_0 hx309_1 hHeld ⊢
             refine pu_ 0 (some 18) HT_.out ?_
             refine pu_ 1 (some 19) HT_.out ?_
             refine pu_ 2 (some 20) HT_.out ?_
             refine pu_ 3 (some 21) HT_.out ?_
             refine pu_ 4 (some 22) HT_.out ?_
             refine pu_ 5 (some 23) HT_.out ?_
             refine pu_ 6 (some 24) HT_.out ?_
             refine pu_ 7 (some 25) HT_.out ?_
             refine pu_ 9 (some 27) HT_.out ?_
             refine pu_ 10 (some 28) HT_.out ?_
             refine pu_ 11 (some 29) HT_.out ?_
             refine pu_ 12 (some 30) HT_.out ?_
             refine take_ (i := 8) (N := some 26) (v := ?_) (a' := ?_) #[true, true, true, true, true, true, true, true, true, true, true, true, true, false, false, false, false] rfl rfl (take_ofW HT_.out HW_.out (by kernel_rfl)) (fun _ _ _ h => h) (Or.inl ⟨by rfl, ?_⟩) hHeld ?_ ?_
             rotate_left
             ·
              rintro w' ⟨s0, s1, s2, s3⟩
              go_simp
              with_reducible rfl
             rotate_left
             ·
              simp only [Act.put, List.setIfInBounds_toArray, List.set_cons_zero, List.set_cons_succ, i64_w, i32_w]
              rfl
             refine take_ (i := 13) (N := some 31) (v := ?_) (a' := ?_) #[true, true, true, true, true, true, true, true, true, true, true, true, true, true, false, false, false] rfl rfl (take_ofW HT_.out HW_.out (by kernel_rfl)) (fun _ _ _ h => h) (Or.inl ⟨by rfl, ?_⟩) hHeld ?_ ?_
             rotate_left
             ·
              rintro w' ⟨s0, s1, s2, s3⟩
              go_simp
              with_reducible rfl
             rotate_left
             ·
              simp only [Act.put, List.setIfInBounds_toArray, List.set_cons_zero, List.set_cons_succ, i64_w, i32_w]
              rfl
             refine one_ (i := 14) (N := some 32) #[true, true, true, true, true, true, true, true, true, true, true, true, true, true, true, false, false] rfl rfl (one_of HT_.out (by kernel_rfl)) (by decide) (fun K hK => ?_)
             refine Sort.goesT_ (f := 75) (t := 22) Try.func75 (by kernel_rfl) rfl #[.agg #[.int .i64 ((rd_T23 x0_2 x9_2).f0), .int .i64 ((rd_T23 x0_2 x9_2).f1)], .agg #[.int .i64 ((rd_T23 x0_2 (ji8)).f0), .int .i64 ((rd_T23 x0_2 (ji8)).f1)]] (by rfl) rfl rfl (by rfl) (by (try simp only [List.map_toArray, List.map_cons, List.map_nil]); first | done | (simp only [hji8]; rfl) | rfl | (simp only [List.length_drop, List.length_take]; rfl)) ?_
             with_reducible refine (impl_Turn_compare.calls ((rd_T23 x0_2 x9_2).f0) ((rd_T23 x0_2 x9_2).f1) ((rd_T23 x0_2 (ji8)).f0) ((rd_T23 x0_2 (ji8)).f1) t310 _ A11.out).mono ?_
             rintro e w17 ⟨rfl, hb⟩
             have HS0_ := (hb.cell (World.block_lt_of_cell? _ _ (hHeld.1))).trans (hHeld.1)
             have HS1_ := (hb.cell (World.block_lt_of_cell? _ _ (hHeld.2.1))).trans (hHeld.2.1)
             have HS2_ := (hb.cell (World.block_lt_of_cell? _ _ (hHeld.2.2.1))).trans (hHeld.2.2.1)
             have HS3_ := (hb.cell (World.block_lt_of_cell? _ _ (hHeld.2.2.2))).trans (hHeld.2.2.2)
             refine ⟨_, rfl, ?_⟩
             replace HO_0 := hr_ HO_0 hb
             replace HK := Aside0.mk (Kept.below (S := (fun k_ => P0_ k_)) (by repeat (first | (with_reducible first | exact HK.out | apply Kept.alloc | apply Kept.drewN | apply Kept.drew) | exact HK.out)) hb)
             replace HB := hs HB hb
             (try clear hb)
             (try clear hb2)
             (try clear hk)
             (try clear hi)
             refine hK.out _ _ ⟨HS0_, HS1_, HS2_, HS3_⟩ (fun hHeld => ?_)
             clear hK K
             refine norm_ (a' := ?_) ?_ ?_
             rotate_left
             ·
              show Act.put _ (some 32) _ = _
              simp only [Act.put, List.setIfInBounds_toArray, List.set_cons_zero, List.set_cons_succ, i64_w, i32_w]
              rfl
             refine pu_ 15 (some 33) HT_.out ?_
             refine pu_ 16 (some 34) HT_.out ?_
             refine done_ (done_of HT_.out (by kernel_rfl)) ?_
             try go_wp2
             replace HO_0 := Aside0.mk (Kd.R_drew HO_0.out)
             replace HK := Aside0.mk (Kept.drew HK.out)
             replace HB := Aside0.mk (below_drew1 HB.out)
             have p311 : 0 ≤ ((ji8) : Int) := of_decide_eq_true (by first | (with_reducible assumption) | assumption)
             have q311 : (ji8) < (x0_2.length : Int) := of_decide_eq_true (by first | (with_reducible assumption) | assumption)
             obtain ⟨ad311, e311, hx311_0, hx311_1⟩ := at_T23 (Kd.R_reads' HO_0.out).2.2 (ji8) p311 q311
             obtain rfl : ad308 = ad311 := (by injection e311)
             replace p311 := eq_true p311
             replace q311 := eq_true q311
             have p312 : 0 ≤ (x9_2 : Int) := of_decide_eq_true (by first | (with_reducible assumption) | assumption)
             have q312 : x9_2 < (x0_2.length : Int) := of_decide_eq_true (by first | (with_reducible assumption) | assumption)
             obtain ⟨ad312, e312, hx312_0, hx312_1⟩ := at_T23 (Kd.R_reads' HO_0.out).2.2 x9_2 p312 q312
             obtain rfl : ad308 = ad312 := (by injection e312)
             replace p312 := eq_true p312
             replace q312 := eq_true q312
             have p13 : 0 ≤ (x9_2 : Int) := of_decide_eq_true (by first | (with_reducible assumption) | assumption)
             have q13 : (x9_2 : Int) < ((x0_2.length : Int) : Int) := of_decide_eq_true (by first | (with_reducible assumption) | assumption)
             obtain ⟨go13, co13, eo13, gb13, gl13, cl13, HG13⟩ := Kd.R_form HO_0.out (by omega)
             (first | cases eo13 | (injection eo13 with ea_ en_ ec_; (first | subst ea_ | (injection ea_ with ea_; subst ea_)); subst ec_; clear en_))
             have GB13 := Aside0.mk gb13
             have GG13 := Aside0.mk HG13
             clear gb13 gl13 HG13
             have HMgo13 := Aside0.mk (show (P0_ go13 ∨ w.heap.size ≤ go13) from (HO_0.out.1 _ rfl))
             (first | simp only [add_plain] at hx308_0 | skip)
             (first | simp only [add_plain] at hx308_1 | skip)
             (first | simp only [add_plain] at hx309_0 | skip)
             (first | simp only [add_plain] at hx309_1 | skip)
             (first | simp only [add_plain] at hx311_0 | skip)
             (first | simp only [add_plain] at hx311_1 | skip)
             (first | simp only [add_plain] at hx312_0 | skip)
             (first | simp only [add_plain] at hx312_1 | skip)
             obtain ⟨ce13, hcl13, hM13, hcc13, hfr13⟩ := Kd.R_elem HO_0.out z23 (x9_2 : Int) p13 q13
             obtain rfl := k23_openM hM13
             have hx13_0 : World.cell? _ ⟨go13, (x9_2 : Int).toNat * 2, none⟩ = some (.int .i64 ((rd_T23 x0_2 x9_2).f0)) := hcc13 0 _ rfl
             have hx13_1 : World.cell? _ ⟨go13, (x9_2 : Int).toNat * 2 + 1, none⟩ = some (.int .i64 ((rd_T23 x0_2 x9_2).f1)) := hcc13 1 _ rfl
             have hf13_0 : World.frozen? _ ⟨go13, (x9_2 : Int).toNat * 2, none⟩ = false := hfr13 0
             have hf13_1 : World.frozen? _ ⟨go13, (x9_2 : Int).toNat * 2 + 1, none⟩ = false := hfr13 1
             clear hcl13 hcc13 hfr13 hM13
             replace p13 := eq_true p13
             replace q13 := eq_true q13
             obtain ⟨ce19, hcl19, hM19, hcc19, hfr19⟩ := Kd.R_elem HO_0.out z23 (x9_2 : Int) (of_decide_eq_true (by first | (with_reducible assumption) | assumption)) (by have h_ : (x9_2 : Int) < ((x0_2.length : Int) : Int) := of_decide_eq_true (by first | (with_reducible assumption) | assumption); first | exact h_ | (have e_ := (Kd.R_reads' HO_0.out).1; omega) | simpa using h_)
             obtain rfl := k23_openM hM19
             have HP19 := (Kd.R_seg HO_0.out (x9_2 : Int) (of_decide_eq_true (by first | (with_reducible assumption) | assumption)) (by have h_ : (x9_2 : Int) < ((x0_2.length : Int) : Int) := of_decide_eq_true (by first | (with_reducible assumption) | assumption); first | exact h_ | (have e_ := (Kd.R_reads' HO_0.out).1; omega) | simpa using h_) (seg := [.int .i64 ((rd_T23 x0_2 (ji8)).f0), .int .i64 ((rd_T23 x0_2 (ji8)).f1)]) (j := 0) hcl19 hcc19 (show 2 ≤ 2 from by decide) (x' := (⟨(rd_T23 x0_2 (ji8)).f0, (rd_T23 x0_2 (ji8)).f1⟩ : S23)) (k23_mkM _ _ _ (⟨(rd_T23 x0_2 (ji8)).f0, (rd_T23 x0_2 (ji8)).f1⟩ : S23) ) (fun _ hk => hk)).1
             rw [← Ny313.out] at HP19
             have HQ19 := Aside0.mk HP19
             clear hcl19 hcc19 hfr19 hM19 HP19
             have p14 : 0 ≤ ((ji8) : Int) := of_decide_eq_true (by first | (with_reducible assumption) | assumption)
             have q14 : ((ji8) : Int) < ((x0_2.length : Int) : Int) := of_decide_eq_true (by first | (with_reducible assumption) | assumption)
             obtain ⟨ce14, hcl14, hM14, hcc14, hfr14⟩ := Kd.R_elem HQ19.out z23 ((ji8) : Int) p14 q14
             obtain rfl := k23_openM hM14
             have hx14_0 : World.cell? _ ⟨go13, ((ji8) : Int).toNat * 2, none⟩ = some (.int .i64 ((rd_T23 y313 (ji8)).f0)) := hcc14 0 _ rfl
             have hx14_1 : World.cell? _ ⟨go13, ((ji8) : Int).toNat * 2 + 1, none⟩ = some (.int .i64 ((rd_T23 y313 (ji8)).f1)) := hcc14 1 _ rfl
             have hf14_0 : World.frozen? _ ⟨go13, ((ji8) : Int).toNat * 2, none⟩ = false := hfr14 0
             have hf14_1 : World.frozen? _ ⟨go13, ((ji8) : Int).toNat * 2 + 1, none⟩ = false := hfr14 1
             clear hcl14 hcc14 hfr14 hM14
             replace p14 := eq_true p14
             replace q14 := eq_true q14
             obtain ⟨ce20, hcl20, hM20, hcc20, hfr20⟩ := Kd.R_elem HQ19.out z23 ((ji8) : Int) (of_decide_eq_true (by first | (with_reducible assumption) | assumption)) (by have h_ : ((ji8) : Int) < ((x0_2.length : Int) : Int) := of_decide_eq_true (by first | (with_reducible assumption) | assumption); first | exact h_ | (have e_ := (Kd.R_reads' HO_0.out).1; omega) | simpa using h_)
             obtain rfl := k23_openM hM20
             have HP20 := (Kd.R_seg HQ19.out ((ji8) : Int) (of_decide_eq_true (by first | (with_reducible assumption) | assumption)) (by have h_ : ((ji8) : Int) < ((x0_2.length : Int) : Int) := of_decide_eq_true (by first | (with_reducible assumption) | assumption); first | exact h_ | (have e_ := (Kd.R_reads' HO_0.out).1; omega) | simpa using h_) (seg := [.int .i64 ((rd_T23 x0_2 x9_2).f0), .int .i64 ((rd_T23 x0_2 x9_2).f1)]) (j := 0) hcl20 hcc20 (show 2 ≤ 2 from by decide) (x' := (⟨(rd_T23 x0_2 x9_2).f0, (rd_T23 x0_2 x9_2).f1⟩ : S23)) (k23_mkM _ _ _ (⟨(rd_T23 x0_2 x9_2).f0, (rd_T23 x0_2 x9_2).f1⟩ : S23) ) (fun _ hk => hk)).1
             rw [← Ny314.out] at HP20
             have HQ20 := Aside0.mk HP20
             clear hcl20 hcc20 hfr20 hM20 HP20
             have hne_ : (x9_2.toNat = ji8.toNat) = False := eq_false (by have a_ := of_eq_true p311; have b_ := of_eq_true p312; have c_ := hji8; unfold wrap64 at c_; omega)
             have hne2_ : (x9_2.toNat * 2 = ji8.toNat * 2) = False := eq_false (by have := of_eq_false hne_; omega)
             have hne3_ : (x9_2.toNat * 2 + 1 = ji8.toNat * 2 + 1) = False := eq_false (by have := of_eq_false hne_; omega)
             have hne4_ : (x9_2.toNat * 2 + 1 = ji8.toNat * 2) = False := eq_false (by omega)
             have hne5_ : (x9_2.toNat * 2 = ji8.toNat * 2 + 1) = False := eq_false (by omega)
             obtain ⟨ceq_, hclq_, hMq_, hccq_, hfrq_⟩ := Kd.R_elem HO_0.out z23 (ji8 : Int) (of_eq_true p311) (of_eq_true q311)
             have hfq_0 : World.frozen? _ ⟨_, (ji8 : Int).toNat * 2, none⟩ = false := hfrq_ 0
             have hfq_1 : World.frozen? _ ⟨_, (ji8 : Int).toNat * 2 + 1, none⟩ = false := hfrq_ 1
             clear ceq_ hclq_ hMq_ hccq_ hfrq_
             refine start_ (n := 18) (S := fun w' => w'.cell? ⟨go13, (((ji8)).toNat * 2), none⟩ = some (.int .i64 ((rd_T23 x0_2 (ji8)).f0)) ∧ w'.cell? ⟨go13, (((ji8)).toNat * 2) + 1, none⟩ = some (.int .i64 ((rd_T23 x0_2 (ji8)).f1)) ∧ w'.cell? ⟨go13, ((x9_2).toNat * 2), none⟩ = some (.int .i64 ((rd_T23 x0_2 x9_2).f0)) ∧ w'.cell? ⟨go13, ((x9_2).toNat * 2) + 1, none⟩ = some (.int .i64 ((rd_T23 x0_2 x9_2).f1))) (ds := [15, 17]) #[false, false, false, false, false, false, false, false, false, false, false, false, false, false, false, false, false, false] (by kernel_rfl) rfl rfl ⟨hx311_0, hx311_1, hx312_0, hx312_1⟩ (fun hHeld => ?_); refine with_tabW impl_Turn_91.tab6 impl_Turn_91.bits6 (fun HT_ HW_ => ?_)
             generalize w17.drew = w18 at HO_0 HK HB GG13 HQ19 HQ20 hfq_0 hfq_1 hf13_0 hf13_1 hf14_0 hf14_1 hx13_0 hx13_1 hx14_0 hx14_1 hx308_0 hx308_1 hx309_0 hx309_1 hx311_0 hx311_1 hx312_0 hx312_1 hHeld ⊢
             refine pu_ 0 (some 37) HT_.out ?_
             refine pu_ 1 (some 38) HT_.out ?_
             refine pu_ 2 (some 39) HT_.out ?_
             refine pu_ 3 (some 40) HT_.out ?_
             refine pu_ 4 (some 41) HT_.out ?_
             refine pu_ 5 (some 42) HT_.out ?_
             refine pu_ 6 (some 43) HT_.out ?_
             refine pu_ 7 (some 44) HT_.out ?_
             refine pu_ 8 (some 45) HT_.out ?_
             refine pu_ 10 (some 47) HT_.out ?_
             refine pu_ 11 (some 48) HT_.out ?_
             refine pu_ 12 (some 49) HT_.out ?_
             refine take_ (i := 9) (N := some 46) (v := ?_) (a' := ?_) #[true, true, true, true, true, true, true, true, true, true, true, true, true, false, false, false, false, false] rfl rfl (take_ofW HT_.out HW_.out (by kernel_rfl)) (fun _ _ _ h => h) (Or.inl ⟨by rfl, ?_⟩) hHeld ?_ ?_
             rotate_left
             ·
              rintro w' ⟨s0, s1, s2, s3⟩
              go_simp
              with_reducible rfl
             rotate_left
             ·
              simp only [Act.put, List.setIfInBounds_toArray, List.set_cons_zero, List.set_cons_succ, i64_w, i32_w]
              rfl
             refine take_ (i := 13) (N := some 50) (v := ?_) (a' := ?_) #[true, true, true, true, true, true, true, true, true, true, true, true, true, true, false, false, false, false] rfl rfl (take_ofW HT_.out HW_.out (by kernel_rfl)) (fun _ _ _ h => h) (Or.inl ⟨by rfl, ?_⟩) hHeld ?_ ?_
             rotate_left
             ·
              rintro w' ⟨s0, s1, s2, s3⟩
              go_simp
              with_reducible rfl
             rotate_left
             ·
              simp only [Act.put, List.setIfInBounds_toArray, List.set_cons_zero, List.set_cons_succ, i64_w, i32_w]
              rfl
             refine pu_ 14 (some 51) HT_.out ?_
             refine last_ (i := 15) (N := none) #[true, true, true, true, true, true, true, true, true, true, true, true, true, true, true, true, false, false] rfl rfl (one_of HT_.out (by kernel_rfl)) (by decide) (fun K hK => ?_)
             refine skip_ (w1 := ?_) (by rfl) rfl ?_ ?_
             rotate_left
             ·
              go_simp
              rfl
             refine hK.out _ _ ?_
             clear hK K
             refine pu_ 16 (some 52) HT_.out ?_
             refine last_ (i := 17) (N := none) #[true, true, true, true, true, true, true, true, true, true, true, true, true, true, true, true, true, true] rfl rfl (one_of HT_.out (by kernel_rfl)) (by decide) (fun K hK => ?_)
             refine skip_ (w1 := ?_) (by rfl) rfl ?_ ?_
             rotate_left
             ·
              go_simp
              rfl
             refine hK.out _ _ ?_
             clear hK K
             refine done_ (done_of HT_.out (by kernel_rfl)) ?_
             try go_wp2
             go_roundg k2
             case measure => have := HK1.out; have := HK2.out; omega
             case rel => exact ⟨(y314), (ji8), (by first | rfl | (simp; done) | (simp only [← hji8] <;> (first | rfl | simp)) | (simp [*]; done)), H', ⟨by have := HK1.out; have := HK2.out; omega⟩, ⟨by (with_reducible repeat (first | apply Kd.R_alloc | apply Kd.R_drewN | apply Kd.R_drew)); exact HQ20.out⟩, ⟨by repeat (first | (with_reducible first | exact HK.out | apply Kept.alloc | apply Kept.drewN | apply Kept.drew | refine Kept.setCell ?_ HMgo13.out _ | refine Kept.setCell ?_ HMgo13.out _ | refine Kept.setCell ?_ HMgo13.out _ | refine Kept.setCell ?_ HMgo13.out _) | exact HK.out)⟩, ⟨by repeat (first | (with_reducible first | exact HB.out | apply below_alloc | apply pw_below_drewN | apply below_drew1 | refine below_set ?_ GB13.out | refine below_set ?_ GB13.out | refine below_set ?_ GB13.out | refine below_set ?_ GB13.out) | exact HB.out)⟩⟩
           ·
            rw [if_neg c12] at H
            have c12b0 : decide (t310 < 0) = false := decide_eq_false c12
            clear c12
            ·
             have H' := Aside0.mk H
             clear H
             try go_wp2
             replace HO_0 := Aside0.mk (Kd.R_drew HO_0.out)
             replace HK := Aside0.mk (Kept.drew HK.out)
             replace HB := Aside0.mk (below_drew1 HB.out)
             obtain ⟨Ao22, co22, eo22⟩ := Kd.R_slice HO_0.out
             (first | subst eo22 | (injection eo22 with f1_ f2_ f3_; have f4_ := f1_.symm; have f5_ := f3_.symm; clear f1_ f2_ f3_; subst f4_; subst f5_))
             have p308 : 0 ≤ (x9_2 : Int) := of_decide_eq_true (by first | (with_reducible assumption) | assumption)
             have q308 : x9_2 < (x0_2.length : Int) := of_decide_eq_true (by first | (with_reducible assumption) | assumption)
             obtain ⟨ad308, e308, hx308_0, hx308_1⟩ := at_T23 (Kd.R_reads' HO_0.out).2.2 x9_2 p308 q308
             cases e308
             replace p308 := eq_true p308
             replace q308 := eq_true q308
             have p309 : 0 ≤ ((ji8) : Int) := of_decide_eq_true (by first | (with_reducible assumption) | assumption)
             have q309 : (ji8) < (x0_2.length : Int) := of_decide_eq_true (by first | (with_reducible assumption) | assumption)
             obtain ⟨ad309, e309, hx309_0, hx309_1⟩ := at_T23 (Kd.R_reads' HO_0.out).2.2 (ji8) p309 q309
             obtain rfl : ad308 = ad309 := (by injection e309)
             replace p309 := eq_true p309
             replace q309 := eq_true q309
             refine start_ (n := 17) (S := fun w' => w'.cell? (ad308.add ((x9_2).toNat * 2)) = some (.int .i64 ((rd_T23 x0_2 x9_2).f0)) ∧ w'.cell? ⟨(ad308.add ((x9_2).toNat * 2)).block, (ad308.add ((x9_2).toNat * 2)).off + 1, none⟩ = some (.int .i64 ((rd_T23 x0_2 x9_2).f1)) ∧ w'.cell? (ad308.add (((ji8)).toNat * 2)) = some (.int .i64 ((rd_T23 x0_2 (ji8)).f0)) ∧ w'.cell? ⟨(ad308.add (((ji8)).toNat * 2)).block, (ad308.add (((ji8)).toNat * 2)).off + 1, none⟩ = some (.int .i64 ((rd_T23 x0_2 (ji8)).f1))) (ds := []) #[false, false, false, false, false, false, false, false, false, false, false, false, false, false, false, false, false] (by kernel_rfl) rfl rfl ⟨hx308_0, hx308_1, hx309_0, hx309_1⟩ (fun hHeld => ?_); refine with_tabW impl_Turn_91.tab4 impl_Turn_91.bits4 (fun HT_ HW_ => ?_)
             generalize wr.drew = w21 at HO_0 HK HB hx308_0 hx308_1 hx309_0 hx309_1 hHeld ⊢
             refine pu_ 0 (some 18) HT_.out ?_
             refine pu_ 1 (some 19) HT_.out ?_
             refine pu_ 2 (some 20) HT_.out ?_
             refine pu_ 3 (some 21) HT_.out ?_
             refine pu_ 4 (some 22) HT_.out ?_
             refine pu_ 5 (some 23) HT_.out ?_
             refine pu_ 6 (some 24) HT_.out ?_
             refine pu_ 7 (some 25) HT_.out ?_
             refine pu_ 9 (some 27) HT_.out ?_
             refine pu_ 10 (some 28) HT_.out ?_
             refine pu_ 11 (some 29) HT_.out ?_
             refine pu_ 12 (some 30) HT_.out ?_
             refine take_ (i := 8) (N := some 26) (v := ?_) (a' := ?_) #[true, true, true, true, true, true, true, true, true, true, true, true, true, false, false, false, false] rfl rfl (take_ofW HT_.out HW_.out (by kernel_rfl)) (fun _ _ _ h => h) (Or.inl ⟨by rfl, ?_⟩) hHeld ?_ ?_
             rotate_left
             ·
              rintro w' ⟨s0, s1, s2, s3⟩
              go_simp
              with_reducible rfl
             rotate_left
             ·
              simp only [Act.put, List.setIfInBounds_toArray, List.set_cons_zero, List.set_cons_succ, i64_w, i32_w]
              rfl
             refine take_ (i := 13) (N := some 31) (v := ?_) (a' := ?_) #[true, true, true, true, true, true, true, true, true, true, true, true, true, true, false, false, false] rfl rfl (take_ofW HT_.out HW_.out (by kernel_rfl)) (fun _ _ _ h => h) (Or.inl ⟨by rfl, ?_⟩) hHeld ?_ ?_
             rotate_left
             ·
              rintro w' ⟨s0, s1, s2, s3⟩
              go_simp
              with_reducible rfl
             rotate_left
             ·
              simp only [Act.put, List.setIfInBounds_toArray, List.set_cons_zero, List.set_cons_succ, i64_w, i32_w]
              rfl
             refine one_ (i := 14) (N := some 32) #[true, true, true, true, true, true, true, true, true, true, true, true, true, true, true, false, false] rfl rfl (one_of HT_.out (by kernel_rfl)) (by decide) (fun K hK => ?_)
             refine Sort.goesT_ (f := 75) (t := 22) Try.func75 (by kernel_rfl) rfl #[.agg #[.int .i64 ((rd_T23 x0_2 x9_2).f0), .int .i64 ((rd_T23 x0_2 x9_2).f1)], .agg #[.int .i64 ((rd_T23 x0_2 (ji8)).f0), .int .i64 ((rd_T23 x0_2 (ji8)).f1)]] (by rfl) rfl rfl (by rfl) (by (try simp only [List.map_toArray, List.map_cons, List.map_nil]); first | done | (simp only [hji8]; rfl) | rfl | (simp only [List.length_drop, List.length_take]; rfl)) ?_
             with_reducible refine (impl_Turn_compare.calls ((rd_T23 x0_2 x9_2).f0) ((rd_T23 x0_2 x9_2).f1) ((rd_T23 x0_2 (ji8)).f0) ((rd_T23 x0_2 (ji8)).f1) t310 _ A11.out).mono ?_
             rintro e w23 ⟨rfl, hb⟩
             have HS0_ := (hb.cell (World.block_lt_of_cell? _ _ (hHeld.1))).trans (hHeld.1)
             have HS1_ := (hb.cell (World.block_lt_of_cell? _ _ (hHeld.2.1))).trans (hHeld.2.1)
             have HS2_ := (hb.cell (World.block_lt_of_cell? _ _ (hHeld.2.2.1))).trans (hHeld.2.2.1)
             have HS3_ := (hb.cell (World.block_lt_of_cell? _ _ (hHeld.2.2.2))).trans (hHeld.2.2.2)
             refine ⟨_, rfl, ?_⟩
             replace HO_0 := hr_ HO_0 hb
             replace HK := Aside0.mk (Kept.below (S := (fun k_ => P0_ k_)) (by repeat (first | (with_reducible first | exact HK.out | apply Kept.alloc | apply Kept.drewN | apply Kept.drew) | exact HK.out)) hb)
             replace HB := hs HB hb
             (try clear hb)
             (try clear hb2)
             (try clear hk)
             (try clear hi)
             refine hK.out _ _ ⟨HS0_, HS1_, HS2_, HS3_⟩ (fun hHeld => ?_)
             clear hK K
             refine norm_ (a' := ?_) ?_ ?_
             rotate_left
             ·
              show Act.put _ (some 32) _ = _
              simp only [Act.put, List.setIfInBounds_toArray, List.set_cons_zero, List.set_cons_succ, i64_w, i32_w]
              rfl
             refine pu_ 15 (some 33) HT_.out ?_
             refine pu_ 16 (some 34) HT_.out ?_
             refine done_ (done_of HT_.out (by kernel_rfl)) ?_
             try go_wp2
             go_roundg k2
             case measure => have := HK1.out; have := HK2.out; omega
             case rel => exact ⟨(x0_2), (wrap64 (x8_1 + 1)), (by first | rfl | (simp; done) | (simp [*]; done)), H', ⟨by have := HK1.out; have := HK2.out; omega⟩, ⟨by (with_reducible repeat (first | apply Kd.R_alloc | apply Kd.R_drewN | apply Kd.R_drew)); exact HO_0.out⟩, ⟨by repeat (first | (with_reducible first | exact HK.out | apply Kept.alloc | apply Kept.drewN | apply Kept.drew) | exact HK.out)⟩, hb_ HB⟩
          ·
           rw [if_neg c10] at H
           exact absurd H (by simp)
         ·
          rw [if_neg c9] at H
          exact absurd H (by simp)
        ·
         rw [if_neg c7] at H
         exact absurd H (by simp)
       ·
        rw [if_neg c6] at H
        exact absurd H (by simp)
      ·
       rw [if_neg c5] at H
       have c5b0 : decide (a1 < x9_2) = false := decide_eq_false c5
       clear c5
       ·
        have H' := Aside0.mk H
        clear H
        try go_wp2
        replace HO_0 := Aside0.mk (Kd.R_drew HO_0.out)
        replace HK := Aside0.mk (Kept.drew HK.out)
        replace HB := Aside0.mk (below_drew1 HB.out)
        refine start_ (n := 17) (S := fun w' => True) (ds := []) #[false, false, false, false, false, false, false, false, false, false, false, false, false, false, false, false, false] (by kernel_rfl) rfl rfl trivial (fun hHeld => ?_); refine with_tabW impl_Turn_91.tab4 impl_Turn_91.bits4 (fun HT_ HW_ => ?_)
        generalize wr.drew = w24 at HO_0 HK HB hHeld ⊢
        refine pu_ 0 (some 18) HT_.out ?_
        refine pu_ 1 (some 19) HT_.out ?_
        refine pu_ 2 (some 20) HT_.out ?_
        refine pu_ 3 (some 21) HT_.out ?_
        refine pure_ (i := 4) (N := some 22) (v := undef) (a' := ?_) #[true, true, true, true, true, false, false, false, false, false, false, false, false, false, false, false, false] rfl rfl (any_of HT_.out (by kernel_rfl)) (fun _ _ _ h => h) (Or.inr ⟨by rfl, rfl⟩) ?_ ?_
        rotate_left
        ·
         simp only [Act.put, List.setIfInBounds_toArray, List.set_cons_zero, List.set_cons_succ, i64_w, i32_w]
         rfl
        refine pure_ (i := 5) (N := some 23) (v := undef) (a' := ?_) #[true, true, true, true, true, true, false, false, false, false, false, false, false, false, false, false, false] rfl rfl (any_of HT_.out (by kernel_rfl)) (fun _ _ _ h => h) (Or.inr ⟨by rfl, rfl⟩) ?_ ?_
        rotate_left
        ·
         simp only [Act.put, List.setIfInBounds_toArray, List.set_cons_zero, List.set_cons_succ, i64_w, i32_w]
         rfl
        refine pure_ (i := 6) (N := some 24) (v := undef) (a' := ?_) #[true, true, true, true, true, true, true, false, false, false, false, false, false, false, false, false, false] rfl rfl (any_of HT_.out (by kernel_rfl)) (fun _ _ _ h => h) (Or.inr ⟨by rfl, rfl⟩) ?_ ?_
        rotate_left
        ·
         simp only [Act.put, List.setIfInBounds_toArray, List.set_cons_zero, List.set_cons_succ, i64_w, i32_w]
         rfl
        refine pure_ (i := 7) (N := some 25) (v := undef) (a' := ?_) #[true, true, true, true, true, true, true, true, false, false, false, false, false, false, false, false, false] rfl rfl (any_of HT_.out (by kernel_rfl)) (fun _ _ _ h => h) (Or.inr ⟨by rfl, rfl⟩) ?_ ?_
        rotate_left
        ·
         simp only [Act.put, List.setIfInBounds_toArray, List.set_cons_zero, List.set_cons_succ, i64_w, i32_w]
         rfl
        refine pure_ (i := 8) (N := some 26) (v := undef) (a' := ?_) #[true, true, true, true, true, true, true, true, true, false, false, false, false, false, false, false, false] rfl rfl (any_of HT_.out (by kernel_rfl)) (fun _ _ _ h => h) (Or.inr ⟨by rfl, rfl⟩) ?_ ?_
        rotate_left
        ·
         simp only [Act.put, List.setIfInBounds_toArray, List.set_cons_zero, List.set_cons_succ, i64_w, i32_w]
         rfl
        refine pure_ (i := 9) (N := some 27) (v := undef) (a' := ?_) #[true, true, true, true, true, true, true, true, true, true, false, false, false, false, false, false, false] rfl rfl (any_of HT_.out (by kernel_rfl)) (fun _ _ _ h => h) (Or.inr ⟨by rfl, rfl⟩) ?_ ?_
        rotate_left
        ·
         simp only [Act.put, List.setIfInBounds_toArray, List.set_cons_zero, List.set_cons_succ, i64_w, i32_w]
         rfl
        refine pure_ (i := 10) (N := some 28) (v := undef) (a' := ?_) #[true, true, true, true, true, true, true, true, true, true, true, false, false, false, false, false, false] rfl rfl (any_of HT_.out (by kernel_rfl)) (fun _ _ _ h => h) (Or.inr ⟨by rfl, rfl⟩) ?_ ?_
        rotate_left
        ·
         simp only [Act.put, List.setIfInBounds_toArray, List.set_cons_zero, List.set_cons_succ, i64_w, i32_w]
         rfl
        refine pure_ (i := 11) (N := some 29) (v := undef) (a' := ?_) #[true, true, true, true, true, true, true, true, true, true, true, true, false, false, false, false, false] rfl rfl (any_of HT_.out (by kernel_rfl)) (fun _ _ _ h => h) (Or.inr ⟨by rfl, rfl⟩) ?_ ?_
        rotate_left
        ·
         simp only [Act.put, List.setIfInBounds_toArray, List.set_cons_zero, List.set_cons_succ, i64_w, i32_w]
         rfl
        refine pure_ (i := 12) (N := some 30) (v := undef) (a' := ?_) #[true, true, true, true, true, true, true, true, true, true, true, true, true, false, false, false, false] rfl rfl (any_of HT_.out (by kernel_rfl)) (fun _ _ _ h => h) (Or.inr ⟨by rfl, rfl⟩) ?_ ?_
        rotate_left
        ·
         simp only [Act.put, List.setIfInBounds_toArray, List.set_cons_zero, List.set_cons_succ, i64_w, i32_w]
         rfl
        refine pure_ (i := 13) (N := some 31) (v := undef) (a' := ?_) #[true, true, true, true, true, true, true, true, true, true, true, true, true, true, false, false, false] rfl rfl (any_of HT_.out (by kernel_rfl)) (fun _ _ _ h => h) (Or.inr ⟨by rfl, rfl⟩) ?_ ?_
        rotate_left
        ·
         simp only [Act.put, List.setIfInBounds_toArray, List.set_cons_zero, List.set_cons_succ, i64_w, i32_w]
         rfl
        refine pure_ (i := 14) (N := some 32) (v := undef) (a' := ?_) #[true, true, true, true, true, true, true, true, true, true, true, true, true, true, true, false, false] rfl rfl (any_of HT_.out (by kernel_rfl)) (fun _ _ _ h => h) (Or.inr ⟨by rfl, rfl⟩) ?_ ?_
        rotate_left
        ·
         simp only [Act.put, List.setIfInBounds_toArray, List.set_cons_zero, List.set_cons_succ, i64_w, i32_w]
         rfl
        refine pure_ (i := 15) (N := some 33) (v := undef) (a' := ?_) #[true, true, true, true, true, true, true, true, true, true, true, true, true, true, true, true, false] rfl rfl (any_of HT_.out (by kernel_rfl)) (fun _ _ _ h => h) (Or.inr ⟨by rfl, rfl⟩) ?_ ?_
        rotate_left
        ·
         simp only [Act.put, List.setIfInBounds_toArray, List.set_cons_zero, List.set_cons_succ, i64_w, i32_w]
         rfl
        refine pu_ 16 (some 34) HT_.out ?_
        refine done_ (done_of HT_.out (by kernel_rfl)) ?_
        try go_wp2
        go_roundg k2
        case measure => have := HK1.out; have := HK2.out; omega
        case rel => exact ⟨(x0_2), (wrap64 (x8_1 + 1)), (by first | rfl | (simp; done) | (simp [*]; done)), H', ⟨by have := HK1.out; have := HK2.out; omega⟩, ⟨by (with_reducible repeat (first | apply Kd.R_alloc | apply Kd.R_drewN | apply Kd.R_drew)); exact HO_0.out⟩, ⟨by repeat (first | (with_reducible first | exact HK.out | apply Kept.alloc | apply Kept.drewN | apply Kept.drew) | exact HK.out)⟩, hb_ HB⟩
   ·
    rw [if_neg c4] at H
    have c4b0 : decide (x8_1 < a2) = false := decide_eq_false c4
    clear c4
    ·
     obtain rfl := Option.some.inj H
     go_wp2
     first | go_end0 | ((try simp only [Exit.inBlock, Exit.then]); refine bodyPost_ret (results_none rfl _ _ _) rfl ?_)
     exact ⟨by first | rfl | (simp [errW_none, errW_some] <;> rfl) | (simp [*, errW_none, errW_some] <;> rfl), by (with_reducible repeat (first | apply Kd.R_alloc | apply Kd.R_drewN | apply Kd.R_drew)); exact HO_0.out, (ho_ HB), by repeat (first | (with_reducible first | exact HK.out | apply Kept.alloc | apply Kept.drewN | apply Kept.drew) | exact HK.out)⟩

end Go.Proofs.Ytkfcaldjepmffaa.GFnDialsTurnedOfAll
