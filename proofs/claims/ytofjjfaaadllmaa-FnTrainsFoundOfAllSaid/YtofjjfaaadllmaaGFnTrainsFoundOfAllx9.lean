-- Written by a program of this session (a copy of the kit's print program that takes contracts of one's own); Lean checks it.
import Derived.Test.YtofjjfaaadllmaaGFnTrainsFoundOfAllx0
import Derived.Test.YtofjjfaaadllmaaGFnTrainsFoundOfAllx1
import Derived.Test.YtofjjfaaadllmaaGFnTrainsFoundOfAllx2
import Derived.Test.YtofjjfaaadllmaaGFnTrainsFoundOfAllx3
import Derived.Test.YtofjjfaaadllmaaGFnTrainsFoundOfAllx5
import Derived.Test.YtofjjfaaadllmaaGFnTrainsFoundOfAllx6
import Derived.Test.YtofjjfaaadllmaaGFnTrainsFoundOfAllx7
import Derived.Test.YtofjjfaaadllmaaGFnTrainsFoundOfAllx8
namespace Go.Proofs.Ytofjjfaaadllmaa.GFnTrainsFoundOfAll
open Go.RowKit Go.Proofs.YtofjjfaaadllmaaW.PrintWords Go.Proofs.YtofjjfaaadllmaaW.PrintLast Go.Proofs.YtofjjfaaadllmaaW.PrintMore
attribute [local go_sem] max2_int min2_int max_two min_two max_three min_three max_four min_four IntWalk.i64_left   -- for this text's walks alone
set_option linter.unusedVariables false
set_option linter.unusedSimpArgs false

attribute [local go_sem high] eqA23
/-! ### laws_FnTrainsFoundOfAll: function 8 -/
mutual
def laws_FnTrainsFoundOfAll.j0 : Nat → Int → Int → Int → Int → Int → Int → Int → Int → Int → Int → Int → List (S23) → Bool → List (S23) → Bool → Option (Bool)
 | 0, _, _, _, _, _, _, _, _, _, _, _, _, _, _, _ => none
 | k + 1, x0, x1, x2, x3, x4, x5, x6, x7, x8, x9, x10, x23, x24, x27, x133 => if x133 = true then (none) else (if x24 = true then ((impl_RatioOf.f k x23).bind fun bt240 => ((impl_RatioOf.f k x27).bind fun bt243 => ((impl_TeethOf.f k x23).bind fun bt246 => ((impl_TeethOf.f k x27).bind fun bt248 => (if bt240.2.2 = true then (if (wrap64 (bt240.1 * x1)) = (wrap64 (x0 * bt240.2.1)) then (if bt243.2.2 = true then (if bt243.1 = bt240.1 then (if bt243.2.1 = bt240.2.1 then (if bt246.2 = true then (if bt248.2 = true then (if bt248.1 > bt246.1 then (none) else (if (x23.length : Int) = 2 then (laws_FnTrainsFoundOfAll.j1 k x0 x1 x2 x3 x4 x5 x6 x7 x8 x9 x10 x23 x27 bt248.1 ((x27.length : Int) != 2)) else (none))) else (none)) else (none)) else (none)) else (none)) else (none)) else (none)) else (none)))))) else (laws_FnTrainsFoundOfAll.j3 k x3 x4 x5 x6 x7 x8 x9 x10))
def laws_FnTrainsFoundOfAll.j3 : Nat → Int → Int → Int → Int → Int → Int → Int → Int → Option (Bool)
 | 0, _, _, _, _, _, _, _, _ => none
 | k + 1, x3, x4, x5, x6, x7, x8, x9, x10 => (impl_FirstPair.f k x3 x4 x5).bind fun bt260 => ((spec_FirstPair.f k x3 x4 x5).bind fun bt264 => ((impl_NearestPair.f k x6 x7 x8).bind fun bt268 => ((spec_NearestPair.f k x6 x7 x8).bind fun bt272 => ((impl_MotionWorks.f k x9 x10).bind fun bt276 => ((spec_MotionWorks.f k x9 x10).bind fun bt280 => ((impl_FirstMotionWork.f k x9 x10).bind fun bt284 => ((spec_FirstMotionWork.f k x9 x10).bind fun bt288 => (if (bt260.2.2 != bt264.2.2) = true then (none) else (if (!(bt260.1 == bt264.1) || (!(bt260.2.1 == bt264.2.1))) = true then (none) else (if (bt268.2.2 != bt272.2.2) = true then (none) else (if (!(bt268.1 == bt272.1) || (!(bt268.2.1 == bt272.2.1))) = true then (none) else (if (bt276.2 != bt280.2) = true then (none) else ((laws_kTrains.f k bt276.1 bt280.1).bind fun t292 => (if t292 = true then (if (bt284.2 != bt288.2) = true then (none) else ((laws_kPairs.f k bt284.1 bt288.1).bind fun t293 => (laws_FnTrainsFoundOfAll.j4 k x3 x4 x5 x6 x7 x8 x9 bt260.2.2 bt268.2.2 bt276.1 bt276.2 bt284.1 bt284.2 (!t293) bt260.1 bt260.2.1 bt268.1 bt268.2.1))) else (none)))))))))))))))
def laws_FnTrainsFoundOfAll.j4 : Nat → Int → Int → Int → Int → Int → Int → Int → Bool → Bool → List (List (S23)) → Bool → List (S23) → Bool → Bool → Int → Int → Int → Int → Option (Bool)
 | 0, _, _, _, _, _, _, _, _, _, _, _, _, _, _, _, _, _, _ => none
 | k + 1, x3, x4, x5, x6, x7, x8, x9, x47, x51, x54, x55, x58, x59, x357, x264000, x264001, x272000, x272001 => if x357 = true then (none) else (if x47 = true then (if (wrap64 (x264000 * x4)) = (wrap64 (x3 * x264001)) then (if x264000 > x5 then (none) else (laws_FnTrainsFoundOfAll.j5 k x6 x7 x8 x9 x51 x54 x55 x58 x59 (decide (x264001 > x5)) x272000 x272001)) else (none)) else (laws_FnTrainsFoundOfAll.j5 k x6 x7 x8 x9 x51 x54 x55 x58 x59 false x272000 x272001))
def laws_FnTrainsFoundOfAll.j5 : Nat → Int → Int → Int → Int → Bool → List (List (S23)) → Bool → List (S23) → Bool → Bool → Int → Int → Option (Bool)
 | 0, _, _, _, _, _, _, _, _, _, _, _, _ => none
 | k + 1, x6, x7, x8, x9, x51, x54, x55, x58, x59, x381, x272000, x272001 => if x381 = true then (none) else (if x51 = true then ((impl_FirstPair.f k x6 x7 x8).bind fun bt294 => (if bt294.2.2 = true then (laws_FnTrainsFoundOfAll.j6 k x6 x7 x8 x9 x54 x55 x58 x59 ((wrap64 (x272000 * bt294.2.1)) != (wrap64 (bt294.1 * x272001))) x272000 x272001) else (laws_FnTrainsFoundOfAll.j6 k x6 x7 x8 x9 x54 x55 x58 x59 false x272000 x272001))) else (laws_FnTrainsFoundOfAll.j10 k x9 x54 x55 x58 x59))
def laws_FnTrainsFoundOfAll.j10 : Nat → Int → List (List (S23)) → Bool → List (S23) → Bool → Option (Bool)
 | 0, _, _, _, _, _ => none
 | k + 1, x9, x54, x55, x58, x59 => if x59 = true then ((impl_RatioOf.f k x58).bind fun bt300 => ((impl_TeethOf.f k x58).bind fun bt303 => (if bt300.2.2 = true then (if bt300.1 = 1 then (if bt300.2.1 = x9 then (if bt303.2 = true then (if (x58.length : Int) = 2 then (if 0 < (x58.length : Int) then (if 1 < (x58.length : Int) then (if (wrap64 (((rd_T23 x58 0).f0) + ((rd_T23 x58 0).f1))) = (wrap64 (((rd_T23 x58 1).f0) + ((rd_T23 x58 1).f1))) then (if x55 = true then (laws_FnTrainsFoundOfAll.j11 k x9 x54 bt303.1 (decide ((x54.length : Int) < 1))) else (laws_FnTrainsFoundOfAll.j11 k x9 x54 bt303.1 false)) else (none)) else (none)) else (none)) else (none)) else (none)) else (none)) else (none)) else (none)))) else (if x55 = true then (if (x54.length : Int) > 0 then (none) else (some true)) else (some true))
def laws_FnTrainsFoundOfAll.j11 : Nat → Int → List (List (S23)) → Int → Bool → Option (Bool)
 | 0, _, _, _, _ => none
 | k + 1, x9, x54, x72, x521 => if x521 = true then (none) else (laws_FnTrainsFoundOfAll.l3 k x9 x72 x54 (x54.length : Int) 0)
def laws_FnTrainsFoundOfAll.l3 : Nat → Int → Int → List (List (S23)) → Int → Int → Option (Bool)
 | 0, _, _, _, _, _ => none
 | k + 1, x9, x72, x522, x523, x524 => if x524 < x523 then (if 0 ≤ x524 then (if x524 < (x522.length : Int) then ((impl_TeethOf.f k (rd_L2 x522 x524)).bind fun bt310 => ((impl_RatioOf.f k (rd_L2 x522 x524)).bind fun bt312 => (if bt310.2 = true then (if bt310.1 < x72 then (none) else (if bt312.2.2 = true then (if bt312.1 = 1 then (if bt312.2.1 = x9 then (if 0 < ((rd_L2 x522 x524).length : Int) then (if 1 < ((rd_L2 x522 x524).length : Int) then (if (wrap64 (((rd_T23 (rd_L2 x522 x524) 0).f0) + ((rd_T23 (rd_L2 x522 x524) 0).f1))) = (wrap64 (((rd_T23 (rd_L2 x522 x524) 1).f0) + ((rd_T23 (rd_L2 x522 x524) 1).f1))) then (laws_FnTrainsFoundOfAll.l3 k x9 x72 x522 x523 (wrap64 (x524 + 1))) else (none)) else (none)) else (none)) else (none)) else (none)) else (none))) else (none)))) else (none)) else (none)) else (some true)
def laws_FnTrainsFoundOfAll.j6 : Nat → Int → Int → Int → Int → List (List (S23)) → Bool → List (S23) → Bool → Bool → Int → Int → Option (Bool)
 | 0, _, _, _, _, _, _, _, _, _, _, _ => none
 | k + 1, x6, x7, x8, x9, x54, x55, x58, x59, x403, x272000, x272001 => if x403 = true then (none) else ((laws_kAbs.f (wrap64 ((wrap64 (x272000 * x7)) - (wrap64 (x6 * x272001))))).bind fun t298 => (laws_FnTrainsFoundOfAll.l1 k x6 x7 x8 x9 x54 x55 x58 x59 t298 (-1) x272000 x272001))
def laws_FnTrainsFoundOfAll.l1 : Nat → Int → Int → Int → Int → List (List (S23)) → Bool → List (S23) → Bool → Int → Int → Int → Int → Option (Bool)
 | 0, _, _, _, _, _, _, _, _, _, _, _, _ => none
 | k + 1, x6, x7, x8, x9, x54, x55, x58, x59, x64, x65, x272000, x272001 => if x65 ≤ 1 then (laws_FnTrainsFoundOfAll.l2 k x6 x7 x8 x9 x54 x55 x58 x59 x64 x65 (-1) x272000 x272001) else (laws_FnTrainsFoundOfAll.j10 k x9 x54 x55 x58 x59)
def laws_FnTrainsFoundOfAll.l2 : Nat → Int → Int → Int → Int → List (List (S23)) → Bool → List (S23) → Bool → Int → Int → Int → Int → Int → Option (Bool)
 | 0, _, _, _, _, _, _, _, _, _, _, _, _, _ => none
 | k + 1, x6, x7, x8, x9, x54, x55, x58, x59, x64, x65, x66, x272000, x272001 => if x66 ≤ 1 then (if (wrap64 (x272000 + x65)) < 6 then (laws_FnTrainsFoundOfAll.j9 k x6 x7 x8 x9 x54 x55 x58 x59 x64 x65 x66 (wrap64 (x272000 + x65)) (wrap64 (x272001 + x66)) true x272000 x272001) else (if (wrap64 (x272000 + x65)) > x8 then (laws_FnTrainsFoundOfAll.j9 k x6 x7 x8 x9 x54 x55 x58 x59 x64 x65 x66 (wrap64 (x272000 + x65)) (wrap64 (x272001 + x66)) true x272000 x272001) else (if (wrap64 (x272001 + x66)) < 6 then (laws_FnTrainsFoundOfAll.j9 k x6 x7 x8 x9 x54 x55 x58 x59 x64 x65 x66 (wrap64 (x272000 + x65)) (wrap64 (x272001 + x66)) true x272000 x272001) else (laws_FnTrainsFoundOfAll.j9 k x6 x7 x8 x9 x54 x55 x58 x59 x64 x65 x66 (wrap64 (x272000 + x65)) (wrap64 (x272001 + x66)) (decide ((wrap64 (x272001 + x66)) > x8)) x272000 x272001)))) else (laws_FnTrainsFoundOfAll.l1 k x6 x7 x8 x9 x54 x55 x58 x59 x64 (wrap64 (x65 + 1)) x272000 x272001)
def laws_FnTrainsFoundOfAll.j9 : Nat → Int → Int → Int → Int → List (List (S23)) → Bool → List (S23) → Bool → Int → Int → Int → Int → Int → Bool → Int → Int → Option (Bool)
 | 0, _, _, _, _, _, _, _, _, _, _, _, _, _, _, _, _ => none
 | k + 1, x6, x7, x8, x9, x54, x55, x58, x59, x64, x65, x66, x67, x68, x445, x272000, x272001 => if x445 = true then (laws_FnTrainsFoundOfAll.l2 k x6 x7 x8 x9 x54 x55 x58 x59 x64 x65 (wrap64 (x66 + 1)) x272000 x272001) else ((laws_kAbs.f (wrap64 ((wrap64 (x67 * x7)) - (wrap64 (x6 * x68))))).bind fun t299 => (if (wrap64 (t299 * x272001)) < (wrap64 (x64 * x68)) then (none) else (laws_FnTrainsFoundOfAll.l2 k x6 x7 x8 x9 x54 x55 x58 x59 x64 x65 (wrap64 (x66 + 1)) x272000 x272001)))
def laws_FnTrainsFoundOfAll.j1 : Nat → Int → Int → Int → Int → Int → Int → Int → Int → Int → Int → Int → List (S23) → List (S23) → Int → Bool → Option (Bool)
 | 0, _, _, _, _, _, _, _, _, _, _, _, _, _, _, _ => none
 | k + 1, x0, x1, x2, x3, x4, x5, x6, x7, x8, x9, x10, x23, x27, x39, x204 => if x204 = true then (none) else (laws_FnTrainsFoundOfAll.l0 k x0 x1 x2 x3 x4 x5 x6 x7 x8 x9 x10 x23 x27 x39 0)
def laws_FnTrainsFoundOfAll.l0 : Nat → Int → Int → Int → Int → Int → Int → Int → Int → Int → Int → Int → List (S23) → List (S23) → Int → Int → Option (Bool)
 | 0, _, _, _, _, _, _, _, _, _, _, _, _, _, _, _ => none
 | k + 1, x0, x1, x2, x3, x4, x5, x6, x7, x8, x9, x10, x23, x27, x39, x41 => if x41 < 2 then (if 0 ≤ x41 then (if x41 < (x23.length : Int) then (if ((rd_T23 x23 x41).f0) > x2 then (none) else (if ((rd_T23 x23 x41).f1) > x2 then (none) else (if x41 < (x27.length : Int) then (if ((rd_T23 x27 x41).f0) > x2 then (none) else (if ((rd_T23 x27 x41).f1) > x2 then (none) else (laws_FnTrainsFoundOfAll.l0 k x0 x1 x2 x3 x4 x5 x6 x7 x8 x9 x10 x23 x27 x39 (wrap64 (x41 + 1))))) else (none)))) else (none)) else (none)) else ((impl_FewestTeeth.f k x1 x0 x2).bind fun bt254 => ((impl_TeethOf.f k bt254.1).bind fun bt258 => (if bt254.2 = true then (if bt258.2 = true then (if bt258.1 = x39 then (laws_FnTrainsFoundOfAll.j3 k x3 x4 x5 x6 x7 x8 x9 x10) else (none)) else (none)) else (none))))
end
def laws_FnTrainsFoundOfAll.f (k : Nat) (a0 : Int) (a1 : Int) (a2 : Int) (a3 : Int) (a4 : Int) (a5 : Int) (a6 : Int) (a7 : Int) (a8 : Int) (a9 : Int) (a10 : Int) : Option (Bool) := (impl_FirstTrain.f k a0 a1 a2).bind fun bt222 => ((spec_FirstTrain.f k a0 a1 a2).bind fun bt226 => ((impl_FewestTeeth.f k a0 a1 a2).bind fun bt230 => ((spec_FewestTeeth.f k a0 a1 a2).bind fun bt234 => (if (bt222.2 != bt226.2) = true then (none) else ((laws_kPairs.f k bt222.1 bt226.1).bind fun t238 => (if t238 = true then (if (bt230.2 != bt234.2) = true then (none) else ((laws_kPairs.f k bt230.1 bt234.1).bind fun t239 => (if t239 = true then (laws_FnTrainsFoundOfAll.j0 k a0 a1 a2 a3 a4 a5 a6 a7 a8 a9 a10 bt222.1 bt222.2 bt230.1 (bt230.2 != bt222.2)) else (none)))) else (none)))))))
open laws_FnTrainsFoundOfAll
set_option maxHeartbeats 8000000 in
set_option maxRecDepth 100000 in
theorem laws_FnTrainsFoundOfAll.calls (k : Nat) (a0 : Int) (a1 : Int) (a2 : Int) (a3 : Int) (a4 : Int) (a5 : Int) (a6 : Int) (a7 : Int) (a8 : Int) (a9 : Int) (a10 : Int) (r : Bool) (w : World) (h : laws_FnTrainsFoundOfAll.f k a0 a1 a2 a3 a4 a5 a6 a7 a8 a9 a10 = some r) :
  Calls Try.prog 8 #[.int .i64 a0, .int .i64 a1, .int .i64 a2, .int .i64 a3, .int .i64 a4, .int .i64 a5, .int .i64 a6, .int .i64 a7, .int .i64 a8, .int .i64 a9, .int .i64 a10] w fun e w' => e = .returned (.bool r) ∧ Below w.heap.size w w' := by
 have hu23 := Try.underlying23
 have HB := Aside0.mk (Below.refl w.heap.size w)
 have H : ((impl_FirstTrain.f k a0 a1 a2).bind fun bt222 => ((spec_FirstTrain.f k a0 a1 a2).bind fun bt226 => ((impl_FewestTeeth.f k a0 a1 a2).bind fun bt230 => ((spec_FewestTeeth.f k a0 a1 a2).bind fun bt234 => (if (bt222.2 != bt226.2) = true then (none) else ((laws_kPairs.f k bt222.1 bt226.1).bind fun t238 => (if t238 = true then (if (bt230.2 != bt234.2) = true then (none) else ((laws_kPairs.f k bt230.1 bt234.1).bind fun t239 => (if t239 = true then (j0 k a0 a1 a2 a3 a4 a5 a6 a7 a8 a9 a10 bt222.1 bt222.2 bt230.1 (bt230.2 != bt222.2)) else (none)))) else (none)))))))) = some r := h
 clear h
 replace H := Option.bind_eq_some_iff.mp H
 obtain ⟨⟨t222, t223⟩, A120, H⟩ := H
 replace H : ((spec_FirstTrain.f k a0 a1 a2).bind fun bt226 => ((impl_FewestTeeth.f k a0 a1 a2).bind fun bt230 => ((spec_FewestTeeth.f k a0 a1 a2).bind fun bt234 => (if (t223 != bt226.2) = true then (none) else ((laws_kPairs.f k t222 bt226.1).bind fun t238 => (if t238 = true then (if (bt230.2 != bt234.2) = true then (none) else ((laws_kPairs.f k bt230.1 bt234.1).bind fun t239 => (if t239 = true then (j0 k a0 a1 a2 a3 a4 a5 a6 a7 a8 a9 a10 t222 t223 bt230.1 (bt230.2 != t223)) else (none)))) else (none))))))) = some r := H
 have A12 := Aside0.mk A120
 clear A120
 replace H := Option.bind_eq_some_iff.mp H
 obtain ⟨⟨t226, t227⟩, A130, H⟩ := H
 replace H : ((impl_FewestTeeth.f k a0 a1 a2).bind fun bt230 => ((spec_FewestTeeth.f k a0 a1 a2).bind fun bt234 => (if (t223 != t227) = true then (none) else ((laws_kPairs.f k t222 t226).bind fun t238 => (if t238 = true then (if (bt230.2 != bt234.2) = true then (none) else ((laws_kPairs.f k bt230.1 bt234.1).bind fun t239 => (if t239 = true then (j0 k a0 a1 a2 a3 a4 a5 a6 a7 a8 a9 a10 t222 t223 bt230.1 (bt230.2 != t223)) else (none)))) else (none)))))) = some r := H
 have A13 := Aside0.mk A130
 clear A130
 replace H := Option.bind_eq_some_iff.mp H
 obtain ⟨⟨t230, t231⟩, A140, H⟩ := H
 replace H : ((spec_FewestTeeth.f k a0 a1 a2).bind fun bt234 => (if (t223 != t227) = true then (none) else ((laws_kPairs.f k t222 t226).bind fun t238 => (if t238 = true then (if (t231 != bt234.2) = true then (none) else ((laws_kPairs.f k t230 bt234.1).bind fun t239 => (if t239 = true then (j0 k a0 a1 a2 a3 a4 a5 a6 a7 a8 a9 a10 t222 t223 t230 (t231 != t223)) else (none)))) else (none))))) = some r := H
 have A14 := Aside0.mk A140
 clear A140
 replace H := Option.bind_eq_some_iff.mp H
 obtain ⟨⟨t234, t235⟩, A150, H⟩ := H
 replace H : (if (t223 != t227) = true then (none) else ((laws_kPairs.f k t222 t226).bind fun t238 => (if t238 = true then (if (t231 != t235) = true then (none) else ((laws_kPairs.f k t230 t234).bind fun t239 => (if t239 = true then (j0 k a0 a1 a2 a3 a4 a5 a6 a7 a8 a9 a10 t222 t223 t230 (t231 != t223)) else (none)))) else (none)))) = some r := H
 have A15 := Aside0.mk A150
 clear A150
 have HC16 := Aside0.mk H
 clear H
 go_enter Try.func8, Try.ntmps8
 go_upto_region 5 with (first | (go_at_call 25; refine calls_of_args (args' := #[.int .i64 a0, .int .i64 a1, .int .i64 a2]) (by first | rfl) ?_; (with_reducible refine (impl_FirstTrain.calls k a0 a1 a2 t222 t223 _ A12.out).mono ?_); rintro e w17 ⟨v224, rfl, ho0, hb⟩; have n0_ := Aside0.mk (Kd.R_lower ho0 (below_size (by repeat (first | (with_reducible first | exact HB.out | apply below_alloc | apply pw_below_drewN | apply below_drew1) | exact HB.out)))); have n1_ := Aside0.mk (below_step (by repeat (first | (with_reducible first | exact HB.out | apply below_alloc | apply pw_below_drewN | apply below_drew1) | exact HB.out)) hb); clear HB; have HO225 := n0_; have HB := n1_; clear n0_ n1_; (try clear hb); (try clear hb2); (try clear hk); (try clear hi); (try clear ho0)) | (go_at_call 24; refine calls_of_args (args' := #[.int .i64 a0, .int .i64 a1, .int .i64 a2]) (by first | rfl) ?_; (with_reducible refine (spec_FirstTrain.calls k a0 a1 a2 t226 t227 _ A13.out).mono ?_); rintro e w18 ⟨v228, rfl, ho0, hb⟩; have n0_ := Aside0.mk (Kd.R_elder' (by (with_reducible repeat (first | apply Kd.R_alloc | apply Kd.R_drewN | apply Kd.R_drew)); exact HO225.out) (Kd.R_base ho0) hb); have n1_ := Aside0.mk (Kd.R_lower (Kd.R_new' ho0 (Kd.R_lt (by (with_reducible repeat (first | apply Kd.R_alloc | apply Kd.R_drewN | apply Kd.R_drew)); exact HO225.out))) (below_size (by repeat (first | (with_reducible first | exact HB.out | apply below_alloc | apply pw_below_drewN | apply below_drew1) | exact HB.out)))); have n2_ := Aside0.mk (below_step (by repeat (first | (with_reducible first | exact HB.out | apply below_alloc | apply pw_below_drewN | apply below_drew1) | exact HB.out)) hb); clear HO225; clear HB; have HO225 := n0_; have HO229 := n1_; have HB := n2_; clear n0_ n1_ n2_; (try clear hb); (try clear hb2); (try clear hk); (try clear hi); (try clear ho0)) | (go_at_call 23; refine calls_of_args (args' := #[.int .i64 a0, .int .i64 a1, .int .i64 a2]) (by first | rfl) ?_; (with_reducible refine (impl_FewestTeeth.calls k a0 a1 a2 t230 t231 _ A14.out).mono ?_); rintro e w19 ⟨v232, rfl, ho0, hb⟩; have n0_ := Aside0.mk (Kd.R_elder' (by (with_reducible repeat (first | apply Kd.R_alloc | apply Kd.R_drewN | apply Kd.R_drew)); exact HO225.out) (Kd.R_base ho0) hb); have n1_ := Aside0.mk (Kd.R_elder' (by (with_reducible repeat (first | apply Kd.R_alloc | apply Kd.R_drewN | apply Kd.R_drew)); exact HO229.out) (Kd.R_base ho0) hb); have n2_ := Aside0.mk (Kd.R_lower (Kd.R_new' (Kd.R_new' ho0 (Kd.R_lt (by (with_reducible repeat (first | apply Kd.R_alloc | apply Kd.R_drewN | apply Kd.R_drew)); exact HO225.out))) (Kd.R_lt (by (with_reducible repeat (first | apply Kd.R_alloc | apply Kd.R_drewN | apply Kd.R_drew)); exact HO229.out))) (below_size (by repeat (first | (with_reducible first | exact HB.out | apply below_alloc | apply pw_below_drewN | apply below_drew1) | exact HB.out)))); have n3_ := Aside0.mk (below_step (by repeat (first | (with_reducible first | exact HB.out | apply below_alloc | apply pw_below_drewN | apply below_drew1) | exact HB.out)) hb); clear HO225; clear HO229; clear HB; have HO225 := n0_; have HO229 := n1_; have HO233 := n2_; have HB := n3_; clear n0_ n1_ n2_ n3_; (try clear hb); (try clear hb2); (try clear hk); (try clear hi); (try clear ho0)) | (go_at_call 22; refine calls_of_args (args' := #[.int .i64 a0, .int .i64 a1, .int .i64 a2]) (by first | rfl) ?_; (with_reducible refine (spec_FewestTeeth.calls k a0 a1 a2 t234 t235 _ A15.out).mono ?_); rintro e w20 ⟨v236, rfl, ho0, hb⟩; have n0_ := Aside0.mk (Kd.R_elder' (by (with_reducible repeat (first | apply Kd.R_alloc | apply Kd.R_drewN | apply Kd.R_drew)); exact HO225.out) (Kd.R_base ho0) hb); have n1_ := Aside0.mk (Kd.R_elder' (by (with_reducible repeat (first | apply Kd.R_alloc | apply Kd.R_drewN | apply Kd.R_drew)); exact HO229.out) (Kd.R_base ho0) hb); have n2_ := Aside0.mk (Kd.R_elder' (by (with_reducible repeat (first | apply Kd.R_alloc | apply Kd.R_drewN | apply Kd.R_drew)); exact HO233.out) (Kd.R_base ho0) hb); have n3_ := Aside0.mk (Kd.R_lower (Kd.R_new' (Kd.R_new' (Kd.R_new' ho0 (Kd.R_lt (by (with_reducible repeat (first | apply Kd.R_alloc | apply Kd.R_drewN | apply Kd.R_drew)); exact HO225.out))) (Kd.R_lt (by (with_reducible repeat (first | apply Kd.R_alloc | apply Kd.R_drewN | apply Kd.R_drew)); exact HO229.out))) (Kd.R_lt (by (with_reducible repeat (first | apply Kd.R_alloc | apply Kd.R_drewN | apply Kd.R_drew)); exact HO233.out))) (below_size (by repeat (first | (with_reducible first | exact HB.out | apply below_alloc | apply pw_below_drewN | apply below_drew1) | exact HB.out)))); have n4_ := Aside0.mk (below_step (by repeat (first | (with_reducible first | exact HB.out | apply below_alloc | apply pw_below_drewN | apply below_drew1) | exact HB.out)) hb); clear HO225; clear HO229; clear HO233; clear HB; have HO225 := n0_; have HO229 := n1_; have HO233 := n2_; have HO237 := n3_; have HB := n4_; clear n0_ n1_ n2_ n3_ n4_; (try clear hb); (try clear hb2); (try clear hk); (try clear hi); (try clear ho0)))
 (try simp only [Act.put, List.setIfInBounds_toArray, List.set_cons_zero, List.set_cons_succ])
 go_cut [133] from 81 to 133 (fun v133 wc => ∃ (kq : Nat) (x133_15 : Bool), v133 = .bool x133_15 ∧ Aside0 (j0 kq a0 a1 a2 a3 a4 a5 a6 a7 a8 a9 a10 t222 t223 t230 x133_15 = some r) ∧ Aside0 (kq ≤ k) ∧ Aside0 (Kd.R k23 23 wc w.heap.size (fun k_ => some k_ ≠ (v232 : Value).ownBlock) v224 t222) ∧ Aside0 (Kd.R k23 23 wc w.heap.size (fun k_ => some k_ ≠ (v224 : Value).ownBlock) v232 t230) ∧ Aside0 (Below w.heap.size w wc))
 case first => as_aux_lemma =>
  have H := HC16.out
  clear HC16
  by_cases c21 : (t223 != t227) = true
  ·
   rw [if_pos c21] at H
   exact absurd H (by simp)
  ·
   rw [if_neg c21] at H
   have c21b0 : (t223 != t227) = false := by simpa using c21
   (try (have c21b1 : decide (t223 = t227) = true := by simpa using c21))
   (try (have c21b2 : (t223 == t227) = true := by simpa using c21))
   clear c21
   (first | rw [c21b0] | (simp only [i64_w, i32_w]; rw [c21b0]) | skip)
   replace H := Option.bind_eq_some_iff.mp H
   obtain ⟨t238, A220, H⟩ := H
   replace H : (if t238 = true then (if (t231 != t235) = true then (none) else ((laws_kPairs.f k t230 t234).bind fun t239 => (if t239 = true then (j0 k a0 a1 a2 a3 a4 a5 a6 a7 a8 a9 a10 t222 t223 t230 (t231 != t223)) else (none)))) else (none)) = some r := H
   have A22 := Aside0.mk A220
   clear A220
   by_cases c23 : t238 = true
   ·
    subst c23
    have H1 : (if (t231 != t235) = true then (none) else ((laws_kPairs.f k t230 t234).bind fun t239 => (if t239 = true then (j0 k a0 a1 a2 a3 a4 a5 a6 a7 a8 a9 a10 t222 t223 t230 (t231 != t223)) else (none)))) = some r := by rw [if_pos rfl] at H; exact H
    clear H
    have H := H1
    clear H1
    by_cases c24 : (t231 != t235) = true
    ·
     rw [if_pos c24] at H
     exact absurd H (by simp)
    ·
     rw [if_neg c24] at H
     have c24b0 : (t231 != t235) = false := by simpa using c24
     (try (have c24b1 : decide (t231 = t235) = true := by simpa using c24))
     (try (have c24b2 : (t231 == t235) = true := by simpa using c24))
     clear c24
     replace H := Option.bind_eq_some_iff.mp H
     obtain ⟨t239, A250, H⟩ := H
     replace H : (if t239 = true then (j0 k a0 a1 a2 a3 a4 a5 a6 a7 a8 a9 a10 t222 t223 t230 (t231 != t223)) else (none)) = some r := H
     have A25 := Aside0.mk A250
     clear A250
     by_cases c26 : t239 = true
     ·
      subst c26
      have H1 : (j0 k a0 a1 a2 a3 a4 a5 a6 a7 a8 a9 a10 t222 t223 t230 (t231 != t223)) = some r := by rw [if_pos rfl] at H; exact H
      clear H
      have H := H1
      clear H1
      as_aux_lemma =>
       have H' := Aside0.mk H
       clear H
       obtain ⟨Ao27, co27, eo27⟩ := Kd.R_slice HO225.out
       subst eo27
       obtain ⟨Ao28, co28, eo28⟩ := Kd.R_slice HO229.out
       subst eo28
       go_wp2_with (first | (go_at_call 26; refine calls_of_args (args' := #[.slice Ao27 t222.length co27, .slice Ao28 t226.length co28]) (by first | rfl) ?_; (with_reducible refine (laws_kPairs.calls k _ _ t222 _ _ t226 true _ ?side1 ?side2 ?side3 ?side4 A22.out).mono ?_); (case side1 => repeat (first | exact (Kd.R_reads' HO225.out).2.2 | (with_reducible refine Kd.C_alloc ?_ _) | (with_reducible refine Kd.C_drewN ?_ _) | (with_reducible refine Kd.C_drew ?_))); (case side2 => exact (Kd.R_reads' HO225.out).2.1); (case side3 => repeat (first | exact (Kd.R_reads' HO229.out).2.2 | (with_reducible refine Kd.C_alloc ?_ _) | (with_reducible refine Kd.C_drewN ?_ _) | (with_reducible refine Kd.C_drew ?_))); (case side4 => exact (Kd.R_reads' HO229.out).2.1); rintro e w' ⟨rfl, ⟨nd, rfl⟩⟩; (try first | exact ⟨rfl, _, World.drewN_drewN _ _ _⟩ | exact ⟨rfl, _, Eq.trans (World.drewN_drewN _ _ _) (congrArg (World.drewN _) (Nat.add_assoc _ _ _))⟩); obtain ⟨Ao29, co29, eo29⟩ := Kd.R_slice HO233.out; subst eo29; obtain ⟨Ao30, co30, eo30⟩ := Kd.R_slice HO237.out; subst eo30) | (go_at_call 26; refine calls_of_args (args' := #[.slice Ao29 t230.length co29, .slice Ao30 t234.length co30]) (by first | rfl) ?_; (with_reducible refine (laws_kPairs.calls k _ _ t230 _ _ t234 true _ ?side1 ?side2 ?side3 ?side4 A25.out).mono ?_); (case side1 => repeat (first | exact (Kd.R_reads' HO233.out).2.2 | (with_reducible refine Kd.C_alloc ?_ _) | (with_reducible refine Kd.C_drewN ?_ _) | (with_reducible refine Kd.C_drew ?_))); (case side2 => exact (Kd.R_reads' HO233.out).2.1); (case side3 => repeat (first | exact (Kd.R_reads' HO237.out).2.2 | (with_reducible refine Kd.C_alloc ?_ _) | (with_reducible refine Kd.C_drewN ?_ _) | (with_reducible refine Kd.C_drew ?_))); (case side4 => exact (Kd.R_reads' HO237.out).2.1); rintro e w' ⟨rfl, ⟨nd, rfl⟩⟩; (try first | exact ⟨rfl, _, World.drewN_drewN _ _ _⟩ | exact ⟨rfl, _, Eq.trans (World.drewN_drewN _ _ _) (congrArg (World.drewN _) (Nat.add_assoc _ _ _))⟩)))
       go_meet
       case rel => exact ⟨_, ((t231 != t223)), (by first | rfl | (simp; done) | (simp [*]; done)), H', ⟨by first | omega | exact Nat.le_refl _⟩, ⟨by (with_reducible repeat (first | apply Kd.R_alloc | apply Kd.R_drewN | apply Kd.R_drew)); exact Kd.R_mono HO225.out (fun _ hk => hk.1.2)⟩, ⟨by (with_reducible repeat (first | apply Kd.R_alloc | apply Kd.R_drewN | apply Kd.R_drew)); exact Kd.R_mono HO233.out (fun _ hk => hk.1.1.2)⟩, ⟨by repeat (first | (with_reducible first | exact HB.out | apply below_alloc | apply pw_below_drewN | apply below_drew1) | exact HB.out)⟩⟩
     ·
      replace c26 := Bool.eq_false_iff.mpr c26
      subst c26
      have H1 : (none) = some r := by rw [if_neg (show ¬ (false = true) by decide)] at H; exact H
      clear H
      have H := H1
      clear H1
      exact absurd H (by simp)
   ·
    replace c23 := Bool.eq_false_iff.mpr c23
    subst c23
    have H1 : (none) = some r := by rw [if_neg (show ¬ (false = true) by decide)] at H; exact H
    clear H
    have H := H1
    clear H1
    exact absurd H (by simp)
 case rest => as_aux_lemma =>
  clear HC16
  obtain ⟨kq, x133_15, rfl, HA, HJ15, HO_23, HO_27, HB⟩ := hcut
  cases kq with
  | zero => exact absurd HA.out (by simp [j0])
  | succ kj15 =>
   have H := HA.out
   clear HA
   simp only [j0] at H
   by_cases c31 : x133_15 = true
   ·
    subst c31
    have H1 : (none) = some r := by rw [if_pos rfl] at H; exact H
    clear H
    have H := H1
    clear H1
    exact absurd H (by simp)
   ·
    replace c31 := Bool.eq_false_iff.mpr c31
    subst c31
    have H1 : (if t223 = true then ((impl_RatioOf.f kj15 t222).bind fun bt240 => ((impl_RatioOf.f kj15 t230).bind fun bt243 => ((impl_TeethOf.f kj15 t222).bind fun bt246 => ((impl_TeethOf.f kj15 t230).bind fun bt248 => (if bt240.2.2 = true then (if (wrap64 (bt240.1 * a1)) = (wrap64 (a0 * bt240.2.1)) then (if bt243.2.2 = true then (if bt243.1 = bt240.1 then (if bt243.2.1 = bt240.2.1 then (if bt246.2 = true then (if bt248.2 = true then (if bt248.1 > bt246.1 then (none) else (if (t222.length : Int) = 2 then (j1 kj15 a0 a1 a2 a3 a4 a5 a6 a7 a8 a9 a10 t222 t230 bt248.1 ((t230.length : Int) != 2)) else (none))) else (none)) else (none)) else (none)) else (none)) else (none)) else (none)) else (none)))))) else (j3 kj15 a3 a4 a5 a6 a7 a8 a9 a10)) = some r := by rw [if_neg (show ¬ (false = true) by decide)] at H; exact H
    clear H
    have H := H1
    clear H1
    have HC32 := Aside0.mk H
    clear H
    go_upto_if 134 with (fail)
    go_cut [] from 134 to 204 (fun wc => ∃ (kq : Nat), Aside0 (j3 kq a3 a4 a5 a6 a7 a8 a9 a10 = some r) ∧ Aside0 (kq ≤ kj15) ∧ Aside0 (Below w.heap.size w wc))
    case first => as_aux_lemma =>
     have H := HC32.out
     clear HC32
     by_cases c33 : t223 = true
     ·
      subst c33
      have H1 : ((impl_RatioOf.f kj15 t222).bind fun bt240 => ((impl_RatioOf.f kj15 t230).bind fun bt243 => ((impl_TeethOf.f kj15 t222).bind fun bt246 => ((impl_TeethOf.f kj15 t230).bind fun bt248 => (if bt240.2.2 = true then (if (wrap64 (bt240.1 * a1)) = (wrap64 (a0 * bt240.2.1)) then (if bt243.2.2 = true then (if bt243.1 = bt240.1 then (if bt243.2.1 = bt240.2.1 then (if bt246.2 = true then (if bt248.2 = true then (if bt248.1 > bt246.1 then (none) else (if (t222.length : Int) = 2 then (j1 kj15 a0 a1 a2 a3 a4 a5 a6 a7 a8 a9 a10 t222 t230 bt248.1 ((t230.length : Int) != 2)) else (none))) else (none)) else (none)) else (none)) else (none)) else (none)) else (none)) else (none)))))) = some r := by rw [if_pos rfl] at H; exact H
      clear H
      have H := H1
      clear H1
      replace H := Option.bind_eq_some_iff.mp H
      obtain ⟨⟨t240, t241, t242⟩, A340, H⟩ := H
      replace H : ((impl_RatioOf.f kj15 t230).bind fun bt243 => ((impl_TeethOf.f kj15 t222).bind fun bt246 => ((impl_TeethOf.f kj15 t230).bind fun bt248 => (if t242 = true then (if (wrap64 (t240 * a1)) = (wrap64 (a0 * t241)) then (if bt243.2.2 = true then (if bt243.1 = t240 then (if bt243.2.1 = t241 then (if bt246.2 = true then (if bt248.2 = true then (if bt248.1 > bt246.1 then (none) else (if (t222.length : Int) = 2 then (j1 kj15 a0 a1 a2 a3 a4 a5 a6 a7 a8 a9 a10 t222 t230 bt248.1 ((t230.length : Int) != 2)) else (none))) else (none)) else (none)) else (none)) else (none)) else (none)) else (none)) else (none))))) = some r := H
      have A34 := Aside0.mk A340
      clear A340
      replace H := Option.bind_eq_some_iff.mp H
      obtain ⟨⟨t243, t244, t245⟩, A350, H⟩ := H
      replace H : ((impl_TeethOf.f kj15 t222).bind fun bt246 => ((impl_TeethOf.f kj15 t230).bind fun bt248 => (if t242 = true then (if (wrap64 (t240 * a1)) = (wrap64 (a0 * t241)) then (if t245 = true then (if t243 = t240 then (if t244 = t241 then (if bt246.2 = true then (if bt248.2 = true then (if bt248.1 > bt246.1 then (none) else (if (t222.length : Int) = 2 then (j1 kj15 a0 a1 a2 a3 a4 a5 a6 a7 a8 a9 a10 t222 t230 bt248.1 ((t230.length : Int) != 2)) else (none))) else (none)) else (none)) else (none)) else (none)) else (none)) else (none)) else (none)))) = some r := H
      have A35 := Aside0.mk A350
      clear A350
      replace H := Option.bind_eq_some_iff.mp H
      obtain ⟨⟨t246, t247⟩, A360, H⟩ := H
      replace H : ((impl_TeethOf.f kj15 t230).bind fun bt248 => (if t242 = true then (if (wrap64 (t240 * a1)) = (wrap64 (a0 * t241)) then (if t245 = true then (if t243 = t240 then (if t244 = t241 then (if t247 = true then (if bt248.2 = true then (if bt248.1 > t246 then (none) else (if (t222.length : Int) = 2 then (j1 kj15 a0 a1 a2 a3 a4 a5 a6 a7 a8 a9 a10 t222 t230 bt248.1 ((t230.length : Int) != 2)) else (none))) else (none)) else (none)) else (none)) else (none)) else (none)) else (none)) else (none))) = some r := H
      have A36 := Aside0.mk A360
      clear A360
      replace H := Option.bind_eq_some_iff.mp H
      obtain ⟨⟨t248, t249⟩, A370, H⟩ := H
      replace H : (if t242 = true then (if (wrap64 (t240 * a1)) = (wrap64 (a0 * t241)) then (if t245 = true then (if t243 = t240 then (if t244 = t241 then (if t247 = true then (if t249 = true then (if t248 > t246 then (none) else (if (t222.length : Int) = 2 then (j1 kj15 a0 a1 a2 a3 a4 a5 a6 a7 a8 a9 a10 t222 t230 t248 ((t230.length : Int) != 2)) else (none))) else (none)) else (none)) else (none)) else (none)) else (none)) else (none)) else (none)) = some r := H
      have A37 := Aside0.mk A370
      clear A370
      have HC38 := Aside0.mk H
      clear H
      obtain ⟨Ao39, co39, eo39⟩ := Kd.R_slice HO_23.out
      subst eo39
      go_upto_region 12 with (first | (go_at_call 27; refine calls_of_args (args' := #[.slice Ao39 t222.length co39]) (by first | rfl) ?_; (with_reducible refine (impl_RatioOf.calls kj15 _ _ t222 t240 t241 t242 _ ?side1 ?side2 A34.out).mono ?_); (case side1 => repeat (first | exact (Kd.R_reads' HO_23.out).2.2 | (with_reducible refine Kd.C_alloc ?_ _) | (with_reducible refine Kd.C_drewN ?_ _) | (with_reducible refine Kd.C_drew ?_))); (case side2 => exact (Kd.R_reads' HO_23.out).2.1); rintro e w40 ⟨rfl, hb⟩; have n0_ := Aside0.mk (Kd.R_below (by (with_reducible repeat (first | apply Kd.R_alloc | apply Kd.R_drewN | apply Kd.R_drew)); exact HO_23.out) hb); have n1_ := Aside0.mk (Kd.R_below (by (with_reducible repeat (first | apply Kd.R_alloc | apply Kd.R_drewN | apply Kd.R_drew)); exact HO_27.out) hb); have n2_ := Aside0.mk (below_step (by repeat (first | (with_reducible first | exact HB.out | apply below_alloc | apply pw_below_drewN | apply below_drew1) | exact HB.out)) hb); clear HO_23; clear HO_27; clear HB; have HO_23 := n0_; have HO_27 := n1_; have HB := n2_; clear n0_ n1_ n2_; (try clear hb); (try clear hb2); (try clear hk); (try clear hi); obtain ⟨Ao41, co41, eo41⟩ := Kd.R_slice HO_27.out; subst eo41) | (go_at_call 27; refine calls_of_args (args' := #[.slice Ao41 t230.length co41]) (by first | rfl) ?_; (with_reducible refine (impl_RatioOf.calls kj15 _ _ t230 t243 t244 t245 _ ?side1 ?side2 A35.out).mono ?_); (case side1 => repeat (first | exact (Kd.R_reads' HO_27.out).2.2 | (with_reducible refine Kd.C_alloc ?_ _) | (with_reducible refine Kd.C_drewN ?_ _) | (with_reducible refine Kd.C_drew ?_))); (case side2 => exact (Kd.R_reads' HO_27.out).2.1); rintro e w42 ⟨rfl, hb⟩; have n0_ := Aside0.mk (Kd.R_below (by (with_reducible repeat (first | apply Kd.R_alloc | apply Kd.R_drewN | apply Kd.R_drew)); exact HO_23.out) hb); have n1_ := Aside0.mk (Kd.R_below (by (with_reducible repeat (first | apply Kd.R_alloc | apply Kd.R_drewN | apply Kd.R_drew)); exact HO_27.out) hb); have n2_ := Aside0.mk (below_step (by repeat (first | (with_reducible first | exact HB.out | apply below_alloc | apply pw_below_drewN | apply below_drew1) | exact HB.out)) hb); clear HO_23; clear HO_27; clear HB; have HO_23 := n0_; have HO_27 := n1_; have HB := n2_; clear n0_ n1_ n2_; (try clear hb); (try clear hb2); (try clear hk); (try clear hi)) | (go_at_call 28; refine calls_of_args (args' := #[.slice Ao39 t222.length co39]) (by first | rfl) ?_; (with_reducible refine (impl_TeethOf.calls kj15 _ _ t222 t246 t247 _ ?side1 ?side2 A36.out).mono ?_); (case side1 => repeat (first | exact (Kd.R_reads' HO_23.out).2.2 | (with_reducible refine Kd.C_alloc ?_ _) | (with_reducible refine Kd.C_drewN ?_ _) | (with_reducible refine Kd.C_drew ?_))); (case side2 => exact (Kd.R_reads' HO_23.out).2.1); rintro e w43 ⟨rfl, hb⟩; have n0_ := Aside0.mk (Kd.R_below (by (with_reducible repeat (first | apply Kd.R_alloc | apply Kd.R_drewN | apply Kd.R_drew)); exact HO_23.out) hb); have n1_ := Aside0.mk (Kd.R_below (by (with_reducible repeat (first | apply Kd.R_alloc | apply Kd.R_drewN | apply Kd.R_drew)); exact HO_27.out) hb); have n2_ := Aside0.mk (below_step (by repeat (first | (with_reducible first | exact HB.out | apply below_alloc | apply pw_below_drewN | apply below_drew1) | exact HB.out)) hb); clear HO_23; clear HO_27; clear HB; have HO_23 := n0_; have HO_27 := n1_; have HB := n2_; clear n0_ n1_ n2_; (try clear hb); (try clear hb2); (try clear hk); (try clear hi)) | (go_at_call 28; refine calls_of_args (args' := #[.slice Ao41 t230.length co41]) (by first | rfl) ?_; (with_reducible refine (impl_TeethOf.calls kj15 _ _ t230 t248 t249 _ ?side1 ?side2 A37.out).mono ?_); (case side1 => repeat (first | exact (Kd.R_reads' HO_27.out).2.2 | (with_reducible refine Kd.C_alloc ?_ _) | (with_reducible refine Kd.C_drewN ?_ _) | (with_reducible refine Kd.C_drew ?_))); (case side2 => exact (Kd.R_reads' HO_27.out).2.1); rintro e w44 ⟨rfl, hb⟩; have n0_ := Aside0.mk (Kd.R_below (by (with_reducible repeat (first | apply Kd.R_alloc | apply Kd.R_drewN | apply Kd.R_drew)); exact HO_23.out) hb); have n1_ := Aside0.mk (Kd.R_below (by (with_reducible repeat (first | apply Kd.R_alloc | apply Kd.R_drewN | apply Kd.R_drew)); exact HO_27.out) hb); have n2_ := Aside0.mk (below_step (by repeat (first | (with_reducible first | exact HB.out | apply below_alloc | apply pw_below_drewN | apply below_drew1) | exact HB.out)) hb); clear HO_23; clear HO_27; clear HB; have HO_23 := n0_; have HO_27 := n1_; have HB := n2_; clear n0_ n1_ n2_; (try clear hb); (try clear hb2); (try clear hk); (try clear hi)))
      (try simp only [Act.put, List.setIfInBounds_toArray, List.set_cons_zero, List.set_cons_succ])
      go_cut [204] from 134 to 204 (fun v204 wc => ∃ (kq : Nat) (x204_37 : Bool), v204 = .bool x204_37 ∧ Aside0 (j1 kq a0 a1 a2 a3 a4 a5 a6 a7 a8 a9 a10 t222 t230 t248 x204_37 = some r) ∧ Aside0 (kq ≤ kj15) ∧ Aside0 (Kd.R k23 23 wc w.heap.size (fun k_ => some k_ ≠ ((.slice Ao41 t230.length co41) : Value).ownBlock) (.slice Ao39 t222.length co39) t222) ∧ Aside0 (Kd.R k23 23 wc w.heap.size (fun k_ => some k_ ≠ ((.slice Ao39 t222.length co39) : Value).ownBlock) (.slice Ao41 t230.length co41) t230) ∧ Aside0 (Below w.heap.size w wc))
      case first => as_aux_lemma =>
       have H := HC38.out
       clear HC38
       by_cases c45 : t242 = true
       ·
        subst c45
        have H1 : (if (wrap64 (t240 * a1)) = (wrap64 (a0 * t241)) then (if t245 = true then (if t243 = t240 then (if t244 = t241 then (if t247 = true then (if t249 = true then (if t248 > t246 then (none) else (if (t222.length : Int) = 2 then (j1 kj15 a0 a1 a2 a3 a4 a5 a6 a7 a8 a9 a10 t222 t230 t248 ((t230.length : Int) != 2)) else (none))) else (none)) else (none)) else (none)) else (none)) else (none)) else (none)) = some r := by rw [if_pos rfl] at H; exact H
        clear H
        have H := H1
        clear H1
        by_cases c46 : (wrap64 (t240 * a1)) = (wrap64 (a0 * t241))
        ·
         rw [if_pos c46] at H
         have c46b0 : ((wrap64 (t240 * a1)) == (wrap64 (a0 * t241))) = true := beq_iff_eq.mpr c46
         have c46b1 : ((wrap64 (t240 * a1)) != (wrap64 (a0 * t241))) = false := bne_eq_false_iff_eq.mpr c46
         clear c46
         (first | rw [c46b0] | (simp only [i64_w, i32_w]; rw [c46b0]) | skip)
         by_cases c47 : t245 = true
         ·
          subst c47
          have H1 : (if t243 = t240 then (if t244 = t241 then (if t247 = true then (if t249 = true then (if t248 > t246 then (none) else (if (t222.length : Int) = 2 then (j1 kj15 a0 a1 a2 a3 a4 a5 a6 a7 a8 a9 a10 t222 t230 t248 ((t230.length : Int) != 2)) else (none))) else (none)) else (none)) else (none)) else (none)) = some r := by rw [if_pos rfl] at H; exact H
          clear H
          have H := H1
          clear H1
          by_cases c48 : t243 = t240
          ·
           rw [if_pos c48] at H
           have c48b0 : (t243 == t240) = true := beq_iff_eq.mpr c48
           have c48b1 : (t243 != t240) = false := bne_eq_false_iff_eq.mpr c48
           clear c48
           by_cases c49 : t244 = t241
           ·
            rw [if_pos c49] at H
            have c49b0 : (t244 == t241) = true := beq_iff_eq.mpr c49
            have c49b1 : (t244 != t241) = false := bne_eq_false_iff_eq.mpr c49
            clear c49
            by_cases c50 : t247 = true
            ·
             subst c50
             have H1 : (if t249 = true then (if t248 > t246 then (none) else (if (t222.length : Int) = 2 then (j1 kj15 a0 a1 a2 a3 a4 a5 a6 a7 a8 a9 a10 t222 t230 t248 ((t230.length : Int) != 2)) else (none))) else (none)) = some r := by rw [if_pos rfl] at H; exact H
             clear H
             have H := H1
             clear H1
             by_cases c51 : t249 = true
             ·
              subst c51
              have H1 : (if t248 > t246 then (none) else (if (t222.length : Int) = 2 then (j1 kj15 a0 a1 a2 a3 a4 a5 a6 a7 a8 a9 a10 t222 t230 t248 ((t230.length : Int) != 2)) else (none))) = some r := by rw [if_pos rfl] at H; exact H
              clear H
              have H := H1
              clear H1
              by_cases c52 : t248 > t246
              ·
               rw [if_pos c52] at H
               exact absurd H (by simp)
              ·
               rw [if_neg c52] at H
               have c52b0 : decide (t246 < t248) = false := decide_eq_false c52
               clear c52
               by_cases c53 : (t222.length : Int) = 2
               ·
                rw [if_pos c53] at H
                have c53b0 : ((t222.length : Int) == 2) = true := beq_iff_eq.mpr c53
                have c53b1 : ((t222.length : Int) != 2) = false := bne_eq_false_iff_eq.mpr c53
                clear c53
                as_aux_lemma =>
                 have H' := Aside0.mk H
                 clear H
                 go_wp2
                 go_meet
                 case rel => exact ⟨_, (((t230.length : Int) != 2)), (by first | rfl | (simp; done) | (simp [*]; done)), H', ⟨by have := HJ15.out; first | omega | exact Nat.le_refl _⟩, ⟨by (with_reducible repeat (first | apply Kd.R_alloc | apply Kd.R_drewN | apply Kd.R_drew)); exact HO_23.out⟩, ⟨by (with_reducible repeat (first | apply Kd.R_alloc | apply Kd.R_drewN | apply Kd.R_drew)); exact HO_27.out⟩, ⟨by repeat (first | (with_reducible first | exact HB.out | apply below_alloc | apply pw_below_drewN | apply below_drew1) | exact HB.out)⟩⟩
               ·
                rw [if_neg c53] at H
                exact absurd H (by simp)
             ·
              replace c51 := Bool.eq_false_iff.mpr c51
              subst c51
              have H1 : (none) = some r := by rw [if_neg (show ¬ (false = true) by decide)] at H; exact H
              clear H
              have H := H1
              clear H1
              exact absurd H (by simp)
            ·
             replace c50 := Bool.eq_false_iff.mpr c50
             subst c50
             have H1 : (none) = some r := by rw [if_neg (show ¬ (false = true) by decide)] at H; exact H
             clear H
             have H := H1
             clear H1
             exact absurd H (by simp)
           ·
            rw [if_neg c49] at H
            exact absurd H (by simp)
          ·
           rw [if_neg c48] at H
           exact absurd H (by simp)
         ·
          replace c47 := Bool.eq_false_iff.mpr c47
          subst c47
          have H1 : (none) = some r := by rw [if_neg (show ¬ (false = true) by decide)] at H; exact H
          clear H
          have H := H1
          clear H1
          exact absurd H (by simp)
        ·
         rw [if_neg c46] at H
         exact absurd H (by simp)
       ·
        replace c45 := Bool.eq_false_iff.mpr c45
        subst c45
        have H1 : (none) = some r := by rw [if_neg (show ¬ (false = true) by decide)] at H; exact H
        clear H
        have H := H1
        clear H1
        exact absurd H (by simp)
      case rest => as_aux_lemma =>
       clear HC38
       try clear c31
       try clear c33
       obtain ⟨kq, x204_37, rfl, HA, HJ37, HO_23, HO_27, HB⟩ := hcut
       cases kq with
       | zero => exact absurd HA.out (by simp [j1])
       | succ kj37 =>
        have H := HA.out
        clear HA
        simp only [j1] at H
        by_cases c54 : x204_37 = true
        ·
         subst c54
         have H1 : (none) = some r := by rw [if_pos rfl] at H; exact H
         clear H
         have H := H1
         clear H1
         exact absurd H (by simp)
        ·
         replace c54 := Bool.eq_false_iff.mpr c54
         subst c54
         have H1 : (l0 kj37 a0 a1 a2 a3 a4 a5 a6 a7 a8 a9 a10 t222 t230 t248 0) = some r := by rw [if_neg (show ¬ (false = true) by decide)] at H; exact H
         clear H
         have H := H1
         clear H1
         have H' := Aside0.mk H
         clear H
         go_wp2
         go_loopg [41] kj37 (fun kq v41 w' => ∃ (x41_3 : Int), v41 = .int .i64 x41_3 ∧ Aside0 (l0 kq a0 a1 a2 a3 a4 a5 a6 a7 a8 a9 a10 t222 t230 t248 x41_3 = some r) ∧ Aside0 (kq ≤ kj37) ∧ Aside0 (Kd.R k23 23 w' w.heap.size (fun k_ => some k_ ≠ ((.slice Ao41 t230.length co41) : Value).ownBlock) (.slice Ao39 t222.length co39) t222) ∧ Aside0 (Kd.R k23 23 w' w.heap.size (fun k_ => some k_ ≠ ((.slice Ao39 t222.length co39) : Value).ownBlock) (.slice Ao41 t230.length co41) t230) ∧ Aside0 (Below w.heap.size w w'))
         case atStart => exact ⟨(0), (by first | rfl | (simp; done) | (simp [*]; done)), H', ⟨Nat.le_refl _⟩, ⟨by (with_reducible repeat (first | apply Kd.R_alloc | apply Kd.R_drewN | apply Kd.R_drew)); exact HO_23.out⟩, ⟨by (with_reducible repeat (first | apply Kd.R_alloc | apply Kd.R_drewN | apply Kd.R_drew)); exact HO_27.out⟩, ⟨by repeat (first | (with_reducible first | exact HB.out | apply below_alloc | apply pw_below_drewN | apply below_drew1) | exact HB.out)⟩⟩
         case round => as_aux_lemma =>
          clear H'
          try clear c31
          try clear c33
          try clear c54
          obtain ⟨x41_3, rfl, HA, HK3, HO_23, HO_27, HB⟩ := hrel
          cases gk with
          | zero => exact absurd HA.out (by simp [l0])
          | succ k3 =>
           have H := HA.out
           clear HA
           simp only [l0] at H
           by_cases c55 : x41_3 < 2
           ·
            rw [if_pos c55] at H
            have c55b0 : decide (x41_3 < 2) = true := decide_eq_true c55
            clear c55
            by_cases c56 : 0 ≤ x41_3
            ·
             rw [if_pos c56] at H
             have c56b0 : decide (0 ≤ x41_3) = true := decide_eq_true c56
             clear c56
             by_cases c57 : x41_3 < (t222.length : Int)
             ·
              rw [if_pos c57] at H
              have c57b0 : decide (x41_3 < (t222.length : Int)) = true := decide_eq_true c57
              clear c57
              by_cases c58 : ((rd_T23 t222 x41_3).f0) > a2
              ·
               rw [if_pos c58] at H
               exact absurd H (by simp)
              ·
               rw [if_neg c58] at H
               have c58b0 : decide (a2 < ((rd_T23 t222 x41_3).f0)) = false := decide_eq_false c58
               clear c58
               by_cases c59 : ((rd_T23 t222 x41_3).f1) > a2
               ·
                rw [if_pos c59] at H
                exact absurd H (by simp)
               ·
                rw [if_neg c59] at H
                have c59b0 : decide (a2 < ((rd_T23 t222 x41_3).f1)) = false := decide_eq_false c59
                clear c59
                by_cases c60 : x41_3 < (t230.length : Int)
                ·
                 rw [if_pos c60] at H
                 have c60b0 : decide (x41_3 < (t230.length : Int)) = true := decide_eq_true c60
                 clear c60
                 by_cases c61 : ((rd_T23 t230 x41_3).f0) > a2
                 ·
                  rw [if_pos c61] at H
                  exact absurd H (by simp)
                 ·
                  rw [if_neg c61] at H
                  have c61b0 : decide (a2 < ((rd_T23 t230 x41_3).f0)) = false := decide_eq_false c61
                  clear c61
                  by_cases c62 : ((rd_T23 t230 x41_3).f1) > a2
                  ·
                   rw [if_pos c62] at H
                   exact absurd H (by simp)
                  ·
                   rw [if_neg c62] at H
                   have c62b0 : decide (a2 < ((rd_T23 t230 x41_3).f1)) = false := decide_eq_false c62
                   clear c62
                   as_aux_lemma =>
                    have H' := Aside0.mk H
                    clear H
                    have p250 : 0 ≤ (x41_3 : Int) := of_decide_eq_true (by first | (with_reducible assumption) | assumption)
                    have q250 : x41_3 < (t222.length : Int) := of_decide_eq_true (by first | (with_reducible assumption) | assumption)
                    obtain ⟨ad250, e250, hx250_0, hx250_1⟩ := at_T23 (Kd.R_reads' HO_23.out).2.2 x41_3 p250 q250
                    cases e250
                    replace p250 := eq_true p250
                    replace q250 := eq_true q250
                    have p251 : 0 ≤ (x41_3 : Int) := of_decide_eq_true (by first | (with_reducible assumption) | assumption)
                    have q251 : x41_3 < (t222.length : Int) := of_decide_eq_true (by first | (with_reducible assumption) | assumption)
                    obtain ⟨ad251, e251, hx251_0, hx251_1⟩ := at_T23 (Kd.R_reads' HO_23.out).2.2 x41_3 p251 q251
                    obtain rfl : ad250 = ad251 := (by injection e251)
                    replace p251 := eq_true p251
                    replace q251 := eq_true q251
                    have p252 : 0 ≤ (x41_3 : Int) := of_decide_eq_true (by first | (with_reducible assumption) | assumption)
                    have q252 : x41_3 < (t230.length : Int) := of_decide_eq_true (by first | (with_reducible assumption) | assumption)
                    obtain ⟨ad252, e252, hx252_0, hx252_1⟩ := at_T23 (Kd.R_reads' HO_27.out).2.2 x41_3 p252 q252
                    cases e252
                    replace p252 := eq_true p252
                    replace q252 := eq_true q252
                    have p253 : 0 ≤ (x41_3 : Int) := of_decide_eq_true (by first | (with_reducible assumption) | assumption)
                    have q253 : x41_3 < (t230.length : Int) := of_decide_eq_true (by first | (with_reducible assumption) | assumption)
                    obtain ⟨ad253, e253, hx253_0, hx253_1⟩ := at_T23 (Kd.R_reads' HO_27.out).2.2 x41_3 p253 q253
                    obtain rfl : ad252 = ad253 := (by injection e253)
                    replace p253 := eq_true p253
                    replace q253 := eq_true q253
                    go_wp2
                    go_roundg k3
                    case measure => have := HJ15.out; have := HJ37.out; have := HK3.out; omega
                    case rel => exact ⟨(wrap64 (x41_3 + 1)), (by first | rfl | (simp; done) | (simp [*]; done)), H', ⟨by have := HJ15.out; have := HJ37.out; have := HK3.out; omega⟩, ⟨by (with_reducible repeat (first | apply Kd.R_alloc | apply Kd.R_drewN | apply Kd.R_drew)); exact HO_23.out⟩, ⟨by (with_reducible repeat (first | apply Kd.R_alloc | apply Kd.R_drewN | apply Kd.R_drew)); exact HO_27.out⟩, ⟨by repeat (first | (with_reducible first | exact HB.out | apply below_alloc | apply pw_below_drewN | apply below_drew1) | exact HB.out)⟩⟩
                ·
                 rw [if_neg c60] at H
                 exact absurd H (by simp)
             ·
              rw [if_neg c57] at H
              exact absurd H (by simp)
            ·
             rw [if_neg c56] at H
             exact absurd H (by simp)
           ·
            rw [if_neg c55] at H
            have c55b0 : decide (x41_3 < 2) = false := decide_eq_false c55
            clear c55
            replace H := Option.bind_eq_some_iff.mp H
            obtain ⟨⟨t254, t255⟩, A630, H⟩ := H
            replace H : ((impl_TeethOf.f k3 t254).bind fun bt258 => (if t255 = true then (if bt258.2 = true then (if bt258.1 = t248 then (j3 k3 a3 a4 a5 a6 a7 a8 a9 a10) else (none)) else (none)) else (none))) = some r := H
            have A63 := Aside0.mk A630
            clear A630
            replace H := Option.bind_eq_some_iff.mp H
            obtain ⟨⟨t258, t259⟩, A640, H⟩ := H
            replace H : (if t255 = true then (if t259 = true then (if t258 = t248 then (j3 k3 a3 a4 a5 a6 a7 a8 a9 a10) else (none)) else (none)) else (none)) = some r := H
            have A64 := Aside0.mk A640
            clear A640
            by_cases c65 : t255 = true
            ·
             subst c65
             have H1 : (if t259 = true then (if t258 = t248 then (j3 k3 a3 a4 a5 a6 a7 a8 a9 a10) else (none)) else (none)) = some r := by rw [if_pos rfl] at H; exact H
             clear H
             have H := H1
             clear H1
             by_cases c66 : t259 = true
             ·
              subst c66
              have H1 : (if t258 = t248 then (j3 k3 a3 a4 a5 a6 a7 a8 a9 a10) else (none)) = some r := by rw [if_pos rfl] at H; exact H
              clear H
              have H := H1
              clear H1
              by_cases c67 : t258 = t248
              ·
               rw [if_pos c67] at H
               have c67b0 : (t258 == t248) = true := beq_iff_eq.mpr c67
               have c67b1 : (t258 != t248) = false := bne_eq_false_iff_eq.mpr c67
               clear c67
               as_aux_lemma =>
                have H' := Aside0.mk H
                clear H
                go_wp2_with (first | (go_at_call 23; refine calls_of_args (args' := #[.int .i64 a1, .int .i64 a0, .int .i64 a2]) (by first | rfl) ?_; (with_reducible refine (impl_FewestTeeth.calls k3 a1 a0 a2 t254 true _ A63.out).mono ?_); rintro e w68 ⟨v256, rfl, ho0, hb⟩; have n0_ := Aside0.mk (Kd.R_elder' (by (with_reducible repeat (first | apply Kd.R_alloc | apply Kd.R_drewN | apply Kd.R_drew)); exact HO_23.out) (Kd.R_base ho0) hb); have n1_ := Aside0.mk (Kd.R_elder' (by (with_reducible repeat (first | apply Kd.R_alloc | apply Kd.R_drewN | apply Kd.R_drew)); exact HO_27.out) (Kd.R_base ho0) hb); have n2_ := Aside0.mk (Kd.R_lower (Kd.R_new' (Kd.R_new' ho0 (Kd.R_lt (by (with_reducible repeat (first | apply Kd.R_alloc | apply Kd.R_drewN | apply Kd.R_drew)); exact HO_23.out))) (Kd.R_lt (by (with_reducible repeat (first | apply Kd.R_alloc | apply Kd.R_drewN | apply Kd.R_drew)); exact HO_27.out))) (below_size (by repeat (first | (with_reducible first | exact HB.out | apply below_alloc | apply pw_below_drewN | apply below_drew1) | exact HB.out)))); have n3_ := Aside0.mk (below_step (by repeat (first | (with_reducible first | exact HB.out | apply below_alloc | apply pw_below_drewN | apply below_drew1) | exact HB.out)) hb); clear HO_23; clear HO_27; clear HB; have HO_23 := n0_; have HO_27 := n1_; have HO257 := n2_; have HB := n3_; clear n0_ n1_ n2_ n3_; (try clear hb); (try clear hb2); (try clear hk); (try clear hi); (try clear ho0); obtain ⟨Ao69, co69, eo69⟩ := Kd.R_slice HO257.out; subst eo69) | (go_at_call 28; refine calls_of_args (args' := #[.slice Ao69 t254.length co69]) (by first | rfl) ?_; (with_reducible refine (impl_TeethOf.calls k3 _ _ t254 t258 true _ ?side1 ?side2 A64.out).mono ?_); (case side1 => repeat (first | exact (Kd.R_reads' HO257.out).2.2 | (with_reducible refine Kd.C_alloc ?_ _) | (with_reducible refine Kd.C_drewN ?_ _) | (with_reducible refine Kd.C_drew ?_))); (case side2 => exact (Kd.R_reads' HO257.out).2.1); rintro e w70 ⟨rfl, hb⟩; have n0_ := Aside0.mk (Kd.R_below (by (with_reducible repeat (first | apply Kd.R_alloc | apply Kd.R_drewN | apply Kd.R_drew)); exact HO_23.out) hb); have n1_ := Aside0.mk (Kd.R_below (by (with_reducible repeat (first | apply Kd.R_alloc | apply Kd.R_drewN | apply Kd.R_drew)); exact HO_27.out) hb); have n2_ := Aside0.mk (Kd.R_below (by (with_reducible repeat (first | apply Kd.R_alloc | apply Kd.R_drewN | apply Kd.R_drew)); exact HO257.out) hb); have n3_ := Aside0.mk (below_step (by repeat (first | (with_reducible first | exact HB.out | apply below_alloc | apply pw_below_drewN | apply below_drew1) | exact HB.out)) hb); clear HO_23; clear HO_27; clear HO257; clear HB; have HO_23 := n0_; have HO_27 := n1_; have HO257 := n2_; have HB := n3_; clear n0_ n1_ n2_ n3_; (try clear hb); (try clear hb2); (try clear hk); (try clear hi)))
                go_meet
                case rel => exact ⟨_, H', ⟨by have := HJ15.out; have := HJ37.out; have := HK3.out; first | omega | exact Nat.le_refl _⟩, ⟨by repeat (first | (with_reducible first | exact HB.out | apply below_alloc | apply pw_below_drewN | apply below_drew1) | exact HB.out)⟩⟩
              ·
               rw [if_neg c67] at H
               exact absurd H (by simp)
             ·
              replace c66 := Bool.eq_false_iff.mpr c66
              subst c66
              have H1 : (none) = some r := by rw [if_neg (show ¬ (false = true) by decide)] at H; exact H
              clear H
              have H := H1
              clear H1
              exact absurd H (by simp)
            ·
             replace c65 := Bool.eq_false_iff.mpr c65
             subst c65
             have H1 : (none) = some r := by rw [if_neg (show ¬ (false = true) by decide)] at H; exact H
             clear H
             have H := H1
             clear H1
             exact absurd H (by simp)
     ·
      replace c33 := Bool.eq_false_iff.mpr c33
      subst c33
      have H1 : (j3 kj15 a3 a4 a5 a6 a7 a8 a9 a10) = some r := by rw [if_neg (show ¬ (false = true) by decide)] at H; exact H
      clear H
      have H := H1
      clear H1
      as_aux_lemma =>
       have H' := Aside0.mk H
       clear H
       go_wp2
       go_meet
       case rel => exact ⟨_, H', ⟨by have := HJ15.out; first | omega | exact Nat.le_refl _⟩, ⟨by repeat (first | (with_reducible first | exact HB.out | apply below_alloc | apply pw_below_drewN | apply below_drew1) | exact HB.out)⟩⟩
    case rest => as_aux_lemma =>
     clear HC32
     try clear c31
     obtain ⟨kq, HA, HJ31, HB⟩ := hcut
     cases kq with
     | zero => exact absurd HA.out (by simp [j3])
     | succ kj31 =>
      have H := HA.out
      clear HA
      simp only [j3] at H
      replace H := Option.bind_eq_some_iff.mp H
      obtain ⟨⟨t260, t261, t262⟩, A710, H⟩ := H
      replace H : ((spec_FirstPair.f kj31 a3 a4 a5).bind fun bt264 => ((impl_NearestPair.f kj31 a6 a7 a8).bind fun bt268 => ((spec_NearestPair.f kj31 a6 a7 a8).bind fun bt272 => ((impl_MotionWorks.f kj31 a9 a10).bind fun bt276 => ((spec_MotionWorks.f kj31 a9 a10).bind fun bt280 => ((impl_FirstMotionWork.f kj31 a9 a10).bind fun bt284 => ((spec_FirstMotionWork.f kj31 a9 a10).bind fun bt288 => (if (t262 != bt264.2.2) = true then (none) else (if (!(t260 == bt264.1) || (!(t261 == bt264.2.1))) = true then (none) else (if (bt268.2.2 != bt272.2.2) = true then (none) else (if (!(bt268.1 == bt272.1) || (!(bt268.2.1 == bt272.2.1))) = true then (none) else (if (bt276.2 != bt280.2) = true then (none) else ((laws_kTrains.f kj31 bt276.1 bt280.1).bind fun t292 => (if t292 = true then (if (bt284.2 != bt288.2) = true then (none) else ((laws_kPairs.f kj31 bt284.1 bt288.1).bind fun t293 => (j4 kj31 a3 a4 a5 a6 a7 a8 a9 t262 bt268.2.2 bt276.1 bt276.2 bt284.1 bt284.2 (!t293) t260 t261 bt268.1 bt268.2.1))) else (none))))))))))))))) = some r := H
      have A71 := Aside0.mk A710
      clear A710
      replace H := Option.bind_eq_some_iff.mp H
      obtain ⟨⟨t264, t265, t266⟩, A720, H⟩ := H
      replace H : ((impl_NearestPair.f kj31 a6 a7 a8).bind fun bt268 => ((spec_NearestPair.f kj31 a6 a7 a8).bind fun bt272 => ((impl_MotionWorks.f kj31 a9 a10).bind fun bt276 => ((spec_MotionWorks.f kj31 a9 a10).bind fun bt280 => ((impl_FirstMotionWork.f kj31 a9 a10).bind fun bt284 => ((spec_FirstMotionWork.f kj31 a9 a10).bind fun bt288 => (if (t262 != t266) = true then (none) else (if (!(t260 == t264) || (!(t261 == t265))) = true then (none) else (if (bt268.2.2 != bt272.2.2) = true then (none) else (if (!(bt268.1 == bt272.1) || (!(bt268.2.1 == bt272.2.1))) = true then (none) else (if (bt276.2 != bt280.2) = true then (none) else ((laws_kTrains.f kj31 bt276.1 bt280.1).bind fun t292 => (if t292 = true then (if (bt284.2 != bt288.2) = true then (none) else ((laws_kPairs.f kj31 bt284.1 bt288.1).bind fun t293 => (j4 kj31 a3 a4 a5 a6 a7 a8 a9 t262 bt268.2.2 bt276.1 bt276.2 bt284.1 bt284.2 (!t293) t260 t261 bt268.1 bt268.2.1))) else (none)))))))))))))) = some r := H
      have A72 := Aside0.mk A720
      clear A720
      replace H := Option.bind_eq_some_iff.mp H
      obtain ⟨⟨t268, t269, t270⟩, A730, H⟩ := H
      replace H : ((spec_NearestPair.f kj31 a6 a7 a8).bind fun bt272 => ((impl_MotionWorks.f kj31 a9 a10).bind fun bt276 => ((spec_MotionWorks.f kj31 a9 a10).bind fun bt280 => ((impl_FirstMotionWork.f kj31 a9 a10).bind fun bt284 => ((spec_FirstMotionWork.f kj31 a9 a10).bind fun bt288 => (if (t262 != t266) = true then (none) else (if (!(t260 == t264) || (!(t261 == t265))) = true then (none) else (if (t270 != bt272.2.2) = true then (none) else (if (!(t268 == bt272.1) || (!(t269 == bt272.2.1))) = true then (none) else (if (bt276.2 != bt280.2) = true then (none) else ((laws_kTrains.f kj31 bt276.1 bt280.1).bind fun t292 => (if t292 = true then (if (bt284.2 != bt288.2) = true then (none) else ((laws_kPairs.f kj31 bt284.1 bt288.1).bind fun t293 => (j4 kj31 a3 a4 a5 a6 a7 a8 a9 t262 t270 bt276.1 bt276.2 bt284.1 bt284.2 (!t293) t260 t261 t268 t269))) else (none))))))))))))) = some r := H
      have A73 := Aside0.mk A730
      clear A730
      replace H := Option.bind_eq_some_iff.mp H
      obtain ⟨⟨t272, t273, t274⟩, A740, H⟩ := H
      replace H : ((impl_MotionWorks.f kj31 a9 a10).bind fun bt276 => ((spec_MotionWorks.f kj31 a9 a10).bind fun bt280 => ((impl_FirstMotionWork.f kj31 a9 a10).bind fun bt284 => ((spec_FirstMotionWork.f kj31 a9 a10).bind fun bt288 => (if (t262 != t266) = true then (none) else (if (!(t260 == t264) || (!(t261 == t265))) = true then (none) else (if (t270 != t274) = true then (none) else (if (!(t268 == t272) || (!(t269 == t273))) = true then (none) else (if (bt276.2 != bt280.2) = true then (none) else ((laws_kTrains.f kj31 bt276.1 bt280.1).bind fun t292 => (if t292 = true then (if (bt284.2 != bt288.2) = true then (none) else ((laws_kPairs.f kj31 bt284.1 bt288.1).bind fun t293 => (j4 kj31 a3 a4 a5 a6 a7 a8 a9 t262 t270 bt276.1 bt276.2 bt284.1 bt284.2 (!t293) t260 t261 t268 t269))) else (none)))))))))))) = some r := H
      have A74 := Aside0.mk A740
      clear A740
      replace H := Option.bind_eq_some_iff.mp H
      obtain ⟨⟨t276, t277⟩, A750, H⟩ := H
      replace H : ((spec_MotionWorks.f kj31 a9 a10).bind fun bt280 => ((impl_FirstMotionWork.f kj31 a9 a10).bind fun bt284 => ((spec_FirstMotionWork.f kj31 a9 a10).bind fun bt288 => (if (t262 != t266) = true then (none) else (if (!(t260 == t264) || (!(t261 == t265))) = true then (none) else (if (t270 != t274) = true then (none) else (if (!(t268 == t272) || (!(t269 == t273))) = true then (none) else (if (t277 != bt280.2) = true then (none) else ((laws_kTrains.f kj31 t276 bt280.1).bind fun t292 => (if t292 = true then (if (bt284.2 != bt288.2) = true then (none) else ((laws_kPairs.f kj31 bt284.1 bt288.1).bind fun t293 => (j4 kj31 a3 a4 a5 a6 a7 a8 a9 t262 t270 t276 t277 bt284.1 bt284.2 (!t293) t260 t261 t268 t269))) else (none))))))))))) = some r := H
      have A75 := Aside0.mk A750
      clear A750
      replace H := Option.bind_eq_some_iff.mp H
      obtain ⟨⟨t280, t281⟩, A760, H⟩ := H
      replace H : ((impl_FirstMotionWork.f kj31 a9 a10).bind fun bt284 => ((spec_FirstMotionWork.f kj31 a9 a10).bind fun bt288 => (if (t262 != t266) = true then (none) else (if (!(t260 == t264) || (!(t261 == t265))) = true then (none) else (if (t270 != t274) = true then (none) else (if (!(t268 == t272) || (!(t269 == t273))) = true then (none) else (if (t277 != t281) = true then (none) else ((laws_kTrains.f kj31 t276 t280).bind fun t292 => (if t292 = true then (if (bt284.2 != bt288.2) = true then (none) else ((laws_kPairs.f kj31 bt284.1 bt288.1).bind fun t293 => (j4 kj31 a3 a4 a5 a6 a7 a8 a9 t262 t270 t276 t277 bt284.1 bt284.2 (!t293) t260 t261 t268 t269))) else (none)))))))))) = some r := H
      have A76 := Aside0.mk A760
      clear A760
      replace H := Option.bind_eq_some_iff.mp H
      obtain ⟨⟨t284, t285⟩, A770, H⟩ := H
      replace H : ((spec_FirstMotionWork.f kj31 a9 a10).bind fun bt288 => (if (t262 != t266) = true then (none) else (if (!(t260 == t264) || (!(t261 == t265))) = true then (none) else (if (t270 != t274) = true then (none) else (if (!(t268 == t272) || (!(t269 == t273))) = true then (none) else (if (t277 != t281) = true then (none) else ((laws_kTrains.f kj31 t276 t280).bind fun t292 => (if t292 = true then (if (t285 != bt288.2) = true then (none) else ((laws_kPairs.f kj31 t284 bt288.1).bind fun t293 => (j4 kj31 a3 a4 a5 a6 a7 a8 a9 t262 t270 t276 t277 t284 t285 (!t293) t260 t261 t268 t269))) else (none))))))))) = some r := H
      have A77 := Aside0.mk A770
      clear A770
      replace H := Option.bind_eq_some_iff.mp H
      obtain ⟨⟨t288, t289⟩, A780, H⟩ := H
      replace H : (if (t262 != t266) = true then (none) else (if (!(t260 == t264) || (!(t261 == t265))) = true then (none) else (if (t270 != t274) = true then (none) else (if (!(t268 == t272) || (!(t269 == t273))) = true then (none) else (if (t277 != t281) = true then (none) else ((laws_kTrains.f kj31 t276 t280).bind fun t292 => (if t292 = true then (if (t285 != t289) = true then (none) else ((laws_kPairs.f kj31 t284 t288).bind fun t293 => (j4 kj31 a3 a4 a5 a6 a7 a8 a9 t262 t270 t276 t277 t284 t285 (!t293) t260 t261 t268 t269))) else (none)))))))) = some r := H
      have A78 := Aside0.mk A780
      clear A780
      have HC79 := Aside0.mk H
      clear H
      go_upto_region 31 with (first | (go_at_call 29; refine calls_of_args (args' := #[.int .i64 a3, .int .i64 a4, .int .i64 a5]) (by first | rfl) ?_; (with_reducible refine (impl_FirstPair.calls kj31 a3 a4 a5 t260 t261 t262 _ A71.out).mono ?_); rintro e w80 ⟨rfl, hb⟩; have n0_ := Aside0.mk (below_step (by repeat (first | (with_reducible first | exact HB.out | apply below_alloc | apply pw_below_drewN | apply below_drew1) | exact HB.out)) hb); clear HB; have HB := n0_; clear n0_; (try clear hb); (try clear hb2); (try clear hk); (try clear hi)) | ((with_reducible refine gate_dst (N := 46) rfl ?_); (try (refine gate_guard (by rfl) ?_; dsimp only)); refine box_event ?hg (N := 46) ?hd (cs := #[.int .i64 0, .int .i64 0]) (t := 23) ?hr ?_; (case hd => rfl); (case hg => rfl); (case hr => first | (go_simp; done) | (go_simp; rfl)); intro gb263 hg w81 hbox hb; have n0_ := Aside0.mk (below_step (by repeat (first | (with_reducible first | exact HB.out | apply below_alloc | apply pw_below_drewN | apply below_drew1) | exact HB.out)) hb); have n1_ := Aside0.mk (hbox); have n2_ := Aside0.mk ((by rw [hg]; exact (below_size (by repeat (first | (with_reducible first | exact HB.out | apply below_alloc | apply pw_below_drewN | apply below_drew1) | exact HB.out))) : w.heap.size ≤ gb263)); have n3_ := Aside0.mk ((by rw [hg]; exact (below_size (by repeat (first | (with_reducible first | exact HB.out | apply below_alloc | apply pw_below_drewN | apply below_drew1) | exact HB.out))) : w.heap.size ≤ gb263)); clear HB; have HB := n0_; have BK263 := n1_; have GW263 := n2_; have GE263 := n3_; clear n0_ n1_ n2_ n3_; clear hb hbox hg; have hcz82_0 : w81.cell? ⟨gb263, 0, none⟩ = some (.int .i64 0) := (blk_cell BK263.out 0).trans rfl; have hcz82_1 : w81.cell? ⟨gb263, 1, none⟩ = some (.int .i64 0) := (blk_cell BK263.out 1).trans rfl; have hfz82_0 := blk_frozen BK263.out 0; have hfz82_1 := blk_frozen BK263.out 1) | (go_at_call 30; refine calls_of_args (args' := #[.int .i64 a3, .int .i64 a4, .int .i64 a5]) (by first | rfl) ?_; (with_reducible refine (spec_FirstPair.calls kj31 a3 a4 a5 t264 t265 t266 _ A72.out).mono ?_); rintro e w83 ⟨rfl, hb⟩; have n0_ := Aside0.mk (blk_below (g := gb263) (o := .cells #[.int .i64 t260, .int .i64 t261] 23 (0, 0)) (by (with_reducible repeat (first | refine blk_drewN ?_ _ | refine blk_drew ?_ | refine blk_alloc ?_ _)); refine blk_put (cs := #[.int .i64 t260, .int .i64 0]) ?_ 1 _ rfl; (with_reducible repeat (first | refine blk_drewN ?_ _ | refine blk_drew ?_ | refine blk_alloc ?_ _)); refine blk_put (cs := #[.int .i64 0, .int .i64 0]) ?_ 0 _ rfl; (with_reducible repeat (first | refine blk_drewN ?_ _ | refine blk_drew ?_ | refine blk_alloc ?_ _)); exact BK263.out) hb); have n1_ := Aside0.mk (below_step (by repeat (first | (with_reducible first | exact HB.out | apply below_alloc | apply pw_below_drewN | apply below_drew1 | refine below_set ?_ GE263.out) | exact HB.out)) hb); clear BK263; clear HB; have BK263 := n0_; have HB := n1_; clear n0_ n1_; (try clear hb); (try clear hb2); (try clear hk); (try clear hi)) | ((with_reducible refine gate_dst (N := 48) rfl ?_); (try (refine gate_guard (by rfl) ?_; dsimp only)); refine box_event ?hg (N := 48) ?hd (cs := #[.int .i64 0, .int .i64 0]) (t := 23) ?hr ?_; (case hd => rfl); (case hg => rfl); (case hr => first | (go_simp; done) | (go_simp; rfl)); intro gb267 hg w84 hbox hb; have n0_ := Aside0.mk (blk_below (g := gb263) (o := .cells #[.int .i64 t260, .int .i64 t261] 23 (0, 0)) (by (with_reducible repeat (first | refine blk_drewN ?_ _ | refine blk_drew ?_ | refine blk_alloc ?_ _)); exact BK263.out) hb); have n1_ := Aside0.mk (below_step (by repeat (first | (with_reducible first | exact HB.out | apply below_alloc | apply pw_below_drewN | apply below_drew1 | refine below_set ?_ GE263.out) | exact HB.out)) hb); have n2_ := Aside0.mk (hbox); have n3_ := Aside0.mk ((by rw [hg]; exact (below_size (by repeat (first | (with_reducible first | exact HB.out | apply below_alloc | apply pw_below_drewN | apply below_drew1 | refine below_set ?_ GE263.out) | exact HB.out))) : w.heap.size ≤ gb267)); have n4_ := Aside0.mk ((by rw [hg]; exact (below_size (by repeat (first | (with_reducible first | exact HB.out | apply below_alloc | apply pw_below_drewN | apply below_drew1 | refine below_set ?_ GE263.out) | exact HB.out))) : w.heap.size ≤ gb267)); have n5_ := Aside0.mk ((by rw [hg]; exact Nat.ne_of_lt (blk_lt (g := gb263) (o := .cells #[.int .i64 t260, .int .i64 t261] 23 (0, 0)) (by (with_reducible repeat (first | refine blk_drewN ?_ _ | refine blk_drew ?_ | refine blk_alloc ?_ _)); exact BK263.out)) : gb263 ≠ gb267)); have n6_ := Aside0.mk ((by rw [hg]; exact Nat.ne_of_gt (blk_lt (g := gb263) (o := .cells #[.int .i64 t260, .int .i64 t261] 23 (0, 0)) (by (with_reducible repeat (first | refine blk_drewN ?_ _ | refine blk_drew ?_ | refine blk_alloc ?_ _)); exact BK263.out)) : gb267 ≠ gb263)); clear BK263; clear HB; have BK263 := n0_; have HB := n1_; have BK267 := n2_; have GW267 := n3_; have GE267 := n4_; have NB263_267 := n5_; have NB267_263 := n6_; clear n0_ n1_ n2_ n3_ n4_ n5_ n6_; clear hb hbox hg; have hnb85 := NB267_263.out; have hnc85 := NB263_267.out; have hcz86_0 : w84.cell? ⟨gb267, 0, none⟩ = some (.int .i64 0) := (blk_cell BK267.out 0).trans rfl; have hcz86_1 : w84.cell? ⟨gb267, 1, none⟩ = some (.int .i64 0) := (blk_cell BK267.out 1).trans rfl; have hfz86_0 := blk_frozen BK267.out 0; have hfz86_1 := blk_frozen BK267.out 1) | (go_at_call 10; refine calls_of_args (args' := #[.int .i64 a6, .int .i64 a7, .int .i64 a8]) (by first | rfl) ?_; (with_reducible refine (impl_NearestPair.calls kj31 a6 a7 a8 t268 t269 t270 _ A73.out).mono ?_); rintro e w87 ⟨rfl, hb⟩; have n0_ := Aside0.mk (blk_below (g := gb263) (o := .cells #[.int .i64 t260, .int .i64 t261] 23 (0, 0)) (by (with_reducible repeat (first | refine blk_drewN ?_ _ | refine blk_drew ?_ | refine blk_alloc ?_ _)); refine blk_far ?_ NB263_267.out _; (with_reducible repeat (first | refine blk_drewN ?_ _ | refine blk_drew ?_ | refine blk_alloc ?_ _)); refine blk_far ?_ NB263_267.out _; (with_reducible repeat (first | refine blk_drewN ?_ _ | refine blk_drew ?_ | refine blk_alloc ?_ _)); exact BK263.out) hb); have n1_ := Aside0.mk (blk_below (g := gb267) (o := .cells #[.int .i64 t264, .int .i64 t265] 23 (0, 0)) (by (with_reducible repeat (first | refine blk_drewN ?_ _ | refine blk_drew ?_ | refine blk_alloc ?_ _)); refine blk_put (cs := #[.int .i64 t264, .int .i64 0]) ?_ 1 _ rfl; (with_reducible repeat (first | refine blk_drewN ?_ _ | refine blk_drew ?_ | refine blk_alloc ?_ _)); refine blk_put (cs := #[.int .i64 0, .int .i64 0]) ?_ 0 _ rfl; (with_reducible repeat (first | refine blk_drewN ?_ _ | refine blk_drew ?_ | refine blk_alloc ?_ _)); exact BK267.out) hb); have n2_ := Aside0.mk (below_step (by repeat (first | (with_reducible first | exact HB.out | apply below_alloc | apply pw_below_drewN | apply below_drew1 | refine below_set ?_ GE263.out | refine below_set ?_ GE267.out) | exact HB.out)) hb); clear BK263; clear BK267; clear HB; have BK263 := n0_; have BK267 := n1_; have HB := n2_; clear n0_ n1_ n2_; (try clear hb); (try clear hb2); (try clear hk); (try clear hi)) | ((with_reducible refine gate_dst (N := 50) rfl ?_); (try (refine gate_guard (by rfl) ?_; dsimp only)); refine box_event ?hg (N := 50) ?hd (cs := #[.int .i64 0, .int .i64 0]) (t := 23) ?hr ?_; (case hd => rfl); (case hg => rfl); (case hr => first | (go_simp; done) | (go_simp; rfl)); intro gb271 hg w88 hbox hb; have n0_ := Aside0.mk (blk_below (g := gb263) (o := .cells #[.int .i64 t260, .int .i64 t261] 23 (0, 0)) (by (with_reducible repeat (first | refine blk_drewN ?_ _ | refine blk_drew ?_ | refine blk_alloc ?_ _)); exact BK263.out) hb); have n1_ := Aside0.mk (blk_below (g := gb267) (o := .cells #[.int .i64 t264, .int .i64 t265] 23 (0, 0)) (by (with_reducible repeat (first | refine blk_drewN ?_ _ | refine blk_drew ?_ | refine blk_alloc ?_ _)); exact BK267.out) hb); have n2_ := Aside0.mk (below_step (by repeat (first | (with_reducible first | exact HB.out | apply below_alloc | apply pw_below_drewN | apply below_drew1 | refine below_set ?_ GE263.out | refine below_set ?_ GE267.out) | exact HB.out)) hb); have n3_ := Aside0.mk (hbox); have n4_ := Aside0.mk ((by rw [hg]; exact (below_size (by repeat (first | (with_reducible first | exact HB.out | apply below_alloc | apply pw_below_drewN | apply below_drew1 | refine below_set ?_ GE263.out | refine below_set ?_ GE267.out) | exact HB.out))) : w.heap.size ≤ gb271)); have n5_ := Aside0.mk ((by rw [hg]; exact (below_size (by repeat (first | (with_reducible first | exact HB.out | apply below_alloc | apply pw_below_drewN | apply below_drew1 | refine below_set ?_ GE263.out | refine below_set ?_ GE267.out) | exact HB.out))) : w.heap.size ≤ gb271)); have n6_ := Aside0.mk ((by rw [hg]; exact Nat.ne_of_lt (blk_lt (g := gb263) (o := .cells #[.int .i64 t260, .int .i64 t261] 23 (0, 0)) (by (with_reducible repeat (first | refine blk_drewN ?_ _ | refine blk_drew ?_ | refine blk_alloc ?_ _)); exact BK263.out)) : gb263 ≠ gb271)); have n7_ := Aside0.mk ((by rw [hg]; exact Nat.ne_of_gt (blk_lt (g := gb263) (o := .cells #[.int .i64 t260, .int .i64 t261] 23 (0, 0)) (by (with_reducible repeat (first | refine blk_drewN ?_ _ | refine blk_drew ?_ | refine blk_alloc ?_ _)); exact BK263.out)) : gb271 ≠ gb263)); have n8_ := Aside0.mk ((by rw [hg]; exact Nat.ne_of_lt (blk_lt (g := gb267) (o := .cells #[.int .i64 t264, .int .i64 t265] 23 (0, 0)) (by (with_reducible repeat (first | refine blk_drewN ?_ _ | refine blk_drew ?_ | refine blk_alloc ?_ _)); exact BK267.out)) : gb267 ≠ gb271)); have n9_ := Aside0.mk ((by rw [hg]; exact Nat.ne_of_gt (blk_lt (g := gb267) (o := .cells #[.int .i64 t264, .int .i64 t265] 23 (0, 0)) (by (with_reducible repeat (first | refine blk_drewN ?_ _ | refine blk_drew ?_ | refine blk_alloc ?_ _)); exact BK267.out)) : gb271 ≠ gb267)); clear BK263; clear BK267; clear HB; have BK263 := n0_; have BK267 := n1_; have HB := n2_; have BK271 := n3_; have GW271 := n4_; have GE271 := n5_; have NB263_271 := n6_; have NB271_263 := n7_; have NB267_271 := n8_; have NB271_267 := n9_; clear n0_ n1_ n2_ n3_ n4_ n5_ n6_ n7_ n8_ n9_; clear hb hbox hg; have hnb89 := NB271_263.out; have hnc89 := NB263_271.out; have hnb90 := NB271_267.out; have hnc90 := NB267_271.out; have hcz91_0 : w88.cell? ⟨gb271, 0, none⟩ = some (.int .i64 0) := (blk_cell BK271.out 0).trans rfl; have hcz91_1 : w88.cell? ⟨gb271, 1, none⟩ = some (.int .i64 0) := (blk_cell BK271.out 1).trans rfl; have hfz91_0 := blk_frozen BK271.out 0; have hfz91_1 := blk_frozen BK271.out 1) | (go_at_call 9; refine calls_of_args (args' := #[.int .i64 a6, .int .i64 a7, .int .i64 a8]) (by first | rfl) ?_; (with_reducible refine (spec_NearestPair.calls kj31 a6 a7 a8 t272 t273 t274 _ A74.out).mono ?_); rintro e w92 ⟨rfl, hb⟩; have n0_ := Aside0.mk (blk_below (g := gb263) (o := .cells #[.int .i64 t260, .int .i64 t261] 23 (0, 0)) (by (with_reducible repeat (first | refine blk_drewN ?_ _ | refine blk_drew ?_ | refine blk_alloc ?_ _)); refine blk_far ?_ NB263_271.out _; (with_reducible repeat (first | refine blk_drewN ?_ _ | refine blk_drew ?_ | refine blk_alloc ?_ _)); refine blk_far ?_ NB263_271.out _; (with_reducible repeat (first | refine blk_drewN ?_ _ | refine blk_drew ?_ | refine blk_alloc ?_ _)); exact BK263.out) hb); have n1_ := Aside0.mk (blk_below (g := gb267) (o := .cells #[.int .i64 t264, .int .i64 t265] 23 (0, 0)) (by (with_reducible repeat (first | refine blk_drewN ?_ _ | refine blk_drew ?_ | refine blk_alloc ?_ _)); refine blk_far ?_ NB267_271.out _; (with_reducible repeat (first | refine blk_drewN ?_ _ | refine blk_drew ?_ | refine blk_alloc ?_ _)); refine blk_far ?_ NB267_271.out _; (with_reducible repeat (first | refine blk_drewN ?_ _ | refine blk_drew ?_ | refine blk_alloc ?_ _)); exact BK267.out) hb); have n2_ := Aside0.mk (blk_below (g := gb271) (o := .cells #[.int .i64 t268, .int .i64 t269] 23 (0, 0)) (by (with_reducible repeat (first | refine blk_drewN ?_ _ | refine blk_drew ?_ | refine blk_alloc ?_ _)); refine blk_put (cs := #[.int .i64 t268, .int .i64 0]) ?_ 1 _ rfl; (with_reducible repeat (first | refine blk_drewN ?_ _ | refine blk_drew ?_ | refine blk_alloc ?_ _)); refine blk_put (cs := #[.int .i64 0, .int .i64 0]) ?_ 0 _ rfl; (with_reducible repeat (first | refine blk_drewN ?_ _ | refine blk_drew ?_ | refine blk_alloc ?_ _)); exact BK271.out) hb); have n3_ := Aside0.mk (below_step (by repeat (first | (with_reducible first | exact HB.out | apply below_alloc | apply pw_below_drewN | apply below_drew1 | refine below_set ?_ GE263.out | refine below_set ?_ GE267.out | refine below_set ?_ GE271.out) | exact HB.out)) hb); clear BK263; clear BK267; clear BK271; clear HB; have BK263 := n0_; have BK267 := n1_; have BK271 := n2_; have HB := n3_; clear n0_ n1_ n2_ n3_; (try clear hb); (try clear hb2); (try clear hk); (try clear hi)) | ((with_reducible refine gate_dst (N := 52) rfl ?_); (try (refine gate_guard (by rfl) ?_; dsimp only)); refine box_event ?hg (N := 52) ?hd (cs := #[.int .i64 0, .int .i64 0]) (t := 23) ?hr ?_; (case hd => rfl); (case hg => rfl); (case hr => first | (go_simp; done) | (go_simp; rfl)); intro gb275 hg w93 hbox hb; have n0_ := Aside0.mk (blk_below (g := gb263) (o := .cells #[.int .i64 t260, .int .i64 t261] 23 (0, 0)) (by (with_reducible repeat (first | refine blk_drewN ?_ _ | refine blk_drew ?_ | refine blk_alloc ?_ _)); exact BK263.out) hb); have n1_ := Aside0.mk (blk_below (g := gb267) (o := .cells #[.int .i64 t264, .int .i64 t265] 23 (0, 0)) (by (with_reducible repeat (first | refine blk_drewN ?_ _ | refine blk_drew ?_ | refine blk_alloc ?_ _)); exact BK267.out) hb); have n2_ := Aside0.mk (blk_below (g := gb271) (o := .cells #[.int .i64 t268, .int .i64 t269] 23 (0, 0)) (by (with_reducible repeat (first | refine blk_drewN ?_ _ | refine blk_drew ?_ | refine blk_alloc ?_ _)); exact BK271.out) hb); have n3_ := Aside0.mk (below_step (by repeat (first | (with_reducible first | exact HB.out | apply below_alloc | apply pw_below_drewN | apply below_drew1 | refine below_set ?_ GE263.out | refine below_set ?_ GE267.out | refine below_set ?_ GE271.out) | exact HB.out)) hb); have n4_ := Aside0.mk (hbox); have n5_ := Aside0.mk ((by rw [hg]; exact (below_size (by repeat (first | (with_reducible first | exact HB.out | apply below_alloc | apply pw_below_drewN | apply below_drew1 | refine below_set ?_ GE263.out | refine below_set ?_ GE267.out | refine below_set ?_ GE271.out) | exact HB.out))) : w.heap.size ≤ gb275)); have n6_ := Aside0.mk ((by rw [hg]; exact (below_size (by repeat (first | (with_reducible first | exact HB.out | apply below_alloc | apply pw_below_drewN | apply below_drew1 | refine below_set ?_ GE263.out | refine below_set ?_ GE267.out | refine below_set ?_ GE271.out) | exact HB.out))) : w.heap.size ≤ gb275)); have n7_ := Aside0.mk ((by rw [hg]; exact Nat.ne_of_lt (blk_lt (g := gb263) (o := .cells #[.int .i64 t260, .int .i64 t261] 23 (0, 0)) (by (with_reducible repeat (first | refine blk_drewN ?_ _ | refine blk_drew ?_ | refine blk_alloc ?_ _)); exact BK263.out)) : gb263 ≠ gb275)); have n8_ := Aside0.mk ((by rw [hg]; exact Nat.ne_of_gt (blk_lt (g := gb263) (o := .cells #[.int .i64 t260, .int .i64 t261] 23 (0, 0)) (by (with_reducible repeat (first | refine blk_drewN ?_ _ | refine blk_drew ?_ | refine blk_alloc ?_ _)); exact BK263.out)) : gb275 ≠ gb263)); have n9_ := Aside0.mk ((by rw [hg]; exact Nat.ne_of_lt (blk_lt (g := gb267) (o := .cells #[.int .i64 t264, .int .i64 t265] 23 (0, 0)) (by (with_reducible repeat (first | refine blk_drewN ?_ _ | refine blk_drew ?_ | refine blk_alloc ?_ _)); exact BK267.out)) : gb267 ≠ gb275)); have n10_ := Aside0.mk ((by rw [hg]; exact Nat.ne_of_gt (blk_lt (g := gb267) (o := .cells #[.int .i64 t264, .int .i64 t265] 23 (0, 0)) (by (with_reducible repeat (first | refine blk_drewN ?_ _ | refine blk_drew ?_ | refine blk_alloc ?_ _)); exact BK267.out)) : gb275 ≠ gb267)); have n11_ := Aside0.mk ((by rw [hg]; exact Nat.ne_of_lt (blk_lt (g := gb271) (o := .cells #[.int .i64 t268, .int .i64 t269] 23 (0, 0)) (by (with_reducible repeat (first | refine blk_drewN ?_ _ | refine blk_drew ?_ | refine blk_alloc ?_ _)); exact BK271.out)) : gb271 ≠ gb275)); have n12_ := Aside0.mk ((by rw [hg]; exact Nat.ne_of_gt (blk_lt (g := gb271) (o := .cells #[.int .i64 t268, .int .i64 t269] 23 (0, 0)) (by (with_reducible repeat (first | refine blk_drewN ?_ _ | refine blk_drew ?_ | refine blk_alloc ?_ _)); exact BK271.out)) : gb275 ≠ gb271)); clear BK263; clear BK267; clear BK271; clear HB; have BK263 := n0_; have BK267 := n1_; have BK271 := n2_; have HB := n3_; have BK275 := n4_; have GW275 := n5_; have GE275 := n6_; have NB263_275 := n7_; have NB275_263 := n8_; have NB267_275 := n9_; have NB275_267 := n10_; have NB271_275 := n11_; have NB275_271 := n12_; clear n0_ n1_ n2_ n3_ n4_ n5_ n6_ n7_ n8_ n9_ n10_ n11_ n12_; clear hb hbox hg; have hnb94 := NB275_263.out; have hnc94 := NB263_275.out; have hnb95 := NB275_267.out; have hnc95 := NB267_275.out; have hnb96 := NB275_271.out; have hnc96 := NB271_275.out; have hcz97_0 : w93.cell? ⟨gb275, 0, none⟩ = some (.int .i64 0) := (blk_cell BK275.out 0).trans rfl; have hcz97_1 : w93.cell? ⟨gb275, 1, none⟩ = some (.int .i64 0) := (blk_cell BK275.out 1).trans rfl; have hfz97_0 := blk_frozen BK275.out 0; have hfz97_1 := blk_frozen BK275.out 1) | (go_at_call 18; refine calls_of_args (args' := #[.int .i64 a9, .int .i64 a10]) (by first | rfl) ?_; (with_reducible refine (impl_MotionWorks.calls kj31 a9 a10 t276 t277 _ A75.out).mono ?_); rintro e w98 ⟨v278, rfl, ho0, hb⟩; have n0_ := Aside0.mk (Kd.S_lower (Kd.S_newB (Kd.S_newB (Kd.S_newB (Kd.S_newB ho0 (g := gb263) (o := .cells #[.int .i64 t260, .int .i64 t261] 23 (0, 0)) (by (with_reducible repeat (first | refine blk_drewN ?_ _ | refine blk_drew ?_ | refine blk_alloc ?_ _)); refine blk_far ?_ NB263_275.out _; (with_reducible repeat (first | refine blk_drewN ?_ _ | refine blk_drew ?_ | refine blk_alloc ?_ _)); refine blk_far ?_ NB263_275.out _; (with_reducible repeat (first | refine blk_drewN ?_ _ | refine blk_drew ?_ | refine blk_alloc ?_ _)); exact BK263.out)) (g := gb267) (o := .cells #[.int .i64 t264, .int .i64 t265] 23 (0, 0)) (by (with_reducible repeat (first | refine blk_drewN ?_ _ | refine blk_drew ?_ | refine blk_alloc ?_ _)); refine blk_far ?_ NB267_275.out _; (with_reducible repeat (first | refine blk_drewN ?_ _ | refine blk_drew ?_ | refine blk_alloc ?_ _)); refine blk_far ?_ NB267_275.out _; (with_reducible repeat (first | refine blk_drewN ?_ _ | refine blk_drew ?_ | refine blk_alloc ?_ _)); exact BK267.out)) (g := gb271) (o := .cells #[.int .i64 t268, .int .i64 t269] 23 (0, 0)) (by (with_reducible repeat (first | refine blk_drewN ?_ _ | refine blk_drew ?_ | refine blk_alloc ?_ _)); refine blk_far ?_ NB271_275.out _; (with_reducible repeat (first | refine blk_drewN ?_ _ | refine blk_drew ?_ | refine blk_alloc ?_ _)); refine blk_far ?_ NB271_275.out _; (with_reducible repeat (first | refine blk_drewN ?_ _ | refine blk_drew ?_ | refine blk_alloc ?_ _)); exact BK271.out)) (g := gb275) (o := .cells #[.int .i64 t272, .int .i64 t273] 23 (0, 0)) (by (with_reducible repeat (first | refine blk_drewN ?_ _ | refine blk_drew ?_ | refine blk_alloc ?_ _)); refine blk_put (cs := #[.int .i64 t272, .int .i64 0]) ?_ 1 _ rfl; (with_reducible repeat (first | refine blk_drewN ?_ _ | refine blk_drew ?_ | refine blk_alloc ?_ _)); refine blk_put (cs := #[.int .i64 0, .int .i64 0]) ?_ 0 _ rfl; (with_reducible repeat (first | refine blk_drewN ?_ _ | refine blk_drew ?_ | refine blk_alloc ?_ _)); exact BK275.out)) (below_size (by repeat (first | (with_reducible first | exact HB.out | apply below_alloc | apply pw_below_drewN | apply below_drew1 | refine below_set ?_ GE263.out | refine below_set ?_ GE267.out | refine below_set ?_ GE271.out | refine below_set ?_ GE275.out) | exact HB.out)))); have n1_ := Aside0.mk (blk_below (g := gb263) (o := .cells #[.int .i64 t260, .int .i64 t261] 23 (0, 0)) (by (with_reducible repeat (first | refine blk_drewN ?_ _ | refine blk_drew ?_ | refine blk_alloc ?_ _)); refine blk_far ?_ NB263_275.out _; (with_reducible repeat (first | refine blk_drewN ?_ _ | refine blk_drew ?_ | refine blk_alloc ?_ _)); refine blk_far ?_ NB263_275.out _; (with_reducible repeat (first | refine blk_drewN ?_ _ | refine blk_drew ?_ | refine blk_alloc ?_ _)); exact BK263.out) hb); have n2_ := Aside0.mk (blk_below (g := gb267) (o := .cells #[.int .i64 t264, .int .i64 t265] 23 (0, 0)) (by (with_reducible repeat (first | refine blk_drewN ?_ _ | refine blk_drew ?_ | refine blk_alloc ?_ _)); refine blk_far ?_ NB267_275.out _; (with_reducible repeat (first | refine blk_drewN ?_ _ | refine blk_drew ?_ | refine blk_alloc ?_ _)); refine blk_far ?_ NB267_275.out _; (with_reducible repeat (first | refine blk_drewN ?_ _ | refine blk_drew ?_ | refine blk_alloc ?_ _)); exact BK267.out) hb); have n3_ := Aside0.mk (blk_below (g := gb271) (o := .cells #[.int .i64 t268, .int .i64 t269] 23 (0, 0)) (by (with_reducible repeat (first | refine blk_drewN ?_ _ | refine blk_drew ?_ | refine blk_alloc ?_ _)); refine blk_far ?_ NB271_275.out _; (with_reducible repeat (first | refine blk_drewN ?_ _ | refine blk_drew ?_ | refine blk_alloc ?_ _)); refine blk_far ?_ NB271_275.out _; (with_reducible repeat (first | refine blk_drewN ?_ _ | refine blk_drew ?_ | refine blk_alloc ?_ _)); exact BK271.out) hb); have n4_ := Aside0.mk (blk_below (g := gb275) (o := .cells #[.int .i64 t272, .int .i64 t273] 23 (0, 0)) (by (with_reducible repeat (first | refine blk_drewN ?_ _ | refine blk_drew ?_ | refine blk_alloc ?_ _)); refine blk_put (cs := #[.int .i64 t272, .int .i64 0]) ?_ 1 _ rfl; (with_reducible repeat (first | refine blk_drewN ?_ _ | refine blk_drew ?_ | refine blk_alloc ?_ _)); refine blk_put (cs := #[.int .i64 0, .int .i64 0]) ?_ 0 _ rfl; (with_reducible repeat (first | refine blk_drewN ?_ _ | refine blk_drew ?_ | refine blk_alloc ?_ _)); exact BK275.out) hb); have n5_ := Aside0.mk (below_step (by repeat (first | (with_reducible first | exact HB.out | apply below_alloc | apply pw_below_drewN | apply below_drew1 | refine below_set ?_ GE263.out | refine below_set ?_ GE267.out | refine below_set ?_ GE271.out | refine below_set ?_ GE275.out) | exact HB.out)) hb); clear BK263; clear BK267; clear BK271; clear BK275; clear HB; have HO279 := n0_; have BK263 := n1_; have BK267 := n2_; have BK271 := n3_; have BK275 := n4_; have HB := n5_; clear n0_ n1_ n2_ n3_ n4_ n5_; (try clear hb); (try clear hb2); (try clear hk); (try clear hi); (try clear ho0)) | (go_at_call 17; refine calls_of_args (args' := #[.int .i64 a9, .int .i64 a10]) (by first | rfl) ?_; (with_reducible refine (spec_MotionWorks.calls kj31 a9 a10 t280 t281 _ A76.out).mono ?_); rintro e w99 ⟨v282, rfl, ho0, hb⟩; have n0_ := Aside0.mk (Kd.S_elder' (by (with_reducible repeat (first | apply Kd.S_alloc | apply Kd.S_drewN | apply Kd.S_drew)); exact HO279.out) (Kd.S_base ho0) hb); have n1_ := Aside0.mk (Kd.S_lower (Kd.S_newB (Kd.S_newB (Kd.S_newB (Kd.S_newB (Kd.S_new' ho0 (Kd.S_lt (by (with_reducible repeat (first | apply Kd.S_alloc | apply Kd.S_drewN | apply Kd.S_drew)); exact HO279.out))) (g := gb263) (o := .cells #[.int .i64 t260, .int .i64 t261] 23 (0, 0)) (by (with_reducible repeat (first | refine blk_drewN ?_ _ | refine blk_drew ?_ | refine blk_alloc ?_ _)); exact BK263.out)) (g := gb267) (o := .cells #[.int .i64 t264, .int .i64 t265] 23 (0, 0)) (by (with_reducible repeat (first | refine blk_drewN ?_ _ | refine blk_drew ?_ | refine blk_alloc ?_ _)); exact BK267.out)) (g := gb271) (o := .cells #[.int .i64 t268, .int .i64 t269] 23 (0, 0)) (by (with_reducible repeat (first | refine blk_drewN ?_ _ | refine blk_drew ?_ | refine blk_alloc ?_ _)); exact BK271.out)) (g := gb275) (o := .cells #[.int .i64 t272, .int .i64 t273] 23 (0, 0)) (by (with_reducible repeat (first | refine blk_drewN ?_ _ | refine blk_drew ?_ | refine blk_alloc ?_ _)); exact BK275.out)) (below_size (by repeat (first | (with_reducible first | exact HB.out | apply below_alloc | apply pw_below_drewN | apply below_drew1 | refine below_set ?_ GE263.out | refine below_set ?_ GE267.out | refine below_set ?_ GE271.out | refine below_set ?_ GE275.out) | exact HB.out)))); have n2_ := Aside0.mk (blk_below (g := gb263) (o := .cells #[.int .i64 t260, .int .i64 t261] 23 (0, 0)) (by (with_reducible repeat (first | refine blk_drewN ?_ _ | refine blk_drew ?_ | refine blk_alloc ?_ _)); exact BK263.out) hb); have n3_ := Aside0.mk (blk_below (g := gb267) (o := .cells #[.int .i64 t264, .int .i64 t265] 23 (0, 0)) (by (with_reducible repeat (first | refine blk_drewN ?_ _ | refine blk_drew ?_ | refine blk_alloc ?_ _)); exact BK267.out) hb); have n4_ := Aside0.mk (blk_below (g := gb271) (o := .cells #[.int .i64 t268, .int .i64 t269] 23 (0, 0)) (by (with_reducible repeat (first | refine blk_drewN ?_ _ | refine blk_drew ?_ | refine blk_alloc ?_ _)); exact BK271.out) hb); have n5_ := Aside0.mk (blk_below (g := gb275) (o := .cells #[.int .i64 t272, .int .i64 t273] 23 (0, 0)) (by (with_reducible repeat (first | refine blk_drewN ?_ _ | refine blk_drew ?_ | refine blk_alloc ?_ _)); exact BK275.out) hb); have n6_ := Aside0.mk (below_step (by repeat (first | (with_reducible first | exact HB.out | apply below_alloc | apply pw_below_drewN | apply below_drew1 | refine below_set ?_ GE263.out | refine below_set ?_ GE267.out | refine below_set ?_ GE271.out | refine below_set ?_ GE275.out) | exact HB.out)) hb); clear HO279; clear BK263; clear BK267; clear BK271; clear BK275; clear HB; have HO279 := n0_; have HO283 := n1_; have BK263 := n2_; have BK267 := n3_; have BK271 := n4_; have BK275 := n5_; have HB := n6_; clear n0_ n1_ n2_ n3_ n4_ n5_ n6_; (try clear hb); (try clear hb2); (try clear hk); (try clear hi); (try clear ho0)) | (go_at_call 13; refine calls_of_args (args' := #[.int .i64 a9, .int .i64 a10]) (by first | rfl) ?_; (with_reducible refine (impl_FirstMotionWork.calls kj31 a9 a10 t284 t285 _ A77.out).mono ?_); rintro e w100 ⟨v286, rfl, ho0, hb⟩; have n0_ := Aside0.mk (Kd.S_elder' (by (with_reducible repeat (first | apply Kd.S_alloc | apply Kd.S_drewN | apply Kd.S_drew)); exact HO279.out) (Kd.R_base ho0) hb); have n1_ := Aside0.mk (Kd.S_elder' (by (with_reducible repeat (first | apply Kd.S_alloc | apply Kd.S_drewN | apply Kd.S_drew)); exact HO283.out) (Kd.R_base ho0) hb); have n2_ := Aside0.mk (Kd.R_lower (Kd.R_newB (Kd.R_newB (Kd.R_newB (Kd.R_newB ho0 (g := gb263) (o := .cells #[.int .i64 t260, .int .i64 t261] 23 (0, 0)) (by (with_reducible repeat (first | refine blk_drewN ?_ _ | refine blk_drew ?_ | refine blk_alloc ?_ _)); exact BK263.out)) (g := gb267) (o := .cells #[.int .i64 t264, .int .i64 t265] 23 (0, 0)) (by (with_reducible repeat (first | refine blk_drewN ?_ _ | refine blk_drew ?_ | refine blk_alloc ?_ _)); exact BK267.out)) (g := gb271) (o := .cells #[.int .i64 t268, .int .i64 t269] 23 (0, 0)) (by (with_reducible repeat (first | refine blk_drewN ?_ _ | refine blk_drew ?_ | refine blk_alloc ?_ _)); exact BK271.out)) (g := gb275) (o := .cells #[.int .i64 t272, .int .i64 t273] 23 (0, 0)) (by (with_reducible repeat (first | refine blk_drewN ?_ _ | refine blk_drew ?_ | refine blk_alloc ?_ _)); exact BK275.out)) (below_size (by repeat (first | (with_reducible first | exact HB.out | apply below_alloc | apply pw_below_drewN | apply below_drew1 | refine below_set ?_ GE263.out | refine below_set ?_ GE267.out | refine below_set ?_ GE271.out | refine below_set ?_ GE275.out) | exact HB.out)))); have n3_ := Aside0.mk (blk_below (g := gb263) (o := .cells #[.int .i64 t260, .int .i64 t261] 23 (0, 0)) (by (with_reducible repeat (first | refine blk_drewN ?_ _ | refine blk_drew ?_ | refine blk_alloc ?_ _)); exact BK263.out) hb); have n4_ := Aside0.mk (blk_below (g := gb267) (o := .cells #[.int .i64 t264, .int .i64 t265] 23 (0, 0)) (by (with_reducible repeat (first | refine blk_drewN ?_ _ | refine blk_drew ?_ | refine blk_alloc ?_ _)); exact BK267.out) hb); have n5_ := Aside0.mk (blk_below (g := gb271) (o := .cells #[.int .i64 t268, .int .i64 t269] 23 (0, 0)) (by (with_reducible repeat (first | refine blk_drewN ?_ _ | refine blk_drew ?_ | refine blk_alloc ?_ _)); exact BK271.out) hb); have n6_ := Aside0.mk (blk_below (g := gb275) (o := .cells #[.int .i64 t272, .int .i64 t273] 23 (0, 0)) (by (with_reducible repeat (first | refine blk_drewN ?_ _ | refine blk_drew ?_ | refine blk_alloc ?_ _)); exact BK275.out) hb); have n7_ := Aside0.mk (below_step (by repeat (first | (with_reducible first | exact HB.out | apply below_alloc | apply pw_below_drewN | apply below_drew1 | refine below_set ?_ GE263.out | refine below_set ?_ GE267.out | refine below_set ?_ GE271.out | refine below_set ?_ GE275.out) | exact HB.out)) hb); clear HO279; clear HO283; clear BK263; clear BK267; clear BK271; clear BK275; clear HB; have HO279 := n0_; have HO283 := n1_; have HO287 := n2_; have BK263 := n3_; have BK267 := n4_; have BK271 := n5_; have BK275 := n6_; have HB := n7_; clear n0_ n1_ n2_ n3_ n4_ n5_ n6_ n7_; (try clear hb); (try clear hb2); (try clear hk); (try clear hi); (try clear ho0)) | (go_at_call 12; refine calls_of_args (args' := #[.int .i64 a9, .int .i64 a10]) (by first | rfl) ?_; (with_reducible refine (spec_FirstMotionWork.calls kj31 a9 a10 t288 t289 _ A78.out).mono ?_); rintro e w101 ⟨v290, rfl, ho0, hb⟩; have n0_ := Aside0.mk (Kd.S_elder' (by (with_reducible repeat (first | apply Kd.S_alloc | apply Kd.S_drewN | apply Kd.S_drew)); exact HO279.out) (Kd.R_base ho0) hb); have n1_ := Aside0.mk (Kd.S_elder' (by (with_reducible repeat (first | apply Kd.S_alloc | apply Kd.S_drewN | apply Kd.S_drew)); exact HO283.out) (Kd.R_base ho0) hb); have n2_ := Aside0.mk (Kd.R_elder' (by (with_reducible repeat (first | apply Kd.R_alloc | apply Kd.R_drewN | apply Kd.R_drew)); exact HO287.out) (Kd.R_base ho0) hb); have n3_ := Aside0.mk (Kd.R_lower (Kd.R_newB (Kd.R_newB (Kd.R_newB (Kd.R_newB (Kd.R_new' ho0 (Kd.R_lt (by (with_reducible repeat (first | apply Kd.R_alloc | apply Kd.R_drewN | apply Kd.R_drew)); exact HO287.out))) (g := gb263) (o := .cells #[.int .i64 t260, .int .i64 t261] 23 (0, 0)) (by (with_reducible repeat (first | refine blk_drewN ?_ _ | refine blk_drew ?_ | refine blk_alloc ?_ _)); exact BK263.out)) (g := gb267) (o := .cells #[.int .i64 t264, .int .i64 t265] 23 (0, 0)) (by (with_reducible repeat (first | refine blk_drewN ?_ _ | refine blk_drew ?_ | refine blk_alloc ?_ _)); exact BK267.out)) (g := gb271) (o := .cells #[.int .i64 t268, .int .i64 t269] 23 (0, 0)) (by (with_reducible repeat (first | refine blk_drewN ?_ _ | refine blk_drew ?_ | refine blk_alloc ?_ _)); exact BK271.out)) (g := gb275) (o := .cells #[.int .i64 t272, .int .i64 t273] 23 (0, 0)) (by (with_reducible repeat (first | refine blk_drewN ?_ _ | refine blk_drew ?_ | refine blk_alloc ?_ _)); exact BK275.out)) (below_size (by repeat (first | (with_reducible first | exact HB.out | apply below_alloc | apply pw_below_drewN | apply below_drew1 | refine below_set ?_ GE263.out | refine below_set ?_ GE267.out | refine below_set ?_ GE271.out | refine below_set ?_ GE275.out) | exact HB.out)))); have n4_ := Aside0.mk (blk_below (g := gb263) (o := .cells #[.int .i64 t260, .int .i64 t261] 23 (0, 0)) (by (with_reducible repeat (first | refine blk_drewN ?_ _ | refine blk_drew ?_ | refine blk_alloc ?_ _)); exact BK263.out) hb); have n5_ := Aside0.mk (blk_below (g := gb267) (o := .cells #[.int .i64 t264, .int .i64 t265] 23 (0, 0)) (by (with_reducible repeat (first | refine blk_drewN ?_ _ | refine blk_drew ?_ | refine blk_alloc ?_ _)); exact BK267.out) hb); have n6_ := Aside0.mk (blk_below (g := gb271) (o := .cells #[.int .i64 t268, .int .i64 t269] 23 (0, 0)) (by (with_reducible repeat (first | refine blk_drewN ?_ _ | refine blk_drew ?_ | refine blk_alloc ?_ _)); exact BK271.out) hb); have n7_ := Aside0.mk (blk_below (g := gb275) (o := .cells #[.int .i64 t272, .int .i64 t273] 23 (0, 0)) (by (with_reducible repeat (first | refine blk_drewN ?_ _ | refine blk_drew ?_ | refine blk_alloc ?_ _)); exact BK275.out) hb); have n8_ := Aside0.mk (below_step (by repeat (first | (with_reducible first | exact HB.out | apply below_alloc | apply pw_below_drewN | apply below_drew1 | refine below_set ?_ GE263.out | refine below_set ?_ GE267.out | refine below_set ?_ GE271.out | refine below_set ?_ GE275.out) | exact HB.out)) hb); clear HO279; clear HO283; clear HO287; clear BK263; clear BK267; clear BK271; clear BK275; clear HB; have HO279 := n0_; have HO283 := n1_; have HO287 := n2_; have HO291 := n3_; have BK263 := n4_; have BK267 := n5_; have BK271 := n6_; have BK275 := n7_; have HB := n8_; clear n0_ n1_ n2_ n3_ n4_ n5_ n6_ n7_ n8_; (try clear hb); (try clear hb2); (try clear hk); (try clear hi); (try clear ho0)))
      (try simp only [Act.put, List.setIfInBounds_toArray, List.set_cons_zero, List.set_cons_succ])
      go_cut [357] from 205 to 357 (fun v357 wc => ∃ (kq : Nat) (x357_78 : Bool), v357 = .bool x357_78 ∧ Aside0 (j4 kq a3 a4 a5 a6 a7 a8 a9 t262 t270 t276 t277 t284 t285 x357_78 t260 t261 t268 t269 = some r) ∧ Aside0 (kq ≤ kj31) ∧ Aside0 (Kd.S (Kd.slice 23 k23) 28 wc w.heap.size (fun k_ => some k_ ≠ (v286 : Value).ownBlock ∧ k_ ≠ gb263 ∧ k_ ≠ gb267 ∧ k_ ≠ gb271 ∧ k_ ≠ gb275) v278 t276) ∧ Aside0 (Kd.R k23 23 wc w.heap.size (fun k_ => k_ ≠ gb263 ∧ k_ ≠ gb267 ∧ k_ ≠ gb271 ∧ k_ ≠ gb275) v286 t284) ∧ Aside0 (wc.heap[gb263]? = some (.cells #[.int .i64 t260, .int .i64 t261] 23 (0, 0))) ∧ Aside0 (wc.heap[gb267]? = some (.cells #[.int .i64 t264, .int .i64 t265] 23 (0, 0))) ∧ Aside0 (wc.heap[gb271]? = some (.cells #[.int .i64 t268, .int .i64 t269] 23 (0, 0))) ∧ Aside0 (wc.heap[gb275]? = some (.cells #[.int .i64 t272, .int .i64 t273] 23 (0, 0))) ∧ Aside0 (Below w.heap.size w wc))
      case first => as_aux_lemma =>
       have H := HC79.out
       clear HC79
       by_cases c102 : (t262 != t266) = true
       ·
        rw [if_pos c102] at H
        exact absurd H (by simp)
       ·
        rw [if_neg c102] at H
        have c102b0 : (t262 != t266) = false := by simpa using c102
        (try (have c102b1 : decide (t262 = t266) = true := by simpa using c102))
        (try (have c102b2 : (t262 == t266) = true := by simpa using c102))
        clear c102
        (first | rw [c102b0] | (simp only [i64_w, i32_w]; rw [c102b0]) | skip)
        by_cases c103 : (!(t260 == t264) || (!(t261 == t265))) = true
        ·
         rw [if_pos c103] at H
         exact absurd H (by simp)
        ·
         rw [if_neg c103] at H
         have c103b0 : (!(t260 == t264) || (!(t261 == t265))) = false := by simpa using c103
         clear c103
         by_cases c104 : (t270 != t274) = true
         ·
          rw [if_pos c104] at H
          exact absurd H (by simp)
         ·
          rw [if_neg c104] at H
          have c104b0 : (t270 != t274) = false := by simpa using c104
          (try (have c104b1 : decide (t270 = t274) = true := by simpa using c104))
          (try (have c104b2 : (t270 == t274) = true := by simpa using c104))
          clear c104
          by_cases c105 : (!(t268 == t272) || (!(t269 == t273))) = true
          ·
           rw [if_pos c105] at H
           exact absurd H (by simp)
          ·
           rw [if_neg c105] at H
           have c105b0 : (!(t268 == t272) || (!(t269 == t273))) = false := by simpa using c105
           clear c105
           by_cases c106 : (t277 != t281) = true
           ·
            rw [if_pos c106] at H
            exact absurd H (by simp)
           ·
            rw [if_neg c106] at H
            have c106b0 : (t277 != t281) = false := by simpa using c106
            (try (have c106b1 : decide (t277 = t281) = true := by simpa using c106))
            (try (have c106b2 : (t277 == t281) = true := by simpa using c106))
            clear c106
            replace H := Option.bind_eq_some_iff.mp H
            obtain ⟨t292, A1070, H⟩ := H
            replace H : (if t292 = true then (if (t285 != t289) = true then (none) else ((laws_kPairs.f kj31 t284 t288).bind fun t293 => (j4 kj31 a3 a4 a5 a6 a7 a8 a9 t262 t270 t276 t277 t284 t285 (!t293) t260 t261 t268 t269))) else (none)) = some r := H
            have A107 := Aside0.mk A1070
            clear A1070
            by_cases c108 : t292 = true
            ·
             subst c108
             have H1 : (if (t285 != t289) = true then (none) else ((laws_kPairs.f kj31 t284 t288).bind fun t293 => (j4 kj31 a3 a4 a5 a6 a7 a8 a9 t262 t270 t276 t277 t284 t285 (!t293) t260 t261 t268 t269))) = some r := by rw [if_pos rfl] at H; exact H
             clear H
             have H := H1
             clear H1
             by_cases c109 : (t285 != t289) = true
             ·
              rw [if_pos c109] at H
              exact absurd H (by simp)
             ·
              rw [if_neg c109] at H
              have c109b0 : (t285 != t289) = false := by simpa using c109
              (try (have c109b1 : decide (t285 = t289) = true := by simpa using c109))
              (try (have c109b2 : (t285 == t289) = true := by simpa using c109))
              clear c109
              replace H := Option.bind_eq_some_iff.mp H
              obtain ⟨t293, A1100, H⟩ := H
              replace H : (j4 kj31 a3 a4 a5 a6 a7 a8 a9 t262 t270 t276 t277 t284 t285 (!t293) t260 t261 t268 t269) = some r := H
              have A110 := Aside0.mk A1100
              clear A1100
              as_aux_lemma =>
               have H' := Aside0.mk H
               clear H
               have hnb111 := NB263_267.out
               have hnc111 := NB267_263.out
               have hnb112 := NB263_271.out
               have hnc112 := NB271_263.out
               have hnb113 := NB263_275.out
               have hnc113 := NB275_263.out
               have hcz114_0 : w101.cell? ⟨gb263, 0, none⟩ = some (.int .i64 t260) := (blk_cell BK263.out 0).trans rfl
               have hcz114_1 : w101.cell? ⟨gb263, 1, none⟩ = some (.int .i64 t261) := (blk_cell BK263.out 1).trans rfl
               have hfz114_0 := blk_frozen BK263.out 0
               have hfz114_1 := blk_frozen BK263.out 1
               have hnb115 := NB267_271.out
               have hnc115 := NB271_267.out
               have hnb116 := NB267_275.out
               have hnc116 := NB275_267.out
               have hcz117_0 : w101.cell? ⟨gb267, 0, none⟩ = some (.int .i64 t264) := (blk_cell BK267.out 0).trans rfl
               have hcz117_1 : w101.cell? ⟨gb267, 1, none⟩ = some (.int .i64 t265) := (blk_cell BK267.out 1).trans rfl
               have hfz117_0 := blk_frozen BK267.out 0
               have hfz117_1 := blk_frozen BK267.out 1
               have hnb118 := NB271_275.out
               have hnc118 := NB275_271.out
               have hcz119_0 : w101.cell? ⟨gb271, 0, none⟩ = some (.int .i64 t268) := (blk_cell BK271.out 0).trans rfl
               have hcz119_1 : w101.cell? ⟨gb271, 1, none⟩ = some (.int .i64 t269) := (blk_cell BK271.out 1).trans rfl
               have hfz119_0 := blk_frozen BK271.out 0
               have hfz119_1 := blk_frozen BK271.out 1
               have hcz120_0 : w101.cell? ⟨gb275, 0, none⟩ = some (.int .i64 t272) := (blk_cell BK275.out 0).trans rfl
               have hcz120_1 : w101.cell? ⟨gb275, 1, none⟩ = some (.int .i64 t273) := (blk_cell BK275.out 1).trans rfl
               have hfz120_0 := blk_frozen BK275.out 0
               have hfz120_1 := blk_frozen BK275.out 1
               obtain ⟨Ao121, co121, eo121⟩ := Kd.S_slice HO279.out
               subst eo121
               obtain ⟨Ao122, co122, eo122⟩ := Kd.S_slice HO283.out
               subst eo122
               go_wp2_with (first | (go_at_call 31; refine calls_of_args (args' := #[.slice Ao121 t276.length co121, .slice Ao122 t280.length co122]) (by first | rfl) ?_; (with_reducible refine (laws_kTrains.calls kj31 _ _ t276 _ _ t280 true _ ?side1 ?side2 ?side3 ?side4 A107.out).mono ?_); (case side1 => repeat (first | exact (Kd.S_reads' HO279.out).2.2 | (with_reducible refine Kd.C_alloc ?_ _) | (with_reducible refine Kd.C_drewN ?_ _) | (with_reducible refine Kd.C_drew ?_))); (case side2 => exact (Kd.S_reads' HO279.out).2.1); (case side3 => repeat (first | exact (Kd.S_reads' HO283.out).2.2 | (with_reducible refine Kd.C_alloc ?_ _) | (with_reducible refine Kd.C_drewN ?_ _) | (with_reducible refine Kd.C_drew ?_))); (case side4 => exact (Kd.S_reads' HO283.out).2.1); rintro e w' ⟨rfl, ⟨nd, rfl⟩⟩; (try first | exact ⟨rfl, _, World.drewN_drewN _ _ _⟩ | exact ⟨rfl, _, Eq.trans (World.drewN_drewN _ _ _) (congrArg (World.drewN _) (Nat.add_assoc _ _ _))⟩); obtain ⟨Ao123, co123, eo123⟩ := Kd.R_slice HO287.out; subst eo123; obtain ⟨Ao124, co124, eo124⟩ := Kd.R_slice HO291.out; subst eo124) | (go_at_call 26; refine calls_of_args (args' := #[.slice Ao123 t284.length co123, .slice Ao124 t288.length co124]) (by first | rfl) ?_; (with_reducible refine (laws_kPairs.calls kj31 _ _ t284 _ _ t288 t293 _ ?side1 ?side2 ?side3 ?side4 A110.out).mono ?_); (case side1 => repeat (first | exact (Kd.R_reads' HO287.out).2.2 | (with_reducible refine Kd.C_alloc ?_ _) | (with_reducible refine Kd.C_drewN ?_ _) | (with_reducible refine Kd.C_drew ?_))); (case side2 => exact (Kd.R_reads' HO287.out).2.1); (case side3 => repeat (first | exact (Kd.R_reads' HO291.out).2.2 | (with_reducible refine Kd.C_alloc ?_ _) | (with_reducible refine Kd.C_drewN ?_ _) | (with_reducible refine Kd.C_drew ?_))); (case side4 => exact (Kd.R_reads' HO291.out).2.1); rintro e w' ⟨rfl, ⟨nd, rfl⟩⟩; (try first | exact ⟨rfl, _, World.drewN_drewN _ _ _⟩ | exact ⟨rfl, _, Eq.trans (World.drewN_drewN _ _ _) (congrArg (World.drewN _) (Nat.add_assoc _ _ _))⟩)))
               go_meet
               case rel => exact ⟨_, (!t293), (by first | rfl | (simp; done) | (simp [*]; done)), H', ⟨by have := HJ15.out; have := HJ31.out; first | omega | exact Nat.le_refl _⟩, ⟨by (with_reducible repeat (first | apply Kd.S_alloc | apply Kd.S_drewN | apply Kd.S_drew)); exact Kd.S_mono HO279.out (fun _ hk => ⟨hk.1.2, ⟨hk.1.1.1.1.1.1.2, ⟨hk.1.1.1.1.1.2, ⟨hk.1.1.1.1.2, hk.1.1.1.2⟩⟩⟩⟩)⟩, ⟨by (with_reducible repeat (first | apply Kd.R_alloc | apply Kd.R_drewN | apply Kd.R_drew)); exact Kd.R_mono HO287.out (fun _ hk => ⟨hk.1.1.1.1.2, ⟨hk.1.1.1.2, ⟨hk.1.1.2, hk.1.2⟩⟩⟩)⟩, ⟨by (with_reducible repeat (first | refine blk_drewN ?_ _ | refine blk_drew ?_ | refine blk_alloc ?_ _)); exact BK263.out⟩, ⟨by (with_reducible repeat (first | refine blk_drewN ?_ _ | refine blk_drew ?_ | refine blk_alloc ?_ _)); exact BK267.out⟩, ⟨by (with_reducible repeat (first | refine blk_drewN ?_ _ | refine blk_drew ?_ | refine blk_alloc ?_ _)); exact BK271.out⟩, ⟨by (with_reducible repeat (first | refine blk_drewN ?_ _ | refine blk_drew ?_ | refine blk_alloc ?_ _)); exact BK275.out⟩, ⟨by repeat (first | (with_reducible first | exact HB.out | apply below_alloc | apply pw_below_drewN | apply below_drew1 | refine below_set ?_ GE263.out | refine below_set ?_ GE267.out | refine below_set ?_ GE271.out | refine below_set ?_ GE275.out) | exact HB.out)⟩⟩
            ·
             replace c108 := Bool.eq_false_iff.mpr c108
             subst c108
             have H1 : (none) = some r := by rw [if_neg (show ¬ (false = true) by decide)] at H; exact H
             clear H
             have H := H1
             clear H1
             exact absurd H (by simp)
      case rest => as_aux_lemma =>
       clear HC79
       try clear c31
       obtain ⟨kq, x357_78, rfl, HA, HJ78, HO_54, HO_58, BK263, BK267, BK271, BK275, HB⟩ := hcut
       cases kq with
       | zero => exact absurd HA.out (by simp [j4])
       | succ kj78 =>
        have H := HA.out
        clear HA
        simp only [j4] at H
        by_cases c125 : x357_78 = true
        ·
         subst c125
         have H1 : (none) = some r := by rw [if_pos rfl] at H; exact H
         clear H
         have H := H1
         clear H1
         exact absurd H (by simp)
        ·
         replace c125 := Bool.eq_false_iff.mpr c125
         subst c125
         have H1 : (if t262 = true then (if (wrap64 (t260 * a4)) = (wrap64 (a3 * t261)) then (if t260 > a5 then (none) else (j5 kj78 a6 a7 a8 a9 t270 t276 t277 t284 t285 (decide (t261 > a5)) t268 t269)) else (none)) else (j5 kj78 a6 a7 a8 a9 t270 t276 t277 t284 t285 false t268 t269)) = some r := by rw [if_neg (show ¬ (false = true) by decide)] at H; exact H
         clear H
         have H := H1
         clear H1
         have HC126 := Aside0.mk H
         clear H
         go_upto_region 33 with (fail)
         go_cut [381] from 358 to 381 (fun v381 wc => ∃ (kq : Nat) (x381_125 : Bool), v381 = .bool x381_125 ∧ Aside0 (j5 kq a6 a7 a8 a9 t270 t276 t277 t284 t285 x381_125 t268 t269 = some r) ∧ Aside0 (kq ≤ kj78) ∧ Aside0 (Kd.S (Kd.slice 23 k23) 28 wc w.heap.size (fun k_ => some k_ ≠ (v286 : Value).ownBlock ∧ k_ ≠ gb263 ∧ k_ ≠ gb267 ∧ k_ ≠ gb271 ∧ k_ ≠ gb275) v278 t276) ∧ Aside0 (Kd.R k23 23 wc w.heap.size (fun k_ => k_ ≠ gb263 ∧ k_ ≠ gb267 ∧ k_ ≠ gb271 ∧ k_ ≠ gb275) v286 t284) ∧ Aside0 (wc.heap[gb263]? = some (.cells #[.int .i64 t260, .int .i64 t261] 23 (0, 0))) ∧ Aside0 (wc.heap[gb267]? = some (.cells #[.int .i64 t264, .int .i64 t265] 23 (0, 0))) ∧ Aside0 (wc.heap[gb271]? = some (.cells #[.int .i64 t268, .int .i64 t269] 23 (0, 0))) ∧ Aside0 (wc.heap[gb275]? = some (.cells #[.int .i64 t272, .int .i64 t273] 23 (0, 0))) ∧ Aside0 (Below w.heap.size w wc))
         case first => as_aux_lemma =>
          have H := HC126.out
          clear HC126
          by_cases c127 : t262 = true
          ·
           subst c127
           have H1 : (if (wrap64 (t260 * a4)) = (wrap64 (a3 * t261)) then (if t260 > a5 then (none) else (j5 kj78 a6 a7 a8 a9 t270 t276 t277 t284 t285 (decide (t261 > a5)) t268 t269)) else (none)) = some r := by rw [if_pos rfl] at H; exact H
           clear H
           have H := H1
           clear H1
           by_cases c128 : (wrap64 (t260 * a4)) = (wrap64 (a3 * t261))
           ·
            rw [if_pos c128] at H
            have c128b0 : ((wrap64 (t260 * a4)) == (wrap64 (a3 * t261))) = true := beq_iff_eq.mpr c128
            have c128b1 : ((wrap64 (t260 * a4)) != (wrap64 (a3 * t261))) = false := bne_eq_false_iff_eq.mpr c128
            clear c128
            (first | rw [c128b0] | (simp only [i64_w, i32_w]; rw [c128b0]) | skip)
            by_cases c129 : t260 > a5
            ·
             rw [if_pos c129] at H
             exact absurd H (by simp)
            ·
             rw [if_neg c129] at H
             have c129b0 : decide (a5 < t260) = false := decide_eq_false c129
             clear c129
             as_aux_lemma =>
              have H' := Aside0.mk H
              clear H
              have hnb130 := NB263_267.out
              have hnc130 := NB267_263.out
              have hnb131 := NB263_271.out
              have hnc131 := NB271_263.out
              have hnb132 := NB263_275.out
              have hnc132 := NB275_263.out
              have hcz133_0 : wc.cell? ⟨gb263, 0, none⟩ = some (.int .i64 t260) := (blk_cell BK263.out 0).trans rfl
              have hcz133_1 : wc.cell? ⟨gb263, 1, none⟩ = some (.int .i64 t261) := (blk_cell BK263.out 1).trans rfl
              have hfz133_0 := blk_frozen BK263.out 0
              have hfz133_1 := blk_frozen BK263.out 1
              go_wp2
              go_meet
              case rel => exact ⟨_, (decide (t261 > a5)), (by first | rfl | (simp; done) | (simp [*]; done)), H', ⟨by have := HJ15.out; have := HJ31.out; have := HJ78.out; first | omega | exact Nat.le_refl _⟩, ⟨by (with_reducible repeat (first | apply Kd.S_alloc | apply Kd.S_drewN | apply Kd.S_drew)); exact HO_54.out⟩, ⟨by (with_reducible repeat (first | apply Kd.R_alloc | apply Kd.R_drewN | apply Kd.R_drew)); exact HO_58.out⟩, ⟨by (with_reducible repeat (first | refine blk_drewN ?_ _ | refine blk_drew ?_ | refine blk_alloc ?_ _)); exact BK263.out⟩, ⟨by (with_reducible repeat (first | refine blk_drewN ?_ _ | refine blk_drew ?_ | refine blk_alloc ?_ _)); exact BK267.out⟩, ⟨by (with_reducible repeat (first | refine blk_drewN ?_ _ | refine blk_drew ?_ | refine blk_alloc ?_ _)); exact BK271.out⟩, ⟨by (with_reducible repeat (first | refine blk_drewN ?_ _ | refine blk_drew ?_ | refine blk_alloc ?_ _)); exact BK275.out⟩, ⟨by repeat (first | (with_reducible first | exact HB.out | apply below_alloc | apply pw_below_drewN | apply below_drew1 | refine below_set ?_ GE263.out | refine below_set ?_ GE267.out | refine below_set ?_ GE271.out | refine below_set ?_ GE275.out) | exact HB.out)⟩⟩
           ·
            rw [if_neg c128] at H
            exact absurd H (by simp)
          ·
           replace c127 := Bool.eq_false_iff.mpr c127
           subst c127
           have H1 : (j5 kj78 a6 a7 a8 a9 t270 t276 t277 t284 t285 false t268 t269) = some r := by rw [if_neg (show ¬ (false = true) by decide)] at H; exact H
           clear H
           have H := H1
           clear H1
           as_aux_lemma =>
            have H' := Aside0.mk H
            clear H
            go_wp2
            go_meet
            case rel => exact ⟨_, (false), (by first | rfl | (simp; done) | (simp [*]; done)), H', ⟨by have := HJ15.out; have := HJ31.out; have := HJ78.out; first | omega | exact Nat.le_refl _⟩, ⟨by (with_reducible repeat (first | apply Kd.S_alloc | apply Kd.S_drewN | apply Kd.S_drew)); exact HO_54.out⟩, ⟨by (with_reducible repeat (first | apply Kd.R_alloc | apply Kd.R_drewN | apply Kd.R_drew)); exact HO_58.out⟩, ⟨by (with_reducible repeat (first | refine blk_drewN ?_ _ | refine blk_drew ?_ | refine blk_alloc ?_ _)); exact BK263.out⟩, ⟨by (with_reducible repeat (first | refine blk_drewN ?_ _ | refine blk_drew ?_ | refine blk_alloc ?_ _)); exact BK267.out⟩, ⟨by (with_reducible repeat (first | refine blk_drewN ?_ _ | refine blk_drew ?_ | refine blk_alloc ?_ _)); exact BK271.out⟩, ⟨by (with_reducible repeat (first | refine blk_drewN ?_ _ | refine blk_drew ?_ | refine blk_alloc ?_ _)); exact BK275.out⟩, ⟨by repeat (first | (with_reducible first | exact HB.out | apply below_alloc | apply pw_below_drewN | apply below_drew1 | refine below_set ?_ GE263.out | refine below_set ?_ GE267.out | refine below_set ?_ GE271.out | refine below_set ?_ GE275.out) | exact HB.out)⟩⟩
         case rest => as_aux_lemma =>
          clear HC126
          try clear c31
          try clear c125
          obtain ⟨kq, x381_125, rfl, HA, HJ125, HO_54, HO_58, BK263, BK267, BK271, BK275, HB⟩ := hcut
          cases kq with
          | zero => exact absurd HA.out (by simp [j5])
          | succ kj125 =>
           have H := HA.out
           clear HA
           simp only [j5] at H
           by_cases c134 : x381_125 = true
           ·
            subst c134
            have H1 : (none) = some r := by rw [if_pos rfl] at H; exact H
            clear H
            have H := H1
            clear H1
            exact absurd H (by simp)
           ·
            replace c134 := Bool.eq_false_iff.mpr c134
            subst c134
            have H1 : (if t270 = true then ((impl_FirstPair.f kj125 a6 a7 a8).bind fun bt294 => (if bt294.2.2 = true then (j6 kj125 a6 a7 a8 a9 t276 t277 t284 t285 ((wrap64 (t268 * bt294.2.1)) != (wrap64 (bt294.1 * t269))) t268 t269) else (j6 kj125 a6 a7 a8 a9 t276 t277 t284 t285 false t268 t269))) else (j10 kj125 a9 t276 t277 t284 t285)) = some r := by rw [if_neg (show ¬ (false = true) by decide)] at H; exact H
            clear H
            have H := H1
            clear H1
            have HC135 := Aside0.mk H
            clear H
            go_upto_if 382 with (fail)
            go_cut [] from 382 to 403 (fun wc => ∃ (kq : Nat), Aside0 (j10 kq a9 t276 t277 t284 t285 = some r) ∧ Aside0 (kq ≤ kj125) ∧ Aside0 (Kd.S (Kd.slice 23 k23) 28 wc w.heap.size (fun k_ => some k_ ≠ (v286 : Value).ownBlock ∧ k_ ≠ gb263 ∧ k_ ≠ gb267 ∧ k_ ≠ gb271 ∧ k_ ≠ gb275) v278 t276) ∧ Aside0 (Kd.R k23 23 wc w.heap.size (fun k_ => k_ ≠ gb263 ∧ k_ ≠ gb267 ∧ k_ ≠ gb271 ∧ k_ ≠ gb275) v286 t284) ∧ Aside0 (wc.heap[gb263]? = some (.cells #[.int .i64 t260, .int .i64 t261] 23 (0, 0))) ∧ Aside0 (wc.heap[gb267]? = some (.cells #[.int .i64 t264, .int .i64 t265] 23 (0, 0))) ∧ Aside0 (wc.heap[gb271]? = some (.cells #[.int .i64 t268, .int .i64 t269] 23 (0, 0))) ∧ Aside0 (wc.heap[gb275]? = some (.cells #[.int .i64 t272, .int .i64 t273] 23 (0, 0))) ∧ Aside0 (Below w.heap.size w wc))
            case first => as_aux_lemma =>
             have H := HC135.out
             clear HC135
             by_cases c136 : t270 = true
             ·
              subst c136
              have H1 : ((impl_FirstPair.f kj125 a6 a7 a8).bind fun bt294 => (if bt294.2.2 = true then (j6 kj125 a6 a7 a8 a9 t276 t277 t284 t285 ((wrap64 (t268 * bt294.2.1)) != (wrap64 (bt294.1 * t269))) t268 t269) else (j6 kj125 a6 a7 a8 a9 t276 t277 t284 t285 false t268 t269))) = some r := by rw [if_pos rfl] at H; exact H
              clear H
              have H := H1
              clear H1
              replace H := Option.bind_eq_some_iff.mp H
              obtain ⟨⟨t294, t295, t296⟩, A1370, H⟩ := H
              replace H : (if t296 = true then (j6 kj125 a6 a7 a8 a9 t276 t277 t284 t285 ((wrap64 (t268 * t295)) != (wrap64 (t294 * t269))) t268 t269) else (j6 kj125 a6 a7 a8 a9 t276 t277 t284 t285 false t268 t269)) = some r := H
              have A137 := Aside0.mk A1370
              clear A1370
              have HC138 := Aside0.mk H
              clear H
              go_upto_region 37 with (first | (go_at_call 29; refine calls_of_args (args' := #[.int .i64 a6, .int .i64 a7, .int .i64 a8]) (by first | rfl) ?_; (with_reducible refine (impl_FirstPair.calls kj125 a6 a7 a8 t294 t295 t296 _ A137.out).mono ?_); rintro e w139 ⟨rfl, hb⟩; have n0_ := Aside0.mk (Kd.S_below (by (with_reducible repeat (first | apply Kd.S_alloc | apply Kd.S_drewN | apply Kd.S_drew)); exact HO_54.out) hb); have n1_ := Aside0.mk (Kd.R_below (by (with_reducible repeat (first | apply Kd.R_alloc | apply Kd.R_drewN | apply Kd.R_drew)); exact HO_58.out) hb); have n2_ := Aside0.mk (blk_below (g := gb263) (o := .cells #[.int .i64 t260, .int .i64 t261] 23 (0, 0)) (by (with_reducible repeat (first | refine blk_drewN ?_ _ | refine blk_drew ?_ | refine blk_alloc ?_ _)); exact BK263.out) hb); have n3_ := Aside0.mk (blk_below (g := gb267) (o := .cells #[.int .i64 t264, .int .i64 t265] 23 (0, 0)) (by (with_reducible repeat (first | refine blk_drewN ?_ _ | refine blk_drew ?_ | refine blk_alloc ?_ _)); exact BK267.out) hb); have n4_ := Aside0.mk (blk_below (g := gb271) (o := .cells #[.int .i64 t268, .int .i64 t269] 23 (0, 0)) (by (with_reducible repeat (first | refine blk_drewN ?_ _ | refine blk_drew ?_ | refine blk_alloc ?_ _)); exact BK271.out) hb); have n5_ := Aside0.mk (blk_below (g := gb275) (o := .cells #[.int .i64 t272, .int .i64 t273] 23 (0, 0)) (by (with_reducible repeat (first | refine blk_drewN ?_ _ | refine blk_drew ?_ | refine blk_alloc ?_ _)); exact BK275.out) hb); have n6_ := Aside0.mk (below_step (by repeat (first | (with_reducible first | exact HB.out | apply below_alloc | apply pw_below_drewN | apply below_drew1 | refine below_set ?_ GE263.out | refine below_set ?_ GE267.out | refine below_set ?_ GE271.out | refine below_set ?_ GE275.out) | exact HB.out)) hb); clear HO_54; clear HO_58; clear BK263; clear BK267; clear BK271; clear BK275; clear HB; have HO_54 := n0_; have HO_58 := n1_; have BK263 := n2_; have BK267 := n3_; have BK271 := n4_; have BK275 := n5_; have HB := n6_; clear n0_ n1_ n2_ n3_ n4_ n5_ n6_; (try clear hb); (try clear hb2); (try clear hk); (try clear hi)) | ((with_reducible refine gate_dst (N := 62) rfl ?_); (try (refine gate_guard (by rfl) ?_; dsimp only)); refine box_event ?hg (N := 62) ?hd (cs := #[.int .i64 0, .int .i64 0]) (t := 23) ?hr ?_; (case hd => rfl); (case hg => rfl); (case hr => first | (go_simp; done) | (go_simp; rfl)); intro gb297 hg w140 hbox hb; have n0_ := Aside0.mk (Kd.S_below (Kd.S_elderB (by (with_reducible repeat (first | apply Kd.S_alloc | apply Kd.S_drewN | apply Kd.S_drew)); exact HO_54.out) gb297 (Nat.le_of_eq hg.symm)) hb); have n1_ := Aside0.mk (Kd.R_below (Kd.R_elderB (by (with_reducible repeat (first | apply Kd.R_alloc | apply Kd.R_drewN | apply Kd.R_drew)); exact HO_58.out) gb297 (Nat.le_of_eq hg.symm)) hb); have n2_ := Aside0.mk (blk_below (g := gb263) (o := .cells #[.int .i64 t260, .int .i64 t261] 23 (0, 0)) (by (with_reducible repeat (first | refine blk_drewN ?_ _ | refine blk_drew ?_ | refine blk_alloc ?_ _)); exact BK263.out) hb); have n3_ := Aside0.mk (blk_below (g := gb267) (o := .cells #[.int .i64 t264, .int .i64 t265] 23 (0, 0)) (by (with_reducible repeat (first | refine blk_drewN ?_ _ | refine blk_drew ?_ | refine blk_alloc ?_ _)); exact BK267.out) hb); have n4_ := Aside0.mk (blk_below (g := gb271) (o := .cells #[.int .i64 t268, .int .i64 t269] 23 (0, 0)) (by (with_reducible repeat (first | refine blk_drewN ?_ _ | refine blk_drew ?_ | refine blk_alloc ?_ _)); exact BK271.out) hb); have n5_ := Aside0.mk (blk_below (g := gb275) (o := .cells #[.int .i64 t272, .int .i64 t273] 23 (0, 0)) (by (with_reducible repeat (first | refine blk_drewN ?_ _ | refine blk_drew ?_ | refine blk_alloc ?_ _)); exact BK275.out) hb); have n6_ := Aside0.mk (below_step (by repeat (first | (with_reducible first | exact HB.out | apply below_alloc | apply pw_below_drewN | apply below_drew1 | refine below_set ?_ GE263.out | refine below_set ?_ GE267.out | refine below_set ?_ GE271.out | refine below_set ?_ GE275.out) | exact HB.out)) hb); have n7_ := Aside0.mk (hbox); have n8_ := Aside0.mk ((by rw [hg]; exact (below_size (by repeat (first | (with_reducible first | exact HB.out | apply below_alloc | apply pw_below_drewN | apply below_drew1 | refine below_set ?_ GE263.out | refine below_set ?_ GE267.out | refine below_set ?_ GE271.out | refine below_set ?_ GE275.out) | exact HB.out))) : w.heap.size ≤ gb297)); have n9_ := Aside0.mk ((by rw [hg]; exact (below_size (by repeat (first | (with_reducible first | exact HB.out | apply below_alloc | apply pw_below_drewN | apply below_drew1 | refine below_set ?_ GE263.out | refine below_set ?_ GE267.out | refine below_set ?_ GE271.out | refine below_set ?_ GE275.out) | exact HB.out))) : w.heap.size ≤ gb297)); have n10_ := Aside0.mk ((by rw [hg]; exact Nat.ne_of_lt (blk_lt (g := gb263) (o := .cells #[.int .i64 t260, .int .i64 t261] 23 (0, 0)) (by (with_reducible repeat (first | refine blk_drewN ?_ _ | refine blk_drew ?_ | refine blk_alloc ?_ _)); exact BK263.out)) : gb263 ≠ gb297)); have n11_ := Aside0.mk ((by rw [hg]; exact Nat.ne_of_gt (blk_lt (g := gb263) (o := .cells #[.int .i64 t260, .int .i64 t261] 23 (0, 0)) (by (with_reducible repeat (first | refine blk_drewN ?_ _ | refine blk_drew ?_ | refine blk_alloc ?_ _)); exact BK263.out)) : gb297 ≠ gb263)); have n12_ := Aside0.mk ((by rw [hg]; exact Nat.ne_of_lt (blk_lt (g := gb267) (o := .cells #[.int .i64 t264, .int .i64 t265] 23 (0, 0)) (by (with_reducible repeat (first | refine blk_drewN ?_ _ | refine blk_drew ?_ | refine blk_alloc ?_ _)); exact BK267.out)) : gb267 ≠ gb297)); have n13_ := Aside0.mk ((by rw [hg]; exact Nat.ne_of_gt (blk_lt (g := gb267) (o := .cells #[.int .i64 t264, .int .i64 t265] 23 (0, 0)) (by (with_reducible repeat (first | refine blk_drewN ?_ _ | refine blk_drew ?_ | refine blk_alloc ?_ _)); exact BK267.out)) : gb297 ≠ gb267)); have n14_ := Aside0.mk ((by rw [hg]; exact Nat.ne_of_lt (blk_lt (g := gb271) (o := .cells #[.int .i64 t268, .int .i64 t269] 23 (0, 0)) (by (with_reducible repeat (first | refine blk_drewN ?_ _ | refine blk_drew ?_ | refine blk_alloc ?_ _)); exact BK271.out)) : gb271 ≠ gb297)); have n15_ := Aside0.mk ((by rw [hg]; exact Nat.ne_of_gt (blk_lt (g := gb271) (o := .cells #[.int .i64 t268, .int .i64 t269] 23 (0, 0)) (by (with_reducible repeat (first | refine blk_drewN ?_ _ | refine blk_drew ?_ | refine blk_alloc ?_ _)); exact BK271.out)) : gb297 ≠ gb271)); have n16_ := Aside0.mk ((by rw [hg]; exact Nat.ne_of_lt (blk_lt (g := gb275) (o := .cells #[.int .i64 t272, .int .i64 t273] 23 (0, 0)) (by (with_reducible repeat (first | refine blk_drewN ?_ _ | refine blk_drew ?_ | refine blk_alloc ?_ _)); exact BK275.out)) : gb275 ≠ gb297)); have n17_ := Aside0.mk ((by rw [hg]; exact Nat.ne_of_gt (blk_lt (g := gb275) (o := .cells #[.int .i64 t272, .int .i64 t273] 23 (0, 0)) (by (with_reducible repeat (first | refine blk_drewN ?_ _ | refine blk_drew ?_ | refine blk_alloc ?_ _)); exact BK275.out)) : gb297 ≠ gb275)); clear HO_54; clear HO_58; clear BK263; clear BK267; clear BK271; clear BK275; clear HB; have HO_54 := n0_; have HO_58 := n1_; have BK263 := n2_; have BK267 := n3_; have BK271 := n4_; have BK275 := n5_; have HB := n6_; have BK297 := n7_; have GW297 := n8_; have GE297 := n9_; have NB263_297 := n10_; have NB297_263 := n11_; have NB267_297 := n12_; have NB297_267 := n13_; have NB271_297 := n14_; have NB297_271 := n15_; have NB275_297 := n16_; have NB297_275 := n17_; clear n0_ n1_ n2_ n3_ n4_ n5_ n6_ n7_ n8_ n9_ n10_ n11_ n12_ n13_ n14_ n15_ n16_ n17_; clear hb hbox hg; have hnb141 := NB297_263.out; have hnc141 := NB263_297.out; have hnb142 := NB297_267.out; have hnc142 := NB267_297.out; have hnb143 := NB297_271.out; have hnc143 := NB271_297.out; have hnb144 := NB297_275.out; have hnc144 := NB275_297.out; have hcz145_0 : w140.cell? ⟨gb297, 0, none⟩ = some (.int .i64 0) := (blk_cell BK297.out 0).trans rfl; have hcz145_1 : w140.cell? ⟨gb297, 1, none⟩ = some (.int .i64 0) := (blk_cell BK297.out 1).trans rfl; have hfz145_0 := blk_frozen BK297.out 0; have hfz145_1 := blk_frozen BK297.out 1))
              (try simp only [Act.put, List.setIfInBounds_toArray, List.set_cons_zero, List.set_cons_succ])
              go_cut [403] from 382 to 403 (fun v403 wc => ∃ (kq : Nat) (x403_137 : Bool), v403 = .bool x403_137 ∧ Aside0 (j6 kq a6 a7 a8 a9 t276 t277 t284 t285 x403_137 t268 t269 = some r) ∧ Aside0 (kq ≤ kj125) ∧ Aside0 (Kd.S (Kd.slice 23 k23) 28 wc w.heap.size (fun k_ => some k_ ≠ (v286 : Value).ownBlock ∧ k_ ≠ gb263 ∧ k_ ≠ gb267 ∧ k_ ≠ gb271 ∧ k_ ≠ gb275 ∧ k_ ≠ gb297) v278 t276) ∧ Aside0 (Kd.R k23 23 wc w.heap.size (fun k_ => k_ ≠ gb263 ∧ k_ ≠ gb267 ∧ k_ ≠ gb271 ∧ k_ ≠ gb275 ∧ k_ ≠ gb297) v286 t284) ∧ Aside0 (wc.heap[gb263]? = some (.cells #[.int .i64 t260, .int .i64 t261] 23 (0, 0))) ∧ Aside0 (wc.heap[gb267]? = some (.cells #[.int .i64 t264, .int .i64 t265] 23 (0, 0))) ∧ Aside0 (wc.heap[gb271]? = some (.cells #[.int .i64 t268, .int .i64 t269] 23 (0, 0))) ∧ Aside0 (wc.heap[gb275]? = some (.cells #[.int .i64 t272, .int .i64 t273] 23 (0, 0))) ∧ Aside0 (wc.heap[gb297]? = some (.cells #[.int .i64 t294, .int .i64 t295] 23 (0, 0))) ∧ Aside0 (Below w.heap.size w wc))
              case first => as_aux_lemma =>
               have H := HC138.out
               clear HC138
               by_cases c146 : t296 = true
               ·
                subst c146
                have H1 : (j6 kj125 a6 a7 a8 a9 t276 t277 t284 t285 ((wrap64 (t268 * t295)) != (wrap64 (t294 * t269))) t268 t269) = some r := by rw [if_pos rfl] at H; exact H
                clear H
                have H := H1
                clear H1
                as_aux_lemma =>
                 have H' := Aside0.mk H
                 clear H
                 have hnb147 := NB271_263.out
                 have hnc147 := NB263_271.out
                 have hnb148 := NB271_267.out
                 have hnc148 := NB267_271.out
                 have hnb149 := NB271_275.out
                 have hnc149 := NB275_271.out
                 have hnb150 := NB271_297.out
                 have hnc150 := NB297_271.out
                 have hcz151_0 : w140.cell? ⟨gb271, 0, none⟩ = some (.int .i64 t268) := (blk_cell BK271.out 0).trans rfl
                 have hcz151_1 : w140.cell? ⟨gb271, 1, none⟩ = some (.int .i64 t269) := (blk_cell BK271.out 1).trans rfl
                 have hfz151_0 := blk_frozen BK271.out 0
                 have hfz151_1 := blk_frozen BK271.out 1
                 have hnb152 := NB297_263.out
                 have hnc152 := NB263_297.out
                 have hnb153 := NB297_267.out
                 have hnc153 := NB267_297.out
                 have hnb154 := NB297_275.out
                 have hnc154 := NB275_297.out
                 have hcz155_0 : w140.cell? ⟨gb297, 0, none⟩ = some (.int .i64 0) := (blk_cell BK297.out 0).trans rfl
                 have hcz155_1 : w140.cell? ⟨gb297, 1, none⟩ = some (.int .i64 0) := (blk_cell BK297.out 1).trans rfl
                 have hfz155_0 := blk_frozen BK297.out 0
                 have hfz155_1 := blk_frozen BK297.out 1
                 go_wp2
                 go_meet
                 case rel => exact ⟨_, (((wrap64 (t268 * t295)) != (wrap64 (t294 * t269)))), (by first | rfl | (simp; done) | (simp [*]; done)), H', ⟨by have := HJ15.out; have := HJ31.out; have := HJ78.out; have := HJ125.out; first | omega | exact Nat.le_refl _⟩, ⟨by (with_reducible repeat (first | apply Kd.S_alloc | apply Kd.S_drewN | apply Kd.S_drew)); exact Kd.S_mono (Kd.S_far (p := ⟨gb297, 1, none⟩) (Kd.S_far (p := ⟨gb297, 0, none⟩) (Kd.S_mono HO_54.out (fun k_ hk => (⟨hk, hk.2⟩ : _ ∧ k_ ≠ gb297))) (fun _ hk => hk.2) (.int .i64 t294)) (fun _ hk => hk.2) (.int .i64 t295)) (fun _ hk => ⟨hk.1.1.1, ⟨hk.1.1.2.1, ⟨hk.1.1.2.2.1, ⟨hk.1.1.2.2.2.1, ⟨hk.1.1.2.2.2.2, hk.1.2⟩⟩⟩⟩⟩)⟩, ⟨by (with_reducible repeat (first | apply Kd.R_alloc | apply Kd.R_drewN | apply Kd.R_drew)); exact Kd.R_mono (Kd.R_far (p := ⟨gb297, 1, none⟩) (Kd.R_far (p := ⟨gb297, 0, none⟩) (Kd.R_mono HO_58.out (fun k_ hk => (⟨hk, hk.2⟩ : _ ∧ k_ ≠ gb297))) (fun _ hk => hk.2) (.int .i64 t294)) (fun _ hk => hk.2) (.int .i64 t295)) (fun _ hk => ⟨hk.1.1.1, ⟨hk.1.1.2.1, ⟨hk.1.1.2.2.1, ⟨hk.1.1.2.2.2, hk.1.2⟩⟩⟩⟩)⟩, ⟨by (with_reducible repeat (first | refine blk_drewN ?_ _ | refine blk_drew ?_ | refine blk_alloc ?_ _)); refine blk_far ?_ NB263_297.out _; (with_reducible repeat (first | refine blk_drewN ?_ _ | refine blk_drew ?_ | refine blk_alloc ?_ _)); refine blk_far ?_ NB263_297.out _; (with_reducible repeat (first | refine blk_drewN ?_ _ | refine blk_drew ?_ | refine blk_alloc ?_ _)); exact BK263.out⟩, ⟨by (with_reducible repeat (first | refine blk_drewN ?_ _ | refine blk_drew ?_ | refine blk_alloc ?_ _)); refine blk_far ?_ NB267_297.out _; (with_reducible repeat (first | refine blk_drewN ?_ _ | refine blk_drew ?_ | refine blk_alloc ?_ _)); refine blk_far ?_ NB267_297.out _; (with_reducible repeat (first | refine blk_drewN ?_ _ | refine blk_drew ?_ | refine blk_alloc ?_ _)); exact BK267.out⟩, ⟨by (with_reducible repeat (first | refine blk_drewN ?_ _ | refine blk_drew ?_ | refine blk_alloc ?_ _)); refine blk_far ?_ NB271_297.out _; (with_reducible repeat (first | refine blk_drewN ?_ _ | refine blk_drew ?_ | refine blk_alloc ?_ _)); refine blk_far ?_ NB271_297.out _; (with_reducible repeat (first | refine blk_drewN ?_ _ | refine blk_drew ?_ | refine blk_alloc ?_ _)); exact BK271.out⟩, ⟨by (with_reducible repeat (first | refine blk_drewN ?_ _ | refine blk_drew ?_ | refine blk_alloc ?_ _)); refine blk_far ?_ NB275_297.out _; (with_reducible repeat (first | refine blk_drewN ?_ _ | refine blk_drew ?_ | refine blk_alloc ?_ _)); refine blk_far ?_ NB275_297.out _; (with_reducible repeat (first | refine blk_drewN ?_ _ | refine blk_drew ?_ | refine blk_alloc ?_ _)); exact BK275.out⟩, ⟨by (with_reducible repeat (first | refine blk_drewN ?_ _ | refine blk_drew ?_ | refine blk_alloc ?_ _)); refine blk_put (cs := #[.int .i64 t294, .int .i64 0]) ?_ 1 _ rfl; (with_reducible repeat (first | refine blk_drewN ?_ _ | refine blk_drew ?_ | refine blk_alloc ?_ _)); refine blk_put (cs := #[.int .i64 0, .int .i64 0]) ?_ 0 _ rfl; (with_reducible repeat (first | refine blk_drewN ?_ _ | refine blk_drew ?_ | refine blk_alloc ?_ _)); exact BK297.out⟩, ⟨by repeat (first | (with_reducible first | exact HB.out | apply below_alloc | apply pw_below_drewN | apply below_drew1 | refine below_set ?_ GE263.out | refine below_set ?_ GE267.out | refine below_set ?_ GE271.out | refine below_set ?_ GE275.out | refine below_set ?_ GE297.out) | exact HB.out)⟩⟩
               ·
                replace c146 := Bool.eq_false_iff.mpr c146
                subst c146
                have H1 : (j6 kj125 a6 a7 a8 a9 t276 t277 t284 t285 false t268 t269) = some r := by rw [if_neg (show ¬ (false = true) by decide)] at H; exact H
                clear H
                have H := H1
                clear H1
                as_aux_lemma =>
                 have H' := Aside0.mk H
                 clear H
                 go_wp2
                 go_meet
                 case rel => exact ⟨_, (false), (by first | rfl | (simp; done) | (simp [*]; done)), H', ⟨by have := HJ15.out; have := HJ31.out; have := HJ78.out; have := HJ125.out; first | omega | exact Nat.le_refl _⟩, ⟨by (with_reducible repeat (first | apply Kd.S_alloc | apply Kd.S_drewN | apply Kd.S_drew)); exact Kd.S_mono (Kd.S_far (p := ⟨gb297, 1, none⟩) (Kd.S_far (p := ⟨gb297, 0, none⟩) (Kd.S_mono HO_54.out (fun k_ hk => (⟨hk, hk.2⟩ : _ ∧ k_ ≠ gb297))) (fun _ hk => hk.2) (.int .i64 t294)) (fun _ hk => hk.2) (.int .i64 t295)) (fun _ hk => ⟨hk.1.1.1, ⟨hk.1.1.2.1, ⟨hk.1.1.2.2.1, ⟨hk.1.1.2.2.2.1, ⟨hk.1.1.2.2.2.2, hk.1.2⟩⟩⟩⟩⟩)⟩, ⟨by (with_reducible repeat (first | apply Kd.R_alloc | apply Kd.R_drewN | apply Kd.R_drew)); exact Kd.R_mono (Kd.R_far (p := ⟨gb297, 1, none⟩) (Kd.R_far (p := ⟨gb297, 0, none⟩) (Kd.R_mono HO_58.out (fun k_ hk => (⟨hk, hk.2⟩ : _ ∧ k_ ≠ gb297))) (fun _ hk => hk.2) (.int .i64 t294)) (fun _ hk => hk.2) (.int .i64 t295)) (fun _ hk => ⟨hk.1.1.1, ⟨hk.1.1.2.1, ⟨hk.1.1.2.2.1, ⟨hk.1.1.2.2.2, hk.1.2⟩⟩⟩⟩)⟩, ⟨by (with_reducible repeat (first | refine blk_drewN ?_ _ | refine blk_drew ?_ | refine blk_alloc ?_ _)); refine blk_far ?_ NB263_297.out _; (with_reducible repeat (first | refine blk_drewN ?_ _ | refine blk_drew ?_ | refine blk_alloc ?_ _)); refine blk_far ?_ NB263_297.out _; (with_reducible repeat (first | refine blk_drewN ?_ _ | refine blk_drew ?_ | refine blk_alloc ?_ _)); exact BK263.out⟩, ⟨by (with_reducible repeat (first | refine blk_drewN ?_ _ | refine blk_drew ?_ | refine blk_alloc ?_ _)); refine blk_far ?_ NB267_297.out _; (with_reducible repeat (first | refine blk_drewN ?_ _ | refine blk_drew ?_ | refine blk_alloc ?_ _)); refine blk_far ?_ NB267_297.out _; (with_reducible repeat (first | refine blk_drewN ?_ _ | refine blk_drew ?_ | refine blk_alloc ?_ _)); exact BK267.out⟩, ⟨by (with_reducible repeat (first | refine blk_drewN ?_ _ | refine blk_drew ?_ | refine blk_alloc ?_ _)); refine blk_far ?_ NB271_297.out _; (with_reducible repeat (first | refine blk_drewN ?_ _ | refine blk_drew ?_ | refine blk_alloc ?_ _)); refine blk_far ?_ NB271_297.out _; (with_reducible repeat (first | refine blk_drewN ?_ _ | refine blk_drew ?_ | refine blk_alloc ?_ _)); exact BK271.out⟩, ⟨by (with_reducible repeat (first | refine blk_drewN ?_ _ | refine blk_drew ?_ | refine blk_alloc ?_ _)); refine blk_far ?_ NB275_297.out _; (with_reducible repeat (first | refine blk_drewN ?_ _ | refine blk_drew ?_ | refine blk_alloc ?_ _)); refine blk_far ?_ NB275_297.out _; (with_reducible repeat (first | refine blk_drewN ?_ _ | refine blk_drew ?_ | refine blk_alloc ?_ _)); exact BK275.out⟩, ⟨by (with_reducible repeat (first | refine blk_drewN ?_ _ | refine blk_drew ?_ | refine blk_alloc ?_ _)); refine blk_put (cs := #[.int .i64 t294, .int .i64 0]) ?_ 1 _ rfl; (with_reducible repeat (first | refine blk_drewN ?_ _ | refine blk_drew ?_ | refine blk_alloc ?_ _)); refine blk_put (cs := #[.int .i64 0, .int .i64 0]) ?_ 0 _ rfl; (with_reducible repeat (first | refine blk_drewN ?_ _ | refine blk_drew ?_ | refine blk_alloc ?_ _)); exact BK297.out⟩, ⟨by repeat (first | (with_reducible first | exact HB.out | apply below_alloc | apply pw_below_drewN | apply below_drew1 | refine below_set ?_ GE263.out | refine below_set ?_ GE267.out | refine below_set ?_ GE271.out | refine below_set ?_ GE275.out | refine below_set ?_ GE297.out) | exact HB.out)⟩⟩
              case rest => as_aux_lemma =>
               clear HC138
               try clear c31
               try clear c125
               try clear c134
               try clear c136
               obtain ⟨kq, x403_137, rfl, HA, HJ137, HO_54, HO_58, BK263, BK267, BK271, BK275, BK297, HB⟩ := hcut
               cases kq with
               | zero => exact absurd HA.out (by simp [j6])
               | succ kj137 =>
                have H := HA.out
                clear HA
                simp only [j6] at H
                by_cases c156 : x403_137 = true
                ·
                 subst c156
                 have H1 : (none) = some r := by rw [if_pos rfl] at H; exact H
                 clear H
                 have H := H1
                 clear H1
                 exact absurd H (by simp)
                ·
                 replace c156 := Bool.eq_false_iff.mpr c156
                 subst c156
                 have H1 : ((laws_kAbs.f (wrap64 ((wrap64 (t268 * a7)) - (wrap64 (a6 * t269))))).bind fun t298 => (l1 kj137 a6 a7 a8 a9 t276 t277 t284 t285 t298 (-1) t268 t269)) = some r := by rw [if_neg (show ¬ (false = true) by decide)] at H; exact H
                 clear H
                 have H := H1
                 clear H1
                 replace H := Option.bind_eq_some_iff.mp H
                 obtain ⟨t298, A1570, H⟩ := H
                 replace H : (l1 kj137 a6 a7 a8 a9 t276 t277 t284 t285 t298 (-1) t268 t269) = some r := H
                 have A157 := Aside0.mk A1570
                 clear A1570
                 have H' := Aside0.mk H
                 clear H
                 have hnb158 := NB271_263.out
                 have hnc158 := NB263_271.out
                 have hnb159 := NB271_267.out
                 have hnc159 := NB267_271.out
                 have hnb160 := NB271_275.out
                 have hnc160 := NB275_271.out
                 have hnb161 := NB271_297.out
                 have hnc161 := NB297_271.out
                 have hcz162_0 : wc.cell? ⟨gb271, 0, none⟩ = some (.int .i64 t268) := (blk_cell BK271.out 0).trans rfl
                 have hcz162_1 : wc.cell? ⟨gb271, 1, none⟩ = some (.int .i64 t269) := (blk_cell BK271.out 1).trans rfl
                 have hfz162_0 := blk_frozen BK271.out 0
                 have hfz162_1 := blk_frozen BK271.out 1
                 go_wp2_with (first | (go_at_call 32; refine calls_of_args (args' := #[.int .i64 (wrap64 ((wrap64 (t268 * a7)) - (wrap64 (a6 * t269))))]) (by first | rfl) ?_; (with_reducible refine (laws_kAbs.calls (wrap64 ((wrap64 (t268 * a7)) - (wrap64 (a6 * t269)))) t298 _ A157.out).mono ?_); rintro e w' ⟨rfl, ⟨nd, rfl⟩⟩; (try first | exact ⟨rfl, _, World.drewN_drewN _ _ _⟩ | exact ⟨rfl, _, Eq.trans (World.drewN_drewN _ _ _) (congrArg (World.drewN _) (Nat.add_assoc _ _ _))⟩)))
                 go_loopg [65] kj137 (fun kq v65 w' => ∃ (x65_6 : Int), v65 = .int .i64 x65_6 ∧ Aside0 (l1 kq a6 a7 a8 a9 t276 t277 t284 t285 t298 x65_6 t268 t269 = some r) ∧ Aside0 (kq ≤ kj137) ∧ Aside0 (Kd.S (Kd.slice 23 k23) 28 w' w.heap.size (fun k_ => some k_ ≠ (v286 : Value).ownBlock ∧ k_ ≠ gb263 ∧ k_ ≠ gb267 ∧ k_ ≠ gb271 ∧ k_ ≠ gb275 ∧ k_ ≠ gb297) v278 t276) ∧ Aside0 (Kd.R k23 23 w' w.heap.size (fun k_ => k_ ≠ gb263 ∧ k_ ≠ gb267 ∧ k_ ≠ gb271 ∧ k_ ≠ gb275 ∧ k_ ≠ gb297) v286 t284) ∧ Aside0 (w'.heap[gb263]? = some (.cells #[.int .i64 t260, .int .i64 t261] 23 (0, 0))) ∧ Aside0 (w'.heap[gb267]? = some (.cells #[.int .i64 t264, .int .i64 t265] 23 (0, 0))) ∧ Aside0 (w'.heap[gb271]? = some (.cells #[.int .i64 t268, .int .i64 t269] 23 (0, 0))) ∧ Aside0 (w'.heap[gb275]? = some (.cells #[.int .i64 t272, .int .i64 t273] 23 (0, 0))) ∧ Aside0 (w'.heap[gb297]? = some (.cells #[.int .i64 t294, .int .i64 t295] 23 (0, 0))) ∧ Aside0 (Below w.heap.size w w'))
                 case atStart => exact ⟨((-1)), (by first | rfl | (simp; done) | (simp [*]; done)), H', ⟨Nat.le_refl _⟩, ⟨by (with_reducible repeat (first | apply Kd.S_alloc | apply Kd.S_drewN | apply Kd.S_drew)); exact HO_54.out⟩, ⟨by (with_reducible repeat (first | apply Kd.R_alloc | apply Kd.R_drewN | apply Kd.R_drew)); exact HO_58.out⟩, ⟨by (with_reducible repeat (first | refine blk_drewN ?_ _ | refine blk_drew ?_ | refine blk_alloc ?_ _)); exact BK263.out⟩, ⟨by (with_reducible repeat (first | refine blk_drewN ?_ _ | refine blk_drew ?_ | refine blk_alloc ?_ _)); exact BK267.out⟩, ⟨by (with_reducible repeat (first | refine blk_drewN ?_ _ | refine blk_drew ?_ | refine blk_alloc ?_ _)); exact BK271.out⟩, ⟨by (with_reducible repeat (first | refine blk_drewN ?_ _ | refine blk_drew ?_ | refine blk_alloc ?_ _)); exact BK275.out⟩, ⟨by (with_reducible repeat (first | refine blk_drewN ?_ _ | refine blk_drew ?_ | refine blk_alloc ?_ _)); exact BK297.out⟩, ⟨by repeat (first | (with_reducible first | exact HB.out | apply below_alloc | apply pw_below_drewN | apply below_drew1 | refine below_set ?_ GE263.out | refine below_set ?_ GE267.out | refine below_set ?_ GE271.out | refine below_set ?_ GE275.out | refine below_set ?_ GE297.out) | exact HB.out)⟩⟩
                 case round => as_aux_lemma =>
                  clear H'
                  try clear c31
                  try clear c125
                  try clear c134
                  try clear c136
                  try clear c156
                  try clear hcz162_0
                  try clear hcz162_1
                  try clear hfz162_0
                  try clear hfz162_1
                  obtain ⟨x65_6, rfl, HA, HK6, HO_54, HO_58, BK263, BK267, BK271, BK275, BK297, HB⟩ := hrel
                  cases gk with
                  | zero => exact absurd HA.out (by simp [l1])
                  | succ k6 =>
                   have H := HA.out
                   clear HA
                   simp only [l1] at H
                   by_cases c163 : x65_6 ≤ 1
                   ·
                    rw [if_pos c163] at H
                    have c163b0 : decide (x65_6 ≤ 1) = true := decide_eq_true c163
                    clear c163
                    have H' := Aside0.mk H
                    clear H
                    go_wp2
                    go_loopg [66] k6 (fun kq v66 w' => ∃ (x66_7 : Int), v66 = .int .i64 x66_7 ∧ Aside0 (l2 kq a6 a7 a8 a9 t276 t277 t284 t285 t298 x65_6 x66_7 t268 t269 = some r) ∧ Aside0 (kq ≤ k6) ∧ Aside0 (Kd.S (Kd.slice 23 k23) 28 w' w.heap.size (fun k_ => some k_ ≠ (v286 : Value).ownBlock ∧ k_ ≠ gb263 ∧ k_ ≠ gb267 ∧ k_ ≠ gb271 ∧ k_ ≠ gb275 ∧ k_ ≠ gb297) v278 t276) ∧ Aside0 (Kd.R k23 23 w' w.heap.size (fun k_ => k_ ≠ gb263 ∧ k_ ≠ gb267 ∧ k_ ≠ gb271 ∧ k_ ≠ gb275 ∧ k_ ≠ gb297) v286 t284) ∧ Aside0 (w'.heap[gb263]? = some (.cells #[.int .i64 t260, .int .i64 t261] 23 (0, 0))) ∧ Aside0 (w'.heap[gb267]? = some (.cells #[.int .i64 t264, .int .i64 t265] 23 (0, 0))) ∧ Aside0 (w'.heap[gb271]? = some (.cells #[.int .i64 t268, .int .i64 t269] 23 (0, 0))) ∧ Aside0 (w'.heap[gb275]? = some (.cells #[.int .i64 t272, .int .i64 t273] 23 (0, 0))) ∧ Aside0 (w'.heap[gb297]? = some (.cells #[.int .i64 t294, .int .i64 t295] 23 (0, 0))) ∧ Aside0 (Below w.heap.size w w'))
                    case atStart => exact ⟨((-1)), (by first | rfl | (simp; done) | (simp [*]; done)), H', ⟨Nat.le_refl _⟩, ⟨by (with_reducible repeat (first | apply Kd.S_alloc | apply Kd.S_drewN | apply Kd.S_drew)); exact HO_54.out⟩, ⟨by (with_reducible repeat (first | apply Kd.R_alloc | apply Kd.R_drewN | apply Kd.R_drew)); exact HO_58.out⟩, ⟨by (with_reducible repeat (first | refine blk_drewN ?_ _ | refine blk_drew ?_ | refine blk_alloc ?_ _)); exact BK263.out⟩, ⟨by (with_reducible repeat (first | refine blk_drewN ?_ _ | refine blk_drew ?_ | refine blk_alloc ?_ _)); exact BK267.out⟩, ⟨by (with_reducible repeat (first | refine blk_drewN ?_ _ | refine blk_drew ?_ | refine blk_alloc ?_ _)); exact BK271.out⟩, ⟨by (with_reducible repeat (first | refine blk_drewN ?_ _ | refine blk_drew ?_ | refine blk_alloc ?_ _)); exact BK275.out⟩, ⟨by (with_reducible repeat (first | refine blk_drewN ?_ _ | refine blk_drew ?_ | refine blk_alloc ?_ _)); exact BK297.out⟩, ⟨by repeat (first | (with_reducible first | exact HB.out | apply below_alloc | apply pw_below_drewN | apply below_drew1 | refine below_set ?_ GE263.out | refine below_set ?_ GE267.out | refine below_set ?_ GE271.out | refine below_set ?_ GE275.out | refine below_set ?_ GE297.out) | exact HB.out)⟩⟩
                    case round => as_aux_lemma =>
                     clear H'
                     try clear c31
                     try clear c125
                     try clear c134
                     try clear c136
                     try clear c156
                     try clear c163
                     try clear c163b0
                     try clear hcz162_0
                     try clear hcz162_1
                     try clear hfz162_0
                     try clear hfz162_1
                     obtain ⟨x66_7, rfl, HA, HK7, HO_54, HO_58, BK263, BK267, BK271, BK275, BK297, HB⟩ := hrel
                     cases gk with
                     | zero => exact absurd HA.out (by simp [l2])
                     | succ k7 =>
                      have H := HA.out
                      clear HA
                      simp only [l2] at H
                      by_cases c164 : x66_7 ≤ 1
                      ·
                       rw [if_pos c164] at H
                       have c164b0 : decide (x66_7 ≤ 1) = true := decide_eq_true c164
                       clear c164
                       have HC165 := Aside0.mk H
                       clear H
                       have hnb166 := NB271_263.out
                       have hnc166 := NB263_271.out
                       have hnb167 := NB271_267.out
                       have hnc167 := NB267_271.out
                       have hnb168 := NB271_275.out
                       have hnc168 := NB275_271.out
                       have hnb169 := NB271_297.out
                       have hnc169 := NB297_271.out
                       have hcz170_0 : wr.cell? ⟨gb271, 0, none⟩ = some (.int .i64 t268) := (blk_cell BK271.out 0).trans rfl
                       have hcz170_1 : wr.cell? ⟨gb271, 1, none⟩ = some (.int .i64 t269) := (blk_cell BK271.out 1).trans rfl
                       have hfz170_0 := blk_frozen BK271.out 0
                       have hfz170_1 := blk_frozen BK271.out 1
                       go_upto_region 47 with (fail)
                       repeat (go_quiet (fail); go_upto_region 47 with (fail))
                       go_cut [445] from 418 to 445 (fun v445 wc => ∃ (kq : Nat) (x445_164 : Bool), v445 = .bool x445_164 ∧ Aside0 (j9 kq a6 a7 a8 a9 t276 t277 t284 t285 t298 x65_6 x66_7 (wrap64 (t268 + x65_6)) (wrap64 (t269 + x66_7)) x445_164 t268 t269 = some r) ∧ Aside0 (kq ≤ k7) ∧ Aside0 (Kd.S (Kd.slice 23 k23) 28 wc w.heap.size (fun k_ => some k_ ≠ (v286 : Value).ownBlock ∧ k_ ≠ gb263 ∧ k_ ≠ gb267 ∧ k_ ≠ gb271 ∧ k_ ≠ gb275 ∧ k_ ≠ gb297) v278 t276) ∧ Aside0 (Kd.R k23 23 wc w.heap.size (fun k_ => k_ ≠ gb263 ∧ k_ ≠ gb267 ∧ k_ ≠ gb271 ∧ k_ ≠ gb275 ∧ k_ ≠ gb297) v286 t284) ∧ Aside0 (wc.heap[gb263]? = some (.cells #[.int .i64 t260, .int .i64 t261] 23 (0, 0))) ∧ Aside0 (wc.heap[gb267]? = some (.cells #[.int .i64 t264, .int .i64 t265] 23 (0, 0))) ∧ Aside0 (wc.heap[gb271]? = some (.cells #[.int .i64 t268, .int .i64 t269] 23 (0, 0))) ∧ Aside0 (wc.heap[gb275]? = some (.cells #[.int .i64 t272, .int .i64 t273] 23 (0, 0))) ∧ Aside0 (wc.heap[gb297]? = some (.cells #[.int .i64 t294, .int .i64 t295] 23 (0, 0))) ∧ Aside0 (Below w.heap.size w wc))
                       case first => as_aux_lemma =>
                        have H := HC165.out
                        clear HC165
                        by_cases c171 : (wrap64 (t268 + x65_6)) < 6
                        ·
                         rw [if_pos c171] at H
                         have c171b0 : decide ((wrap64 (t268 + x65_6)) < 6) = true := decide_eq_true c171
                         clear c171
                         (first | rw [c171b0] | (simp only [i64_w, i32_w]; rw [c171b0]) | skip)
                         as_aux_lemma =>
                          have H' := Aside0.mk H
                          clear H
                          go_wp2
                          repeat (go_quiet (fail); try go_wp2)
                          go_meet
                          case rel => exact ⟨_, (true), (by first | rfl | (simp; done) | (simp [*]; done)), H', ⟨by have := HJ15.out; have := HJ31.out; have := HJ78.out; have := HJ125.out; have := HJ137.out; have := HK6.out; have := HK7.out; first | omega | exact Nat.le_refl _⟩, ⟨by (with_reducible repeat (first | apply Kd.S_alloc | apply Kd.S_drewN | apply Kd.S_drew)); exact HO_54.out⟩, ⟨by (with_reducible repeat (first | apply Kd.R_alloc | apply Kd.R_drewN | apply Kd.R_drew)); exact HO_58.out⟩, ⟨by (with_reducible repeat (first | refine blk_drewN ?_ _ | refine blk_drew ?_ | refine blk_alloc ?_ _)); exact BK263.out⟩, ⟨by (with_reducible repeat (first | refine blk_drewN ?_ _ | refine blk_drew ?_ | refine blk_alloc ?_ _)); exact BK267.out⟩, ⟨by (with_reducible repeat (first | refine blk_drewN ?_ _ | refine blk_drew ?_ | refine blk_alloc ?_ _)); exact BK271.out⟩, ⟨by (with_reducible repeat (first | refine blk_drewN ?_ _ | refine blk_drew ?_ | refine blk_alloc ?_ _)); exact BK275.out⟩, ⟨by (with_reducible repeat (first | refine blk_drewN ?_ _ | refine blk_drew ?_ | refine blk_alloc ?_ _)); exact BK297.out⟩, ⟨by repeat (first | (with_reducible first | exact HB.out | apply below_alloc | apply pw_below_drewN | apply below_drew1 | refine below_set ?_ GE263.out | refine below_set ?_ GE267.out | refine below_set ?_ GE271.out | refine below_set ?_ GE275.out | refine below_set ?_ GE297.out) | exact HB.out)⟩⟩
                        ·
                         rw [if_neg c171] at H
                         have c171b0 : decide ((wrap64 (t268 + x65_6)) < 6) = false := decide_eq_false c171
                         clear c171
                         (first | rw [c171b0] | (simp only [i64_w, i32_w]; rw [c171b0]) | skip)
                         by_cases c172 : (wrap64 (t268 + x65_6)) > a8
                         ·
                          rw [if_pos c172] at H
                          have c172b0 : decide (a8 < (wrap64 (t268 + x65_6))) = true := decide_eq_true c172
                          clear c172
                          as_aux_lemma =>
                           have H' := Aside0.mk H
                           clear H
                           go_wp2
                           repeat (go_quiet (fail); try go_wp2)
                           go_meet
                           case rel => exact ⟨_, (true), (by first | rfl | (simp; done) | (simp [*]; done)), H', ⟨by have := HJ15.out; have := HJ31.out; have := HJ78.out; have := HJ125.out; have := HJ137.out; have := HK6.out; have := HK7.out; first | omega | exact Nat.le_refl _⟩, ⟨by (with_reducible repeat (first | apply Kd.S_alloc | apply Kd.S_drewN | apply Kd.S_drew)); exact HO_54.out⟩, ⟨by (with_reducible repeat (first | apply Kd.R_alloc | apply Kd.R_drewN | apply Kd.R_drew)); exact HO_58.out⟩, ⟨by (with_reducible repeat (first | refine blk_drewN ?_ _ | refine blk_drew ?_ | refine blk_alloc ?_ _)); exact BK263.out⟩, ⟨by (with_reducible repeat (first | refine blk_drewN ?_ _ | refine blk_drew ?_ | refine blk_alloc ?_ _)); exact BK267.out⟩, ⟨by (with_reducible repeat (first | refine blk_drewN ?_ _ | refine blk_drew ?_ | refine blk_alloc ?_ _)); exact BK271.out⟩, ⟨by (with_reducible repeat (first | refine blk_drewN ?_ _ | refine blk_drew ?_ | refine blk_alloc ?_ _)); exact BK275.out⟩, ⟨by (with_reducible repeat (first | refine blk_drewN ?_ _ | refine blk_drew ?_ | refine blk_alloc ?_ _)); exact BK297.out⟩, ⟨by repeat (first | (with_reducible first | exact HB.out | apply below_alloc | apply pw_below_drewN | apply below_drew1 | refine below_set ?_ GE263.out | refine below_set ?_ GE267.out | refine below_set ?_ GE271.out | refine below_set ?_ GE275.out | refine below_set ?_ GE297.out) | exact HB.out)⟩⟩
                         ·
                          rw [if_neg c172] at H
                          have c172b0 : decide (a8 < (wrap64 (t268 + x65_6))) = false := decide_eq_false c172
                          clear c172
                          by_cases c173 : (wrap64 (t269 + x66_7)) < 6
                          ·
                           rw [if_pos c173] at H
                           have c173b0 : decide ((wrap64 (t269 + x66_7)) < 6) = true := decide_eq_true c173
                           clear c173
                           as_aux_lemma =>
                            have H' := Aside0.mk H
                            clear H
                            go_wp2
                            repeat (go_quiet (fail); try go_wp2)
                            go_meet
                            case rel => exact ⟨_, (true), (by first | rfl | (simp; done) | (simp [*]; done)), H', ⟨by have := HJ15.out; have := HJ31.out; have := HJ78.out; have := HJ125.out; have := HJ137.out; have := HK6.out; have := HK7.out; first | omega | exact Nat.le_refl _⟩, ⟨by (with_reducible repeat (first | apply Kd.S_alloc | apply Kd.S_drewN | apply Kd.S_drew)); exact HO_54.out⟩, ⟨by (with_reducible repeat (first | apply Kd.R_alloc | apply Kd.R_drewN | apply Kd.R_drew)); exact HO_58.out⟩, ⟨by (with_reducible repeat (first | refine blk_drewN ?_ _ | refine blk_drew ?_ | refine blk_alloc ?_ _)); exact BK263.out⟩, ⟨by (with_reducible repeat (first | refine blk_drewN ?_ _ | refine blk_drew ?_ | refine blk_alloc ?_ _)); exact BK267.out⟩, ⟨by (with_reducible repeat (first | refine blk_drewN ?_ _ | refine blk_drew ?_ | refine blk_alloc ?_ _)); exact BK271.out⟩, ⟨by (with_reducible repeat (first | refine blk_drewN ?_ _ | refine blk_drew ?_ | refine blk_alloc ?_ _)); exact BK275.out⟩, ⟨by (with_reducible repeat (first | refine blk_drewN ?_ _ | refine blk_drew ?_ | refine blk_alloc ?_ _)); exact BK297.out⟩, ⟨by repeat (first | (with_reducible first | exact HB.out | apply below_alloc | apply pw_below_drewN | apply below_drew1 | refine below_set ?_ GE263.out | refine below_set ?_ GE267.out | refine below_set ?_ GE271.out | refine below_set ?_ GE275.out | refine below_set ?_ GE297.out) | exact HB.out)⟩⟩
                          ·
                           rw [if_neg c173] at H
                           have c173b0 : decide ((wrap64 (t269 + x66_7)) < 6) = false := decide_eq_false c173
                           clear c173
                           as_aux_lemma =>
                            have H' := Aside0.mk H
                            clear H
                            go_wp2
                            repeat (go_quiet (fail); try go_wp2)
                            go_meet
                            case rel => exact ⟨_, (decide ((wrap64 (t269 + x66_7)) > a8)), (by first | rfl | (simp; done) | (simp [*]; done)), H', ⟨by have := HJ15.out; have := HJ31.out; have := HJ78.out; have := HJ125.out; have := HJ137.out; have := HK6.out; have := HK7.out; first | omega | exact Nat.le_refl _⟩, ⟨by (with_reducible repeat (first | apply Kd.S_alloc | apply Kd.S_drewN | apply Kd.S_drew)); exact HO_54.out⟩, ⟨by (with_reducible repeat (first | apply Kd.R_alloc | apply Kd.R_drewN | apply Kd.R_drew)); exact HO_58.out⟩, ⟨by (with_reducible repeat (first | refine blk_drewN ?_ _ | refine blk_drew ?_ | refine blk_alloc ?_ _)); exact BK263.out⟩, ⟨by (with_reducible repeat (first | refine blk_drewN ?_ _ | refine blk_drew ?_ | refine blk_alloc ?_ _)); exact BK267.out⟩, ⟨by (with_reducible repeat (first | refine blk_drewN ?_ _ | refine blk_drew ?_ | refine blk_alloc ?_ _)); exact BK271.out⟩, ⟨by (with_reducible repeat (first | refine blk_drewN ?_ _ | refine blk_drew ?_ | refine blk_alloc ?_ _)); exact BK275.out⟩, ⟨by (with_reducible repeat (first | refine blk_drewN ?_ _ | refine blk_drew ?_ | refine blk_alloc ?_ _)); exact BK297.out⟩, ⟨by repeat (first | (with_reducible first | exact HB.out | apply below_alloc | apply pw_below_drewN | apply below_drew1 | refine below_set ?_ GE263.out | refine below_set ?_ GE267.out | refine below_set ?_ GE271.out | refine below_set ?_ GE275.out | refine below_set ?_ GE297.out) | exact HB.out)⟩⟩
                       case rest => as_aux_lemma =>
                        clear HC165
                        try clear c31
                        try clear c125
                        try clear c134
                        try clear c136
                        try clear c156
                        try clear c163
                        try clear c163b0
                        try clear c164
                        try clear c164b0
                        try clear hcz162_0
                        try clear hcz162_1
                        try clear hcz170_0
                        try clear hcz170_1
                        try clear hfz162_0
                        try clear hfz162_1
                        try clear hfz170_0
                        try clear hfz170_1
                        obtain ⟨kq, x445_164, rfl, HA, HJ164, HO_54, HO_58, BK263, BK267, BK271, BK275, BK297, HB⟩ := hcut
                        cases kq with
                        | zero => exact absurd HA.out (by simp [j9])
                        | succ kj164 =>
                         have H := HA.out
                         clear HA
                         simp only [j9] at H
                         by_cases c174 : x445_164 = true
                         ·
                          subst c174
                          have H1 : (l2 kj164 a6 a7 a8 a9 t276 t277 t284 t285 t298 x65_6 (wrap64 (x66_7 + 1)) t268 t269) = some r := by rw [if_pos rfl] at H; exact H
                          clear H
                          have H := H1
                          clear H1
                          as_aux_lemma =>
                           have H' := Aside0.mk H
                           clear H
                           go_wp2
                           repeat (go_quiet (fail); try go_wp2)
                           go_roundg kj164
                           case measure => have := HJ15.out; have := HJ31.out; have := HJ78.out; have := HJ125.out; have := HJ137.out; have := HK6.out; have := HK7.out; have := HJ164.out; omega
                           case rel => exact ⟨(wrap64 (x66_7 + 1)), (by first | rfl | (simp; done) | (simp [*]; done)), H', ⟨by have := HJ15.out; have := HJ31.out; have := HJ78.out; have := HJ125.out; have := HJ137.out; have := HK6.out; have := HK7.out; have := HJ164.out; omega⟩, ⟨by (with_reducible repeat (first | apply Kd.S_alloc | apply Kd.S_drewN | apply Kd.S_drew)); exact HO_54.out⟩, ⟨by (with_reducible repeat (first | apply Kd.R_alloc | apply Kd.R_drewN | apply Kd.R_drew)); exact HO_58.out⟩, ⟨by (with_reducible repeat (first | refine blk_drewN ?_ _ | refine blk_drew ?_ | refine blk_alloc ?_ _)); exact BK263.out⟩, ⟨by (with_reducible repeat (first | refine blk_drewN ?_ _ | refine blk_drew ?_ | refine blk_alloc ?_ _)); exact BK267.out⟩, ⟨by (with_reducible repeat (first | refine blk_drewN ?_ _ | refine blk_drew ?_ | refine blk_alloc ?_ _)); exact BK271.out⟩, ⟨by (with_reducible repeat (first | refine blk_drewN ?_ _ | refine blk_drew ?_ | refine blk_alloc ?_ _)); exact BK275.out⟩, ⟨by (with_reducible repeat (first | refine blk_drewN ?_ _ | refine blk_drew ?_ | refine blk_alloc ?_ _)); exact BK297.out⟩, ⟨by repeat (first | (with_reducible first | exact HB.out | apply below_alloc | apply pw_below_drewN | apply below_drew1 | refine below_set ?_ GE263.out | refine below_set ?_ GE267.out | refine below_set ?_ GE271.out | refine below_set ?_ GE275.out | refine below_set ?_ GE297.out) | exact HB.out)⟩⟩
                         ·
                          replace c174 := Bool.eq_false_iff.mpr c174
                          subst c174
                          have H1 : ((laws_kAbs.f (wrap64 ((wrap64 ((wrap64 (t268 + x65_6)) * a7)) - (wrap64 (a6 * (wrap64 (t269 + x66_7))))))).bind fun t299 => (if (wrap64 (t299 * t269)) < (wrap64 (t298 * (wrap64 (t269 + x66_7)))) then (none) else (l2 kj164 a6 a7 a8 a9 t276 t277 t284 t285 t298 x65_6 (wrap64 (x66_7 + 1)) t268 t269))) = some r := by rw [if_neg (show ¬ (false = true) by decide)] at H; exact H
                          clear H
                          have H := H1
                          clear H1
                          replace H := Option.bind_eq_some_iff.mp H
                          obtain ⟨t299, A1750, H⟩ := H
                          replace H : (if (wrap64 (t299 * t269)) < (wrap64 (t298 * (wrap64 (t269 + x66_7)))) then (none) else (l2 kj164 a6 a7 a8 a9 t276 t277 t284 t285 t298 x65_6 (wrap64 (x66_7 + 1)) t268 t269)) = some r := H
                          have A175 := Aside0.mk A1750
                          clear A1750
                          by_cases c176 : (wrap64 (t299 * t269)) < (wrap64 (t298 * (wrap64 (t269 + x66_7))))
                          ·
                           rw [if_pos c176] at H
                           exact absurd H (by simp)
                          ·
                           rw [if_neg c176] at H
                           have c176b0 : decide ((wrap64 (t299 * t269)) < (wrap64 (t298 * (wrap64 (t269 + x66_7))))) = false := decide_eq_false c176
                           clear c176
                           as_aux_lemma =>
                            have H' := Aside0.mk H
                            clear H
                            go_wp2_with (first | (go_at_call 32; refine calls_of_args (args' := #[.int .i64 (wrap64 ((wrap64 ((wrap64 (t268 + x65_6)) * a7)) - (wrap64 (a6 * (wrap64 (t269 + x66_7))))))]) (by first | rfl) ?_; (with_reducible refine (laws_kAbs.calls (wrap64 ((wrap64 ((wrap64 (t268 + x65_6)) * a7)) - (wrap64 (a6 * (wrap64 (t269 + x66_7)))))) t299 _ A175.out).mono ?_); rintro e w' ⟨rfl, ⟨nd, rfl⟩⟩; (try first | exact ⟨rfl, _, World.drewN_drewN _ _ _⟩ | exact ⟨rfl, _, Eq.trans (World.drewN_drewN _ _ _) (congrArg (World.drewN _) (Nat.add_assoc _ _ _))⟩); have hnb177 := NB271_263.out; have hnc177 := NB263_271.out; have hnb178 := NB271_267.out; have hnc178 := NB267_271.out; have hnb179 := NB271_275.out; have hnc179 := NB275_271.out; have hnb180 := NB271_297.out; have hnc180 := NB297_271.out; have hcz181_0 : wc.cell? ⟨gb271, 0, none⟩ = some (.int .i64 t268) := (blk_cell BK271.out 0).trans rfl; have hcz181_1 : wc.cell? ⟨gb271, 1, none⟩ = some (.int .i64 t269) := (blk_cell BK271.out 1).trans rfl; have hfz181_0 := blk_frozen BK271.out 0; have hfz181_1 := blk_frozen BK271.out 1))
                            repeat (go_quiet (first | (go_at_call 32; refine calls_of_args (args' := #[.int .i64 (wrap64 ((wrap64 ((wrap64 (t268 + x65_6)) * a7)) - (wrap64 (a6 * (wrap64 (t269 + x66_7))))))]) (by first | rfl) ?_; (with_reducible refine (laws_kAbs.calls (wrap64 ((wrap64 ((wrap64 (t268 + x65_6)) * a7)) - (wrap64 (a6 * (wrap64 (t269 + x66_7)))))) t299 _ A175.out).mono ?_); rintro e w' ⟨rfl, ⟨nd, rfl⟩⟩; (try first | exact ⟨rfl, _, World.drewN_drewN _ _ _⟩ | exact ⟨rfl, _, Eq.trans (World.drewN_drewN _ _ _) (congrArg (World.drewN _) (Nat.add_assoc _ _ _))⟩); have hnb177 := NB271_263.out; have hnc177 := NB263_271.out; have hnb178 := NB271_267.out; have hnc178 := NB267_271.out; have hnb179 := NB271_275.out; have hnc179 := NB275_271.out; have hnb180 := NB271_297.out; have hnc180 := NB297_271.out; have hcz181_0 : wc.cell? ⟨gb271, 0, none⟩ = some (.int .i64 t268) := (blk_cell BK271.out 0).trans rfl; have hcz181_1 : wc.cell? ⟨gb271, 1, none⟩ = some (.int .i64 t269) := (blk_cell BK271.out 1).trans rfl; have hfz181_0 := blk_frozen BK271.out 0; have hfz181_1 := blk_frozen BK271.out 1)); try go_wp2_with (first | (go_at_call 32; refine calls_of_args (args' := #[.int .i64 (wrap64 ((wrap64 ((wrap64 (t268 + x65_6)) * a7)) - (wrap64 (a6 * (wrap64 (t269 + x66_7))))))]) (by first | rfl) ?_; (with_reducible refine (laws_kAbs.calls (wrap64 ((wrap64 ((wrap64 (t268 + x65_6)) * a7)) - (wrap64 (a6 * (wrap64 (t269 + x66_7)))))) t299 _ A175.out).mono ?_); rintro e w' ⟨rfl, ⟨nd, rfl⟩⟩; (try first | exact ⟨rfl, _, World.drewN_drewN _ _ _⟩ | exact ⟨rfl, _, Eq.trans (World.drewN_drewN _ _ _) (congrArg (World.drewN _) (Nat.add_assoc _ _ _))⟩); have hnb177 := NB271_263.out; have hnc177 := NB263_271.out; have hnb178 := NB271_267.out; have hnc178 := NB267_271.out; have hnb179 := NB271_275.out; have hnc179 := NB275_271.out; have hnb180 := NB271_297.out; have hnc180 := NB297_271.out; have hcz181_0 : wc.cell? ⟨gb271, 0, none⟩ = some (.int .i64 t268) := (blk_cell BK271.out 0).trans rfl; have hcz181_1 : wc.cell? ⟨gb271, 1, none⟩ = some (.int .i64 t269) := (blk_cell BK271.out 1).trans rfl; have hfz181_0 := blk_frozen BK271.out 0; have hfz181_1 := blk_frozen BK271.out 1)))
                            go_roundg kj164
                            case measure => have := HJ15.out; have := HJ31.out; have := HJ78.out; have := HJ125.out; have := HJ137.out; have := HK6.out; have := HK7.out; have := HJ164.out; omega
                            case rel => exact ⟨(wrap64 (x66_7 + 1)), (by first | rfl | (simp; done) | (simp [*]; done)), H', ⟨by have := HJ15.out; have := HJ31.out; have := HJ78.out; have := HJ125.out; have := HJ137.out; have := HK6.out; have := HK7.out; have := HJ164.out; omega⟩, ⟨by (with_reducible repeat (first | apply Kd.S_alloc | apply Kd.S_drewN | apply Kd.S_drew)); exact HO_54.out⟩, ⟨by (with_reducible repeat (first | apply Kd.R_alloc | apply Kd.R_drewN | apply Kd.R_drew)); exact HO_58.out⟩, ⟨by (with_reducible repeat (first | refine blk_drewN ?_ _ | refine blk_drew ?_ | refine blk_alloc ?_ _)); exact BK263.out⟩, ⟨by (with_reducible repeat (first | refine blk_drewN ?_ _ | refine blk_drew ?_ | refine blk_alloc ?_ _)); exact BK267.out⟩, ⟨by (with_reducible repeat (first | refine blk_drewN ?_ _ | refine blk_drew ?_ | refine blk_alloc ?_ _)); exact BK271.out⟩, ⟨by (with_reducible repeat (first | refine blk_drewN ?_ _ | refine blk_drew ?_ | refine blk_alloc ?_ _)); exact BK275.out⟩, ⟨by (with_reducible repeat (first | refine blk_drewN ?_ _ | refine blk_drew ?_ | refine blk_alloc ?_ _)); exact BK297.out⟩, ⟨by repeat (first | (with_reducible first | exact HB.out | apply below_alloc | apply pw_below_drewN | apply below_drew1 | refine below_set ?_ GE263.out | refine below_set ?_ GE267.out | refine below_set ?_ GE271.out | refine below_set ?_ GE275.out | refine below_set ?_ GE297.out) | exact HB.out)⟩⟩
                      ·
                       rw [if_neg c164] at H
                       have c164b0 : decide (x66_7 ≤ 1) = false := decide_eq_false c164
                       clear c164
                       as_aux_lemma =>
                        have H' := Aside0.mk H
                        clear H
                        go_wp2
                        repeat (go_quiet (fail); try go_wp2)
                        go_roundg k7
                        case measure => have := HJ15.out; have := HJ31.out; have := HJ78.out; have := HJ125.out; have := HJ137.out; have := HK6.out; have := HK7.out; omega
                        case rel => exact ⟨(wrap64 (x65_6 + 1)), (by first | rfl | (simp; done) | (simp [*]; done)), H', ⟨by have := HJ15.out; have := HJ31.out; have := HJ78.out; have := HJ125.out; have := HJ137.out; have := HK6.out; have := HK7.out; omega⟩, ⟨by (with_reducible repeat (first | apply Kd.S_alloc | apply Kd.S_drewN | apply Kd.S_drew)); exact HO_54.out⟩, ⟨by (with_reducible repeat (first | apply Kd.R_alloc | apply Kd.R_drewN | apply Kd.R_drew)); exact HO_58.out⟩, ⟨by (with_reducible repeat (first | refine blk_drewN ?_ _ | refine blk_drew ?_ | refine blk_alloc ?_ _)); exact BK263.out⟩, ⟨by (with_reducible repeat (first | refine blk_drewN ?_ _ | refine blk_drew ?_ | refine blk_alloc ?_ _)); exact BK267.out⟩, ⟨by (with_reducible repeat (first | refine blk_drewN ?_ _ | refine blk_drew ?_ | refine blk_alloc ?_ _)); exact BK271.out⟩, ⟨by (with_reducible repeat (first | refine blk_drewN ?_ _ | refine blk_drew ?_ | refine blk_alloc ?_ _)); exact BK275.out⟩, ⟨by (with_reducible repeat (first | refine blk_drewN ?_ _ | refine blk_drew ?_ | refine blk_alloc ?_ _)); exact BK297.out⟩, ⟨by repeat (first | (with_reducible first | exact HB.out | apply below_alloc | apply pw_below_drewN | apply below_drew1 | refine below_set ?_ GE263.out | refine below_set ?_ GE267.out | refine below_set ?_ GE271.out | refine below_set ?_ GE275.out | refine below_set ?_ GE297.out) | exact HB.out)⟩⟩
                   ·
                    rw [if_neg c163] at H
                    have c163b0 : decide (x65_6 ≤ 1) = false := decide_eq_false c163
                    clear c163
                    as_aux_lemma =>
                     have H' := Aside0.mk H
                     clear H
                     go_wp2
                     go_meet
                     case rel => exact ⟨_, H', ⟨by have := HJ15.out; have := HJ31.out; have := HJ78.out; have := HJ125.out; have := HJ137.out; have := HK6.out; first | omega | exact Nat.le_refl _⟩, ⟨by (with_reducible repeat (first | apply Kd.S_alloc | apply Kd.S_drewN | apply Kd.S_drew)); exact Kd.S_mono HO_54.out (fun _ hk => ⟨hk.1, ⟨hk.2.1, ⟨hk.2.2.1, ⟨hk.2.2.2.1, hk.2.2.2.2.1⟩⟩⟩⟩)⟩, ⟨by (with_reducible repeat (first | apply Kd.R_alloc | apply Kd.R_drewN | apply Kd.R_drew)); exact Kd.R_mono HO_58.out (fun _ hk => ⟨hk.1, ⟨hk.2.1, ⟨hk.2.2.1, hk.2.2.2.1⟩⟩⟩)⟩, ⟨by (with_reducible repeat (first | refine blk_drewN ?_ _ | refine blk_drew ?_ | refine blk_alloc ?_ _)); exact BK263.out⟩, ⟨by (with_reducible repeat (first | refine blk_drewN ?_ _ | refine blk_drew ?_ | refine blk_alloc ?_ _)); exact BK267.out⟩, ⟨by (with_reducible repeat (first | refine blk_drewN ?_ _ | refine blk_drew ?_ | refine blk_alloc ?_ _)); exact BK271.out⟩, ⟨by (with_reducible repeat (first | refine blk_drewN ?_ _ | refine blk_drew ?_ | refine blk_alloc ?_ _)); exact BK275.out⟩, ⟨by repeat (first | (with_reducible first | exact HB.out | apply below_alloc | apply pw_below_drewN | apply below_drew1 | refine below_set ?_ GE263.out | refine below_set ?_ GE267.out | refine below_set ?_ GE271.out | refine below_set ?_ GE275.out | refine below_set ?_ GE297.out) | exact HB.out)⟩⟩
             ·
              replace c136 := Bool.eq_false_iff.mpr c136
              subst c136
              have H1 : (j10 kj125 a9 t276 t277 t284 t285) = some r := by rw [if_neg (show ¬ (false = true) by decide)] at H; exact H
              clear H
              have H := H1
              clear H1
              as_aux_lemma =>
               have H' := Aside0.mk H
               clear H
               go_wp2
               go_meet
               case rel => exact ⟨_, H', ⟨by have := HJ15.out; have := HJ31.out; have := HJ78.out; have := HJ125.out; first | omega | exact Nat.le_refl _⟩, ⟨by (with_reducible repeat (first | apply Kd.S_alloc | apply Kd.S_drewN | apply Kd.S_drew)); exact HO_54.out⟩, ⟨by (with_reducible repeat (first | apply Kd.R_alloc | apply Kd.R_drewN | apply Kd.R_drew)); exact HO_58.out⟩, ⟨by (with_reducible repeat (first | refine blk_drewN ?_ _ | refine blk_drew ?_ | refine blk_alloc ?_ _)); exact BK263.out⟩, ⟨by (with_reducible repeat (first | refine blk_drewN ?_ _ | refine blk_drew ?_ | refine blk_alloc ?_ _)); exact BK267.out⟩, ⟨by (with_reducible repeat (first | refine blk_drewN ?_ _ | refine blk_drew ?_ | refine blk_alloc ?_ _)); exact BK271.out⟩, ⟨by (with_reducible repeat (first | refine blk_drewN ?_ _ | refine blk_drew ?_ | refine blk_alloc ?_ _)); exact BK275.out⟩, ⟨by repeat (first | (with_reducible first | exact HB.out | apply below_alloc | apply pw_below_drewN | apply below_drew1 | refine below_set ?_ GE263.out | refine below_set ?_ GE267.out | refine below_set ?_ GE271.out | refine below_set ?_ GE275.out) | exact HB.out)⟩⟩
            case rest => as_aux_lemma =>
             clear HC135
             try clear c31
             try clear c125
             try clear c134
             obtain ⟨kq, HA, HJ134, HO_54, HO_58, BK263, BK267, BK271, BK275, HB⟩ := hcut
             cases kq with
             | zero => exact absurd HA.out (by simp [j10])
             | succ kj134 =>
              have H := HA.out
              clear HA
              simp only [j10] at H
              by_cases c182 : t285 = true
              ·
               subst c182
               have H1 : ((impl_RatioOf.f kj134 t284).bind fun bt300 => ((impl_TeethOf.f kj134 t284).bind fun bt303 => (if bt300.2.2 = true then (if bt300.1 = 1 then (if bt300.2.1 = a9 then (if bt303.2 = true then (if (t284.length : Int) = 2 then (if 0 < (t284.length : Int) then (if 1 < (t284.length : Int) then (if (wrap64 (((rd_T23 t284 0).f0) + ((rd_T23 t284 0).f1))) = (wrap64 (((rd_T23 t284 1).f0) + ((rd_T23 t284 1).f1))) then (if t277 = true then (j11 kj134 a9 t276 bt303.1 (decide ((t276.length : Int) < 1))) else (j11 kj134 a9 t276 bt303.1 false)) else (none)) else (none)) else (none)) else (none)) else (none)) else (none)) else (none)) else (none)))) = some r := by rw [if_pos rfl] at H; exact H
               clear H
               have H := H1
               clear H1
               replace H := Option.bind_eq_some_iff.mp H
               obtain ⟨⟨t300, t301, t302⟩, A1830, H⟩ := H
               replace H : ((impl_TeethOf.f kj134 t284).bind fun bt303 => (if t302 = true then (if t300 = 1 then (if t301 = a9 then (if bt303.2 = true then (if (t284.length : Int) = 2 then (if 0 < (t284.length : Int) then (if 1 < (t284.length : Int) then (if (wrap64 (((rd_T23 t284 0).f0) + ((rd_T23 t284 0).f1))) = (wrap64 (((rd_T23 t284 1).f0) + ((rd_T23 t284 1).f1))) then (if t277 = true then (j11 kj134 a9 t276 bt303.1 (decide ((t276.length : Int) < 1))) else (j11 kj134 a9 t276 bt303.1 false)) else (none)) else (none)) else (none)) else (none)) else (none)) else (none)) else (none)) else (none))) = some r := H
               have A183 := Aside0.mk A1830
               clear A1830
               replace H := Option.bind_eq_some_iff.mp H
               obtain ⟨⟨t303, t304⟩, A1840, H⟩ := H
               replace H : (if t302 = true then (if t300 = 1 then (if t301 = a9 then (if t304 = true then (if (t284.length : Int) = 2 then (if 0 < (t284.length : Int) then (if 1 < (t284.length : Int) then (if (wrap64 (((rd_T23 t284 0).f0) + ((rd_T23 t284 0).f1))) = (wrap64 (((rd_T23 t284 1).f0) + ((rd_T23 t284 1).f1))) then (if t277 = true then (j11 kj134 a9 t276 t303 (decide ((t276.length : Int) < 1))) else (j11 kj134 a9 t276 t303 false)) else (none)) else (none)) else (none)) else (none)) else (none)) else (none)) else (none)) else (none)) = some r := H
               have A184 := Aside0.mk A1840
               clear A1840
               have HC185 := Aside0.mk H
               clear H
               obtain ⟨Ao186, co186, eo186⟩ := Kd.R_slice HO_58.out
               subst eo186
               go_upto_region 53 with (first | (go_at_call 27; refine calls_of_args (args' := #[.slice Ao186 t284.length co186]) (by first | rfl) ?_; (with_reducible refine (impl_RatioOf.calls kj134 _ _ t284 t300 t301 t302 _ ?side1 ?side2 A183.out).mono ?_); (case side1 => repeat (first | exact (Kd.R_reads' HO_58.out).2.2 | (with_reducible refine Kd.C_alloc ?_ _) | (with_reducible refine Kd.C_drewN ?_ _) | (with_reducible refine Kd.C_drew ?_))); (case side2 => exact (Kd.R_reads' HO_58.out).2.1); rintro e w187 ⟨rfl, hb⟩; have n0_ := Aside0.mk (Kd.S_below (by (with_reducible repeat (first | apply Kd.S_alloc | apply Kd.S_drewN | apply Kd.S_drew)); exact HO_54.out) hb); have n1_ := Aside0.mk (Kd.R_below (by (with_reducible repeat (first | apply Kd.R_alloc | apply Kd.R_drewN | apply Kd.R_drew)); exact HO_58.out) hb); have n2_ := Aside0.mk (blk_below (g := gb263) (o := .cells #[.int .i64 t260, .int .i64 t261] 23 (0, 0)) (by (with_reducible repeat (first | refine blk_drewN ?_ _ | refine blk_drew ?_ | refine blk_alloc ?_ _)); exact BK263.out) hb); have n3_ := Aside0.mk (blk_below (g := gb267) (o := .cells #[.int .i64 t264, .int .i64 t265] 23 (0, 0)) (by (with_reducible repeat (first | refine blk_drewN ?_ _ | refine blk_drew ?_ | refine blk_alloc ?_ _)); exact BK267.out) hb); have n4_ := Aside0.mk (blk_below (g := gb271) (o := .cells #[.int .i64 t268, .int .i64 t269] 23 (0, 0)) (by (with_reducible repeat (first | refine blk_drewN ?_ _ | refine blk_drew ?_ | refine blk_alloc ?_ _)); exact BK271.out) hb); have n5_ := Aside0.mk (blk_below (g := gb275) (o := .cells #[.int .i64 t272, .int .i64 t273] 23 (0, 0)) (by (with_reducible repeat (first | refine blk_drewN ?_ _ | refine blk_drew ?_ | refine blk_alloc ?_ _)); exact BK275.out) hb); have n6_ := Aside0.mk (below_step (by repeat (first | (with_reducible first | exact HB.out | apply below_alloc | apply pw_below_drewN | apply below_drew1 | refine below_set ?_ GE263.out | refine below_set ?_ GE267.out | refine below_set ?_ GE271.out | refine below_set ?_ GE275.out) | exact HB.out)) hb); clear HO_54; clear HO_58; clear BK263; clear BK267; clear BK271; clear BK275; clear HB; have HO_54 := n0_; have HO_58 := n1_; have BK263 := n2_; have BK267 := n3_; have BK271 := n4_; have BK275 := n5_; have HB := n6_; clear n0_ n1_ n2_ n3_ n4_ n5_ n6_; (try clear hb); (try clear hb2); (try clear hk); (try clear hi)) | (go_at_call 28; refine calls_of_args (args' := #[.slice Ao186 t284.length co186]) (by first | rfl) ?_; (with_reducible refine (impl_TeethOf.calls kj134 _ _ t284 t303 t304 _ ?side1 ?side2 A184.out).mono ?_); (case side1 => repeat (first | exact (Kd.R_reads' HO_58.out).2.2 | (with_reducible refine Kd.C_alloc ?_ _) | (with_reducible refine Kd.C_drewN ?_ _) | (with_reducible refine Kd.C_drew ?_))); (case side2 => exact (Kd.R_reads' HO_58.out).2.1); rintro e w188 ⟨rfl, hb⟩; have n0_ := Aside0.mk (Kd.S_below (by (with_reducible repeat (first | apply Kd.S_alloc | apply Kd.S_drewN | apply Kd.S_drew)); exact HO_54.out) hb); have n1_ := Aside0.mk (Kd.R_below (by (with_reducible repeat (first | apply Kd.R_alloc | apply Kd.R_drewN | apply Kd.R_drew)); exact HO_58.out) hb); have n2_ := Aside0.mk (blk_below (g := gb263) (o := .cells #[.int .i64 t260, .int .i64 t261] 23 (0, 0)) (by (with_reducible repeat (first | refine blk_drewN ?_ _ | refine blk_drew ?_ | refine blk_alloc ?_ _)); exact BK263.out) hb); have n3_ := Aside0.mk (blk_below (g := gb267) (o := .cells #[.int .i64 t264, .int .i64 t265] 23 (0, 0)) (by (with_reducible repeat (first | refine blk_drewN ?_ _ | refine blk_drew ?_ | refine blk_alloc ?_ _)); exact BK267.out) hb); have n4_ := Aside0.mk (blk_below (g := gb271) (o := .cells #[.int .i64 t268, .int .i64 t269] 23 (0, 0)) (by (with_reducible repeat (first | refine blk_drewN ?_ _ | refine blk_drew ?_ | refine blk_alloc ?_ _)); exact BK271.out) hb); have n5_ := Aside0.mk (blk_below (g := gb275) (o := .cells #[.int .i64 t272, .int .i64 t273] 23 (0, 0)) (by (with_reducible repeat (first | refine blk_drewN ?_ _ | refine blk_drew ?_ | refine blk_alloc ?_ _)); exact BK275.out) hb); have n6_ := Aside0.mk (below_step (by repeat (first | (with_reducible first | exact HB.out | apply below_alloc | apply pw_below_drewN | apply below_drew1 | refine below_set ?_ GE263.out | refine below_set ?_ GE267.out | refine below_set ?_ GE271.out | refine below_set ?_ GE275.out) | exact HB.out)) hb); clear HO_54; clear HO_58; clear BK263; clear BK267; clear BK271; clear BK275; clear HB; have HO_54 := n0_; have HO_58 := n1_; have BK263 := n2_; have BK267 := n3_; have BK271 := n4_; have BK275 := n5_; have HB := n6_; clear n0_ n1_ n2_ n3_ n4_ n5_ n6_; (try clear hb); (try clear hb2); (try clear hk); (try clear hi)))
               (try simp only [Act.put, List.setIfInBounds_toArray, List.set_cons_zero, List.set_cons_succ])
               go_cut [521] from 446 to 521 (fun v521 wc => ∃ (kq : Nat) (x521_184 : Bool), v521 = .bool x521_184 ∧ Aside0 (j11 kq a9 t276 t303 x521_184 = some r) ∧ Aside0 (kq ≤ kj134) ∧ Aside0 (Kd.S (Kd.slice 23 k23) 28 wc w.heap.size (fun k_ => k_ ≠ gb263 ∧ k_ ≠ gb267 ∧ k_ ≠ gb271 ∧ k_ ≠ gb275) v278 t276) ∧ Aside0 (wc.heap[gb263]? = some (.cells #[.int .i64 t260, .int .i64 t261] 23 (0, 0))) ∧ Aside0 (wc.heap[gb267]? = some (.cells #[.int .i64 t264, .int .i64 t265] 23 (0, 0))) ∧ Aside0 (wc.heap[gb271]? = some (.cells #[.int .i64 t268, .int .i64 t269] 23 (0, 0))) ∧ Aside0 (wc.heap[gb275]? = some (.cells #[.int .i64 t272, .int .i64 t273] 23 (0, 0))) ∧ Aside0 (Below w.heap.size w wc))
               case first => as_aux_lemma =>
                have H := HC185.out
                clear HC185
                by_cases c189 : t302 = true
                ·
                 subst c189
                 have H1 : (if t300 = 1 then (if t301 = a9 then (if t304 = true then (if (t284.length : Int) = 2 then (if 0 < (t284.length : Int) then (if 1 < (t284.length : Int) then (if (wrap64 (((rd_T23 t284 0).f0) + ((rd_T23 t284 0).f1))) = (wrap64 (((rd_T23 t284 1).f0) + ((rd_T23 t284 1).f1))) then (if t277 = true then (j11 kj134 a9 t276 t303 (decide ((t276.length : Int) < 1))) else (j11 kj134 a9 t276 t303 false)) else (none)) else (none)) else (none)) else (none)) else (none)) else (none)) else (none)) = some r := by rw [if_pos rfl] at H; exact H
                 clear H
                 have H := H1
                 clear H1
                 by_cases c190 : t300 = 1
                 ·
                  rw [if_pos c190] at H
                  have c190b0 : (t300 == 1) = true := beq_iff_eq.mpr c190
                  have c190b1 : (t300 != 1) = false := bne_eq_false_iff_eq.mpr c190
                  clear c190
                  (first | rw [c190b0] | (simp only [i64_w, i32_w]; rw [c190b0]) | skip)
                  by_cases c191 : t301 = a9
                  ·
                   rw [if_pos c191] at H
                   have c191b0 : (t301 == a9) = true := beq_iff_eq.mpr c191
                   have c191b1 : (t301 != a9) = false := bne_eq_false_iff_eq.mpr c191
                   clear c191
                   by_cases c192 : t304 = true
                   ·
                    subst c192
                    have H1 : (if (t284.length : Int) = 2 then (if 0 < (t284.length : Int) then (if 1 < (t284.length : Int) then (if (wrap64 (((rd_T23 t284 0).f0) + ((rd_T23 t284 0).f1))) = (wrap64 (((rd_T23 t284 1).f0) + ((rd_T23 t284 1).f1))) then (if t277 = true then (j11 kj134 a9 t276 t303 (decide ((t276.length : Int) < 1))) else (j11 kj134 a9 t276 t303 false)) else (none)) else (none)) else (none)) else (none)) = some r := by rw [if_pos rfl] at H; exact H
                    clear H
                    have H := H1
                    clear H1
                    by_cases c193 : (t284.length : Int) = 2
                    ·
                     rw [if_pos c193] at H
                     have c193b0 : ((t284.length : Int) == 2) = true := beq_iff_eq.mpr c193
                     have c193b1 : ((t284.length : Int) != 2) = false := bne_eq_false_iff_eq.mpr c193
                     clear c193
                     by_cases c194 : 0 < (t284.length : Int)
                     ·
                      rw [if_pos c194] at H
                      have c194b0 : decide (0 < (t284.length : Int)) = true := decide_eq_true c194
                      have c194b1 : decide (0 < t284.length) = true := decide_eq_true (by omega)
                      clear c194
                      by_cases c195 : 1 < (t284.length : Int)
                      ·
                       rw [if_pos c195] at H
                       have c195b0 : decide (1 < (t284.length : Int)) = true := decide_eq_true c195
                       have c195b1 : decide (1 < t284.length) = true := decide_eq_true (by omega)
                       clear c195
                       by_cases c196 : (wrap64 (((rd_T23 t284 0).f0) + ((rd_T23 t284 0).f1))) = (wrap64 (((rd_T23 t284 1).f0) + ((rd_T23 t284 1).f1)))
                       ·
                        rw [if_pos c196] at H
                        have c196b0 : ((wrap64 (((rd_T23 t284 0).f0) + ((rd_T23 t284 0).f1))) == (wrap64 (((rd_T23 t284 1).f0) + ((rd_T23 t284 1).f1)))) = true := beq_iff_eq.mpr c196
                        have c196b1 : ((wrap64 (((rd_T23 t284 0).f0) + ((rd_T23 t284 0).f1))) != (wrap64 (((rd_T23 t284 1).f0) + ((rd_T23 t284 1).f1)))) = false := bne_eq_false_iff_eq.mpr c196
                        clear c196
                        by_cases c197 : t277 = true
                        ·
                         subst c197
                         have H1 : (j11 kj134 a9 t276 t303 (decide ((t276.length : Int) < 1))) = some r := by rw [if_pos rfl] at H; exact H
                         clear H
                         have H := H1
                         clear H1
                         as_aux_lemma =>
                          have H' := Aside0.mk H
                          clear H
                          have p305 : 0 ≤ (0 : Int) := (by omega)
                          have q305 : 0 < (t284.length : Int) := of_decide_eq_true (by first | (with_reducible assumption) | assumption)
                          obtain ⟨ad305, e305, hx305_0, hx305_1⟩ := at_T23 (Kd.R_reads' HO_58.out).2.2 0 p305 q305
                          cases e305
                          have qi305 : (0 < t284.length) = True := eq_true (by omega)
                          (try rw [show ((0 : Int)).toNat = 0 from rfl] at hx305_0)
                          (try rw [show 0 * 2 = 0 from rfl] at hx305_0)
                          (try rw [Addr.add_zero'] at hx305_0)
                          (try rw [show ((0 : Int)).toNat = 0 from rfl] at hx305_1)
                          (try rw [show 0 * 2 = 0 from rfl] at hx305_1)
                          (try rw [Addr.add_zero'] at hx305_1)
                          replace p305 := eq_true p305
                          replace q305 := eq_true q305
                          have p306 : 0 ≤ (0 : Int) := (by omega)
                          have q306 : 0 < (t284.length : Int) := of_decide_eq_true (by first | (with_reducible assumption) | assumption)
                          obtain ⟨ad306, e306, hx306_0, hx306_1⟩ := at_T23 (Kd.R_reads' HO_58.out).2.2 0 p306 q306
                          obtain rfl : ad305 = ad306 := (by injection e306)
                          have qi306 : (0 < t284.length) = True := eq_true (by omega)
                          (try rw [show ((0 : Int)).toNat = 0 from rfl] at hx306_0)
                          (try rw [show 0 * 2 = 0 from rfl] at hx306_0)
                          (try rw [Addr.add_zero'] at hx306_0)
                          (try rw [show ((0 : Int)).toNat = 0 from rfl] at hx306_1)
                          (try rw [show 0 * 2 = 0 from rfl] at hx306_1)
                          (try rw [Addr.add_zero'] at hx306_1)
                          replace p306 := eq_true p306
                          replace q306 := eq_true q306
                          have p307 : 0 ≤ (1 : Int) := (by omega)
                          have q307 : 1 < (t284.length : Int) := of_decide_eq_true (by first | (with_reducible assumption) | assumption)
                          obtain ⟨ad307, e307, hx307_0, hx307_1⟩ := at_T23 (Kd.R_reads' HO_58.out).2.2 1 p307 q307
                          obtain rfl : ad305 = ad307 := (by injection e307)
                          (try simp only [show (1 : Int).toNat = 1 from rfl, Nat.reduceMul, Nat.reduceEqDiff, Go.Addr.add, ↓reduceIte] at hx307_0)
                          (try simp only [show (1 : Int).toNat = 1 from rfl, Nat.reduceMul, Nat.reduceEqDiff, Go.Addr.add, ↓reduceIte] at hx307_1)
                          have qi307 : (1 < t284.length) = True := eq_true (by omega)
                          (try rw [show ((1 : Int)).toNat = 1 from rfl] at hx307_0)
                          (try rw [show 1 * 2 = 2 from rfl] at hx307_0)
                          (try rw [show ((1 : Int)).toNat = 1 from rfl] at hx307_1)
                          (try rw [show 1 * 2 = 2 from rfl] at hx307_1)
                          replace p307 := eq_true p307
                          replace q307 := eq_true q307
                          have p308 : 0 ≤ (1 : Int) := (by omega)
                          have q308 : 1 < (t284.length : Int) := of_decide_eq_true (by first | (with_reducible assumption) | assumption)
                          obtain ⟨ad308, e308, hx308_0, hx308_1⟩ := at_T23 (Kd.R_reads' HO_58.out).2.2 1 p308 q308
                          obtain rfl : ad305 = ad308 := (by injection e308)
                          (try simp only [show (1 : Int).toNat = 1 from rfl, Nat.reduceMul, Nat.reduceEqDiff, Go.Addr.add, ↓reduceIte] at hx308_0)
                          (try simp only [show (1 : Int).toNat = 1 from rfl, Nat.reduceMul, Nat.reduceEqDiff, Go.Addr.add, ↓reduceIte] at hx308_1)
                          have qi308 : (1 < t284.length) = True := eq_true (by omega)
                          (try rw [show ((1 : Int)).toNat = 1 from rfl] at hx308_0)
                          (try rw [show 1 * 2 = 2 from rfl] at hx308_0)
                          (try rw [show ((1 : Int)).toNat = 1 from rfl] at hx308_1)
                          (try rw [show 1 * 2 = 2 from rfl] at hx308_1)
                          replace p308 := eq_true p308
                          replace q308 := eq_true q308
                          obtain ⟨Ao198, co198, eo198⟩ := Kd.S_slice HO_54.out
                          subst eo198
                          go_wp2
                          repeat (go_quiet (fail); try go_wp2)
                          go_meet
                          case rel => exact ⟨_, (decide ((t276.length : Int) < 1)), (by first | rfl | (simp; done) | (simp [*]; done)), H', ⟨by have := HJ15.out; have := HJ31.out; have := HJ78.out; have := HJ125.out; have := HJ134.out; first | omega | exact Nat.le_refl _⟩, ⟨by (with_reducible repeat (first | apply Kd.S_alloc | apply Kd.S_drewN | apply Kd.S_drew)); exact Kd.S_mono HO_54.out (fun _ hk => ⟨hk.2.1, ⟨hk.2.2.1, ⟨hk.2.2.2.1, hk.2.2.2.2⟩⟩⟩)⟩, ⟨by (with_reducible repeat (first | refine blk_drewN ?_ _ | refine blk_drew ?_ | refine blk_alloc ?_ _)); exact BK263.out⟩, ⟨by (with_reducible repeat (first | refine blk_drewN ?_ _ | refine blk_drew ?_ | refine blk_alloc ?_ _)); exact BK267.out⟩, ⟨by (with_reducible repeat (first | refine blk_drewN ?_ _ | refine blk_drew ?_ | refine blk_alloc ?_ _)); exact BK271.out⟩, ⟨by (with_reducible repeat (first | refine blk_drewN ?_ _ | refine blk_drew ?_ | refine blk_alloc ?_ _)); exact BK275.out⟩, ⟨by repeat (first | (with_reducible first | exact HB.out | apply below_alloc | apply pw_below_drewN | apply below_drew1 | refine below_set ?_ GE263.out | refine below_set ?_ GE267.out | refine below_set ?_ GE271.out | refine below_set ?_ GE275.out) | exact HB.out)⟩⟩
                        ·
                         replace c197 := Bool.eq_false_iff.mpr c197
                         subst c197
                         have H1 : (j11 kj134 a9 t276 t303 false) = some r := by rw [if_neg (show ¬ (false = true) by decide)] at H; exact H
                         clear H
                         have H := H1
                         clear H1
                         as_aux_lemma =>
                          have H' := Aside0.mk H
                          clear H
                          have p305 : 0 ≤ (0 : Int) := (by omega)
                          have q305 : 0 < (t284.length : Int) := of_decide_eq_true (by first | (with_reducible assumption) | assumption)
                          obtain ⟨ad305, e305, hx305_0, hx305_1⟩ := at_T23 (Kd.R_reads' HO_58.out).2.2 0 p305 q305
                          cases e305
                          have qi305 : (0 < t284.length) = True := eq_true (by omega)
                          (try rw [show ((0 : Int)).toNat = 0 from rfl] at hx305_0)
                          (try rw [show 0 * 2 = 0 from rfl] at hx305_0)
                          (try rw [Addr.add_zero'] at hx305_0)
                          (try rw [show ((0 : Int)).toNat = 0 from rfl] at hx305_1)
                          (try rw [show 0 * 2 = 0 from rfl] at hx305_1)
                          (try rw [Addr.add_zero'] at hx305_1)
                          replace p305 := eq_true p305
                          replace q305 := eq_true q305
                          have p306 : 0 ≤ (0 : Int) := (by omega)
                          have q306 : 0 < (t284.length : Int) := of_decide_eq_true (by first | (with_reducible assumption) | assumption)
                          obtain ⟨ad306, e306, hx306_0, hx306_1⟩ := at_T23 (Kd.R_reads' HO_58.out).2.2 0 p306 q306
                          obtain rfl : ad305 = ad306 := (by injection e306)
                          have qi306 : (0 < t284.length) = True := eq_true (by omega)
                          (try rw [show ((0 : Int)).toNat = 0 from rfl] at hx306_0)
                          (try rw [show 0 * 2 = 0 from rfl] at hx306_0)
                          (try rw [Addr.add_zero'] at hx306_0)
                          (try rw [show ((0 : Int)).toNat = 0 from rfl] at hx306_1)
                          (try rw [show 0 * 2 = 0 from rfl] at hx306_1)
                          (try rw [Addr.add_zero'] at hx306_1)
                          replace p306 := eq_true p306
                          replace q306 := eq_true q306
                          have p307 : 0 ≤ (1 : Int) := (by omega)
                          have q307 : 1 < (t284.length : Int) := of_decide_eq_true (by first | (with_reducible assumption) | assumption)
                          obtain ⟨ad307, e307, hx307_0, hx307_1⟩ := at_T23 (Kd.R_reads' HO_58.out).2.2 1 p307 q307
                          obtain rfl : ad305 = ad307 := (by injection e307)
                          (try simp only [show (1 : Int).toNat = 1 from rfl, Nat.reduceMul, Nat.reduceEqDiff, Go.Addr.add, ↓reduceIte] at hx307_0)
                          (try simp only [show (1 : Int).toNat = 1 from rfl, Nat.reduceMul, Nat.reduceEqDiff, Go.Addr.add, ↓reduceIte] at hx307_1)
                          have qi307 : (1 < t284.length) = True := eq_true (by omega)
                          (try rw [show ((1 : Int)).toNat = 1 from rfl] at hx307_0)
                          (try rw [show 1 * 2 = 2 from rfl] at hx307_0)
                          (try rw [show ((1 : Int)).toNat = 1 from rfl] at hx307_1)
                          (try rw [show 1 * 2 = 2 from rfl] at hx307_1)
                          replace p307 := eq_true p307
                          replace q307 := eq_true q307
                          have p308 : 0 ≤ (1 : Int) := (by omega)
                          have q308 : 1 < (t284.length : Int) := of_decide_eq_true (by first | (with_reducible assumption) | assumption)
                          obtain ⟨ad308, e308, hx308_0, hx308_1⟩ := at_T23 (Kd.R_reads' HO_58.out).2.2 1 p308 q308
                          obtain rfl : ad305 = ad308 := (by injection e308)
                          (try simp only [show (1 : Int).toNat = 1 from rfl, Nat.reduceMul, Nat.reduceEqDiff, Go.Addr.add, ↓reduceIte] at hx308_0)
                          (try simp only [show (1 : Int).toNat = 1 from rfl, Nat.reduceMul, Nat.reduceEqDiff, Go.Addr.add, ↓reduceIte] at hx308_1)
                          have qi308 : (1 < t284.length) = True := eq_true (by omega)
                          (try rw [show ((1 : Int)).toNat = 1 from rfl] at hx308_0)
                          (try rw [show 1 * 2 = 2 from rfl] at hx308_0)
                          (try rw [show ((1 : Int)).toNat = 1 from rfl] at hx308_1)
                          (try rw [show 1 * 2 = 2 from rfl] at hx308_1)
                          replace p308 := eq_true p308
                          replace q308 := eq_true q308
                          go_wp2
                          repeat (go_quiet (fail); try go_wp2)
                          go_meet
                          case rel => exact ⟨_, (false), (by first | rfl | (simp; done) | (simp [*]; done)), H', ⟨by have := HJ15.out; have := HJ31.out; have := HJ78.out; have := HJ125.out; have := HJ134.out; first | omega | exact Nat.le_refl _⟩, ⟨by (with_reducible repeat (first | apply Kd.S_alloc | apply Kd.S_drewN | apply Kd.S_drew)); exact Kd.S_mono HO_54.out (fun _ hk => ⟨hk.2.1, ⟨hk.2.2.1, ⟨hk.2.2.2.1, hk.2.2.2.2⟩⟩⟩)⟩, ⟨by (with_reducible repeat (first | refine blk_drewN ?_ _ | refine blk_drew ?_ | refine blk_alloc ?_ _)); exact BK263.out⟩, ⟨by (with_reducible repeat (first | refine blk_drewN ?_ _ | refine blk_drew ?_ | refine blk_alloc ?_ _)); exact BK267.out⟩, ⟨by (with_reducible repeat (first | refine blk_drewN ?_ _ | refine blk_drew ?_ | refine blk_alloc ?_ _)); exact BK271.out⟩, ⟨by (with_reducible repeat (first | refine blk_drewN ?_ _ | refine blk_drew ?_ | refine blk_alloc ?_ _)); exact BK275.out⟩, ⟨by repeat (first | (with_reducible first | exact HB.out | apply below_alloc | apply pw_below_drewN | apply below_drew1 | refine below_set ?_ GE263.out | refine below_set ?_ GE267.out | refine below_set ?_ GE271.out | refine below_set ?_ GE275.out) | exact HB.out)⟩⟩
                       ·
                        rw [if_neg c196] at H
                        exact absurd H (by simp)
                      ·
                       rw [if_neg c195] at H
                       exact absurd H (by simp)
                     ·
                      rw [if_neg c194] at H
                      exact absurd H (by simp)
                    ·
                     rw [if_neg c193] at H
                     exact absurd H (by simp)
                   ·
                    replace c192 := Bool.eq_false_iff.mpr c192
                    subst c192
                    have H1 : (none) = some r := by rw [if_neg (show ¬ (false = true) by decide)] at H; exact H
                    clear H
                    have H := H1
                    clear H1
                    exact absurd H (by simp)
                  ·
                   rw [if_neg c191] at H
                   exact absurd H (by simp)
                 ·
                  rw [if_neg c190] at H
                  exact absurd H (by simp)
                ·
                 replace c189 := Bool.eq_false_iff.mpr c189
                 subst c189
                 have H1 : (none) = some r := by rw [if_neg (show ¬ (false = true) by decide)] at H; exact H
                 clear H
                 have H := H1
                 clear H1
                 exact absurd H (by simp)
               case rest => as_aux_lemma =>
                clear HC185
                try clear c31
                try clear c125
                try clear c134
                try clear c182
                obtain ⟨kq, x521_184, rfl, HA, HJ184, HO_54, BK263, BK267, BK271, BK275, HB⟩ := hcut
                cases kq with
                | zero => exact absurd HA.out (by simp [j11])
                | succ kj184 =>
                 have H := HA.out
                 clear HA
                 simp only [j11] at H
                 by_cases c199 : x521_184 = true
                 ·
                  subst c199
                  have H1 : (none) = some r := by rw [if_pos rfl] at H; exact H
                  clear H
                  have H := H1
                  clear H1
                  exact absurd H (by simp)
                 ·
                  replace c199 := Bool.eq_false_iff.mpr c199
                  subst c199
                  have H1 : (l3 kj184 a9 t303 t276 (t276.length : Int) 0) = some r := by rw [if_neg (show ¬ (false = true) by decide)] at H; exact H
                  clear H
                  have H := H1
                  clear H1
                  have H' := Aside0.mk H
                  clear H
                  obtain ⟨Ao200, co200, eo200⟩ := Kd.S_slice HO_54.out
                  subst eo200
                  go_wp2
                  repeat (go_quiet (fail); try go_wp2)
                  go_loopg [524] kj184 (fun kq v524 w' => ∃ (x524_7 : Int), v524 = .int .i64 x524_7 ∧ Aside0 (l3 kq a9 t303 t276 (t276.length : Int) x524_7 = some r) ∧ Aside0 (kq ≤ kj184) ∧ Aside0 (Kd.S (Kd.slice 23 k23) 28 w' w.heap.size (fun k_ => k_ ≠ gb263 ∧ k_ ≠ gb267 ∧ k_ ≠ gb271 ∧ k_ ≠ gb275) (.slice Ao200 t276.length co200) t276) ∧ Aside0 (w'.heap[gb263]? = some (.cells #[.int .i64 t260, .int .i64 t261] 23 (0, 0))) ∧ Aside0 (w'.heap[gb267]? = some (.cells #[.int .i64 t264, .int .i64 t265] 23 (0, 0))) ∧ Aside0 (w'.heap[gb271]? = some (.cells #[.int .i64 t268, .int .i64 t269] 23 (0, 0))) ∧ Aside0 (w'.heap[gb275]? = some (.cells #[.int .i64 t272, .int .i64 t273] 23 (0, 0))) ∧ Aside0 (Below w.heap.size w w'))
                  case atStart => exact ⟨(0), (by first | rfl | (simp; done) | (simp [*]; done)), H', ⟨Nat.le_refl _⟩, ⟨by (with_reducible repeat (first | apply Kd.S_alloc | apply Kd.S_drewN | apply Kd.S_drew)); exact HO_54.out⟩, ⟨by (with_reducible repeat (first | refine blk_drewN ?_ _ | refine blk_drew ?_ | refine blk_alloc ?_ _)); exact BK263.out⟩, ⟨by (with_reducible repeat (first | refine blk_drewN ?_ _ | refine blk_drew ?_ | refine blk_alloc ?_ _)); exact BK267.out⟩, ⟨by (with_reducible repeat (first | refine blk_drewN ?_ _ | refine blk_drew ?_ | refine blk_alloc ?_ _)); exact BK271.out⟩, ⟨by (with_reducible repeat (first | refine blk_drewN ?_ _ | refine blk_drew ?_ | refine blk_alloc ?_ _)); exact BK275.out⟩, ⟨by repeat (first | (with_reducible first | exact HB.out | apply below_alloc | apply pw_below_drewN | apply below_drew1 | refine below_set ?_ GE263.out | refine below_set ?_ GE267.out | refine below_set ?_ GE271.out | refine below_set ?_ GE275.out) | exact HB.out)⟩⟩
                  case round => as_aux_lemma =>
                   clear H'
                   try clear c31
                   try clear c125
                   try clear c134
                   try clear c182
                   try clear c199
                   obtain ⟨x524_7, rfl, HA, HK7, HO_522, BK263, BK267, BK271, BK275, HB⟩ := hrel
                   cases gk with
                   | zero => exact absurd HA.out (by simp [l3])
                   | succ k7 =>
                    have H := HA.out
                    clear HA
                    simp only [l3] at H
                    by_cases c201 : x524_7 < (t276.length : Int)
                    ·
                     rw [if_pos c201] at H
                     have c201b0 : decide (x524_7 < (t276.length : Int)) = true := decide_eq_true c201
                     clear c201
                     by_cases c202 : 0 ≤ x524_7
                     ·
                      rw [if_pos c202] at H
                      have c202b0 : decide (0 ≤ x524_7) = true := decide_eq_true c202
                      clear c202
                      by_cases c203 : x524_7 < (t276.length : Int)
                      ·
                       rw [if_pos c203] at H
                       have c203b0 : decide (x524_7 < (t276.length : Int)) = true := decide_eq_true c203
                       clear c203
                       replace H := Option.bind_eq_some_iff.mp H
                       obtain ⟨⟨t310, t311⟩, A2040, H⟩ := H
                       replace H : ((impl_RatioOf.f k7 (rd_L2 t276 x524_7)).bind fun bt312 => (if t311 = true then (if t310 < t303 then (none) else (if bt312.2.2 = true then (if bt312.1 = 1 then (if bt312.2.1 = a9 then (if 0 < ((rd_L2 t276 x524_7).length : Int) then (if 1 < ((rd_L2 t276 x524_7).length : Int) then (if (wrap64 (((rd_T23 (rd_L2 t276 x524_7) 0).f0) + ((rd_T23 (rd_L2 t276 x524_7) 0).f1))) = (wrap64 (((rd_T23 (rd_L2 t276 x524_7) 1).f0) + ((rd_T23 (rd_L2 t276 x524_7) 1).f1))) then (l3 k7 a9 t303 t276 (t276.length : Int) (wrap64 (x524_7 + 1))) else (none)) else (none)) else (none)) else (none)) else (none)) else (none))) else (none))) = some r := H
                       have A204 := Aside0.mk A2040
                       clear A2040
                       replace H := Option.bind_eq_some_iff.mp H
                       obtain ⟨⟨t312, t313, t314⟩, A2050, H⟩ := H
                       replace H : (if t311 = true then (if t310 < t303 then (none) else (if t314 = true then (if t312 = 1 then (if t313 = a9 then (if 0 < ((rd_L2 t276 x524_7).length : Int) then (if 1 < ((rd_L2 t276 x524_7).length : Int) then (if (wrap64 (((rd_T23 (rd_L2 t276 x524_7) 0).f0) + ((rd_T23 (rd_L2 t276 x524_7) 0).f1))) = (wrap64 (((rd_T23 (rd_L2 t276 x524_7) 1).f0) + ((rd_T23 (rd_L2 t276 x524_7) 1).f1))) then (l3 k7 a9 t303 t276 (t276.length : Int) (wrap64 (x524_7 + 1))) else (none)) else (none)) else (none)) else (none)) else (none)) else (none))) else (none)) = some r := H
                       have A205 := Aside0.mk A2050
                       clear A2050
                       by_cases c206 : t311 = true
                       ·
                        subst c206
                        have H1 : (if t310 < t303 then (none) else (if t314 = true then (if t312 = 1 then (if t313 = a9 then (if 0 < ((rd_L2 t276 x524_7).length : Int) then (if 1 < ((rd_L2 t276 x524_7).length : Int) then (if (wrap64 (((rd_T23 (rd_L2 t276 x524_7) 0).f0) + ((rd_T23 (rd_L2 t276 x524_7) 0).f1))) = (wrap64 (((rd_T23 (rd_L2 t276 x524_7) 1).f0) + ((rd_T23 (rd_L2 t276 x524_7) 1).f1))) then (l3 k7 a9 t303 t276 (t276.length : Int) (wrap64 (x524_7 + 1))) else (none)) else (none)) else (none)) else (none)) else (none)) else (none))) = some r := by rw [if_pos rfl] at H; exact H
                        clear H
                        have H := H1
                        clear H1
                        by_cases c207 : t310 < t303
                        ·
                         rw [if_pos c207] at H
                         exact absurd H (by simp)
                        ·
                         rw [if_neg c207] at H
                         have c207b0 : decide (t310 < t303) = false := decide_eq_false c207
                         clear c207
                         by_cases c208 : t314 = true
                         ·
                          subst c208
                          have H1 : (if t312 = 1 then (if t313 = a9 then (if 0 < ((rd_L2 t276 x524_7).length : Int) then (if 1 < ((rd_L2 t276 x524_7).length : Int) then (if (wrap64 (((rd_T23 (rd_L2 t276 x524_7) 0).f0) + ((rd_T23 (rd_L2 t276 x524_7) 0).f1))) = (wrap64 (((rd_T23 (rd_L2 t276 x524_7) 1).f0) + ((rd_T23 (rd_L2 t276 x524_7) 1).f1))) then (l3 k7 a9 t303 t276 (t276.length : Int) (wrap64 (x524_7 + 1))) else (none)) else (none)) else (none)) else (none)) else (none)) = some r := by rw [if_pos rfl] at H; exact H
                          clear H
                          have H := H1
                          clear H1
                          by_cases c209 : t312 = 1
                          ·
                           rw [if_pos c209] at H
                           have c209b0 : (t312 == 1) = true := beq_iff_eq.mpr c209
                           have c209b1 : (t312 != 1) = false := bne_eq_false_iff_eq.mpr c209
                           clear c209
                           by_cases c210 : t313 = a9
                           ·
                            rw [if_pos c210] at H
                            have c210b0 : (t313 == a9) = true := beq_iff_eq.mpr c210
                            have c210b1 : (t313 != a9) = false := bne_eq_false_iff_eq.mpr c210
                            clear c210
                            by_cases c211 : 0 < ((rd_L2 t276 x524_7).length : Int)
                            ·
                             rw [if_pos c211] at H
                             have c211b0 : decide (0 < ((rd_L2 t276 x524_7).length : Int)) = true := decide_eq_true c211
                             have c211b1 : decide (0 < (rd_L2 t276 x524_7).length) = true := decide_eq_true (by omega)
                             clear c211
                             by_cases c212 : 1 < ((rd_L2 t276 x524_7).length : Int)
                             ·
                              rw [if_pos c212] at H
                              have c212b0 : decide (1 < ((rd_L2 t276 x524_7).length : Int)) = true := decide_eq_true c212
                              have c212b1 : decide (1 < (rd_L2 t276 x524_7).length) = true := decide_eq_true (by omega)
                              clear c212
                              by_cases c213 : (wrap64 (((rd_T23 (rd_L2 t276 x524_7) 0).f0) + ((rd_T23 (rd_L2 t276 x524_7) 0).f1))) = (wrap64 (((rd_T23 (rd_L2 t276 x524_7) 1).f0) + ((rd_T23 (rd_L2 t276 x524_7) 1).f1)))
                              ·
                               rw [if_pos c213] at H
                               have c213b0 : ((wrap64 (((rd_T23 (rd_L2 t276 x524_7) 0).f0) + ((rd_T23 (rd_L2 t276 x524_7) 0).f1))) == (wrap64 (((rd_T23 (rd_L2 t276 x524_7) 1).f0) + ((rd_T23 (rd_L2 t276 x524_7) 1).f1)))) = true := beq_iff_eq.mpr c213
                               have c213b1 : ((wrap64 (((rd_T23 (rd_L2 t276 x524_7) 0).f0) + ((rd_T23 (rd_L2 t276 x524_7) 0).f1))) != (wrap64 (((rd_T23 (rd_L2 t276 x524_7) 1).f0) + ((rd_T23 (rd_L2 t276 x524_7) 1).f1)))) = false := bne_eq_false_iff_eq.mpr c213
                               clear c213
                               as_aux_lemma =>
                                have H' := Aside0.mk H
                                clear H
                                have p309 : 0 ≤ (x524_7 : Int) := of_decide_eq_true (by first | (with_reducible assumption) | assumption)
                                have q309 : x524_7 < (t276.length : Int) := of_decide_eq_true (by first | (with_reducible assumption) | assumption)
                                obtain ⟨ad309, A309_0, c309_0, e309, hx309_0, hl309_0, hi309_0⟩ := at_L2 (Kd.S_reads' HO_522.out).2.2 x524_7 p309 q309
                                cases e309
                                obtain ⟨ce309, hce309, hMe309, hcc309⟩ := Kd.S_get HO_522.out [] x524_7 p309 (by first | exact q309 | exact of_decide_eq_true (by first | (with_reducible assumption) | assumption) | (have e_ := (Kd.S_reads' HO_522.out).1; omega))
                                obtain ⟨ve309_0, rfl, ge309_0⟩ := hMe309
                                have hv309_0 := hcc309 0 _ rfl
                                rw [Nat.add_zero, show ((Kd.slice 23 k23)).sz = 1 from rfl, Nat.mul_one] at hv309_0
                                replace hv309_0 := Option.some.inj (hv309_0.symm.trans hx309_0)
                                rw [hv309_0] at ge309_0
                                have HL309_0 := Aside0.mk (show Kd.R k23 23 _ _ _ _ (rd_L2 t276 x524_7) from ge309_0)
                                clear hv309_0 ge309_0
                                clear hcc309 hce309
                                have HR309_0 := Aside0.mk hi309_0
                                have HC309_0 := Aside0.mk hl309_0
                                clear hi309_0 hl309_0
                                replace p309 := eq_true p309
                                replace q309 := eq_true q309
                                go_wp2_with (first | (go_at_call 28; refine calls_of_args (args' := #[.slice A309_0 (rd_L2 t276 x524_7).length c309_0]) (by first | rfl) ?_; (with_reducible refine (impl_TeethOf.calls k7 _ _ (rd_L2 t276 x524_7) t310 true _ ?side1 ?side2 A204.out).mono ?_); (case side1 => repeat (first | exact (by repeat (first | (with_reducible exact HR309_0.out) | (with_reducible refine Kd.C_alloc ?_ _) | (with_reducible refine Kd.C_drewN ?_ _) | (with_reducible refine Kd.C_drew ?_) | exact HR309_0.out)) | (with_reducible refine Kd.C_alloc ?_ _) | (with_reducible refine Kd.C_drewN ?_ _) | (with_reducible refine Kd.C_drew ?_))); (case side2 => exact HC309_0.out); rintro e w214 ⟨rfl, hb⟩; have n0_ := Aside0.mk (Kd.S_below (by (with_reducible repeat (first | apply Kd.S_alloc | apply Kd.S_drewN | apply Kd.S_drew)); exact HO_522.out) hb); have n1_ := Aside0.mk (Kd.R_below (by (with_reducible repeat (first | apply Kd.R_alloc | apply Kd.R_drewN | apply Kd.R_drew)); exact HL309_0.out) hb); have n2_ := Aside0.mk (blk_below (g := gb263) (o := .cells #[.int .i64 t260, .int .i64 t261] 23 (0, 0)) (by (with_reducible repeat (first | refine blk_drewN ?_ _ | refine blk_drew ?_ | refine blk_alloc ?_ _)); exact BK263.out) hb); have n3_ := Aside0.mk (blk_below (g := gb267) (o := .cells #[.int .i64 t264, .int .i64 t265] 23 (0, 0)) (by (with_reducible repeat (first | refine blk_drewN ?_ _ | refine blk_drew ?_ | refine blk_alloc ?_ _)); exact BK267.out) hb); have n4_ := Aside0.mk (blk_below (g := gb271) (o := .cells #[.int .i64 t268, .int .i64 t269] 23 (0, 0)) (by (with_reducible repeat (first | refine blk_drewN ?_ _ | refine blk_drew ?_ | refine blk_alloc ?_ _)); exact BK271.out) hb); have n5_ := Aside0.mk (blk_below (g := gb275) (o := .cells #[.int .i64 t272, .int .i64 t273] 23 (0, 0)) (by (with_reducible repeat (first | refine blk_drewN ?_ _ | refine blk_drew ?_ | refine blk_alloc ?_ _)); exact BK275.out) hb); have n6_ := Aside0.mk (Kd.C_below (by repeat (first | (with_reducible exact HR309_0.out) | (with_reducible refine Kd.C_alloc ?_ _) | (with_reducible refine Kd.C_drewN ?_ _) | (with_reducible refine Kd.C_drew ?_) | exact HR309_0.out)) hb); have n7_ := Aside0.mk (below_step (by repeat (first | (with_reducible first | exact HB.out | apply below_alloc | apply pw_below_drewN | apply below_drew1 | refine below_set ?_ GE263.out | refine below_set ?_ GE267.out | refine below_set ?_ GE271.out | refine below_set ?_ GE275.out) | exact HB.out)) hb); clear HO_522; clear HL309_0; clear BK263; clear BK267; clear BK271; clear BK275; clear HR309_0; clear HB; have HO_522 := n0_; have HL309_0 := n1_; have BK263 := n2_; have BK267 := n3_; have BK271 := n4_; have BK275 := n5_; have HR309_0 := n6_; have HB := n7_; clear n0_ n1_ n2_ n3_ n4_ n5_ n6_ n7_; (try clear hb); (try clear hb2); (try clear hk); (try clear hi)) | (go_at_call 27; refine calls_of_args (args' := #[.slice A309_0 (rd_L2 t276 x524_7).length c309_0]) (by first | rfl) ?_; (with_reducible refine (impl_RatioOf.calls k7 _ _ (rd_L2 t276 x524_7) t312 t313 true _ ?side1 ?side2 A205.out).mono ?_); (case side1 => repeat (first | exact (by repeat (first | (with_reducible exact HR309_0.out) | (with_reducible refine Kd.C_alloc ?_ _) | (with_reducible refine Kd.C_drewN ?_ _) | (with_reducible refine Kd.C_drew ?_) | exact HR309_0.out)) | (with_reducible refine Kd.C_alloc ?_ _) | (with_reducible refine Kd.C_drewN ?_ _) | (with_reducible refine Kd.C_drew ?_))); (case side2 => exact HC309_0.out); rintro e w215 ⟨rfl, hb⟩; have n0_ := Aside0.mk (Kd.S_below (by (with_reducible repeat (first | apply Kd.S_alloc | apply Kd.S_drewN | apply Kd.S_drew)); exact HO_522.out) hb); have n1_ := Aside0.mk (Kd.R_below (by (with_reducible repeat (first | apply Kd.R_alloc | apply Kd.R_drewN | apply Kd.R_drew)); exact HL309_0.out) hb); have n2_ := Aside0.mk (blk_below (g := gb263) (o := .cells #[.int .i64 t260, .int .i64 t261] 23 (0, 0)) (by (with_reducible repeat (first | refine blk_drewN ?_ _ | refine blk_drew ?_ | refine blk_alloc ?_ _)); exact BK263.out) hb); have n3_ := Aside0.mk (blk_below (g := gb267) (o := .cells #[.int .i64 t264, .int .i64 t265] 23 (0, 0)) (by (with_reducible repeat (first | refine blk_drewN ?_ _ | refine blk_drew ?_ | refine blk_alloc ?_ _)); exact BK267.out) hb); have n4_ := Aside0.mk (blk_below (g := gb271) (o := .cells #[.int .i64 t268, .int .i64 t269] 23 (0, 0)) (by (with_reducible repeat (first | refine blk_drewN ?_ _ | refine blk_drew ?_ | refine blk_alloc ?_ _)); exact BK271.out) hb); have n5_ := Aside0.mk (blk_below (g := gb275) (o := .cells #[.int .i64 t272, .int .i64 t273] 23 (0, 0)) (by (with_reducible repeat (first | refine blk_drewN ?_ _ | refine blk_drew ?_ | refine blk_alloc ?_ _)); exact BK275.out) hb); have n6_ := Aside0.mk (Kd.C_below (by repeat (first | (with_reducible exact HR309_0.out) | (with_reducible refine Kd.C_alloc ?_ _) | (with_reducible refine Kd.C_drewN ?_ _) | (with_reducible refine Kd.C_drew ?_) | exact HR309_0.out)) hb); have n7_ := Aside0.mk (below_step (by repeat (first | (with_reducible first | exact HB.out | apply below_alloc | apply pw_below_drewN | apply below_drew1 | refine below_set ?_ GE263.out | refine below_set ?_ GE267.out | refine below_set ?_ GE271.out | refine below_set ?_ GE275.out) | exact HB.out)) hb); clear HO_522; clear HL309_0; clear BK263; clear BK267; clear BK271; clear BK275; clear HR309_0; clear HB; have HO_522 := n0_; have HL309_0 := n1_; have BK263 := n2_; have BK267 := n3_; have BK271 := n4_; have BK275 := n5_; have HR309_0 := n6_; have HB := n7_; clear n0_ n1_ n2_ n3_ n4_ n5_ n6_ n7_; (try clear hb); (try clear hb2); (try clear hk); (try clear hi); have p315 : 0 ≤ (0 : Int) := (by omega); have q315 : 0 < ((rd_L2 t276 x524_7).length : Int) := of_decide_eq_true (by first | (with_reducible assumption) | assumption); obtain ⟨ad315, e315, hx315_0, hx315_1⟩ := at_T23 (by repeat (first | (with_reducible exact HR309_0.out) | (with_reducible refine Kd.C_alloc ?_ _) | (with_reducible refine Kd.C_drewN ?_ _) | (with_reducible refine Kd.C_drew ?_) | exact HR309_0.out)) 0 p315 q315; cases e315; have qi315 : (0 < (rd_L2 t276 x524_7).length) = True := eq_true (by omega); (try rw [show ((0 : Int)).toNat = 0 from rfl] at hx315_0); (try rw [show 0 * 2 = 0 from rfl] at hx315_0); (try rw [Addr.add_zero'] at hx315_0); (try rw [show ((0 : Int)).toNat = 0 from rfl] at hx315_1); (try rw [show 0 * 2 = 0 from rfl] at hx315_1); (try rw [Addr.add_zero'] at hx315_1); replace p315 := eq_true p315; replace q315 := eq_true q315; have p316 : 0 ≤ (0 : Int) := (by omega); have q316 : 0 < ((rd_L2 t276 x524_7).length : Int) := of_decide_eq_true (by first | (with_reducible assumption) | assumption); obtain ⟨ad316, e316, hx316_0, hx316_1⟩ := at_T23 (by repeat (first | (with_reducible exact HR309_0.out) | (with_reducible refine Kd.C_alloc ?_ _) | (with_reducible refine Kd.C_drewN ?_ _) | (with_reducible refine Kd.C_drew ?_) | exact HR309_0.out)) 0 p316 q316; obtain rfl : ad315 = ad316 := (by injection e316); have qi316 : (0 < (rd_L2 t276 x524_7).length) = True := eq_true (by omega); (try rw [show ((0 : Int)).toNat = 0 from rfl] at hx316_0); (try rw [show 0 * 2 = 0 from rfl] at hx316_0); (try rw [Addr.add_zero'] at hx316_0); (try rw [show ((0 : Int)).toNat = 0 from rfl] at hx316_1); (try rw [show 0 * 2 = 0 from rfl] at hx316_1); (try rw [Addr.add_zero'] at hx316_1); replace p316 := eq_true p316; replace q316 := eq_true q316; have p317 : 0 ≤ (1 : Int) := (by omega); have q317 : 1 < ((rd_L2 t276 x524_7).length : Int) := of_decide_eq_true (by first | (with_reducible assumption) | assumption); obtain ⟨ad317, e317, hx317_0, hx317_1⟩ := at_T23 (by repeat (first | (with_reducible exact HR309_0.out) | (with_reducible refine Kd.C_alloc ?_ _) | (with_reducible refine Kd.C_drewN ?_ _) | (with_reducible refine Kd.C_drew ?_) | exact HR309_0.out)) 1 p317 q317; obtain rfl : ad315 = ad317 := (by injection e317); (try simp only [show (1 : Int).toNat = 1 from rfl, Nat.reduceMul, Nat.reduceEqDiff, Go.Addr.add, ↓reduceIte] at hx317_0); (try simp only [show (1 : Int).toNat = 1 from rfl, Nat.reduceMul, Nat.reduceEqDiff, Go.Addr.add, ↓reduceIte] at hx317_1); have qi317 : (1 < (rd_L2 t276 x524_7).length) = True := eq_true (by omega); (try rw [show ((1 : Int)).toNat = 1 from rfl] at hx317_0); (try rw [show 1 * 2 = 2 from rfl] at hx317_0); (try rw [show ((1 : Int)).toNat = 1 from rfl] at hx317_1); (try rw [show 1 * 2 = 2 from rfl] at hx317_1); replace p317 := eq_true p317; replace q317 := eq_true q317; have p318 : 0 ≤ (1 : Int) := (by omega); have q318 : 1 < ((rd_L2 t276 x524_7).length : Int) := of_decide_eq_true (by first | (with_reducible assumption) | assumption); obtain ⟨ad318, e318, hx318_0, hx318_1⟩ := at_T23 (by repeat (first | (with_reducible exact HR309_0.out) | (with_reducible refine Kd.C_alloc ?_ _) | (with_reducible refine Kd.C_drewN ?_ _) | (with_reducible refine Kd.C_drew ?_) | exact HR309_0.out)) 1 p318 q318; obtain rfl : ad315 = ad318 := (by injection e318); (try simp only [show (1 : Int).toNat = 1 from rfl, Nat.reduceMul, Nat.reduceEqDiff, Go.Addr.add, ↓reduceIte] at hx318_0); (try simp only [show (1 : Int).toNat = 1 from rfl, Nat.reduceMul, Nat.reduceEqDiff, Go.Addr.add, ↓reduceIte] at hx318_1); have qi318 : (1 < (rd_L2 t276 x524_7).length) = True := eq_true (by omega); (try rw [show ((1 : Int)).toNat = 1 from rfl] at hx318_0); (try rw [show 1 * 2 = 2 from rfl] at hx318_0); (try rw [show ((1 : Int)).toNat = 1 from rfl] at hx318_1); (try rw [show 1 * 2 = 2 from rfl] at hx318_1); replace p318 := eq_true p318; replace q318 := eq_true q318))
                                repeat (go_quiet (first | (go_at_call 28; refine calls_of_args (args' := #[.slice A309_0 (rd_L2 t276 x524_7).length c309_0]) (by first | rfl) ?_; (with_reducible refine (impl_TeethOf.calls k7 _ _ (rd_L2 t276 x524_7) t310 true _ ?side1 ?side2 A204.out).mono ?_); (case side1 => repeat (first | exact (by repeat (first | (with_reducible exact HR309_0.out) | (with_reducible refine Kd.C_alloc ?_ _) | (with_reducible refine Kd.C_drewN ?_ _) | (with_reducible refine Kd.C_drew ?_) | exact HR309_0.out)) | (with_reducible refine Kd.C_alloc ?_ _) | (with_reducible refine Kd.C_drewN ?_ _) | (with_reducible refine Kd.C_drew ?_))); (case side2 => exact HC309_0.out); rintro e w214 ⟨rfl, hb⟩; have n0_ := Aside0.mk (Kd.S_below (by (with_reducible repeat (first | apply Kd.S_alloc | apply Kd.S_drewN | apply Kd.S_drew)); exact HO_522.out) hb); have n1_ := Aside0.mk (Kd.R_below (by (with_reducible repeat (first | apply Kd.R_alloc | apply Kd.R_drewN | apply Kd.R_drew)); exact HL309_0.out) hb); have n2_ := Aside0.mk (blk_below (g := gb263) (o := .cells #[.int .i64 t260, .int .i64 t261] 23 (0, 0)) (by (with_reducible repeat (first | refine blk_drewN ?_ _ | refine blk_drew ?_ | refine blk_alloc ?_ _)); exact BK263.out) hb); have n3_ := Aside0.mk (blk_below (g := gb267) (o := .cells #[.int .i64 t264, .int .i64 t265] 23 (0, 0)) (by (with_reducible repeat (first | refine blk_drewN ?_ _ | refine blk_drew ?_ | refine blk_alloc ?_ _)); exact BK267.out) hb); have n4_ := Aside0.mk (blk_below (g := gb271) (o := .cells #[.int .i64 t268, .int .i64 t269] 23 (0, 0)) (by (with_reducible repeat (first | refine blk_drewN ?_ _ | refine blk_drew ?_ | refine blk_alloc ?_ _)); exact BK271.out) hb); have n5_ := Aside0.mk (blk_below (g := gb275) (o := .cells #[.int .i64 t272, .int .i64 t273] 23 (0, 0)) (by (with_reducible repeat (first | refine blk_drewN ?_ _ | refine blk_drew ?_ | refine blk_alloc ?_ _)); exact BK275.out) hb); have n6_ := Aside0.mk (Kd.C_below (by repeat (first | (with_reducible exact HR309_0.out) | (with_reducible refine Kd.C_alloc ?_ _) | (with_reducible refine Kd.C_drewN ?_ _) | (with_reducible refine Kd.C_drew ?_) | exact HR309_0.out)) hb); have n7_ := Aside0.mk (below_step (by repeat (first | (with_reducible first | exact HB.out | apply below_alloc | apply pw_below_drewN | apply below_drew1 | refine below_set ?_ GE263.out | refine below_set ?_ GE267.out | refine below_set ?_ GE271.out | refine below_set ?_ GE275.out) | exact HB.out)) hb); clear HO_522; clear HL309_0; clear BK263; clear BK267; clear BK271; clear BK275; clear HR309_0; clear HB; have HO_522 := n0_; have HL309_0 := n1_; have BK263 := n2_; have BK267 := n3_; have BK271 := n4_; have BK275 := n5_; have HR309_0 := n6_; have HB := n7_; clear n0_ n1_ n2_ n3_ n4_ n5_ n6_ n7_; (try clear hb); (try clear hb2); (try clear hk); (try clear hi)) | (go_at_call 27; refine calls_of_args (args' := #[.slice A309_0 (rd_L2 t276 x524_7).length c309_0]) (by first | rfl) ?_; (with_reducible refine (impl_RatioOf.calls k7 _ _ (rd_L2 t276 x524_7) t312 t313 true _ ?side1 ?side2 A205.out).mono ?_); (case side1 => repeat (first | exact (by repeat (first | (with_reducible exact HR309_0.out) | (with_reducible refine Kd.C_alloc ?_ _) | (with_reducible refine Kd.C_drewN ?_ _) | (with_reducible refine Kd.C_drew ?_) | exact HR309_0.out)) | (with_reducible refine Kd.C_alloc ?_ _) | (with_reducible refine Kd.C_drewN ?_ _) | (with_reducible refine Kd.C_drew ?_))); (case side2 => exact HC309_0.out); rintro e w215 ⟨rfl, hb⟩; have n0_ := Aside0.mk (Kd.S_below (by (with_reducible repeat (first | apply Kd.S_alloc | apply Kd.S_drewN | apply Kd.S_drew)); exact HO_522.out) hb); have n1_ := Aside0.mk (Kd.R_below (by (with_reducible repeat (first | apply Kd.R_alloc | apply Kd.R_drewN | apply Kd.R_drew)); exact HL309_0.out) hb); have n2_ := Aside0.mk (blk_below (g := gb263) (o := .cells #[.int .i64 t260, .int .i64 t261] 23 (0, 0)) (by (with_reducible repeat (first | refine blk_drewN ?_ _ | refine blk_drew ?_ | refine blk_alloc ?_ _)); exact BK263.out) hb); have n3_ := Aside0.mk (blk_below (g := gb267) (o := .cells #[.int .i64 t264, .int .i64 t265] 23 (0, 0)) (by (with_reducible repeat (first | refine blk_drewN ?_ _ | refine blk_drew ?_ | refine blk_alloc ?_ _)); exact BK267.out) hb); have n4_ := Aside0.mk (blk_below (g := gb271) (o := .cells #[.int .i64 t268, .int .i64 t269] 23 (0, 0)) (by (with_reducible repeat (first | refine blk_drewN ?_ _ | refine blk_drew ?_ | refine blk_alloc ?_ _)); exact BK271.out) hb); have n5_ := Aside0.mk (blk_below (g := gb275) (o := .cells #[.int .i64 t272, .int .i64 t273] 23 (0, 0)) (by (with_reducible repeat (first | refine blk_drewN ?_ _ | refine blk_drew ?_ | refine blk_alloc ?_ _)); exact BK275.out) hb); have n6_ := Aside0.mk (Kd.C_below (by repeat (first | (with_reducible exact HR309_0.out) | (with_reducible refine Kd.C_alloc ?_ _) | (with_reducible refine Kd.C_drewN ?_ _) | (with_reducible refine Kd.C_drew ?_) | exact HR309_0.out)) hb); have n7_ := Aside0.mk (below_step (by repeat (first | (with_reducible first | exact HB.out | apply below_alloc | apply pw_below_drewN | apply below_drew1 | refine below_set ?_ GE263.out | refine below_set ?_ GE267.out | refine below_set ?_ GE271.out | refine below_set ?_ GE275.out) | exact HB.out)) hb); clear HO_522; clear HL309_0; clear BK263; clear BK267; clear BK271; clear BK275; clear HR309_0; clear HB; have HO_522 := n0_; have HL309_0 := n1_; have BK263 := n2_; have BK267 := n3_; have BK271 := n4_; have BK275 := n5_; have HR309_0 := n6_; have HB := n7_; clear n0_ n1_ n2_ n3_ n4_ n5_ n6_ n7_; (try clear hb); (try clear hb2); (try clear hk); (try clear hi); have p315 : 0 ≤ (0 : Int) := (by omega); have q315 : 0 < ((rd_L2 t276 x524_7).length : Int) := of_decide_eq_true (by first | (with_reducible assumption) | assumption); obtain ⟨ad315, e315, hx315_0, hx315_1⟩ := at_T23 (by repeat (first | (with_reducible exact HR309_0.out) | (with_reducible refine Kd.C_alloc ?_ _) | (with_reducible refine Kd.C_drewN ?_ _) | (with_reducible refine Kd.C_drew ?_) | exact HR309_0.out)) 0 p315 q315; cases e315; have qi315 : (0 < (rd_L2 t276 x524_7).length) = True := eq_true (by omega); (try rw [show ((0 : Int)).toNat = 0 from rfl] at hx315_0); (try rw [show 0 * 2 = 0 from rfl] at hx315_0); (try rw [Addr.add_zero'] at hx315_0); (try rw [show ((0 : Int)).toNat = 0 from rfl] at hx315_1); (try rw [show 0 * 2 = 0 from rfl] at hx315_1); (try rw [Addr.add_zero'] at hx315_1); replace p315 := eq_true p315; replace q315 := eq_true q315; have p316 : 0 ≤ (0 : Int) := (by omega); have q316 : 0 < ((rd_L2 t276 x524_7).length : Int) := of_decide_eq_true (by first | (with_reducible assumption) | assumption); obtain ⟨ad316, e316, hx316_0, hx316_1⟩ := at_T23 (by repeat (first | (with_reducible exact HR309_0.out) | (with_reducible refine Kd.C_alloc ?_ _) | (with_reducible refine Kd.C_drewN ?_ _) | (with_reducible refine Kd.C_drew ?_) | exact HR309_0.out)) 0 p316 q316; obtain rfl : ad315 = ad316 := (by injection e316); have qi316 : (0 < (rd_L2 t276 x524_7).length) = True := eq_true (by omega); (try rw [show ((0 : Int)).toNat = 0 from rfl] at hx316_0); (try rw [show 0 * 2 = 0 from rfl] at hx316_0); (try rw [Addr.add_zero'] at hx316_0); (try rw [show ((0 : Int)).toNat = 0 from rfl] at hx316_1); (try rw [show 0 * 2 = 0 from rfl] at hx316_1); (try rw [Addr.add_zero'] at hx316_1); replace p316 := eq_true p316; replace q316 := eq_true q316; have p317 : 0 ≤ (1 : Int) := (by omega); have q317 : 1 < ((rd_L2 t276 x524_7).length : Int) := of_decide_eq_true (by first | (with_reducible assumption) | assumption); obtain ⟨ad317, e317, hx317_0, hx317_1⟩ := at_T23 (by repeat (first | (with_reducible exact HR309_0.out) | (with_reducible refine Kd.C_alloc ?_ _) | (with_reducible refine Kd.C_drewN ?_ _) | (with_reducible refine Kd.C_drew ?_) | exact HR309_0.out)) 1 p317 q317; obtain rfl : ad315 = ad317 := (by injection e317); (try simp only [show (1 : Int).toNat = 1 from rfl, Nat.reduceMul, Nat.reduceEqDiff, Go.Addr.add, ↓reduceIte] at hx317_0); (try simp only [show (1 : Int).toNat = 1 from rfl, Nat.reduceMul, Nat.reduceEqDiff, Go.Addr.add, ↓reduceIte] at hx317_1); have qi317 : (1 < (rd_L2 t276 x524_7).length) = True := eq_true (by omega); (try rw [show ((1 : Int)).toNat = 1 from rfl] at hx317_0); (try rw [show 1 * 2 = 2 from rfl] at hx317_0); (try rw [show ((1 : Int)).toNat = 1 from rfl] at hx317_1); (try rw [show 1 * 2 = 2 from rfl] at hx317_1); replace p317 := eq_true p317; replace q317 := eq_true q317; have p318 : 0 ≤ (1 : Int) := (by omega); have q318 : 1 < ((rd_L2 t276 x524_7).length : Int) := of_decide_eq_true (by first | (with_reducible assumption) | assumption); obtain ⟨ad318, e318, hx318_0, hx318_1⟩ := at_T23 (by repeat (first | (with_reducible exact HR309_0.out) | (with_reducible refine Kd.C_alloc ?_ _) | (with_reducible refine Kd.C_drewN ?_ _) | (with_reducible refine Kd.C_drew ?_) | exact HR309_0.out)) 1 p318 q318; obtain rfl : ad315 = ad318 := (by injection e318); (try simp only [show (1 : Int).toNat = 1 from rfl, Nat.reduceMul, Nat.reduceEqDiff, Go.Addr.add, ↓reduceIte] at hx318_0); (try simp only [show (1 : Int).toNat = 1 from rfl, Nat.reduceMul, Nat.reduceEqDiff, Go.Addr.add, ↓reduceIte] at hx318_1); have qi318 : (1 < (rd_L2 t276 x524_7).length) = True := eq_true (by omega); (try rw [show ((1 : Int)).toNat = 1 from rfl] at hx318_0); (try rw [show 1 * 2 = 2 from rfl] at hx318_0); (try rw [show ((1 : Int)).toNat = 1 from rfl] at hx318_1); (try rw [show 1 * 2 = 2 from rfl] at hx318_1); replace p318 := eq_true p318; replace q318 := eq_true q318)); try go_wp2_with (first | (go_at_call 28; refine calls_of_args (args' := #[.slice A309_0 (rd_L2 t276 x524_7).length c309_0]) (by first | rfl) ?_; (with_reducible refine (impl_TeethOf.calls k7 _ _ (rd_L2 t276 x524_7) t310 true _ ?side1 ?side2 A204.out).mono ?_); (case side1 => repeat (first | exact (by repeat (first | (with_reducible exact HR309_0.out) | (with_reducible refine Kd.C_alloc ?_ _) | (with_reducible refine Kd.C_drewN ?_ _) | (with_reducible refine Kd.C_drew ?_) | exact HR309_0.out)) | (with_reducible refine Kd.C_alloc ?_ _) | (with_reducible refine Kd.C_drewN ?_ _) | (with_reducible refine Kd.C_drew ?_))); (case side2 => exact HC309_0.out); rintro e w214 ⟨rfl, hb⟩; have n0_ := Aside0.mk (Kd.S_below (by (with_reducible repeat (first | apply Kd.S_alloc | apply Kd.S_drewN | apply Kd.S_drew)); exact HO_522.out) hb); have n1_ := Aside0.mk (Kd.R_below (by (with_reducible repeat (first | apply Kd.R_alloc | apply Kd.R_drewN | apply Kd.R_drew)); exact HL309_0.out) hb); have n2_ := Aside0.mk (blk_below (g := gb263) (o := .cells #[.int .i64 t260, .int .i64 t261] 23 (0, 0)) (by (with_reducible repeat (first | refine blk_drewN ?_ _ | refine blk_drew ?_ | refine blk_alloc ?_ _)); exact BK263.out) hb); have n3_ := Aside0.mk (blk_below (g := gb267) (o := .cells #[.int .i64 t264, .int .i64 t265] 23 (0, 0)) (by (with_reducible repeat (first | refine blk_drewN ?_ _ | refine blk_drew ?_ | refine blk_alloc ?_ _)); exact BK267.out) hb); have n4_ := Aside0.mk (blk_below (g := gb271) (o := .cells #[.int .i64 t268, .int .i64 t269] 23 (0, 0)) (by (with_reducible repeat (first | refine blk_drewN ?_ _ | refine blk_drew ?_ | refine blk_alloc ?_ _)); exact BK271.out) hb); have n5_ := Aside0.mk (blk_below (g := gb275) (o := .cells #[.int .i64 t272, .int .i64 t273] 23 (0, 0)) (by (with_reducible repeat (first | refine blk_drewN ?_ _ | refine blk_drew ?_ | refine blk_alloc ?_ _)); exact BK275.out) hb); have n6_ := Aside0.mk (Kd.C_below (by repeat (first | (with_reducible exact HR309_0.out) | (with_reducible refine Kd.C_alloc ?_ _) | (with_reducible refine Kd.C_drewN ?_ _) | (with_reducible refine Kd.C_drew ?_) | exact HR309_0.out)) hb); have n7_ := Aside0.mk (below_step (by repeat (first | (with_reducible first | exact HB.out | apply below_alloc | apply pw_below_drewN | apply below_drew1 | refine below_set ?_ GE263.out | refine below_set ?_ GE267.out | refine below_set ?_ GE271.out | refine below_set ?_ GE275.out) | exact HB.out)) hb); clear HO_522; clear HL309_0; clear BK263; clear BK267; clear BK271; clear BK275; clear HR309_0; clear HB; have HO_522 := n0_; have HL309_0 := n1_; have BK263 := n2_; have BK267 := n3_; have BK271 := n4_; have BK275 := n5_; have HR309_0 := n6_; have HB := n7_; clear n0_ n1_ n2_ n3_ n4_ n5_ n6_ n7_; (try clear hb); (try clear hb2); (try clear hk); (try clear hi)) | (go_at_call 27; refine calls_of_args (args' := #[.slice A309_0 (rd_L2 t276 x524_7).length c309_0]) (by first | rfl) ?_; (with_reducible refine (impl_RatioOf.calls k7 _ _ (rd_L2 t276 x524_7) t312 t313 true _ ?side1 ?side2 A205.out).mono ?_); (case side1 => repeat (first | exact (by repeat (first | (with_reducible exact HR309_0.out) | (with_reducible refine Kd.C_alloc ?_ _) | (with_reducible refine Kd.C_drewN ?_ _) | (with_reducible refine Kd.C_drew ?_) | exact HR309_0.out)) | (with_reducible refine Kd.C_alloc ?_ _) | (with_reducible refine Kd.C_drewN ?_ _) | (with_reducible refine Kd.C_drew ?_))); (case side2 => exact HC309_0.out); rintro e w215 ⟨rfl, hb⟩; have n0_ := Aside0.mk (Kd.S_below (by (with_reducible repeat (first | apply Kd.S_alloc | apply Kd.S_drewN | apply Kd.S_drew)); exact HO_522.out) hb); have n1_ := Aside0.mk (Kd.R_below (by (with_reducible repeat (first | apply Kd.R_alloc | apply Kd.R_drewN | apply Kd.R_drew)); exact HL309_0.out) hb); have n2_ := Aside0.mk (blk_below (g := gb263) (o := .cells #[.int .i64 t260, .int .i64 t261] 23 (0, 0)) (by (with_reducible repeat (first | refine blk_drewN ?_ _ | refine blk_drew ?_ | refine blk_alloc ?_ _)); exact BK263.out) hb); have n3_ := Aside0.mk (blk_below (g := gb267) (o := .cells #[.int .i64 t264, .int .i64 t265] 23 (0, 0)) (by (with_reducible repeat (first | refine blk_drewN ?_ _ | refine blk_drew ?_ | refine blk_alloc ?_ _)); exact BK267.out) hb); have n4_ := Aside0.mk (blk_below (g := gb271) (o := .cells #[.int .i64 t268, .int .i64 t269] 23 (0, 0)) (by (with_reducible repeat (first | refine blk_drewN ?_ _ | refine blk_drew ?_ | refine blk_alloc ?_ _)); exact BK271.out) hb); have n5_ := Aside0.mk (blk_below (g := gb275) (o := .cells #[.int .i64 t272, .int .i64 t273] 23 (0, 0)) (by (with_reducible repeat (first | refine blk_drewN ?_ _ | refine blk_drew ?_ | refine blk_alloc ?_ _)); exact BK275.out) hb); have n6_ := Aside0.mk (Kd.C_below (by repeat (first | (with_reducible exact HR309_0.out) | (with_reducible refine Kd.C_alloc ?_ _) | (with_reducible refine Kd.C_drewN ?_ _) | (with_reducible refine Kd.C_drew ?_) | exact HR309_0.out)) hb); have n7_ := Aside0.mk (below_step (by repeat (first | (with_reducible first | exact HB.out | apply below_alloc | apply pw_below_drewN | apply below_drew1 | refine below_set ?_ GE263.out | refine below_set ?_ GE267.out | refine below_set ?_ GE271.out | refine below_set ?_ GE275.out) | exact HB.out)) hb); clear HO_522; clear HL309_0; clear BK263; clear BK267; clear BK271; clear BK275; clear HR309_0; clear HB; have HO_522 := n0_; have HL309_0 := n1_; have BK263 := n2_; have BK267 := n3_; have BK271 := n4_; have BK275 := n5_; have HR309_0 := n6_; have HB := n7_; clear n0_ n1_ n2_ n3_ n4_ n5_ n6_ n7_; (try clear hb); (try clear hb2); (try clear hk); (try clear hi); have p315 : 0 ≤ (0 : Int) := (by omega); have q315 : 0 < ((rd_L2 t276 x524_7).length : Int) := of_decide_eq_true (by first | (with_reducible assumption) | assumption); obtain ⟨ad315, e315, hx315_0, hx315_1⟩ := at_T23 (by repeat (first | (with_reducible exact HR309_0.out) | (with_reducible refine Kd.C_alloc ?_ _) | (with_reducible refine Kd.C_drewN ?_ _) | (with_reducible refine Kd.C_drew ?_) | exact HR309_0.out)) 0 p315 q315; cases e315; have qi315 : (0 < (rd_L2 t276 x524_7).length) = True := eq_true (by omega); (try rw [show ((0 : Int)).toNat = 0 from rfl] at hx315_0); (try rw [show 0 * 2 = 0 from rfl] at hx315_0); (try rw [Addr.add_zero'] at hx315_0); (try rw [show ((0 : Int)).toNat = 0 from rfl] at hx315_1); (try rw [show 0 * 2 = 0 from rfl] at hx315_1); (try rw [Addr.add_zero'] at hx315_1); replace p315 := eq_true p315; replace q315 := eq_true q315; have p316 : 0 ≤ (0 : Int) := (by omega); have q316 : 0 < ((rd_L2 t276 x524_7).length : Int) := of_decide_eq_true (by first | (with_reducible assumption) | assumption); obtain ⟨ad316, e316, hx316_0, hx316_1⟩ := at_T23 (by repeat (first | (with_reducible exact HR309_0.out) | (with_reducible refine Kd.C_alloc ?_ _) | (with_reducible refine Kd.C_drewN ?_ _) | (with_reducible refine Kd.C_drew ?_) | exact HR309_0.out)) 0 p316 q316; obtain rfl : ad315 = ad316 := (by injection e316); have qi316 : (0 < (rd_L2 t276 x524_7).length) = True := eq_true (by omega); (try rw [show ((0 : Int)).toNat = 0 from rfl] at hx316_0); (try rw [show 0 * 2 = 0 from rfl] at hx316_0); (try rw [Addr.add_zero'] at hx316_0); (try rw [show ((0 : Int)).toNat = 0 from rfl] at hx316_1); (try rw [show 0 * 2 = 0 from rfl] at hx316_1); (try rw [Addr.add_zero'] at hx316_1); replace p316 := eq_true p316; replace q316 := eq_true q316; have p317 : 0 ≤ (1 : Int) := (by omega); have q317 : 1 < ((rd_L2 t276 x524_7).length : Int) := of_decide_eq_true (by first | (with_reducible assumption) | assumption); obtain ⟨ad317, e317, hx317_0, hx317_1⟩ := at_T23 (by repeat (first | (with_reducible exact HR309_0.out) | (with_reducible refine Kd.C_alloc ?_ _) | (with_reducible refine Kd.C_drewN ?_ _) | (with_reducible refine Kd.C_drew ?_) | exact HR309_0.out)) 1 p317 q317; obtain rfl : ad315 = ad317 := (by injection e317); (try simp only [show (1 : Int).toNat = 1 from rfl, Nat.reduceMul, Nat.reduceEqDiff, Go.Addr.add, ↓reduceIte] at hx317_0); (try simp only [show (1 : Int).toNat = 1 from rfl, Nat.reduceMul, Nat.reduceEqDiff, Go.Addr.add, ↓reduceIte] at hx317_1); have qi317 : (1 < (rd_L2 t276 x524_7).length) = True := eq_true (by omega); (try rw [show ((1 : Int)).toNat = 1 from rfl] at hx317_0); (try rw [show 1 * 2 = 2 from rfl] at hx317_0); (try rw [show ((1 : Int)).toNat = 1 from rfl] at hx317_1); (try rw [show 1 * 2 = 2 from rfl] at hx317_1); replace p317 := eq_true p317; replace q317 := eq_true q317; have p318 : 0 ≤ (1 : Int) := (by omega); have q318 : 1 < ((rd_L2 t276 x524_7).length : Int) := of_decide_eq_true (by first | (with_reducible assumption) | assumption); obtain ⟨ad318, e318, hx318_0, hx318_1⟩ := at_T23 (by repeat (first | (with_reducible exact HR309_0.out) | (with_reducible refine Kd.C_alloc ?_ _) | (with_reducible refine Kd.C_drewN ?_ _) | (with_reducible refine Kd.C_drew ?_) | exact HR309_0.out)) 1 p318 q318; obtain rfl : ad315 = ad318 := (by injection e318); (try simp only [show (1 : Int).toNat = 1 from rfl, Nat.reduceMul, Nat.reduceEqDiff, Go.Addr.add, ↓reduceIte] at hx318_0); (try simp only [show (1 : Int).toNat = 1 from rfl, Nat.reduceMul, Nat.reduceEqDiff, Go.Addr.add, ↓reduceIte] at hx318_1); have qi318 : (1 < (rd_L2 t276 x524_7).length) = True := eq_true (by omega); (try rw [show ((1 : Int)).toNat = 1 from rfl] at hx318_0); (try rw [show 1 * 2 = 2 from rfl] at hx318_0); (try rw [show ((1 : Int)).toNat = 1 from rfl] at hx318_1); (try rw [show 1 * 2 = 2 from rfl] at hx318_1); replace p318 := eq_true p318; replace q318 := eq_true q318)))
                                go_roundg k7
                                case measure => have := HJ15.out; have := HJ31.out; have := HJ78.out; have := HJ125.out; have := HJ134.out; have := HJ184.out; have := HK7.out; omega
                                case rel => exact ⟨(wrap64 (x524_7 + 1)), (by first | rfl | (simp; done) | (simp [*]; done)), H', ⟨by have := HJ15.out; have := HJ31.out; have := HJ78.out; have := HJ125.out; have := HJ134.out; have := HJ184.out; have := HK7.out; omega⟩, ⟨by (with_reducible repeat (first | apply Kd.S_alloc | apply Kd.S_drewN | apply Kd.S_drew)); exact HO_522.out⟩, ⟨by (with_reducible repeat (first | refine blk_drewN ?_ _ | refine blk_drew ?_ | refine blk_alloc ?_ _)); exact BK263.out⟩, ⟨by (with_reducible repeat (first | refine blk_drewN ?_ _ | refine blk_drew ?_ | refine blk_alloc ?_ _)); exact BK267.out⟩, ⟨by (with_reducible repeat (first | refine blk_drewN ?_ _ | refine blk_drew ?_ | refine blk_alloc ?_ _)); exact BK271.out⟩, ⟨by (with_reducible repeat (first | refine blk_drewN ?_ _ | refine blk_drew ?_ | refine blk_alloc ?_ _)); exact BK275.out⟩, ⟨by repeat (first | (with_reducible first | exact HB.out | apply below_alloc | apply pw_below_drewN | apply below_drew1 | refine below_set ?_ GE263.out | refine below_set ?_ GE267.out | refine below_set ?_ GE271.out | refine below_set ?_ GE275.out) | exact HB.out)⟩⟩
                              ·
                               rw [if_neg c213] at H
                               exact absurd H (by simp)
                             ·
                              rw [if_neg c212] at H
                              exact absurd H (by simp)
                            ·
                             rw [if_neg c211] at H
                             exact absurd H (by simp)
                           ·
                            rw [if_neg c210] at H
                            exact absurd H (by simp)
                          ·
                           rw [if_neg c209] at H
                           exact absurd H (by simp)
                         ·
                          replace c208 := Bool.eq_false_iff.mpr c208
                          subst c208
                          have H1 : (none) = some r := by rw [if_neg (show ¬ (false = true) by decide)] at H; exact H
                          clear H
                          have H := H1
                          clear H1
                          exact absurd H (by simp)
                       ·
                        replace c206 := Bool.eq_false_iff.mpr c206
                        subst c206
                        have H1 : (none) = some r := by rw [if_neg (show ¬ (false = true) by decide)] at H; exact H
                        clear H
                        have H := H1
                        clear H1
                        exact absurd H (by simp)
                      ·
                       rw [if_neg c203] at H
                       exact absurd H (by simp)
                     ·
                      rw [if_neg c202] at H
                      exact absurd H (by simp)
                    ·
                     rw [if_neg c201] at H
                     have c201b0 : decide (x524_7 < (t276.length : Int)) = false := decide_eq_false c201
                     clear c201
                     as_aux_lemma =>
                      obtain rfl := Option.some.inj H
                      go_wp2
                      repeat (go_quiet (fail); try go_wp2)
                      go_ret
                      exact ⟨by first | rfl | (simp [errW_none, errW_some] <;> rfl) | (simp [*, errW_none, errW_some] <;> rfl), by repeat (first | (with_reducible first | exact HB.out | apply below_alloc | apply pw_below_drewN | apply below_drew1 | refine below_set ?_ GE263.out | refine below_set ?_ GE267.out | refine below_set ?_ GE271.out | refine below_set ?_ GE275.out) | exact HB.out)⟩
              ·
               replace c182 := Bool.eq_false_iff.mpr c182
               subst c182
               have H1 : (if t277 = true then (if (t276.length : Int) > 0 then (none) else (some true)) else (some true)) = some r := by rw [if_neg (show ¬ (false = true) by decide)] at H; exact H
               clear H
               have H := H1
               clear H1
               by_cases c216 : t277 = true
               ·
                subst c216
                have H1 : (if (t276.length : Int) > 0 then (none) else (some true)) = some r := by rw [if_pos rfl] at H; exact H
                clear H
                have H := H1
                clear H1
                by_cases c217 : (t276.length : Int) > 0
                ·
                 rw [if_pos c217] at H
                 exact absurd H (by simp)
                ·
                 rw [if_neg c217] at H
                 have c217b0 : decide (0 < (t276.length : Int)) = false := decide_eq_false c217
                 have c217b1 : decide (0 < t276.length) = false := decide_eq_false (by omega)
                 clear c217
                 as_aux_lemma =>
                  obtain rfl := Option.some.inj H
                  obtain ⟨Ao218, co218, eo218⟩ := Kd.S_slice HO_54.out
                  subst eo218
                  go_wp2
                  repeat (go_quiet (fail); try go_wp2)
                  go_ret
                  exact ⟨by first | rfl | (simp [errW_none, errW_some] <;> rfl) | (simp [*, errW_none, errW_some] <;> rfl), by repeat (first | (with_reducible first | exact HB.out | apply below_alloc | apply pw_below_drewN | apply below_drew1 | refine below_set ?_ GE263.out | refine below_set ?_ GE267.out | refine below_set ?_ GE271.out | refine below_set ?_ GE275.out) | exact HB.out)⟩
               ·
                replace c216 := Bool.eq_false_iff.mpr c216
                subst c216
                have H1 : (some true) = some r := by rw [if_neg (show ¬ (false = true) by decide)] at H; exact H
                clear H
                have H := H1
                clear H1
                as_aux_lemma =>
                 obtain rfl := Option.some.inj H
                 go_wp2
                 repeat (go_quiet (fail); try go_wp2)
                 go_ret
                 exact ⟨by first | rfl | (simp [errW_none, errW_some] <;> rfl) | (simp [*, errW_none, errW_some] <;> rfl), by repeat (first | (with_reducible first | exact HB.out | apply below_alloc | apply pw_below_drewN | apply below_drew1 | refine below_set ?_ GE263.out | refine below_set ?_ GE267.out | refine below_set ?_ GE271.out | refine below_set ?_ GE275.out) | exact HB.out)⟩

/-- THE ONE PURE STATEMENT of laws_FnTrainsFoundOfAll: yours. -/
def laws_FnTrainsFoundOfAll.Pure : Prop := ∀ (a0 : Int) (a1 : Int) (a2 : Int) (a3 : Int) (a4 : Int) (a5 : Int) (a6 : Int) (a7 : Int) (a8 : Int) (a9 : Int) (a10 : Int), (Lit.int .i64 a0).wf = true → (Lit.int .i64 a1).wf = true → (Lit.int .i64 a2).wf = true → (Lit.int .i64 a3).wf = true → (Lit.int .i64 a4).wf = true → (Lit.int .i64 a5).wf = true → (Lit.int .i64 a6).wf = true → (Lit.int .i64 a7).wf = true → (Lit.int .i64 a8).wf = true → (Lit.int .i64 a9).wf = true → (Lit.int .i64 a10).wf = true → ∃ k, laws_FnTrainsFoundOfAll.f k a0 a1 a2 a3 a4 a5 a6 a7 a8 a9 a10 = some true
theorem laws_FnTrainsFoundOfAll.walk (P : laws_FnTrainsFoundOfAll.Pure) (a0 : Int) (a1 : Int) (a2 : Int) (a3 : Int) (a4 : Int) (a5 : Int) (a6 : Int) (a7 : Int) (a8 : Int) (a9 : Int) (a10 : Int) (w : World) (w0 : (Lit.int .i64 a0).wf = true) (w1 : (Lit.int .i64 a1).wf = true) (w2 : (Lit.int .i64 a2).wf = true) (w3 : (Lit.int .i64 a3).wf = true) (w4 : (Lit.int .i64 a4).wf = true) (w5 : (Lit.int .i64 a5).wf = true) (w6 : (Lit.int .i64 a6).wf = true) (w7 : (Lit.int .i64 a7).wf = true) (w8 : (Lit.int .i64 a8).wf = true) (w9 : (Lit.int .i64 a9).wf = true) (w10 : (Lit.int .i64 a10).wf = true) :
  Calls Try.prog 8 #[.int .i64 a0, .int .i64 a1, .int .i64 a2, .int .i64 a3, .int .i64 a4, .int .i64 a5, .int .i64 a6, .int .i64 a7, .int .i64 a8, .int .i64 a9, .int .i64 a10] w fun e w' => e = .returned (.bool true) ∧ Below w.heap.size w w' := by
 obtain ⟨k, h⟩ := P a0 a1 a2 a3 a4 a5 a6 a7 a8 a9 a10 w0 w1 w2 w3 w4 w5 w6 w7 w8 w9 w10
 refine (laws_FnTrainsFoundOfAll.calls k a0 a1 a2 a3 a4 a5 a6 a7 a8 a9 a10 true w h).mono ?_
 rintro e w' ⟨rfl, hd⟩
 exact ⟨rfl, hd⟩

end Go.Proofs.Ytofjjfaaadllmaa.GFnTrainsFoundOfAll
