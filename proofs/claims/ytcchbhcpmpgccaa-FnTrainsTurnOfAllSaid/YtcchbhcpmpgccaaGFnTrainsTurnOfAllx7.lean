-- Written by a program of this session (a copy of the kit's print program that takes contracts of one's own); Lean checks it.
import Derived.Test.YtcchbhcpmpgccaaGFnTrainsTurnOfAllx0
import Derived.Test.YtcchbhcpmpgccaaGFnTrainsTurnOfAllx2
import Derived.Test.YtcchbhcpmpgccaaGFnTrainsTurnOfAllx3
import Derived.Test.YtcchbhcpmpgccaaGFnTrainsTurnOfAllx4
import Derived.Test.YtcchbhcpmpgccaaGFnTrainsTurnOfAllx5
import Derived.Test.YtcchbhcpmpgccaaGFnTrainsTurnOfAllx6
namespace Go.Proofs.Ytcchbhcpmpgccaa.GFnTrainsTurnOfAll
open Go.RowKit Go.Proofs.YtcchbhcpmpgccaaW.PrintWords Go.Proofs.YtcchbhcpmpgccaaW.PrintLast Go.Proofs.YtcchbhcpmpgccaaW.PrintMore
attribute [local go_sem] max2_int min2_int max_two min_two max_three min_three max_four min_four   -- for this text's walks alone
set_option linter.unusedVariables false
set_option linter.unusedSimpArgs false

/-! ### laws_FnTrainsTurnOfAll: function 11 -/
mutual
def laws_FnTrainsTurnOfAll.j0 : Nat → List (S41) → List (S41) → Int → List (S41) → List (S41) → Bool → Int → Int → Option (Bool)
 | 0, _, _, _, _, _, _, _, _ => none
 | k + 1, x0, x1, x2, x4, x5, x95, x213000, x213001 => if x95 = true then (some true) else ((impl_RatioOf.f k x0).bind fun bt213 => ((spec_RatioOf.f k x0).bind fun bt216 => ((impl_DirectionOf.f k x0).bind fun bt219 => ((spec_DirectionOf.f k x0).bind fun bt221 => ((impl_BackTrain.f k x0).bind fun bt223 => ((spec_BackTrain.f k x0).bind fun bt227 => ((impl_TurnsUntilSame.f k x0).bind fun bt231 => ((spec_TurnsUntilSame.f k x0).bind fun bt233 => ((impl_TeethOf.f k x0).bind fun bt235 => ((spec_TeethOf.f k x0).bind fun bt237 => (if (bt213.2.2 != bt216.2.2) = true then (none) else (if bt213.1 = bt216.1 then (if bt213.2.1 = bt216.2.1 then (if (bt219.2 != bt221.2) = true then (none) else (if bt219.1 = bt221.1 then (if (bt223.2 != bt227.2) = true then (none) else ((laws_kPairs.f k bt223.1 bt227.1).bind fun t239 => (if t239 = true then (if (bt231.2 != bt233.2) = true then (none) else (if bt231.1 = bt233.1 then (if (bt235.2 != bt237.2) = true then (none) else (if bt235.1 = bt237.1 then ((impl_IsTrain.f k x0).bind fun t240 => (if (bt213.2.2 != t240) = true then (none) else ((impl_IsTrain.f k x0).bind fun t241 => ((spec_IsTrain.f k x0).bind fun t242 => (if (t241 != t242) = true then (none) else (if (bt219.2 != bt213.2.2) = true then (none) else (if (bt223.2 != bt213.2.2) = true then (none) else (if (bt231.2 != bt213.2.2) = true then (none) else (laws_FnTrainsTurnOfAll.j1 k x0 x1 x2 x4 x5 bt213.1 bt213.2.1 bt213.2.2 bt219.1 bt223.1 bt231.1 bt235.1 (bt235.2 != bt213.2.2) x213000 x213001))))))))) else (none))) else (none))) else (none)))) else (none))) else (none)) else (none)))))))))))))
def laws_FnTrainsTurnOfAll.j1 : Nat → List (S41) → List (S41) → Int → List (S41) → List (S41) → Int → Int → Bool → Int → List (S41) → Int → Int → Bool → Int → Int → Option (Bool)
 | 0, _, _, _, _, _, _, _, _, _, _, _, _, _, _, _ => none
 | k + 1, x0, x1, x2, x4, x5, x13, x14, x15, x19, x23, x27, x31, x234, x213000, x213001 => if x234 = true then (none) else (if x15 = true then (laws_FnTrainsTurnOfAll.l0 k x0 x1 x2 x4 x5 x13 x14 x19 x23 x27 x31 1 1 0 x0 (x0.length : Int) 0 x213000 x213001) else (laws_FnTrainsTurnOfAll.j5 k x1 x2 x4 x5 x213000 x213001))
def laws_FnTrainsTurnOfAll.j5 : Nat → List (S41) → Int → List (S41) → List (S41) → Int → Int → Option (Bool)
 | 0, _, _, _, _, _, _ => none
 | k + 1, x1, x2, x4, x5, x213000, x213001 => (impl_TurnsOfLast.f k x1 x2).bind fun bt261 => ((spec_TurnsOfLast.f k x1 x2).bind fun bt264 => ((impl_MeshesUntilSame.f k x213000 x213001).bind fun bt267 => ((spec_MeshesUntilSame.f k x213000 x213001).bind fun bt270 => ((impl_CompareRatios.f k x4 x5).bind fun bt273 => ((spec_CompareRatios.f k x4 x5).bind fun bt275 => (if (bt261.2.2 != bt264.2.2) = true then (none) else (if bt261.1 = bt264.1 then (if bt261.2.1 = bt264.2.1 then (if (bt267.2.2 != bt270.2.2) = true then (none) else (if bt267.1 = bt270.1 then (if bt267.2.1 = bt270.2.1 then ((impl_IsPair.f x213000 x213001).bind fun t277 => (if (bt267.2.2 != t277) = true then (none) else ((impl_IsPair.f x213000 x213001).bind fun t278 => ((spec_IsPair.f x213000 x213001).bind fun t279 => (if (t278 != t279) = true then (none) else (if (bt273.2 != bt275.2) = true then (none) else (laws_FnTrainsTurnOfAll.j6 k x1 x2 x4 x5 bt261.1 bt261.2.1 bt261.2.2 bt267.1 bt267.2.1 bt267.2.2 bt273.1 bt273.2 (bt273.1 != bt275.1) x213000 x213001))))))) else (none)) else (none))) else (none)) else (none))))))))
def laws_FnTrainsTurnOfAll.j6 : Nat → List (S41) → Int → List (S41) → List (S41) → Int → Int → Bool → Int → Int → Bool → Int → Bool → Bool → Int → Int → Option (Bool)
 | 0, _, _, _, _, _, _, _, _, _, _, _, _, _, _, _ => none
 | k + 1, x1, x2, x4, x5, x49, x50, x51, x55, x56, x57, x61, x62, x448, x213000, x213001 => if x448 = true then (none) else (if x51 = true then ((impl_RatioOf.f k x1).bind fun bt280 => ((impl_DirectionOf.f k x1).bind fun bt283 => (if bt280.2.2 = true then (if bt283.2 = true then (if x50 < 1 then (none) else (if (wrap64 (x49 * bt280.2.1)) = (wrap64 ((wrap64 ((wrap64 (bt280.1 * x2)) * bt283.1)) * x50)) then (laws_FnTrainsTurnOfAll.j7 k x4 x5 x55 x56 x57 x61 x62 x213000 x213001) else (none))) else (none)) else (none)))) else (laws_FnTrainsTurnOfAll.j7 k x4 x5 x55 x56 x57 x61 x62 x213000 x213001))
def laws_FnTrainsTurnOfAll.j7 : Nat → List (S41) → List (S41) → Int → Int → Bool → Int → Bool → Int → Int → Option (Bool)
 | 0, _, _, _, _, _, _, _, _, _ => none
 | k + 1, x4, x5, x55, x56, x57, x61, x62, x213000, x213001 => if x57 = true then (if (wrap64 (x55 * x213000)) = (wrap64 (x56 * x213001)) then (if x55 < 1 then (none) else (if x55 = 0 then (none) else (if (Int.tmod x213001 x55) = 0 then (if x56 = 0 then (none) else (laws_FnTrainsTurnOfAll.j8 k x4 x5 x61 x62 ((Int.tmod x213000 x56) != 0))) else (none)))) else (none)) else (laws_FnTrainsTurnOfAll.j8 k x4 x5 x61 x62 false)
def laws_FnTrainsTurnOfAll.j8 : Nat → List (S41) → List (S41) → Int → Bool → Bool → Option (Bool)
 | 0, _, _, _, _, _ => none
 | k + 1, x4, x5, x61, x62, x513 => if x513 = true then (none) else (if x62 = true then ((impl_CompareRatios.f k x5 x4).bind fun bt285 => ((impl_RatioOf.f k x4).bind fun bt287 => ((impl_RatioOf.f k x5).bind fun bt290 => (if bt285.2 = true then (if bt285.1 = (wrap64 (-x61)) then (if bt287.2.2 = true then (if bt290.2.2 = true then (if bt287.1 = bt290.1 then (if ((x61 == 0) == (bt287.2.1 == bt290.2.1)) = true then (some ((decide (x61 > 0)) == (decide ((wrap64 (bt287.1 * bt290.2.1)) > (wrap64 (bt290.1 * bt287.2.1)))))) else (none)) else (if ((x61 == 0) == false) = true then (some ((decide (x61 > 0)) == (decide ((wrap64 (bt287.1 * bt290.2.1)) > (wrap64 (bt290.1 * bt287.2.1)))))) else (none))) else (none)) else (none)) else (none)) else (none))))) else (some true))
def laws_FnTrainsTurnOfAll.l0 : Nat → List (S41) → List (S41) → Int → List (S41) → List (S41) → Int → Int → Int → List (S41) → Int → Int → Int → Int → Int → List (S41) → Int → Int → Int → Int → Option (Bool)
 | 0, _, _, _, _, _, _, _, _, _, _, _, _, _, _, _, _, _, _, _ => none
 | k + 1, x0, x1, x2, x4, x5, x13, x14, x19, x23, x27, x31, x35, x36, x37, x236, x237, x238, x213000, x213001 => if x238 < x237 then (if 0 ≤ x238 then (if x238 < (x236.length : Int) then ((impl_IsPair.f ((rd_T41 x236 x238).f0) ((rd_T41 x236 x238).f1)).bind fun t245 => (if t245 = true then (laws_FnTrainsTurnOfAll.l0 k x0 x1 x2 x4 x5 x13 x14 x19 x23 x27 x31 (wrap64 (x35 * ((rd_T41 x236 x238).f0))) (wrap64 (x36 * ((rd_T41 x236 x238).f1))) (wrap64 (x37 + (wrap64 (((rd_T41 x236 x238).f0) + ((rd_T41 x236 x238).f1))))) x236 x237 (wrap64 (x238 + 1)) x213000 x213001) else (none))) else (none)) else (none)) else ((impl_RatioOf.f k x23).bind fun bt246 => ((impl_BackTrain.f k x23).bind fun bt249 => (if (wrap64 (x13 * x36)) = (wrap64 (x35 * x14)) then (if x13 < 1 then (none) else (if x14 < 1 then (none) else (if bt246.2.2 = true then (if bt246.1 = x14 then (if bt246.2.1 = x13 then (if bt249.2 = true then ((laws_kPairs.f k bt249.1 x0).bind fun t253 => (if t253 = true then (if x37 = x31 then (if x19 = 1 then (if ((x19 == 1) != (((x0.length : Int) % 2) == 0)) = true then (none) else (laws_FnTrainsTurnOfAll.j3 k x0 x1 x2 x4 x5 x27 (decide (x27 < 1)) x213000 x213001)) else (if x19 = (-1) then (if ((x19 == 1) != (((x0.length : Int) % 2) == 0)) = true then (none) else (laws_FnTrainsTurnOfAll.j3 k x0 x1 x2 x4 x5 x27 (decide (x27 < 1)) x213000 x213001)) else (none))) else (none)) else (none))) else (none)) else (none)) else (none)) else (none)))) else (none))))
def laws_FnTrainsTurnOfAll.j3 : Nat → List (S41) → List (S41) → Int → List (S41) → List (S41) → Int → Bool → Int → Int → Option (Bool)
 | 0, _, _, _, _, _, _, _, _, _ => none
 | k + 1, x0, x1, x2, x4, x5, x27, x336, x213000, x213001 => if x336 = true then (none) else (laws_FnTrainsTurnOfAll.l1 k x0 x1 x2 x4 x5 x27 (x0.length : Int) 0 x213000 x213001)
def laws_FnTrainsTurnOfAll.l1 : Nat → List (S41) → List (S41) → Int → List (S41) → List (S41) → Int → Int → Int → Int → Int → Option (Bool)
 | 0, _, _, _, _, _, _, _, _, _, _ => none
 | k + 1, x0, x1, x2, x4, x5, x27, x338, x339, x213000, x213001 => if x339 < x338 then (if 0 ≤ (wrap64 (x339 + 1)) then (if (wrap64 (x339 + 1)) ≤ (x0.length : Int) then ((impl_RatioOf.f k (x0.take ((wrap64 (x339 + 1)) : Int).toNat)).bind fun bt258 => (if bt258.2.2 = true then (if bt258.2.1 = 0 then (none) else (if (Int.tmod x27 bt258.2.1) = 0 then (laws_FnTrainsTurnOfAll.l1 k x0 x1 x2 x4 x5 x27 x338 (wrap64 (x339 + 1)) x213000 x213001) else (none))) else (none))) else (none)) else (none)) else (laws_FnTrainsTurnOfAll.j5 k x1 x2 x4 x5 x213000 x213001)
end
def laws_FnTrainsTurnOfAll.f (k : Nat) (l0 : List (S41)) (l1 : List (S41)) (a2 : Int) (a3_0 : Int) (a3_1 : Int) (l4 : List (S41)) (l5 : List (S41)) : Option (Bool) := if (l0.length : Int) > 10000 then (laws_FnTrainsTurnOfAll.j0 k l0 l1 a2 l4 l5 true a3_0 a3_1) else (if (l1.length : Int) > 10000 then (laws_FnTrainsTurnOfAll.j0 k l0 l1 a2 l4 l5 true a3_0 a3_1) else (if (l4.length : Int) > 10000 then (laws_FnTrainsTurnOfAll.j0 k l0 l1 a2 l4 l5 true a3_0 a3_1) else (laws_FnTrainsTurnOfAll.j0 k l0 l1 a2 l4 l5 (decide ((l5.length : Int) > 10000)) a3_0 a3_1)))
theorem laws_FnTrainsTurnOfAll.mono_l : ∀ k, (∀ y0 y1 y2 y3 y4 y5 y6 y7, LeO (laws_FnTrainsTurnOfAll.j0 k y0 y1 y2 y3 y4 y5 y6 y7) (laws_FnTrainsTurnOfAll.j0 (k + 1) y0 y1 y2 y3 y4 y5 y6 y7)) ∧ (∀ y0 y1 y2 y3 y4 y5 y6 y7 y8 y9 y10 y11 y12 y13 y14, LeO (laws_FnTrainsTurnOfAll.j1 k y0 y1 y2 y3 y4 y5 y6 y7 y8 y9 y10 y11 y12 y13 y14) (laws_FnTrainsTurnOfAll.j1 (k + 1) y0 y1 y2 y3 y4 y5 y6 y7 y8 y9 y10 y11 y12 y13 y14)) ∧ (∀ y0 y1 y2 y3 y4 y5, LeO (laws_FnTrainsTurnOfAll.j5 k y0 y1 y2 y3 y4 y5) (laws_FnTrainsTurnOfAll.j5 (k + 1) y0 y1 y2 y3 y4 y5)) ∧ (∀ y0 y1 y2 y3 y4 y5 y6 y7 y8 y9 y10 y11 y12 y13 y14, LeO (laws_FnTrainsTurnOfAll.j6 k y0 y1 y2 y3 y4 y5 y6 y7 y8 y9 y10 y11 y12 y13 y14) (laws_FnTrainsTurnOfAll.j6 (k + 1) y0 y1 y2 y3 y4 y5 y6 y7 y8 y9 y10 y11 y12 y13 y14)) ∧ (∀ y0 y1 y2 y3 y4 y5 y6 y7 y8, LeO (laws_FnTrainsTurnOfAll.j7 k y0 y1 y2 y3 y4 y5 y6 y7 y8) (laws_FnTrainsTurnOfAll.j7 (k + 1) y0 y1 y2 y3 y4 y5 y6 y7 y8)) ∧ (∀ y0 y1 y2 y3 y4, LeO (laws_FnTrainsTurnOfAll.j8 k y0 y1 y2 y3 y4) (laws_FnTrainsTurnOfAll.j8 (k + 1) y0 y1 y2 y3 y4)) ∧ (∀ y0 y1 y2 y3 y4 y5 y6 y7 y8 y9 y10 y11 y12 y13 y14 y15 y16 y17 y18, LeO (laws_FnTrainsTurnOfAll.l0 k y0 y1 y2 y3 y4 y5 y6 y7 y8 y9 y10 y11 y12 y13 y14 y15 y16 y17 y18) (laws_FnTrainsTurnOfAll.l0 (k + 1) y0 y1 y2 y3 y4 y5 y6 y7 y8 y9 y10 y11 y12 y13 y14 y15 y16 y17 y18)) ∧ (∀ y0 y1 y2 y3 y4 y5 y6 y7 y8, LeO (laws_FnTrainsTurnOfAll.j3 k y0 y1 y2 y3 y4 y5 y6 y7 y8) (laws_FnTrainsTurnOfAll.j3 (k + 1) y0 y1 y2 y3 y4 y5 y6 y7 y8)) ∧ (∀ y0 y1 y2 y3 y4 y5 y6 y7 y8 y9, LeO (laws_FnTrainsTurnOfAll.l1 k y0 y1 y2 y3 y4 y5 y6 y7 y8 y9) (laws_FnTrainsTurnOfAll.l1 (k + 1) y0 y1 y2 y3 y4 y5 y6 y7 y8 y9))
 | 0 => ⟨fun _ _ _ _ _ _ _ _ r h => by simp [laws_FnTrainsTurnOfAll.j0] at h, fun _ _ _ _ _ _ _ _ _ _ _ _ _ _ _ r h => by simp [laws_FnTrainsTurnOfAll.j1] at h, fun _ _ _ _ _ _ r h => by simp [laws_FnTrainsTurnOfAll.j5] at h, fun _ _ _ _ _ _ _ _ _ _ _ _ _ _ _ r h => by simp [laws_FnTrainsTurnOfAll.j6] at h, fun _ _ _ _ _ _ _ _ _ r h => by simp [laws_FnTrainsTurnOfAll.j7] at h, fun _ _ _ _ _ r h => by simp [laws_FnTrainsTurnOfAll.j8] at h, fun _ _ _ _ _ _ _ _ _ _ _ _ _ _ _ _ _ _ _ r h => by simp [laws_FnTrainsTurnOfAll.l0] at h, fun _ _ _ _ _ _ _ _ _ r h => by simp [laws_FnTrainsTurnOfAll.j3] at h, fun _ _ _ _ _ _ _ _ _ _ r h => by simp [laws_FnTrainsTurnOfAll.l1] at h⟩
 | k + 1 => by
  obtain ⟨ih0, ih1, ih2, ih3, ih4, ih5, ih6, ih7, ih8⟩ := laws_FnTrainsTurnOfAll.mono_l k
  refine ⟨?_, ?_, ?_, ?_, ?_, ?_, ?_, ?_, ?_⟩
  ·
   intro y0 y1 y2 y3 y4 y5 y6 y7
   unfold laws_FnTrainsTurnOfAll.j0
   repeat' first
   | (with_reducible exact ih0 _ _ _ _ _ _ _ _)
   | (with_reducible exact ih1 _ _ _ _ _ _ _ _ _ _ _ _ _ _ _)
   | (with_reducible exact ih2 _ _ _ _ _ _)
   | (with_reducible exact ih3 _ _ _ _ _ _ _ _ _ _ _ _ _ _ _)
   | (with_reducible exact ih4 _ _ _ _ _ _ _ _ _)
   | (with_reducible exact ih5 _ _ _ _ _)
   | (with_reducible exact ih6 _ _ _ _ _ _ _ _ _ _ _ _ _ _ _ _ _ _ _)
   | (with_reducible exact ih7 _ _ _ _ _ _ _ _ _)
   | (with_reducible exact ih8 _ _ _ _ _ _ _ _ _ _)
   | (with_reducible exact impl_BackTrain.mono _ _)
   | (with_reducible exact impl_CompareRatios.mono _ _ _)
   | (with_reducible exact impl_DirectionOf.mono _ _)
   | (with_reducible exact impl_IsTrain.mono _ _)
   | (with_reducible exact impl_MeshesUntilSame.mono _ _ _)
   | (with_reducible exact impl_RatioOf.mono _ _)
   | (with_reducible exact impl_TeethOf.mono _ _)
   | (with_reducible exact impl_TurnsOfLast.mono _ _ _)
   | (with_reducible exact impl_TurnsUntilSame.mono _ _)
   | (with_reducible exact laws_kPairs.mono _ _ _)
   | (with_reducible exact spec_BackTrain.mono _ _)
   | (with_reducible exact spec_CompareRatios.mono _ _ _)
   | (with_reducible exact spec_DirectionOf.mono _ _)
   | (with_reducible exact spec_IsTrain.mono _ _)
   | (with_reducible exact spec_MeshesUntilSame.mono _ _ _)
   | (with_reducible exact spec_RatioOf.mono _ _)
   | (with_reducible exact spec_TeethOf.mono _ _)
   | (with_reducible exact spec_TurnsOfLast.mono _ _ _)
   | (with_reducible exact spec_TurnsUntilSame.mono _ _)
   | (with_reducible exact LeO.refl _)
   | (with_reducible exact LeO.none _)
   | (with_reducible refine LeO.ite ?_ ?_)
   | (with_reducible refine LeO.bind ?_ (fun _ => ?_))
   | exact ih0 _ _ _ _ _ _ _ _
   | exact ih1 _ _ _ _ _ _ _ _ _ _ _ _ _ _ _
   | exact ih2 _ _ _ _ _ _
   | exact ih3 _ _ _ _ _ _ _ _ _ _ _ _ _ _ _
   | exact ih4 _ _ _ _ _ _ _ _ _
   | exact ih5 _ _ _ _ _
   | exact ih6 _ _ _ _ _ _ _ _ _ _ _ _ _ _ _ _ _ _ _
   | exact ih7 _ _ _ _ _ _ _ _ _
   | exact ih8 _ _ _ _ _ _ _ _ _ _
   | exact impl_BackTrain.mono _ _
   | exact impl_CompareRatios.mono _ _ _
   | exact impl_DirectionOf.mono _ _
   | exact impl_IsTrain.mono _ _
   | exact impl_MeshesUntilSame.mono _ _ _
   | exact impl_RatioOf.mono _ _
   | exact impl_TeethOf.mono _ _
   | exact impl_TurnsOfLast.mono _ _ _
   | exact impl_TurnsUntilSame.mono _ _
   | exact laws_kPairs.mono _ _ _
   | exact spec_BackTrain.mono _ _
   | exact spec_CompareRatios.mono _ _ _
   | exact spec_DirectionOf.mono _ _
   | exact spec_IsTrain.mono _ _
   | exact spec_MeshesUntilSame.mono _ _ _
   | exact spec_RatioOf.mono _ _
   | exact spec_TeethOf.mono _ _
   | exact spec_TurnsOfLast.mono _ _ _
   | exact spec_TurnsUntilSame.mono _ _
   | exact LeO.none _
   | refine LeO.ite ?_ ?_
   | refine LeO.bind ?_ (fun _ => ?_)
  ·
   intro y0 y1 y2 y3 y4 y5 y6 y7 y8 y9 y10 y11 y12 y13 y14
   unfold laws_FnTrainsTurnOfAll.j1
   repeat' first
   | (with_reducible exact ih0 _ _ _ _ _ _ _ _)
   | (with_reducible exact ih1 _ _ _ _ _ _ _ _ _ _ _ _ _ _ _)
   | (with_reducible exact ih2 _ _ _ _ _ _)
   | (with_reducible exact ih3 _ _ _ _ _ _ _ _ _ _ _ _ _ _ _)
   | (with_reducible exact ih4 _ _ _ _ _ _ _ _ _)
   | (with_reducible exact ih5 _ _ _ _ _)
   | (with_reducible exact ih6 _ _ _ _ _ _ _ _ _ _ _ _ _ _ _ _ _ _ _)
   | (with_reducible exact ih7 _ _ _ _ _ _ _ _ _)
   | (with_reducible exact ih8 _ _ _ _ _ _ _ _ _ _)
   | (with_reducible exact impl_BackTrain.mono _ _)
   | (with_reducible exact impl_CompareRatios.mono _ _ _)
   | (with_reducible exact impl_DirectionOf.mono _ _)
   | (with_reducible exact impl_IsTrain.mono _ _)
   | (with_reducible exact impl_MeshesUntilSame.mono _ _ _)
   | (with_reducible exact impl_RatioOf.mono _ _)
   | (with_reducible exact impl_TeethOf.mono _ _)
   | (with_reducible exact impl_TurnsOfLast.mono _ _ _)
   | (with_reducible exact impl_TurnsUntilSame.mono _ _)
   | (with_reducible exact laws_kPairs.mono _ _ _)
   | (with_reducible exact spec_BackTrain.mono _ _)
   | (with_reducible exact spec_CompareRatios.mono _ _ _)
   | (with_reducible exact spec_DirectionOf.mono _ _)
   | (with_reducible exact spec_IsTrain.mono _ _)
   | (with_reducible exact spec_MeshesUntilSame.mono _ _ _)
   | (with_reducible exact spec_RatioOf.mono _ _)
   | (with_reducible exact spec_TeethOf.mono _ _)
   | (with_reducible exact spec_TurnsOfLast.mono _ _ _)
   | (with_reducible exact spec_TurnsUntilSame.mono _ _)
   | (with_reducible exact LeO.refl _)
   | (with_reducible exact LeO.none _)
   | (with_reducible refine LeO.ite ?_ ?_)
   | (with_reducible refine LeO.bind ?_ (fun _ => ?_))
   | exact ih0 _ _ _ _ _ _ _ _
   | exact ih1 _ _ _ _ _ _ _ _ _ _ _ _ _ _ _
   | exact ih2 _ _ _ _ _ _
   | exact ih3 _ _ _ _ _ _ _ _ _ _ _ _ _ _ _
   | exact ih4 _ _ _ _ _ _ _ _ _
   | exact ih5 _ _ _ _ _
   | exact ih6 _ _ _ _ _ _ _ _ _ _ _ _ _ _ _ _ _ _ _
   | exact ih7 _ _ _ _ _ _ _ _ _
   | exact ih8 _ _ _ _ _ _ _ _ _ _
   | exact impl_BackTrain.mono _ _
   | exact impl_CompareRatios.mono _ _ _
   | exact impl_DirectionOf.mono _ _
   | exact impl_IsTrain.mono _ _
   | exact impl_MeshesUntilSame.mono _ _ _
   | exact impl_RatioOf.mono _ _
   | exact impl_TeethOf.mono _ _
   | exact impl_TurnsOfLast.mono _ _ _
   | exact impl_TurnsUntilSame.mono _ _
   | exact laws_kPairs.mono _ _ _
   | exact spec_BackTrain.mono _ _
   | exact spec_CompareRatios.mono _ _ _
   | exact spec_DirectionOf.mono _ _
   | exact spec_IsTrain.mono _ _
   | exact spec_MeshesUntilSame.mono _ _ _
   | exact spec_RatioOf.mono _ _
   | exact spec_TeethOf.mono _ _
   | exact spec_TurnsOfLast.mono _ _ _
   | exact spec_TurnsUntilSame.mono _ _
   | exact LeO.none _
   | refine LeO.ite ?_ ?_
   | refine LeO.bind ?_ (fun _ => ?_)
  ·
   intro y0 y1 y2 y3 y4 y5
   unfold laws_FnTrainsTurnOfAll.j5
   repeat' first
   | (with_reducible exact ih0 _ _ _ _ _ _ _ _)
   | (with_reducible exact ih1 _ _ _ _ _ _ _ _ _ _ _ _ _ _ _)
   | (with_reducible exact ih2 _ _ _ _ _ _)
   | (with_reducible exact ih3 _ _ _ _ _ _ _ _ _ _ _ _ _ _ _)
   | (with_reducible exact ih4 _ _ _ _ _ _ _ _ _)
   | (with_reducible exact ih5 _ _ _ _ _)
   | (with_reducible exact ih6 _ _ _ _ _ _ _ _ _ _ _ _ _ _ _ _ _ _ _)
   | (with_reducible exact ih7 _ _ _ _ _ _ _ _ _)
   | (with_reducible exact ih8 _ _ _ _ _ _ _ _ _ _)
   | (with_reducible exact impl_BackTrain.mono _ _)
   | (with_reducible exact impl_CompareRatios.mono _ _ _)
   | (with_reducible exact impl_DirectionOf.mono _ _)
   | (with_reducible exact impl_IsTrain.mono _ _)
   | (with_reducible exact impl_MeshesUntilSame.mono _ _ _)
   | (with_reducible exact impl_RatioOf.mono _ _)
   | (with_reducible exact impl_TeethOf.mono _ _)
   | (with_reducible exact impl_TurnsOfLast.mono _ _ _)
   | (with_reducible exact impl_TurnsUntilSame.mono _ _)
   | (with_reducible exact laws_kPairs.mono _ _ _)
   | (with_reducible exact spec_BackTrain.mono _ _)
   | (with_reducible exact spec_CompareRatios.mono _ _ _)
   | (with_reducible exact spec_DirectionOf.mono _ _)
   | (with_reducible exact spec_IsTrain.mono _ _)
   | (with_reducible exact spec_MeshesUntilSame.mono _ _ _)
   | (with_reducible exact spec_RatioOf.mono _ _)
   | (with_reducible exact spec_TeethOf.mono _ _)
   | (with_reducible exact spec_TurnsOfLast.mono _ _ _)
   | (with_reducible exact spec_TurnsUntilSame.mono _ _)
   | (with_reducible exact LeO.refl _)
   | (with_reducible exact LeO.none _)
   | (with_reducible refine LeO.ite ?_ ?_)
   | (with_reducible refine LeO.bind ?_ (fun _ => ?_))
   | exact ih0 _ _ _ _ _ _ _ _
   | exact ih1 _ _ _ _ _ _ _ _ _ _ _ _ _ _ _
   | exact ih2 _ _ _ _ _ _
   | exact ih3 _ _ _ _ _ _ _ _ _ _ _ _ _ _ _
   | exact ih4 _ _ _ _ _ _ _ _ _
   | exact ih5 _ _ _ _ _
   | exact ih6 _ _ _ _ _ _ _ _ _ _ _ _ _ _ _ _ _ _ _
   | exact ih7 _ _ _ _ _ _ _ _ _
   | exact ih8 _ _ _ _ _ _ _ _ _ _
   | exact impl_BackTrain.mono _ _
   | exact impl_CompareRatios.mono _ _ _
   | exact impl_DirectionOf.mono _ _
   | exact impl_IsTrain.mono _ _
   | exact impl_MeshesUntilSame.mono _ _ _
   | exact impl_RatioOf.mono _ _
   | exact impl_TeethOf.mono _ _
   | exact impl_TurnsOfLast.mono _ _ _
   | exact impl_TurnsUntilSame.mono _ _
   | exact laws_kPairs.mono _ _ _
   | exact spec_BackTrain.mono _ _
   | exact spec_CompareRatios.mono _ _ _
   | exact spec_DirectionOf.mono _ _
   | exact spec_IsTrain.mono _ _
   | exact spec_MeshesUntilSame.mono _ _ _
   | exact spec_RatioOf.mono _ _
   | exact spec_TeethOf.mono _ _
   | exact spec_TurnsOfLast.mono _ _ _
   | exact spec_TurnsUntilSame.mono _ _
   | exact LeO.none _
   | refine LeO.ite ?_ ?_
   | refine LeO.bind ?_ (fun _ => ?_)
  ·
   intro y0 y1 y2 y3 y4 y5 y6 y7 y8 y9 y10 y11 y12 y13 y14
   unfold laws_FnTrainsTurnOfAll.j6
   repeat' first
   | (with_reducible exact ih0 _ _ _ _ _ _ _ _)
   | (with_reducible exact ih1 _ _ _ _ _ _ _ _ _ _ _ _ _ _ _)
   | (with_reducible exact ih2 _ _ _ _ _ _)
   | (with_reducible exact ih3 _ _ _ _ _ _ _ _ _ _ _ _ _ _ _)
   | (with_reducible exact ih4 _ _ _ _ _ _ _ _ _)
   | (with_reducible exact ih5 _ _ _ _ _)
   | (with_reducible exact ih6 _ _ _ _ _ _ _ _ _ _ _ _ _ _ _ _ _ _ _)
   | (with_reducible exact ih7 _ _ _ _ _ _ _ _ _)
   | (with_reducible exact ih8 _ _ _ _ _ _ _ _ _ _)
   | (with_reducible exact impl_BackTrain.mono _ _)
   | (with_reducible exact impl_CompareRatios.mono _ _ _)
   | (with_reducible exact impl_DirectionOf.mono _ _)
   | (with_reducible exact impl_IsTrain.mono _ _)
   | (with_reducible exact impl_MeshesUntilSame.mono _ _ _)
   | (with_reducible exact impl_RatioOf.mono _ _)
   | (with_reducible exact impl_TeethOf.mono _ _)
   | (with_reducible exact impl_TurnsOfLast.mono _ _ _)
   | (with_reducible exact impl_TurnsUntilSame.mono _ _)
   | (with_reducible exact laws_kPairs.mono _ _ _)
   | (with_reducible exact spec_BackTrain.mono _ _)
   | (with_reducible exact spec_CompareRatios.mono _ _ _)
   | (with_reducible exact spec_DirectionOf.mono _ _)
   | (with_reducible exact spec_IsTrain.mono _ _)
   | (with_reducible exact spec_MeshesUntilSame.mono _ _ _)
   | (with_reducible exact spec_RatioOf.mono _ _)
   | (with_reducible exact spec_TeethOf.mono _ _)
   | (with_reducible exact spec_TurnsOfLast.mono _ _ _)
   | (with_reducible exact spec_TurnsUntilSame.mono _ _)
   | (with_reducible exact LeO.refl _)
   | (with_reducible exact LeO.none _)
   | (with_reducible refine LeO.ite ?_ ?_)
   | (with_reducible refine LeO.bind ?_ (fun _ => ?_))
   | exact ih0 _ _ _ _ _ _ _ _
   | exact ih1 _ _ _ _ _ _ _ _ _ _ _ _ _ _ _
   | exact ih2 _ _ _ _ _ _
   | exact ih3 _ _ _ _ _ _ _ _ _ _ _ _ _ _ _
   | exact ih4 _ _ _ _ _ _ _ _ _
   | exact ih5 _ _ _ _ _
   | exact ih6 _ _ _ _ _ _ _ _ _ _ _ _ _ _ _ _ _ _ _
   | exact ih7 _ _ _ _ _ _ _ _ _
   | exact ih8 _ _ _ _ _ _ _ _ _ _
   | exact impl_BackTrain.mono _ _
   | exact impl_CompareRatios.mono _ _ _
   | exact impl_DirectionOf.mono _ _
   | exact impl_IsTrain.mono _ _
   | exact impl_MeshesUntilSame.mono _ _ _
   | exact impl_RatioOf.mono _ _
   | exact impl_TeethOf.mono _ _
   | exact impl_TurnsOfLast.mono _ _ _
   | exact impl_TurnsUntilSame.mono _ _
   | exact laws_kPairs.mono _ _ _
   | exact spec_BackTrain.mono _ _
   | exact spec_CompareRatios.mono _ _ _
   | exact spec_DirectionOf.mono _ _
   | exact spec_IsTrain.mono _ _
   | exact spec_MeshesUntilSame.mono _ _ _
   | exact spec_RatioOf.mono _ _
   | exact spec_TeethOf.mono _ _
   | exact spec_TurnsOfLast.mono _ _ _
   | exact spec_TurnsUntilSame.mono _ _
   | exact LeO.none _
   | refine LeO.ite ?_ ?_
   | refine LeO.bind ?_ (fun _ => ?_)
  ·
   intro y0 y1 y2 y3 y4 y5 y6 y7 y8
   unfold laws_FnTrainsTurnOfAll.j7
   repeat' first
   | (with_reducible exact ih0 _ _ _ _ _ _ _ _)
   | (with_reducible exact ih1 _ _ _ _ _ _ _ _ _ _ _ _ _ _ _)
   | (with_reducible exact ih2 _ _ _ _ _ _)
   | (with_reducible exact ih3 _ _ _ _ _ _ _ _ _ _ _ _ _ _ _)
   | (with_reducible exact ih4 _ _ _ _ _ _ _ _ _)
   | (with_reducible exact ih5 _ _ _ _ _)
   | (with_reducible exact ih6 _ _ _ _ _ _ _ _ _ _ _ _ _ _ _ _ _ _ _)
   | (with_reducible exact ih7 _ _ _ _ _ _ _ _ _)
   | (with_reducible exact ih8 _ _ _ _ _ _ _ _ _ _)
   | (with_reducible exact impl_BackTrain.mono _ _)
   | (with_reducible exact impl_CompareRatios.mono _ _ _)
   | (with_reducible exact impl_DirectionOf.mono _ _)
   | (with_reducible exact impl_IsTrain.mono _ _)
   | (with_reducible exact impl_MeshesUntilSame.mono _ _ _)
   | (with_reducible exact impl_RatioOf.mono _ _)
   | (with_reducible exact impl_TeethOf.mono _ _)
   | (with_reducible exact impl_TurnsOfLast.mono _ _ _)
   | (with_reducible exact impl_TurnsUntilSame.mono _ _)
   | (with_reducible exact laws_kPairs.mono _ _ _)
   | (with_reducible exact spec_BackTrain.mono _ _)
   | (with_reducible exact spec_CompareRatios.mono _ _ _)
   | (with_reducible exact spec_DirectionOf.mono _ _)
   | (with_reducible exact spec_IsTrain.mono _ _)
   | (with_reducible exact spec_MeshesUntilSame.mono _ _ _)
   | (with_reducible exact spec_RatioOf.mono _ _)
   | (with_reducible exact spec_TeethOf.mono _ _)
   | (with_reducible exact spec_TurnsOfLast.mono _ _ _)
   | (with_reducible exact spec_TurnsUntilSame.mono _ _)
   | (with_reducible exact LeO.refl _)
   | (with_reducible exact LeO.none _)
   | (with_reducible refine LeO.ite ?_ ?_)
   | (with_reducible refine LeO.bind ?_ (fun _ => ?_))
   | exact ih0 _ _ _ _ _ _ _ _
   | exact ih1 _ _ _ _ _ _ _ _ _ _ _ _ _ _ _
   | exact ih2 _ _ _ _ _ _
   | exact ih3 _ _ _ _ _ _ _ _ _ _ _ _ _ _ _
   | exact ih4 _ _ _ _ _ _ _ _ _
   | exact ih5 _ _ _ _ _
   | exact ih6 _ _ _ _ _ _ _ _ _ _ _ _ _ _ _ _ _ _ _
   | exact ih7 _ _ _ _ _ _ _ _ _
   | exact ih8 _ _ _ _ _ _ _ _ _ _
   | exact impl_BackTrain.mono _ _
   | exact impl_CompareRatios.mono _ _ _
   | exact impl_DirectionOf.mono _ _
   | exact impl_IsTrain.mono _ _
   | exact impl_MeshesUntilSame.mono _ _ _
   | exact impl_RatioOf.mono _ _
   | exact impl_TeethOf.mono _ _
   | exact impl_TurnsOfLast.mono _ _ _
   | exact impl_TurnsUntilSame.mono _ _
   | exact laws_kPairs.mono _ _ _
   | exact spec_BackTrain.mono _ _
   | exact spec_CompareRatios.mono _ _ _
   | exact spec_DirectionOf.mono _ _
   | exact spec_IsTrain.mono _ _
   | exact spec_MeshesUntilSame.mono _ _ _
   | exact spec_RatioOf.mono _ _
   | exact spec_TeethOf.mono _ _
   | exact spec_TurnsOfLast.mono _ _ _
   | exact spec_TurnsUntilSame.mono _ _
   | exact LeO.none _
   | refine LeO.ite ?_ ?_
   | refine LeO.bind ?_ (fun _ => ?_)
  ·
   intro y0 y1 y2 y3 y4
   unfold laws_FnTrainsTurnOfAll.j8
   repeat' first
   | (with_reducible exact ih0 _ _ _ _ _ _ _ _)
   | (with_reducible exact ih1 _ _ _ _ _ _ _ _ _ _ _ _ _ _ _)
   | (with_reducible exact ih2 _ _ _ _ _ _)
   | (with_reducible exact ih3 _ _ _ _ _ _ _ _ _ _ _ _ _ _ _)
   | (with_reducible exact ih4 _ _ _ _ _ _ _ _ _)
   | (with_reducible exact ih5 _ _ _ _ _)
   | (with_reducible exact ih6 _ _ _ _ _ _ _ _ _ _ _ _ _ _ _ _ _ _ _)
   | (with_reducible exact ih7 _ _ _ _ _ _ _ _ _)
   | (with_reducible exact ih8 _ _ _ _ _ _ _ _ _ _)
   | (with_reducible exact impl_BackTrain.mono _ _)
   | (with_reducible exact impl_CompareRatios.mono _ _ _)
   | (with_reducible exact impl_DirectionOf.mono _ _)
   | (with_reducible exact impl_IsTrain.mono _ _)
   | (with_reducible exact impl_MeshesUntilSame.mono _ _ _)
   | (with_reducible exact impl_RatioOf.mono _ _)
   | (with_reducible exact impl_TeethOf.mono _ _)
   | (with_reducible exact impl_TurnsOfLast.mono _ _ _)
   | (with_reducible exact impl_TurnsUntilSame.mono _ _)
   | (with_reducible exact laws_kPairs.mono _ _ _)
   | (with_reducible exact spec_BackTrain.mono _ _)
   | (with_reducible exact spec_CompareRatios.mono _ _ _)
   | (with_reducible exact spec_DirectionOf.mono _ _)
   | (with_reducible exact spec_IsTrain.mono _ _)
   | (with_reducible exact spec_MeshesUntilSame.mono _ _ _)
   | (with_reducible exact spec_RatioOf.mono _ _)
   | (with_reducible exact spec_TeethOf.mono _ _)
   | (with_reducible exact spec_TurnsOfLast.mono _ _ _)
   | (with_reducible exact spec_TurnsUntilSame.mono _ _)
   | (with_reducible exact LeO.refl _)
   | (with_reducible exact LeO.none _)
   | (with_reducible refine LeO.ite ?_ ?_)
   | (with_reducible refine LeO.bind ?_ (fun _ => ?_))
   | exact ih0 _ _ _ _ _ _ _ _
   | exact ih1 _ _ _ _ _ _ _ _ _ _ _ _ _ _ _
   | exact ih2 _ _ _ _ _ _
   | exact ih3 _ _ _ _ _ _ _ _ _ _ _ _ _ _ _
   | exact ih4 _ _ _ _ _ _ _ _ _
   | exact ih5 _ _ _ _ _
   | exact ih6 _ _ _ _ _ _ _ _ _ _ _ _ _ _ _ _ _ _ _
   | exact ih7 _ _ _ _ _ _ _ _ _
   | exact ih8 _ _ _ _ _ _ _ _ _ _
   | exact impl_BackTrain.mono _ _
   | exact impl_CompareRatios.mono _ _ _
   | exact impl_DirectionOf.mono _ _
   | exact impl_IsTrain.mono _ _
   | exact impl_MeshesUntilSame.mono _ _ _
   | exact impl_RatioOf.mono _ _
   | exact impl_TeethOf.mono _ _
   | exact impl_TurnsOfLast.mono _ _ _
   | exact impl_TurnsUntilSame.mono _ _
   | exact laws_kPairs.mono _ _ _
   | exact spec_BackTrain.mono _ _
   | exact spec_CompareRatios.mono _ _ _
   | exact spec_DirectionOf.mono _ _
   | exact spec_IsTrain.mono _ _
   | exact spec_MeshesUntilSame.mono _ _ _
   | exact spec_RatioOf.mono _ _
   | exact spec_TeethOf.mono _ _
   | exact spec_TurnsOfLast.mono _ _ _
   | exact spec_TurnsUntilSame.mono _ _
   | exact LeO.none _
   | refine LeO.ite ?_ ?_
   | refine LeO.bind ?_ (fun _ => ?_)
  ·
   intro y0 y1 y2 y3 y4 y5 y6 y7 y8 y9 y10 y11 y12 y13 y14 y15 y16 y17 y18
   unfold laws_FnTrainsTurnOfAll.l0
   repeat' first
   | (with_reducible exact ih0 _ _ _ _ _ _ _ _)
   | (with_reducible exact ih1 _ _ _ _ _ _ _ _ _ _ _ _ _ _ _)
   | (with_reducible exact ih2 _ _ _ _ _ _)
   | (with_reducible exact ih3 _ _ _ _ _ _ _ _ _ _ _ _ _ _ _)
   | (with_reducible exact ih4 _ _ _ _ _ _ _ _ _)
   | (with_reducible exact ih5 _ _ _ _ _)
   | (with_reducible exact ih6 _ _ _ _ _ _ _ _ _ _ _ _ _ _ _ _ _ _ _)
   | (with_reducible exact ih7 _ _ _ _ _ _ _ _ _)
   | (with_reducible exact ih8 _ _ _ _ _ _ _ _ _ _)
   | (with_reducible exact impl_BackTrain.mono _ _)
   | (with_reducible exact impl_CompareRatios.mono _ _ _)
   | (with_reducible exact impl_DirectionOf.mono _ _)
   | (with_reducible exact impl_IsTrain.mono _ _)
   | (with_reducible exact impl_MeshesUntilSame.mono _ _ _)
   | (with_reducible exact impl_RatioOf.mono _ _)
   | (with_reducible exact impl_TeethOf.mono _ _)
   | (with_reducible exact impl_TurnsOfLast.mono _ _ _)
   | (with_reducible exact impl_TurnsUntilSame.mono _ _)
   | (with_reducible exact laws_kPairs.mono _ _ _)
   | (with_reducible exact spec_BackTrain.mono _ _)
   | (with_reducible exact spec_CompareRatios.mono _ _ _)
   | (with_reducible exact spec_DirectionOf.mono _ _)
   | (with_reducible exact spec_IsTrain.mono _ _)
   | (with_reducible exact spec_MeshesUntilSame.mono _ _ _)
   | (with_reducible exact spec_RatioOf.mono _ _)
   | (with_reducible exact spec_TeethOf.mono _ _)
   | (with_reducible exact spec_TurnsOfLast.mono _ _ _)
   | (with_reducible exact spec_TurnsUntilSame.mono _ _)
   | (with_reducible exact LeO.refl _)
   | (with_reducible exact LeO.none _)
   | (with_reducible refine LeO.ite ?_ ?_)
   | (with_reducible refine LeO.bind ?_ (fun _ => ?_))
   | exact ih0 _ _ _ _ _ _ _ _
   | exact ih1 _ _ _ _ _ _ _ _ _ _ _ _ _ _ _
   | exact ih2 _ _ _ _ _ _
   | exact ih3 _ _ _ _ _ _ _ _ _ _ _ _ _ _ _
   | exact ih4 _ _ _ _ _ _ _ _ _
   | exact ih5 _ _ _ _ _
   | exact ih6 _ _ _ _ _ _ _ _ _ _ _ _ _ _ _ _ _ _ _
   | exact ih7 _ _ _ _ _ _ _ _ _
   | exact ih8 _ _ _ _ _ _ _ _ _ _
   | exact impl_BackTrain.mono _ _
   | exact impl_CompareRatios.mono _ _ _
   | exact impl_DirectionOf.mono _ _
   | exact impl_IsTrain.mono _ _
   | exact impl_MeshesUntilSame.mono _ _ _
   | exact impl_RatioOf.mono _ _
   | exact impl_TeethOf.mono _ _
   | exact impl_TurnsOfLast.mono _ _ _
   | exact impl_TurnsUntilSame.mono _ _
   | exact laws_kPairs.mono _ _ _
   | exact spec_BackTrain.mono _ _
   | exact spec_CompareRatios.mono _ _ _
   | exact spec_DirectionOf.mono _ _
   | exact spec_IsTrain.mono _ _
   | exact spec_MeshesUntilSame.mono _ _ _
   | exact spec_RatioOf.mono _ _
   | exact spec_TeethOf.mono _ _
   | exact spec_TurnsOfLast.mono _ _ _
   | exact spec_TurnsUntilSame.mono _ _
   | exact LeO.none _
   | refine LeO.ite ?_ ?_
   | refine LeO.bind ?_ (fun _ => ?_)
  ·
   intro y0 y1 y2 y3 y4 y5 y6 y7 y8
   unfold laws_FnTrainsTurnOfAll.j3
   repeat' first
   | (with_reducible exact ih0 _ _ _ _ _ _ _ _)
   | (with_reducible exact ih1 _ _ _ _ _ _ _ _ _ _ _ _ _ _ _)
   | (with_reducible exact ih2 _ _ _ _ _ _)
   | (with_reducible exact ih3 _ _ _ _ _ _ _ _ _ _ _ _ _ _ _)
   | (with_reducible exact ih4 _ _ _ _ _ _ _ _ _)
   | (with_reducible exact ih5 _ _ _ _ _)
   | (with_reducible exact ih6 _ _ _ _ _ _ _ _ _ _ _ _ _ _ _ _ _ _ _)
   | (with_reducible exact ih7 _ _ _ _ _ _ _ _ _)
   | (with_reducible exact ih8 _ _ _ _ _ _ _ _ _ _)
   | (with_reducible exact impl_BackTrain.mono _ _)
   | (with_reducible exact impl_CompareRatios.mono _ _ _)
   | (with_reducible exact impl_DirectionOf.mono _ _)
   | (with_reducible exact impl_IsTrain.mono _ _)
   | (with_reducible exact impl_MeshesUntilSame.mono _ _ _)
   | (with_reducible exact impl_RatioOf.mono _ _)
   | (with_reducible exact impl_TeethOf.mono _ _)
   | (with_reducible exact impl_TurnsOfLast.mono _ _ _)
   | (with_reducible exact impl_TurnsUntilSame.mono _ _)
   | (with_reducible exact laws_kPairs.mono _ _ _)
   | (with_reducible exact spec_BackTrain.mono _ _)
   | (with_reducible exact spec_CompareRatios.mono _ _ _)
   | (with_reducible exact spec_DirectionOf.mono _ _)
   | (with_reducible exact spec_IsTrain.mono _ _)
   | (with_reducible exact spec_MeshesUntilSame.mono _ _ _)
   | (with_reducible exact spec_RatioOf.mono _ _)
   | (with_reducible exact spec_TeethOf.mono _ _)
   | (with_reducible exact spec_TurnsOfLast.mono _ _ _)
   | (with_reducible exact spec_TurnsUntilSame.mono _ _)
   | (with_reducible exact LeO.refl _)
   | (with_reducible exact LeO.none _)
   | (with_reducible refine LeO.ite ?_ ?_)
   | (with_reducible refine LeO.bind ?_ (fun _ => ?_))
   | exact ih0 _ _ _ _ _ _ _ _
   | exact ih1 _ _ _ _ _ _ _ _ _ _ _ _ _ _ _
   | exact ih2 _ _ _ _ _ _
   | exact ih3 _ _ _ _ _ _ _ _ _ _ _ _ _ _ _
   | exact ih4 _ _ _ _ _ _ _ _ _
   | exact ih5 _ _ _ _ _
   | exact ih6 _ _ _ _ _ _ _ _ _ _ _ _ _ _ _ _ _ _ _
   | exact ih7 _ _ _ _ _ _ _ _ _
   | exact ih8 _ _ _ _ _ _ _ _ _ _
   | exact impl_BackTrain.mono _ _
   | exact impl_CompareRatios.mono _ _ _
   | exact impl_DirectionOf.mono _ _
   | exact impl_IsTrain.mono _ _
   | exact impl_MeshesUntilSame.mono _ _ _
   | exact impl_RatioOf.mono _ _
   | exact impl_TeethOf.mono _ _
   | exact impl_TurnsOfLast.mono _ _ _
   | exact impl_TurnsUntilSame.mono _ _
   | exact laws_kPairs.mono _ _ _
   | exact spec_BackTrain.mono _ _
   | exact spec_CompareRatios.mono _ _ _
   | exact spec_DirectionOf.mono _ _
   | exact spec_IsTrain.mono _ _
   | exact spec_MeshesUntilSame.mono _ _ _
   | exact spec_RatioOf.mono _ _
   | exact spec_TeethOf.mono _ _
   | exact spec_TurnsOfLast.mono _ _ _
   | exact spec_TurnsUntilSame.mono _ _
   | exact LeO.none _
   | refine LeO.ite ?_ ?_
   | refine LeO.bind ?_ (fun _ => ?_)
  ·
   intro y0 y1 y2 y3 y4 y5 y6 y7 y8 y9
   unfold laws_FnTrainsTurnOfAll.l1
   repeat' first
   | (with_reducible exact ih0 _ _ _ _ _ _ _ _)
   | (with_reducible exact ih1 _ _ _ _ _ _ _ _ _ _ _ _ _ _ _)
   | (with_reducible exact ih2 _ _ _ _ _ _)
   | (with_reducible exact ih3 _ _ _ _ _ _ _ _ _ _ _ _ _ _ _)
   | (with_reducible exact ih4 _ _ _ _ _ _ _ _ _)
   | (with_reducible exact ih5 _ _ _ _ _)
   | (with_reducible exact ih6 _ _ _ _ _ _ _ _ _ _ _ _ _ _ _ _ _ _ _)
   | (with_reducible exact ih7 _ _ _ _ _ _ _ _ _)
   | (with_reducible exact ih8 _ _ _ _ _ _ _ _ _ _)
   | (with_reducible exact impl_BackTrain.mono _ _)
   | (with_reducible exact impl_CompareRatios.mono _ _ _)
   | (with_reducible exact impl_DirectionOf.mono _ _)
   | (with_reducible exact impl_IsTrain.mono _ _)
   | (with_reducible exact impl_MeshesUntilSame.mono _ _ _)
   | (with_reducible exact impl_RatioOf.mono _ _)
   | (with_reducible exact impl_TeethOf.mono _ _)
   | (with_reducible exact impl_TurnsOfLast.mono _ _ _)
   | (with_reducible exact impl_TurnsUntilSame.mono _ _)
   | (with_reducible exact laws_kPairs.mono _ _ _)
   | (with_reducible exact spec_BackTrain.mono _ _)
   | (with_reducible exact spec_CompareRatios.mono _ _ _)
   | (with_reducible exact spec_DirectionOf.mono _ _)
   | (with_reducible exact spec_IsTrain.mono _ _)
   | (with_reducible exact spec_MeshesUntilSame.mono _ _ _)
   | (with_reducible exact spec_RatioOf.mono _ _)
   | (with_reducible exact spec_TeethOf.mono _ _)
   | (with_reducible exact spec_TurnsOfLast.mono _ _ _)
   | (with_reducible exact spec_TurnsUntilSame.mono _ _)
   | (with_reducible exact LeO.refl _)
   | (with_reducible exact LeO.none _)
   | (with_reducible refine LeO.ite ?_ ?_)
   | (with_reducible refine LeO.bind ?_ (fun _ => ?_))
   | exact ih0 _ _ _ _ _ _ _ _
   | exact ih1 _ _ _ _ _ _ _ _ _ _ _ _ _ _ _
   | exact ih2 _ _ _ _ _ _
   | exact ih3 _ _ _ _ _ _ _ _ _ _ _ _ _ _ _
   | exact ih4 _ _ _ _ _ _ _ _ _
   | exact ih5 _ _ _ _ _
   | exact ih6 _ _ _ _ _ _ _ _ _ _ _ _ _ _ _ _ _ _ _
   | exact ih7 _ _ _ _ _ _ _ _ _
   | exact ih8 _ _ _ _ _ _ _ _ _ _
   | exact impl_BackTrain.mono _ _
   | exact impl_CompareRatios.mono _ _ _
   | exact impl_DirectionOf.mono _ _
   | exact impl_IsTrain.mono _ _
   | exact impl_MeshesUntilSame.mono _ _ _
   | exact impl_RatioOf.mono _ _
   | exact impl_TeethOf.mono _ _
   | exact impl_TurnsOfLast.mono _ _ _
   | exact impl_TurnsUntilSame.mono _ _
   | exact laws_kPairs.mono _ _ _
   | exact spec_BackTrain.mono _ _
   | exact spec_CompareRatios.mono _ _ _
   | exact spec_DirectionOf.mono _ _
   | exact spec_IsTrain.mono _ _
   | exact spec_MeshesUntilSame.mono _ _ _
   | exact spec_RatioOf.mono _ _
   | exact spec_TeethOf.mono _ _
   | exact spec_TurnsOfLast.mono _ _ _
   | exact spec_TurnsUntilSame.mono _ _
   | exact LeO.none _
   | refine LeO.ite ?_ ?_
   | refine LeO.bind ?_ (fun _ => ?_)
theorem laws_FnTrainsTurnOfAll.mono : ∀ a0 a1 a2 a3 a4 a5 a6 k, LeO (laws_FnTrainsTurnOfAll.f k a0 a1 a2 a3 a4 a5 a6) (laws_FnTrainsTurnOfAll.f (k + 1) a0 a1 a2 a3 a4 a5 a6) := by
 intro a0 a1 a2 a3 a4 a5 a6 k
 obtain ⟨ih0, ih1, ih2, ih3, ih4, ih5, ih6, ih7, ih8⟩ := laws_FnTrainsTurnOfAll.mono_l k
 unfold laws_FnTrainsTurnOfAll.f
 repeat' first
   | (with_reducible exact ih0 _ _ _ _ _ _ _ _)
   | (with_reducible exact ih1 _ _ _ _ _ _ _ _ _ _ _ _ _ _ _)
   | (with_reducible exact ih2 _ _ _ _ _ _)
   | (with_reducible exact ih3 _ _ _ _ _ _ _ _ _ _ _ _ _ _ _)
   | (with_reducible exact ih4 _ _ _ _ _ _ _ _ _)
   | (with_reducible exact ih5 _ _ _ _ _)
   | (with_reducible exact ih6 _ _ _ _ _ _ _ _ _ _ _ _ _ _ _ _ _ _ _)
   | (with_reducible exact ih7 _ _ _ _ _ _ _ _ _)
   | (with_reducible exact ih8 _ _ _ _ _ _ _ _ _ _)
   | (with_reducible exact impl_BackTrain.mono _ _)
   | (with_reducible exact impl_CompareRatios.mono _ _ _)
   | (with_reducible exact impl_DirectionOf.mono _ _)
   | (with_reducible exact impl_IsTrain.mono _ _)
   | (with_reducible exact impl_MeshesUntilSame.mono _ _ _)
   | (with_reducible exact impl_RatioOf.mono _ _)
   | (with_reducible exact impl_TeethOf.mono _ _)
   | (with_reducible exact impl_TurnsOfLast.mono _ _ _)
   | (with_reducible exact impl_TurnsUntilSame.mono _ _)
   | (with_reducible exact laws_kPairs.mono _ _ _)
   | (with_reducible exact spec_BackTrain.mono _ _)
   | (with_reducible exact spec_CompareRatios.mono _ _ _)
   | (with_reducible exact spec_DirectionOf.mono _ _)
   | (with_reducible exact spec_IsTrain.mono _ _)
   | (with_reducible exact spec_MeshesUntilSame.mono _ _ _)
   | (with_reducible exact spec_RatioOf.mono _ _)
   | (with_reducible exact spec_TeethOf.mono _ _)
   | (with_reducible exact spec_TurnsOfLast.mono _ _ _)
   | (with_reducible exact spec_TurnsUntilSame.mono _ _)
   | (with_reducible exact LeO.refl _)
   | (with_reducible exact LeO.none _)
   | (with_reducible refine LeO.ite ?_ ?_)
   | (with_reducible refine LeO.bind ?_ (fun _ => ?_))
   | exact ih0 _ _ _ _ _ _ _ _
   | exact ih1 _ _ _ _ _ _ _ _ _ _ _ _ _ _ _
   | exact ih2 _ _ _ _ _ _
   | exact ih3 _ _ _ _ _ _ _ _ _ _ _ _ _ _ _
   | exact ih4 _ _ _ _ _ _ _ _ _
   | exact ih5 _ _ _ _ _
   | exact ih6 _ _ _ _ _ _ _ _ _ _ _ _ _ _ _ _ _ _ _
   | exact ih7 _ _ _ _ _ _ _ _ _
   | exact ih8 _ _ _ _ _ _ _ _ _ _
   | exact impl_BackTrain.mono _ _
   | exact impl_CompareRatios.mono _ _ _
   | exact impl_DirectionOf.mono _ _
   | exact impl_IsTrain.mono _ _
   | exact impl_MeshesUntilSame.mono _ _ _
   | exact impl_RatioOf.mono _ _
   | exact impl_TeethOf.mono _ _
   | exact impl_TurnsOfLast.mono _ _ _
   | exact impl_TurnsUntilSame.mono _ _
   | exact laws_kPairs.mono _ _ _
   | exact spec_BackTrain.mono _ _
   | exact spec_CompareRatios.mono _ _ _
   | exact spec_DirectionOf.mono _ _
   | exact spec_IsTrain.mono _ _
   | exact spec_MeshesUntilSame.mono _ _ _
   | exact spec_RatioOf.mono _ _
   | exact spec_TeethOf.mono _ _
   | exact spec_TurnsOfLast.mono _ _ _
   | exact spec_TurnsUntilSame.mono _ _
   | exact LeO.none _
   | refine LeO.ite ?_ ?_
   | refine LeO.bind ?_ (fun _ => ?_)
def laws_FnTrainsTurnOfAll.T44 : Bool × List (List Nat × List Nat) := (true, [([], []), ([], []), ([0, 1], [0, 1]), ([2], [2]), ([3], [3]), ([3], [3]), ([4, 5, 3], [3, 4, 5]), ([3, 6], [3, 6]), ([7, 3], [7]), ([8], [8]), ([8], [8]), ([9, 10, 8], [8, 9, 10]), ([8, 11], [8, 11]), ([12, 8], [12]), ([13], [13]), ([13], [13]), ([14, 15, 13], [13, 14, 15]), ([13, 16], [13, 16]), ([17, 13], [17]), ([18], [18]), ([18], [18]), ([19, 20, 18], [18, 19, 20]), ([18, 21], [18, 21]), ([22, 18], [22]), ([23], [23]), ([23], [23]), ([24, 25, 23], [23, 24, 25]), ([23, 26], [23, 26]), ([27, 23], [27]), ([28], [28]), ([28], [28]), ([30, 28, 28], [28, 30]), ([29, 31, 28], [28, 29, 31]), ([28, 32], [28, 32]), ([33, 31], [33]), ([34], [34]), ([35, 34, 34], [34, 35]), ([34], [34]), ([37, 36, 34], [34, 37]), ([36, 38, 34], [34, 36, 38]), ([34, 39], [34, 39]), ([40, 38], [40]), ([41], [41]), ([41], [41]), ([42, 43, 41], [41, 42, 43]), ([41, 44], [41, 44]), ([45, 41], [45]), ([46], [46]), ([46], [46]), ([47, 48, 46], [46, 47, 48]), ([46, 49], [46, 49])])
def laws_FnTrainsTurnOfAll.B44 : List Nat := [0, 0, 3, 7, 15, 15, 63, 127, 255, 511, 511, 2047, 4095, 8191, 16383, 16383, 65535, 131071, 262143, 524287, 524287, 2097151, 4194303, 8388607, 16777215, 16777215, 67108863, 134217727, 268435455, 536870911, 536870911, 1610612735, 4294967295, 8589934591, 17179869183, 34359738367, 68719476735, 34359738367, 274877906943, 549755813887, 1099511627775, 2199023255551, 4398046511103, 4398046511103, 17592186044415, 35184372088831, 70368744177663, 140737488355327, 140737488355327, 562949953421311, 1125899906842623]
theorem laws_FnTrainsTurnOfAll.tab44 : rtab .any (opsOf Try.f11 44) = laws_FnTrainsTurnOfAll.T44 := by kernel_rfl
theorem laws_FnTrainsTurnOfAll.bits44 : waitsOk laws_FnTrainsTurnOfAll.T44.2 laws_FnTrainsTurnOfAll.B44 = true := by kernel_rfl
set_option maxHeartbeats 8000000 in
set_option maxRecDepth 100000 in
theorem laws_FnTrainsTurnOfAll.calls (k : Nat) (A0 : Option Addr) (c0 : Nat) (l0 : List (S41)) (A1 : Option Addr) (c1 : Nat) (l1 : List (S41)) (a2 : Int) (a3_0 : Int) (a3_1 : Int) (A4 : Option Addr) (c4 : Nat) (l4 : List (S41)) (A5 : Option Addr) (c5 : Nat) (l5 : List (S41)) (r : Bool) (w : World) (hr0 : Kd.C k41 w A0 l0.length l0) (hc0 : l0.length ≤ c0) (hr1 : Kd.C k41 w A1 l1.length l1) (hc1 : l1.length ≤ c1) (hr4 : Kd.C k41 w A4 l4.length l4) (hc4 : l4.length ≤ c4) (hr5 : Kd.C k41 w A5 l5.length l5) (hc5 : l5.length ≤ c5) (h : laws_FnTrainsTurnOfAll.f k l0 l1 a2 a3_0 a3_1 l4 l5 = some r) :
  Calls Try.prog 11 #[.slice A0 l0.length c0, .slice A1 l1.length c1, .int .i64 a2, .agg #[.int .i64 a3_0, .int .i64 a3_1], .slice A4 l4.length c4, .slice A5 l5.length c5] w fun e w' => e = .returned (.bool r) ∧ Below w.heap.size w w' := by
 have hu41 := Try.underlying41
 have HR0 := Aside0.mk hr0
 have HC0 := Aside0.mk hc0
 clear hr0 hc0
 have HR1 := Aside0.mk hr1
 have HC1 := Aside0.mk hc1
 clear hr1 hc1
 have HR4 := Aside0.mk hr4
 have HC4 := Aside0.mk hc4
 clear hr4 hc4
 have HR5 := Aside0.mk hr5
 have HC5 := Aside0.mk hc5
 clear hr5 hc5
 have HB := Aside0.mk (Below.refl w.heap.size w)
 have H : (if (l0.length : Int) > 10000 then (laws_FnTrainsTurnOfAll.j0 k l0 l1 a2 l4 l5 true a3_0 a3_1) else (if (l1.length : Int) > 10000 then (laws_FnTrainsTurnOfAll.j0 k l0 l1 a2 l4 l5 true a3_0 a3_1) else (if (l4.length : Int) > 10000 then (laws_FnTrainsTurnOfAll.j0 k l0 l1 a2 l4 l5 true a3_0 a3_1) else (laws_FnTrainsTurnOfAll.j0 k l0 l1 a2 l4 l5 (decide ((l5.length : Int) > 10000)) a3_0 a3_1)))) = some r := h
 clear h
 have HC7 := Aside0.mk H
 clear H
 go_enter Try.func11, Try.ntmps11
 go_upto_region 1 with (first | ((with_reducible refine gate_dst (N := 9) rfl ?_); (try (refine gate_guard (by rfl) ?_; dsimp only)); refine box_event ?hg (N := 9) ?hd (cs := #[.int .i64 a3_0, .int .i64 a3_1]) (t := 41) ?hr ?_; (case hd => rfl); (case hg => rfl); (case hr => first | (go_simp; done) | (go_simp; rfl)); intro gb212 hg w8 hbox hb; have n0_ := Aside0.mk (below_step (by repeat (first | (with_reducible first | exact HB.out | apply below_alloc | apply pw_below_drewN | apply below_drew1) | exact HB.out)) hb); have n1_ := Aside0.mk (hbox); have n2_ := Aside0.mk ((by rw [hg]; exact (below_size (by repeat (first | (with_reducible first | exact HB.out | apply below_alloc | apply pw_below_drewN | apply below_drew1) | exact HB.out))) : w.heap.size ≤ gb212)); have n3_ := Aside0.mk ((by rw [hg]; exact (below_size (by repeat (first | (with_reducible first | exact HB.out | apply below_alloc | apply pw_below_drewN | apply below_drew1) | exact HB.out))) : w.heap.size ≤ gb212)); clear HB; have HB := n0_; have BK212 := n1_; have GW212 := n2_; have GE212 := n3_; clear n0_ n1_ n2_ n3_; clear hb hbox hg))
 (try simp only [Act.put, List.setIfInBounds_toArray, List.set_cons_zero, List.set_cons_succ])
 go_cut [95] from 78 to 95 (fun v95 wc => ∃ (kq : Nat) (x95_6 : Bool), v95 = .bool x95_6 ∧ Aside0 (laws_FnTrainsTurnOfAll.j0 kq l0 l1 a2 l4 l5 x95_6 a3_0 a3_1 = some r) ∧ Aside0 (kq ≤ k) ∧ Aside0 (wc.heap[gb212]? = some (.cells #[.int .i64 a3_0, .int .i64 a3_1] 41 (0, 0))) ∧ Aside0 (Below w.heap.size w wc))
 case first => as_aux_lemma =>
  have H := HC7.out
  clear HC7
  by_cases c9 : (l0.length : Int) > 10000
  ·
   rw [if_pos c9] at H
   have c9b0 : decide (10000 < (l0.length : Int)) = true := decide_eq_true c9
   have c9b1 : decide (10000 < l0.length) = true := decide_eq_true (by omega)
   clear c9
   (first | rw [c9b0] | (simp only [i64_w, i32_w]; rw [c9b0]) | skip)
   have H' := Aside0.mk H
   clear H
   go_wp2
   go_meet
   case rel => exact ⟨_, (true), (by first | rfl | (simp; done) | (simp [*]; done)), H', ⟨by first | omega | exact Nat.le_refl _⟩, ⟨by (with_reducible repeat (first | refine blk_drewN ?_ _ | refine blk_drew ?_ | refine blk_alloc ?_ _)); exact BK212.out⟩, ⟨by repeat (first | (with_reducible first | exact HB.out | apply below_alloc | apply pw_below_drewN | apply below_drew1 | refine below_set ?_ GE212.out) | exact HB.out)⟩⟩
  ·
   rw [if_neg c9] at H
   have c9b0 : decide (10000 < (l0.length : Int)) = false := decide_eq_false c9
   have c9b1 : decide (10000 < l0.length) = false := decide_eq_false (by omega)
   clear c9
   (first | rw [c9b0] | (simp only [i64_w, i32_w]; rw [c9b0]) | skip)
   by_cases c10 : (l1.length : Int) > 10000
   ·
    rw [if_pos c10] at H
    have c10b0 : decide (10000 < (l1.length : Int)) = true := decide_eq_true c10
    have c10b1 : decide (10000 < l1.length) = true := decide_eq_true (by omega)
    clear c10
    have H' := Aside0.mk H
    clear H
    go_wp2
    go_meet
    case rel => exact ⟨_, (true), (by first | rfl | (simp; done) | (simp [*]; done)), H', ⟨by first | omega | exact Nat.le_refl _⟩, ⟨by (with_reducible repeat (first | refine blk_drewN ?_ _ | refine blk_drew ?_ | refine blk_alloc ?_ _)); exact BK212.out⟩, ⟨by repeat (first | (with_reducible first | exact HB.out | apply below_alloc | apply pw_below_drewN | apply below_drew1 | refine below_set ?_ GE212.out) | exact HB.out)⟩⟩
   ·
    rw [if_neg c10] at H
    have c10b0 : decide (10000 < (l1.length : Int)) = false := decide_eq_false c10
    have c10b1 : decide (10000 < l1.length) = false := decide_eq_false (by omega)
    clear c10
    by_cases c11 : (l4.length : Int) > 10000
    ·
     rw [if_pos c11] at H
     have c11b0 : decide (10000 < (l4.length : Int)) = true := decide_eq_true c11
     have c11b1 : decide (10000 < l4.length) = true := decide_eq_true (by omega)
     clear c11
     have H' := Aside0.mk H
     clear H
     go_wp2
     go_meet
     case rel => exact ⟨_, (true), (by first | rfl | (simp; done) | (simp [*]; done)), H', ⟨by first | omega | exact Nat.le_refl _⟩, ⟨by (with_reducible repeat (first | refine blk_drewN ?_ _ | refine blk_drew ?_ | refine blk_alloc ?_ _)); exact BK212.out⟩, ⟨by repeat (first | (with_reducible first | exact HB.out | apply below_alloc | apply pw_below_drewN | apply below_drew1 | refine below_set ?_ GE212.out) | exact HB.out)⟩⟩
    ·
     rw [if_neg c11] at H
     have c11b0 : decide (10000 < (l4.length : Int)) = false := decide_eq_false c11
     have c11b1 : decide (10000 < l4.length) = false := decide_eq_false (by omega)
     clear c11
     have H' := Aside0.mk H
     clear H
     go_wp2
     go_meet
     case rel => exact ⟨_, (decide ((l5.length : Int) > 10000)), (by first | rfl | (simp; done) | (simp [*]; done)), H', ⟨by first | omega | exact Nat.le_refl _⟩, ⟨by (with_reducible repeat (first | refine blk_drewN ?_ _ | refine blk_drew ?_ | refine blk_alloc ?_ _)); exact BK212.out⟩, ⟨by repeat (first | (with_reducible first | exact HB.out | apply below_alloc | apply pw_below_drewN | apply below_drew1 | refine below_set ?_ GE212.out) | exact HB.out)⟩⟩
 case rest => as_aux_lemma =>
  clear HC7
  try clear c1
  try clear c4
  try clear c5
  obtain ⟨kq, x95_6, rfl, HA, HJ6, BK212, HB⟩ := hcut
  cases kq with
  | zero => exact absurd HA.out (by simp [laws_FnTrainsTurnOfAll.j0])
  | succ kj6 =>
   have H := HA.out
   clear HA
   simp only [laws_FnTrainsTurnOfAll.j0] at H
   by_cases c12 : x95_6 = true
   ·
    subst c12
    have H1 : (some true) = some r := by rw [if_pos rfl] at H; exact H
    clear H
    have H := H1
    clear H1
    obtain rfl := Option.some.inj H
    go_wp2
    go_ret
    exact ⟨by first | rfl | (simp [errW_none, errW_some] <;> rfl) | (simp [*, errW_none, errW_some] <;> rfl), by repeat (first | (with_reducible first | exact HB.out | apply below_alloc | apply pw_below_drewN | apply below_drew1 | refine below_set ?_ GE212.out) | exact HB.out)⟩
   ·
    replace c12 := Bool.eq_false_iff.mpr c12
    subst c12
    have H1 : ((impl_RatioOf.f kj6 l0).bind fun bt213 => ((spec_RatioOf.f kj6 l0).bind fun bt216 => ((impl_DirectionOf.f kj6 l0).bind fun bt219 => ((spec_DirectionOf.f kj6 l0).bind fun bt221 => ((impl_BackTrain.f kj6 l0).bind fun bt223 => ((spec_BackTrain.f kj6 l0).bind fun bt227 => ((impl_TurnsUntilSame.f kj6 l0).bind fun bt231 => ((spec_TurnsUntilSame.f kj6 l0).bind fun bt233 => ((impl_TeethOf.f kj6 l0).bind fun bt235 => ((spec_TeethOf.f kj6 l0).bind fun bt237 => (if (bt213.2.2 != bt216.2.2) = true then (none) else (if bt213.1 = bt216.1 then (if bt213.2.1 = bt216.2.1 then (if (bt219.2 != bt221.2) = true then (none) else (if bt219.1 = bt221.1 then (if (bt223.2 != bt227.2) = true then (none) else ((laws_kPairs.f kj6 bt223.1 bt227.1).bind fun t239 => (if t239 = true then (if (bt231.2 != bt233.2) = true then (none) else (if bt231.1 = bt233.1 then (if (bt235.2 != bt237.2) = true then (none) else (if bt235.1 = bt237.1 then ((impl_IsTrain.f kj6 l0).bind fun t240 => (if (bt213.2.2 != t240) = true then (none) else ((impl_IsTrain.f kj6 l0).bind fun t241 => ((spec_IsTrain.f kj6 l0).bind fun t242 => (if (t241 != t242) = true then (none) else (if (bt219.2 != bt213.2.2) = true then (none) else (if (bt223.2 != bt213.2.2) = true then (none) else (if (bt231.2 != bt213.2.2) = true then (none) else (laws_FnTrainsTurnOfAll.j1 kj6 l0 l1 a2 l4 l5 bt213.1 bt213.2.1 bt213.2.2 bt219.1 bt223.1 bt231.1 bt235.1 (bt235.2 != bt213.2.2) a3_0 a3_1))))))))) else (none))) else (none))) else (none)))) else (none))) else (none)) else (none))))))))))))) = some r := by rw [if_neg (show ¬ (false = true) by decide)] at H; exact H
    clear H
    have H := H1
    clear H1
    replace H := Option.bind_eq_some_iff.mp H
    obtain ⟨⟨t213, t214, t215⟩, A130, H⟩ := H
    replace H : ((spec_RatioOf.f kj6 l0).bind fun bt216 => ((impl_DirectionOf.f kj6 l0).bind fun bt219 => ((spec_DirectionOf.f kj6 l0).bind fun bt221 => ((impl_BackTrain.f kj6 l0).bind fun bt223 => ((spec_BackTrain.f kj6 l0).bind fun bt227 => ((impl_TurnsUntilSame.f kj6 l0).bind fun bt231 => ((spec_TurnsUntilSame.f kj6 l0).bind fun bt233 => ((impl_TeethOf.f kj6 l0).bind fun bt235 => ((spec_TeethOf.f kj6 l0).bind fun bt237 => (if (t215 != bt216.2.2) = true then (none) else (if t213 = bt216.1 then (if t214 = bt216.2.1 then (if (bt219.2 != bt221.2) = true then (none) else (if bt219.1 = bt221.1 then (if (bt223.2 != bt227.2) = true then (none) else ((laws_kPairs.f kj6 bt223.1 bt227.1).bind fun t239 => (if t239 = true then (if (bt231.2 != bt233.2) = true then (none) else (if bt231.1 = bt233.1 then (if (bt235.2 != bt237.2) = true then (none) else (if bt235.1 = bt237.1 then ((impl_IsTrain.f kj6 l0).bind fun t240 => (if (t215 != t240) = true then (none) else ((impl_IsTrain.f kj6 l0).bind fun t241 => ((spec_IsTrain.f kj6 l0).bind fun t242 => (if (t241 != t242) = true then (none) else (if (bt219.2 != t215) = true then (none) else (if (bt223.2 != t215) = true then (none) else (if (bt231.2 != t215) = true then (none) else (laws_FnTrainsTurnOfAll.j1 kj6 l0 l1 a2 l4 l5 t213 t214 t215 bt219.1 bt223.1 bt231.1 bt235.1 (bt235.2 != t215) a3_0 a3_1))))))))) else (none))) else (none))) else (none)))) else (none))) else (none)) else (none)))))))))))) = some r := H
    have A13 := Aside0.mk A130
    clear A130
    replace H := Option.bind_eq_some_iff.mp H
    obtain ⟨⟨t216, t217, t218⟩, A140, H⟩ := H
    replace H : ((impl_DirectionOf.f kj6 l0).bind fun bt219 => ((spec_DirectionOf.f kj6 l0).bind fun bt221 => ((impl_BackTrain.f kj6 l0).bind fun bt223 => ((spec_BackTrain.f kj6 l0).bind fun bt227 => ((impl_TurnsUntilSame.f kj6 l0).bind fun bt231 => ((spec_TurnsUntilSame.f kj6 l0).bind fun bt233 => ((impl_TeethOf.f kj6 l0).bind fun bt235 => ((spec_TeethOf.f kj6 l0).bind fun bt237 => (if (t215 != t218) = true then (none) else (if t213 = t216 then (if t214 = t217 then (if (bt219.2 != bt221.2) = true then (none) else (if bt219.1 = bt221.1 then (if (bt223.2 != bt227.2) = true then (none) else ((laws_kPairs.f kj6 bt223.1 bt227.1).bind fun t239 => (if t239 = true then (if (bt231.2 != bt233.2) = true then (none) else (if bt231.1 = bt233.1 then (if (bt235.2 != bt237.2) = true then (none) else (if bt235.1 = bt237.1 then ((impl_IsTrain.f kj6 l0).bind fun t240 => (if (t215 != t240) = true then (none) else ((impl_IsTrain.f kj6 l0).bind fun t241 => ((spec_IsTrain.f kj6 l0).bind fun t242 => (if (t241 != t242) = true then (none) else (if (bt219.2 != t215) = true then (none) else (if (bt223.2 != t215) = true then (none) else (if (bt231.2 != t215) = true then (none) else (laws_FnTrainsTurnOfAll.j1 kj6 l0 l1 a2 l4 l5 t213 t214 t215 bt219.1 bt223.1 bt231.1 bt235.1 (bt235.2 != t215) a3_0 a3_1))))))))) else (none))) else (none))) else (none)))) else (none))) else (none)) else (none))))))))))) = some r := H
    have A14 := Aside0.mk A140
    clear A140
    replace H := Option.bind_eq_some_iff.mp H
    obtain ⟨⟨t219, t220⟩, A150, H⟩ := H
    replace H : ((spec_DirectionOf.f kj6 l0).bind fun bt221 => ((impl_BackTrain.f kj6 l0).bind fun bt223 => ((spec_BackTrain.f kj6 l0).bind fun bt227 => ((impl_TurnsUntilSame.f kj6 l0).bind fun bt231 => ((spec_TurnsUntilSame.f kj6 l0).bind fun bt233 => ((impl_TeethOf.f kj6 l0).bind fun bt235 => ((spec_TeethOf.f kj6 l0).bind fun bt237 => (if (t215 != t218) = true then (none) else (if t213 = t216 then (if t214 = t217 then (if (t220 != bt221.2) = true then (none) else (if t219 = bt221.1 then (if (bt223.2 != bt227.2) = true then (none) else ((laws_kPairs.f kj6 bt223.1 bt227.1).bind fun t239 => (if t239 = true then (if (bt231.2 != bt233.2) = true then (none) else (if bt231.1 = bt233.1 then (if (bt235.2 != bt237.2) = true then (none) else (if bt235.1 = bt237.1 then ((impl_IsTrain.f kj6 l0).bind fun t240 => (if (t215 != t240) = true then (none) else ((impl_IsTrain.f kj6 l0).bind fun t241 => ((spec_IsTrain.f kj6 l0).bind fun t242 => (if (t241 != t242) = true then (none) else (if (t220 != t215) = true then (none) else (if (bt223.2 != t215) = true then (none) else (if (bt231.2 != t215) = true then (none) else (laws_FnTrainsTurnOfAll.j1 kj6 l0 l1 a2 l4 l5 t213 t214 t215 t219 bt223.1 bt231.1 bt235.1 (bt235.2 != t215) a3_0 a3_1))))))))) else (none))) else (none))) else (none)))) else (none))) else (none)) else (none)))))))))) = some r := H
    have A15 := Aside0.mk A150
    clear A150
    replace H := Option.bind_eq_some_iff.mp H
    obtain ⟨⟨t221, t222⟩, A160, H⟩ := H
    replace H : ((impl_BackTrain.f kj6 l0).bind fun bt223 => ((spec_BackTrain.f kj6 l0).bind fun bt227 => ((impl_TurnsUntilSame.f kj6 l0).bind fun bt231 => ((spec_TurnsUntilSame.f kj6 l0).bind fun bt233 => ((impl_TeethOf.f kj6 l0).bind fun bt235 => ((spec_TeethOf.f kj6 l0).bind fun bt237 => (if (t215 != t218) = true then (none) else (if t213 = t216 then (if t214 = t217 then (if (t220 != t222) = true then (none) else (if t219 = t221 then (if (bt223.2 != bt227.2) = true then (none) else ((laws_kPairs.f kj6 bt223.1 bt227.1).bind fun t239 => (if t239 = true then (if (bt231.2 != bt233.2) = true then (none) else (if bt231.1 = bt233.1 then (if (bt235.2 != bt237.2) = true then (none) else (if bt235.1 = bt237.1 then ((impl_IsTrain.f kj6 l0).bind fun t240 => (if (t215 != t240) = true then (none) else ((impl_IsTrain.f kj6 l0).bind fun t241 => ((spec_IsTrain.f kj6 l0).bind fun t242 => (if (t241 != t242) = true then (none) else (if (t220 != t215) = true then (none) else (if (bt223.2 != t215) = true then (none) else (if (bt231.2 != t215) = true then (none) else (laws_FnTrainsTurnOfAll.j1 kj6 l0 l1 a2 l4 l5 t213 t214 t215 t219 bt223.1 bt231.1 bt235.1 (bt235.2 != t215) a3_0 a3_1))))))))) else (none))) else (none))) else (none)))) else (none))) else (none)) else (none))))))))) = some r := H
    have A16 := Aside0.mk A160
    clear A160
    replace H := Option.bind_eq_some_iff.mp H
    obtain ⟨⟨t223, t224⟩, A170, H⟩ := H
    replace H : ((spec_BackTrain.f kj6 l0).bind fun bt227 => ((impl_TurnsUntilSame.f kj6 l0).bind fun bt231 => ((spec_TurnsUntilSame.f kj6 l0).bind fun bt233 => ((impl_TeethOf.f kj6 l0).bind fun bt235 => ((spec_TeethOf.f kj6 l0).bind fun bt237 => (if (t215 != t218) = true then (none) else (if t213 = t216 then (if t214 = t217 then (if (t220 != t222) = true then (none) else (if t219 = t221 then (if (t224 != bt227.2) = true then (none) else ((laws_kPairs.f kj6 t223 bt227.1).bind fun t239 => (if t239 = true then (if (bt231.2 != bt233.2) = true then (none) else (if bt231.1 = bt233.1 then (if (bt235.2 != bt237.2) = true then (none) else (if bt235.1 = bt237.1 then ((impl_IsTrain.f kj6 l0).bind fun t240 => (if (t215 != t240) = true then (none) else ((impl_IsTrain.f kj6 l0).bind fun t241 => ((spec_IsTrain.f kj6 l0).bind fun t242 => (if (t241 != t242) = true then (none) else (if (t220 != t215) = true then (none) else (if (t224 != t215) = true then (none) else (if (bt231.2 != t215) = true then (none) else (laws_FnTrainsTurnOfAll.j1 kj6 l0 l1 a2 l4 l5 t213 t214 t215 t219 t223 bt231.1 bt235.1 (bt235.2 != t215) a3_0 a3_1))))))))) else (none))) else (none))) else (none)))) else (none))) else (none)) else (none)))))))) = some r := H
    have A17 := Aside0.mk A170
    clear A170
    replace H := Option.bind_eq_some_iff.mp H
    obtain ⟨⟨t227, t228⟩, A180, H⟩ := H
    replace H : ((impl_TurnsUntilSame.f kj6 l0).bind fun bt231 => ((spec_TurnsUntilSame.f kj6 l0).bind fun bt233 => ((impl_TeethOf.f kj6 l0).bind fun bt235 => ((spec_TeethOf.f kj6 l0).bind fun bt237 => (if (t215 != t218) = true then (none) else (if t213 = t216 then (if t214 = t217 then (if (t220 != t222) = true then (none) else (if t219 = t221 then (if (t224 != t228) = true then (none) else ((laws_kPairs.f kj6 t223 t227).bind fun t239 => (if t239 = true then (if (bt231.2 != bt233.2) = true then (none) else (if bt231.1 = bt233.1 then (if (bt235.2 != bt237.2) = true then (none) else (if bt235.1 = bt237.1 then ((impl_IsTrain.f kj6 l0).bind fun t240 => (if (t215 != t240) = true then (none) else ((impl_IsTrain.f kj6 l0).bind fun t241 => ((spec_IsTrain.f kj6 l0).bind fun t242 => (if (t241 != t242) = true then (none) else (if (t220 != t215) = true then (none) else (if (t224 != t215) = true then (none) else (if (bt231.2 != t215) = true then (none) else (laws_FnTrainsTurnOfAll.j1 kj6 l0 l1 a2 l4 l5 t213 t214 t215 t219 t223 bt231.1 bt235.1 (bt235.2 != t215) a3_0 a3_1))))))))) else (none))) else (none))) else (none)))) else (none))) else (none)) else (none))))))) = some r := H
    have A18 := Aside0.mk A180
    clear A180
    replace H := Option.bind_eq_some_iff.mp H
    obtain ⟨⟨t231, t232⟩, A190, H⟩ := H
    replace H : ((spec_TurnsUntilSame.f kj6 l0).bind fun bt233 => ((impl_TeethOf.f kj6 l0).bind fun bt235 => ((spec_TeethOf.f kj6 l0).bind fun bt237 => (if (t215 != t218) = true then (none) else (if t213 = t216 then (if t214 = t217 then (if (t220 != t222) = true then (none) else (if t219 = t221 then (if (t224 != t228) = true then (none) else ((laws_kPairs.f kj6 t223 t227).bind fun t239 => (if t239 = true then (if (t232 != bt233.2) = true then (none) else (if t231 = bt233.1 then (if (bt235.2 != bt237.2) = true then (none) else (if bt235.1 = bt237.1 then ((impl_IsTrain.f kj6 l0).bind fun t240 => (if (t215 != t240) = true then (none) else ((impl_IsTrain.f kj6 l0).bind fun t241 => ((spec_IsTrain.f kj6 l0).bind fun t242 => (if (t241 != t242) = true then (none) else (if (t220 != t215) = true then (none) else (if (t224 != t215) = true then (none) else (if (t232 != t215) = true then (none) else (laws_FnTrainsTurnOfAll.j1 kj6 l0 l1 a2 l4 l5 t213 t214 t215 t219 t223 t231 bt235.1 (bt235.2 != t215) a3_0 a3_1))))))))) else (none))) else (none))) else (none)))) else (none))) else (none)) else (none)))))) = some r := H
    have A19 := Aside0.mk A190
    clear A190
    replace H := Option.bind_eq_some_iff.mp H
    obtain ⟨⟨t233, t234⟩, A200, H⟩ := H
    replace H : ((impl_TeethOf.f kj6 l0).bind fun bt235 => ((spec_TeethOf.f kj6 l0).bind fun bt237 => (if (t215 != t218) = true then (none) else (if t213 = t216 then (if t214 = t217 then (if (t220 != t222) = true then (none) else (if t219 = t221 then (if (t224 != t228) = true then (none) else ((laws_kPairs.f kj6 t223 t227).bind fun t239 => (if t239 = true then (if (t232 != t234) = true then (none) else (if t231 = t233 then (if (bt235.2 != bt237.2) = true then (none) else (if bt235.1 = bt237.1 then ((impl_IsTrain.f kj6 l0).bind fun t240 => (if (t215 != t240) = true then (none) else ((impl_IsTrain.f kj6 l0).bind fun t241 => ((spec_IsTrain.f kj6 l0).bind fun t242 => (if (t241 != t242) = true then (none) else (if (t220 != t215) = true then (none) else (if (t224 != t215) = true then (none) else (if (t232 != t215) = true then (none) else (laws_FnTrainsTurnOfAll.j1 kj6 l0 l1 a2 l4 l5 t213 t214 t215 t219 t223 t231 bt235.1 (bt235.2 != t215) a3_0 a3_1))))))))) else (none))) else (none))) else (none)))) else (none))) else (none)) else (none))))) = some r := H
    have A20 := Aside0.mk A200
    clear A200
    replace H := Option.bind_eq_some_iff.mp H
    obtain ⟨⟨t235, t236⟩, A210, H⟩ := H
    replace H : ((spec_TeethOf.f kj6 l0).bind fun bt237 => (if (t215 != t218) = true then (none) else (if t213 = t216 then (if t214 = t217 then (if (t220 != t222) = true then (none) else (if t219 = t221 then (if (t224 != t228) = true then (none) else ((laws_kPairs.f kj6 t223 t227).bind fun t239 => (if t239 = true then (if (t232 != t234) = true then (none) else (if t231 = t233 then (if (t236 != bt237.2) = true then (none) else (if t235 = bt237.1 then ((impl_IsTrain.f kj6 l0).bind fun t240 => (if (t215 != t240) = true then (none) else ((impl_IsTrain.f kj6 l0).bind fun t241 => ((spec_IsTrain.f kj6 l0).bind fun t242 => (if (t241 != t242) = true then (none) else (if (t220 != t215) = true then (none) else (if (t224 != t215) = true then (none) else (if (t232 != t215) = true then (none) else (laws_FnTrainsTurnOfAll.j1 kj6 l0 l1 a2 l4 l5 t213 t214 t215 t219 t223 t231 t235 (t236 != t215) a3_0 a3_1))))))))) else (none))) else (none))) else (none)))) else (none))) else (none)) else (none)))) = some r := H
    have A21 := Aside0.mk A210
    clear A210
    replace H := Option.bind_eq_some_iff.mp H
    obtain ⟨⟨t237, t238⟩, A220, H⟩ := H
    replace H : (if (t215 != t218) = true then (none) else (if t213 = t216 then (if t214 = t217 then (if (t220 != t222) = true then (none) else (if t219 = t221 then (if (t224 != t228) = true then (none) else ((laws_kPairs.f kj6 t223 t227).bind fun t239 => (if t239 = true then (if (t232 != t234) = true then (none) else (if t231 = t233 then (if (t236 != t238) = true then (none) else (if t235 = t237 then ((impl_IsTrain.f kj6 l0).bind fun t240 => (if (t215 != t240) = true then (none) else ((impl_IsTrain.f kj6 l0).bind fun t241 => ((spec_IsTrain.f kj6 l0).bind fun t242 => (if (t241 != t242) = true then (none) else (if (t220 != t215) = true then (none) else (if (t224 != t215) = true then (none) else (if (t232 != t215) = true then (none) else (laws_FnTrainsTurnOfAll.j1 kj6 l0 l1 a2 l4 l5 t213 t214 t215 t219 t223 t231 t235 (t236 != t215) a3_0 a3_1))))))))) else (none))) else (none))) else (none)))) else (none))) else (none)) else (none))) = some r := H
    have A22 := Aside0.mk A220
    clear A220
    have HC23 := Aside0.mk H
    clear H
    go_upto_region 13 with (first | ((with_reducible refine gate_callee (f := 23) rfl ?_); refine goesL_ (some 98) rfl rfl Try.func23 (by kernel_rfl) rfl #[.slice A0 l0.length c0] rfl (by (try simp only [List.map_toArray, List.map_cons, List.map_nil]); first | done | rfl | (simp only [List.length_drop, List.length_take]; rfl)) ?_; (with_reducible refine (impl_RatioOf.calls kj6 _ _ l0 t213 t214 t215 _ ?side1 ?side2 A13.out).mono ?_); (case side1 => repeat (first | exact (Kd.C_below HR0.out HB.out) | (with_reducible refine Kd.C_alloc ?_ _) | (with_reducible refine Kd.C_drewN ?_ _) | (with_reducible refine Kd.C_drew ?_))); (case side2 => exact HC0.out); rintro e w24 ⟨rfl, hb⟩; refine ⟨_, rfl, ?_⟩; have n0_ := Aside0.mk (blk_below (g := gb212) (o := .cells #[.int .i64 a3_0, .int .i64 a3_1] 41 (0, 0)) (by (with_reducible repeat (first | refine blk_drewN ?_ _ | refine blk_drew ?_ | refine blk_alloc ?_ _)); exact BK212.out) hb); have n1_ := Aside0.mk (below_step (by repeat (first | (with_reducible first | exact HB.out | apply below_alloc | apply pw_below_drewN | apply below_drew1 | refine below_set ?_ GE212.out) | exact HB.out)) hb); clear BK212; clear HB; have BK212 := n0_; have HB := n1_; clear n0_ n1_; (try clear hb); (try clear hb2); (try clear hk); (try clear hi)) | ((with_reducible refine gate_callee (f := 22) rfl ?_); refine goesL_ (some 104) rfl rfl Try.func22 (by kernel_rfl) rfl #[.slice A0 l0.length c0] rfl (by (try simp only [List.map_toArray, List.map_cons, List.map_nil]); first | done | rfl | (simp only [List.length_drop, List.length_take]; rfl)) ?_; (with_reducible refine (spec_RatioOf.calls kj6 _ _ l0 t216 t217 t218 _ ?side1 ?side2 A14.out).mono ?_); (case side1 => repeat (first | exact (Kd.C_below HR0.out HB.out) | (with_reducible refine Kd.C_alloc ?_ _) | (with_reducible refine Kd.C_drewN ?_ _) | (with_reducible refine Kd.C_drew ?_))); (case side2 => exact HC0.out); rintro e w25 ⟨rfl, hb⟩; refine ⟨_, rfl, ?_⟩; have n0_ := Aside0.mk (blk_below (g := gb212) (o := .cells #[.int .i64 a3_0, .int .i64 a3_1] 41 (0, 0)) (by (with_reducible repeat (first | refine blk_drewN ?_ _ | refine blk_drew ?_ | refine blk_alloc ?_ _)); exact BK212.out) hb); have n1_ := Aside0.mk (below_step (by repeat (first | (with_reducible first | exact HB.out | apply below_alloc | apply pw_below_drewN | apply below_drew1 | refine below_set ?_ GE212.out) | exact HB.out)) hb); clear BK212; clear HB; have BK212 := n0_; have HB := n1_; clear n0_ n1_; (try clear hb); (try clear hb2); (try clear hk); (try clear hi)) | ((with_reducible refine gate_callee (f := 19) rfl ?_); refine goesL_ (some 110) rfl rfl Try.func19 (by kernel_rfl) rfl #[.slice A0 l0.length c0] rfl (by (try simp only [List.map_toArray, List.map_cons, List.map_nil]); first | done | rfl | (simp only [List.length_drop, List.length_take]; rfl)) ?_; (with_reducible refine (impl_DirectionOf.calls kj6 _ _ l0 t219 t220 _ ?side1 ?side2 A15.out).mono ?_); (case side1 => repeat (first | exact (Kd.C_below HR0.out HB.out) | (with_reducible refine Kd.C_alloc ?_ _) | (with_reducible refine Kd.C_drewN ?_ _) | (with_reducible refine Kd.C_drew ?_))); (case side2 => exact HC0.out); rintro e w26 ⟨rfl, hb⟩; refine ⟨_, rfl, ?_⟩; have n0_ := Aside0.mk (blk_below (g := gb212) (o := .cells #[.int .i64 a3_0, .int .i64 a3_1] 41 (0, 0)) (by (with_reducible repeat (first | refine blk_drewN ?_ _ | refine blk_drew ?_ | refine blk_alloc ?_ _)); exact BK212.out) hb); have n1_ := Aside0.mk (below_step (by repeat (first | (with_reducible first | exact HB.out | apply below_alloc | apply pw_below_drewN | apply below_drew1 | refine below_set ?_ GE212.out) | exact HB.out)) hb); clear BK212; clear HB; have BK212 := n0_; have HB := n1_; clear n0_ n1_; (try clear hb); (try clear hb2); (try clear hk); (try clear hi)) | ((with_reducible refine gate_callee (f := 18) rfl ?_); refine goesL_ (some 115) rfl rfl Try.func18 (by kernel_rfl) rfl #[.slice A0 l0.length c0] rfl (by (try simp only [List.map_toArray, List.map_cons, List.map_nil]); first | done | rfl | (simp only [List.length_drop, List.length_take]; rfl)) ?_; (with_reducible refine (spec_DirectionOf.calls kj6 _ _ l0 t221 t222 _ ?side1 ?side2 A16.out).mono ?_); (case side1 => repeat (first | exact (Kd.C_below HR0.out HB.out) | (with_reducible refine Kd.C_alloc ?_ _) | (with_reducible refine Kd.C_drewN ?_ _) | (with_reducible refine Kd.C_drew ?_))); (case side2 => exact HC0.out); rintro e w27 ⟨rfl, hb⟩; refine ⟨_, rfl, ?_⟩; have n0_ := Aside0.mk (blk_below (g := gb212) (o := .cells #[.int .i64 a3_0, .int .i64 a3_1] 41 (0, 0)) (by (with_reducible repeat (first | refine blk_drewN ?_ _ | refine blk_drew ?_ | refine blk_alloc ?_ _)); exact BK212.out) hb); have n1_ := Aside0.mk (below_step (by repeat (first | (with_reducible first | exact HB.out | apply below_alloc | apply pw_below_drewN | apply below_drew1 | refine below_set ?_ GE212.out) | exact HB.out)) hb); clear BK212; clear HB; have BK212 := n0_; have HB := n1_; clear n0_ n1_; (try clear hb); (try clear hb2); (try clear hk); (try clear hi)) | ((with_reducible refine gate_callee (f := 25) rfl ?_); refine goesL_ (some 120) rfl rfl Try.func25 (by kernel_rfl) rfl #[.slice A0 l0.length c0] rfl (by (try simp only [List.map_toArray, List.map_cons, List.map_nil]); first | done | rfl | (simp only [List.length_drop, List.length_take]; rfl)) ?_; (with_reducible refine (impl_BackTrain.calls kj6 _ _ l0 t223 t224 _ ?side1 ?side2 A17.out).mono ?_); (case side1 => repeat (first | exact (Kd.C_below HR0.out HB.out) | (with_reducible refine Kd.C_alloc ?_ _) | (with_reducible refine Kd.C_drewN ?_ _) | (with_reducible refine Kd.C_drew ?_))); (case side2 => exact HC0.out); rintro e w28 ⟨v225, rfl, ho0, hb⟩; refine ⟨_, rfl, ?_⟩; have n0_ := Aside0.mk (Kd.R_lower (Kd.R_newB ho0 (g := gb212) (o := .cells #[.int .i64 a3_0, .int .i64 a3_1] 41 (0, 0)) (by (with_reducible repeat (first | refine blk_drewN ?_ _ | refine blk_drew ?_ | refine blk_alloc ?_ _)); exact BK212.out)) (below_size (by repeat (first | (with_reducible first | exact HB.out | apply below_alloc | apply pw_below_drewN | apply below_drew1 | refine below_set ?_ GE212.out) | exact HB.out)))); have n1_ := Aside0.mk (blk_below (g := gb212) (o := .cells #[.int .i64 a3_0, .int .i64 a3_1] 41 (0, 0)) (by (with_reducible repeat (first | refine blk_drewN ?_ _ | refine blk_drew ?_ | refine blk_alloc ?_ _)); exact BK212.out) hb); have n2_ := Aside0.mk (below_step (by repeat (first | (with_reducible first | exact HB.out | apply below_alloc | apply pw_below_drewN | apply below_drew1 | refine below_set ?_ GE212.out) | exact HB.out)) hb); clear BK212; clear HB; have HO226 := n0_; have BK212 := n1_; have HB := n2_; clear n0_ n1_ n2_; (try clear hb); (try clear hb2); (try clear hk); (try clear hi); (try clear ho0)) | ((with_reducible refine gate_callee (f := 24) rfl ?_); refine goesL_ (some 125) rfl rfl Try.func24 (by kernel_rfl) rfl #[.slice A0 l0.length c0] rfl (by (try simp only [List.map_toArray, List.map_cons, List.map_nil]); first | done | rfl | (simp only [List.length_drop, List.length_take]; rfl)) ?_; (with_reducible refine (spec_BackTrain.calls kj6 _ _ l0 t227 t228 _ ?side1 ?side2 A18.out).mono ?_); (case side1 => repeat (first | exact (Kd.C_below HR0.out HB.out) | (with_reducible refine Kd.C_alloc ?_ _) | (with_reducible refine Kd.C_drewN ?_ _) | (with_reducible refine Kd.C_drew ?_))); (case side2 => exact HC0.out); rintro e w29 ⟨v229, rfl, ho0, hb⟩; refine ⟨_, rfl, ?_⟩; have n0_ := Aside0.mk (Kd.R_elder' (by (with_reducible repeat (first | apply Kd.R_alloc | apply Kd.R_drewN | apply Kd.R_drew)); exact HO226.out) (Kd.R_base ho0) hb); have n1_ := Aside0.mk (Kd.R_lower (Kd.R_newB (Kd.R_new' ho0 (Kd.R_lt (by (with_reducible repeat (first | apply Kd.R_alloc | apply Kd.R_drewN | apply Kd.R_drew)); exact HO226.out))) (g := gb212) (o := .cells #[.int .i64 a3_0, .int .i64 a3_1] 41 (0, 0)) (by (with_reducible repeat (first | refine blk_drewN ?_ _ | refine blk_drew ?_ | refine blk_alloc ?_ _)); exact BK212.out)) (below_size (by repeat (first | (with_reducible first | exact HB.out | apply below_alloc | apply pw_below_drewN | apply below_drew1 | refine below_set ?_ GE212.out) | exact HB.out)))); have n2_ := Aside0.mk (blk_below (g := gb212) (o := .cells #[.int .i64 a3_0, .int .i64 a3_1] 41 (0, 0)) (by (with_reducible repeat (first | refine blk_drewN ?_ _ | refine blk_drew ?_ | refine blk_alloc ?_ _)); exact BK212.out) hb); have n3_ := Aside0.mk (below_step (by repeat (first | (with_reducible first | exact HB.out | apply below_alloc | apply pw_below_drewN | apply below_drew1 | refine below_set ?_ GE212.out) | exact HB.out)) hb); clear HO226; clear BK212; clear HB; have HO226 := n0_; have HO230 := n1_; have BK212 := n2_; have HB := n3_; clear n0_ n1_ n2_ n3_; (try clear hb); (try clear hb2); (try clear hk); (try clear hi); (try clear ho0)) | ((with_reducible refine gate_callee (f := 29) rfl ?_); refine goesL_ (some 130) rfl rfl Try.func29 (by kernel_rfl) rfl #[.slice A0 l0.length c0] rfl (by (try simp only [List.map_toArray, List.map_cons, List.map_nil]); first | done | rfl | (simp only [List.length_drop, List.length_take]; rfl)) ?_; (with_reducible refine (impl_TurnsUntilSame.calls kj6 _ _ l0 t231 t232 _ ?side1 ?side2 A19.out).mono ?_); (case side1 => repeat (first | exact (Kd.C_below HR0.out HB.out) | (with_reducible refine Kd.C_alloc ?_ _) | (with_reducible refine Kd.C_drewN ?_ _) | (with_reducible refine Kd.C_drew ?_))); (case side2 => exact HC0.out); rintro e w30 ⟨rfl, hb⟩; refine ⟨_, rfl, ?_⟩; have n0_ := Aside0.mk (Kd.R_below (by (with_reducible repeat (first | apply Kd.R_alloc | apply Kd.R_drewN | apply Kd.R_drew)); exact HO226.out) hb); have n1_ := Aside0.mk (Kd.R_below (by (with_reducible repeat (first | apply Kd.R_alloc | apply Kd.R_drewN | apply Kd.R_drew)); exact HO230.out) hb); have n2_ := Aside0.mk (blk_below (g := gb212) (o := .cells #[.int .i64 a3_0, .int .i64 a3_1] 41 (0, 0)) (by (with_reducible repeat (first | refine blk_drewN ?_ _ | refine blk_drew ?_ | refine blk_alloc ?_ _)); exact BK212.out) hb); have n3_ := Aside0.mk (below_step (by repeat (first | (with_reducible first | exact HB.out | apply below_alloc | apply pw_below_drewN | apply below_drew1 | refine below_set ?_ GE212.out) | exact HB.out)) hb); clear HO226; clear HO230; clear BK212; clear HB; have HO226 := n0_; have HO230 := n1_; have BK212 := n2_; have HB := n3_; clear n0_ n1_ n2_ n3_; (try clear hb); (try clear hb2); (try clear hk); (try clear hi)) | ((with_reducible refine gate_callee (f := 28) rfl ?_); refine goesL_ (some 135) rfl rfl Try.func28 (by kernel_rfl) rfl #[.slice A0 l0.length c0] rfl (by (try simp only [List.map_toArray, List.map_cons, List.map_nil]); first | done | rfl | (simp only [List.length_drop, List.length_take]; rfl)) ?_; (with_reducible refine (spec_TurnsUntilSame.calls kj6 _ _ l0 t233 t234 _ ?side1 ?side2 A20.out).mono ?_); (case side1 => repeat (first | exact (Kd.C_below HR0.out HB.out) | (with_reducible refine Kd.C_alloc ?_ _) | (with_reducible refine Kd.C_drewN ?_ _) | (with_reducible refine Kd.C_drew ?_))); (case side2 => exact HC0.out); rintro e w31 ⟨rfl, hb⟩; refine ⟨_, rfl, ?_⟩; have n0_ := Aside0.mk (Kd.R_below (by (with_reducible repeat (first | apply Kd.R_alloc | apply Kd.R_drewN | apply Kd.R_drew)); exact HO226.out) hb); have n1_ := Aside0.mk (Kd.R_below (by (with_reducible repeat (first | apply Kd.R_alloc | apply Kd.R_drewN | apply Kd.R_drew)); exact HO230.out) hb); have n2_ := Aside0.mk (blk_below (g := gb212) (o := .cells #[.int .i64 a3_0, .int .i64 a3_1] 41 (0, 0)) (by (with_reducible repeat (first | refine blk_drewN ?_ _ | refine blk_drew ?_ | refine blk_alloc ?_ _)); exact BK212.out) hb); have n3_ := Aside0.mk (below_step (by repeat (first | (with_reducible first | exact HB.out | apply below_alloc | apply pw_below_drewN | apply below_drew1 | refine below_set ?_ GE212.out) | exact HB.out)) hb); clear HO226; clear HO230; clear BK212; clear HB; have HO226 := n0_; have HO230 := n1_; have BK212 := n2_; have HB := n3_; clear n0_ n1_ n2_ n3_; (try clear hb); (try clear hb2); (try clear hk); (try clear hi)) | ((with_reducible refine gate_callee (f := 21) rfl ?_); refine goesL_ (some 140) rfl rfl Try.func21 (by kernel_rfl) rfl #[.slice A0 l0.length c0] rfl (by (try simp only [List.map_toArray, List.map_cons, List.map_nil]); first | done | rfl | (simp only [List.length_drop, List.length_take]; rfl)) ?_; (with_reducible refine (impl_TeethOf.calls kj6 _ _ l0 t235 t236 _ ?side1 ?side2 A21.out).mono ?_); (case side1 => repeat (first | exact (Kd.C_below HR0.out HB.out) | (with_reducible refine Kd.C_alloc ?_ _) | (with_reducible refine Kd.C_drewN ?_ _) | (with_reducible refine Kd.C_drew ?_))); (case side2 => exact HC0.out); rintro e w32 ⟨rfl, hb⟩; refine ⟨_, rfl, ?_⟩; have n0_ := Aside0.mk (Kd.R_below (by (with_reducible repeat (first | apply Kd.R_alloc | apply Kd.R_drewN | apply Kd.R_drew)); exact HO226.out) hb); have n1_ := Aside0.mk (Kd.R_below (by (with_reducible repeat (first | apply Kd.R_alloc | apply Kd.R_drewN | apply Kd.R_drew)); exact HO230.out) hb); have n2_ := Aside0.mk (blk_below (g := gb212) (o := .cells #[.int .i64 a3_0, .int .i64 a3_1] 41 (0, 0)) (by (with_reducible repeat (first | refine blk_drewN ?_ _ | refine blk_drew ?_ | refine blk_alloc ?_ _)); exact BK212.out) hb); have n3_ := Aside0.mk (below_step (by repeat (first | (with_reducible first | exact HB.out | apply below_alloc | apply pw_below_drewN | apply below_drew1 | refine below_set ?_ GE212.out) | exact HB.out)) hb); clear HO226; clear HO230; clear BK212; clear HB; have HO226 := n0_; have HO230 := n1_; have BK212 := n2_; have HB := n3_; clear n0_ n1_ n2_ n3_; (try clear hb); (try clear hb2); (try clear hk); (try clear hi)) | ((with_reducible refine gate_callee (f := 20) rfl ?_); refine goesL_ (some 145) rfl rfl Try.func20 (by kernel_rfl) rfl #[.slice A0 l0.length c0] rfl (by (try simp only [List.map_toArray, List.map_cons, List.map_nil]); first | done | rfl | (simp only [List.length_drop, List.length_take]; rfl)) ?_; (with_reducible refine (spec_TeethOf.calls kj6 _ _ l0 t237 t238 _ ?side1 ?side2 A22.out).mono ?_); (case side1 => repeat (first | exact (Kd.C_below HR0.out HB.out) | (with_reducible refine Kd.C_alloc ?_ _) | (with_reducible refine Kd.C_drewN ?_ _) | (with_reducible refine Kd.C_drew ?_))); (case side2 => exact HC0.out); rintro e w33 ⟨rfl, hb⟩; refine ⟨_, rfl, ?_⟩; have n0_ := Aside0.mk (Kd.R_below (by (with_reducible repeat (first | apply Kd.R_alloc | apply Kd.R_drewN | apply Kd.R_drew)); exact HO226.out) hb); have n1_ := Aside0.mk (Kd.R_below (by (with_reducible repeat (first | apply Kd.R_alloc | apply Kd.R_drewN | apply Kd.R_drew)); exact HO230.out) hb); have n2_ := Aside0.mk (blk_below (g := gb212) (o := .cells #[.int .i64 a3_0, .int .i64 a3_1] 41 (0, 0)) (by (with_reducible repeat (first | refine blk_drewN ?_ _ | refine blk_drew ?_ | refine blk_alloc ?_ _)); exact BK212.out) hb); have n3_ := Aside0.mk (below_step (by repeat (first | (with_reducible first | exact HB.out | apply below_alloc | apply pw_below_drewN | apply below_drew1 | refine below_set ?_ GE212.out) | exact HB.out)) hb); clear HO226; clear HO230; clear BK212; clear HB; have HO226 := n0_; have HO230 := n1_; have BK212 := n2_; have HB := n3_; clear n0_ n1_ n2_ n3_; (try clear hb); (try clear hb2); (try clear hk); (try clear hi)))
    (try simp only [Act.put, List.setIfInBounds_toArray, List.set_cons_zero, List.set_cons_succ])
    go_cut [234] from 96 to 234 (fun v234 wc => ∃ (kq : Nat) (x234_22 : Bool), v234 = .bool x234_22 ∧ Aside0 (laws_FnTrainsTurnOfAll.j1 kq l0 l1 a2 l4 l5 t213 t214 t215 t219 t223 t231 t235 x234_22 a3_0 a3_1 = some r) ∧ Aside0 (kq ≤ kj6) ∧ Aside0 (Kd.R k41 41 wc w.heap.size (fun k_ => k_ ≠ gb212) v225 t223) ∧ Aside0 (wc.heap[gb212]? = some (.cells #[.int .i64 a3_0, .int .i64 a3_1] 41 (0, 0))) ∧ Aside0 (Below w.heap.size w wc))
    case first => as_aux_lemma =>
     have H := HC23.out
     clear HC23
     by_cases c34 : (t215 != t218) = true
     ·
      rw [if_pos c34] at H
      exact absurd H (by simp)
     ·
      rw [if_neg c34] at H
      have c34b0 : (t215 != t218) = false := by simpa using c34
      (try (have c34b1 : decide (t215 = t218) = true := by simpa using c34))
      (try (have c34b2 : (t215 == t218) = true := by simpa using c34))
      clear c34
      (first | rw [c34b0] | (simp only [i64_w, i32_w]; rw [c34b0]) | skip)
      by_cases c35 : t213 = t216
      ·
       rw [if_pos c35] at H
       have c35b0 : (t213 == t216) = true := beq_iff_eq.mpr c35
       have c35b1 : (t213 != t216) = false := bne_eq_false_iff_eq.mpr c35
       clear c35
       by_cases c36 : t214 = t217
       ·
        rw [if_pos c36] at H
        have c36b0 : (t214 == t217) = true := beq_iff_eq.mpr c36
        have c36b1 : (t214 != t217) = false := bne_eq_false_iff_eq.mpr c36
        clear c36
        by_cases c37 : (t220 != t222) = true
        ·
         rw [if_pos c37] at H
         exact absurd H (by simp)
        ·
         rw [if_neg c37] at H
         have c37b0 : (t220 != t222) = false := by simpa using c37
         (try (have c37b1 : decide (t220 = t222) = true := by simpa using c37))
         (try (have c37b2 : (t220 == t222) = true := by simpa using c37))
         clear c37
         by_cases c38 : t219 = t221
         ·
          rw [if_pos c38] at H
          have c38b0 : (t219 == t221) = true := beq_iff_eq.mpr c38
          have c38b1 : (t219 != t221) = false := bne_eq_false_iff_eq.mpr c38
          clear c38
          by_cases c39 : (t224 != t228) = true
          ·
           rw [if_pos c39] at H
           exact absurd H (by simp)
          ·
           rw [if_neg c39] at H
           have c39b0 : (t224 != t228) = false := by simpa using c39
           (try (have c39b1 : decide (t224 = t228) = true := by simpa using c39))
           (try (have c39b2 : (t224 == t228) = true := by simpa using c39))
           clear c39
           replace H := Option.bind_eq_some_iff.mp H
           obtain ⟨t239, A400, H⟩ := H
           replace H : (if t239 = true then (if (t232 != t234) = true then (none) else (if t231 = t233 then (if (t236 != t238) = true then (none) else (if t235 = t237 then ((impl_IsTrain.f kj6 l0).bind fun t240 => (if (t215 != t240) = true then (none) else ((impl_IsTrain.f kj6 l0).bind fun t241 => ((spec_IsTrain.f kj6 l0).bind fun t242 => (if (t241 != t242) = true then (none) else (if (t220 != t215) = true then (none) else (if (t224 != t215) = true then (none) else (if (t232 != t215) = true then (none) else (laws_FnTrainsTurnOfAll.j1 kj6 l0 l1 a2 l4 l5 t213 t214 t215 t219 t223 t231 t235 (t236 != t215) a3_0 a3_1))))))))) else (none))) else (none))) else (none)) = some r := H
           have A40 := Aside0.mk A400
           clear A400
           by_cases c41 : t239 = true
           ·
            subst c41
            have H1 : (if (t232 != t234) = true then (none) else (if t231 = t233 then (if (t236 != t238) = true then (none) else (if t235 = t237 then ((impl_IsTrain.f kj6 l0).bind fun t240 => (if (t215 != t240) = true then (none) else ((impl_IsTrain.f kj6 l0).bind fun t241 => ((spec_IsTrain.f kj6 l0).bind fun t242 => (if (t241 != t242) = true then (none) else (if (t220 != t215) = true then (none) else (if (t224 != t215) = true then (none) else (if (t232 != t215) = true then (none) else (laws_FnTrainsTurnOfAll.j1 kj6 l0 l1 a2 l4 l5 t213 t214 t215 t219 t223 t231 t235 (t236 != t215) a3_0 a3_1))))))))) else (none))) else (none))) = some r := by rw [if_pos rfl] at H; exact H
            clear H
            have H := H1
            clear H1
            by_cases c42 : (t232 != t234) = true
            ·
             rw [if_pos c42] at H
             exact absurd H (by simp)
            ·
             rw [if_neg c42] at H
             have c42b0 : (t232 != t234) = false := by simpa using c42
             (try (have c42b1 : decide (t232 = t234) = true := by simpa using c42))
             (try (have c42b2 : (t232 == t234) = true := by simpa using c42))
             clear c42
             by_cases c43 : t231 = t233
             ·
              rw [if_pos c43] at H
              have c43b0 : (t231 == t233) = true := beq_iff_eq.mpr c43
              have c43b1 : (t231 != t233) = false := bne_eq_false_iff_eq.mpr c43
              clear c43
              by_cases c44 : (t236 != t238) = true
              ·
               rw [if_pos c44] at H
               exact absurd H (by simp)
              ·
               rw [if_neg c44] at H
               have c44b0 : (t236 != t238) = false := by simpa using c44
               (try (have c44b1 : decide (t236 = t238) = true := by simpa using c44))
               (try (have c44b2 : (t236 == t238) = true := by simpa using c44))
               clear c44
               by_cases c45 : t235 = t237
               ·
                rw [if_pos c45] at H
                have c45b0 : (t235 == t237) = true := beq_iff_eq.mpr c45
                have c45b1 : (t235 != t237) = false := bne_eq_false_iff_eq.mpr c45
                clear c45
                replace H := Option.bind_eq_some_iff.mp H
                obtain ⟨t240, A460, H⟩ := H
                replace H : (if (t215 != t240) = true then (none) else ((impl_IsTrain.f kj6 l0).bind fun t241 => ((spec_IsTrain.f kj6 l0).bind fun t242 => (if (t241 != t242) = true then (none) else (if (t220 != t215) = true then (none) else (if (t224 != t215) = true then (none) else (if (t232 != t215) = true then (none) else (laws_FnTrainsTurnOfAll.j1 kj6 l0 l1 a2 l4 l5 t213 t214 t215 t219 t223 t231 t235 (t236 != t215) a3_0 a3_1)))))))) = some r := H
                have A46 := Aside0.mk A460
                clear A460
                by_cases c47 : (t215 != t240) = true
                ·
                 rw [if_pos c47] at H
                 exact absurd H (by simp)
                ·
                 rw [if_neg c47] at H
                 have c47b0 : (t215 != t240) = false := by simpa using c47
                 (try (have c47b1 : decide (t215 = t240) = true := by simpa using c47))
                 (try (have c47b2 : (t215 == t240) = true := by simpa using c47))
                 clear c47
                 replace H := Option.bind_eq_some_iff.mp H
                 obtain ⟨t241, A480, H⟩ := H
                 replace H : ((spec_IsTrain.f kj6 l0).bind fun t242 => (if (t241 != t242) = true then (none) else (if (t220 != t215) = true then (none) else (if (t224 != t215) = true then (none) else (if (t232 != t215) = true then (none) else (laws_FnTrainsTurnOfAll.j1 kj6 l0 l1 a2 l4 l5 t213 t214 t215 t219 t223 t231 t235 (t236 != t215) a3_0 a3_1)))))) = some r := H
                 have A48 := Aside0.mk A480
                 clear A480
                 replace H := Option.bind_eq_some_iff.mp H
                 obtain ⟨t242, A490, H⟩ := H
                 replace H : (if (t241 != t242) = true then (none) else (if (t220 != t215) = true then (none) else (if (t224 != t215) = true then (none) else (if (t232 != t215) = true then (none) else (laws_FnTrainsTurnOfAll.j1 kj6 l0 l1 a2 l4 l5 t213 t214 t215 t219 t223 t231 t235 (t236 != t215) a3_0 a3_1))))) = some r := H
                 have A49 := Aside0.mk A490
                 clear A490
                 by_cases c50 : (t241 != t242) = true
                 ·
                  rw [if_pos c50] at H
                  exact absurd H (by simp)
                 ·
                  rw [if_neg c50] at H
                  have c50b0 : (t241 != t242) = false := by simpa using c50
                  have z_ : t240 = t241 := Option.some.inj (A46.out.symm.trans A48.out)
                  have c50b7 : (t240 != t242) = false := by rw [z_]; exact c50b0
                  (try (have c50b8 : decide (t240 = t242) = true := by rw [z_]; simpa using c50))
                  (try (have c50b9 : (t240 == t242) = true := by rw [z_]; simpa using c50))
                  clear z_
                  (try (have c50b1 : decide (t241 = t242) = true := by simpa using c50))
                  (try (have c50b2 : (t241 == t242) = true := by simpa using c50))
                  clear c50
                  by_cases c51 : (t220 != t215) = true
                  ·
                   rw [if_pos c51] at H
                   exact absurd H (by simp)
                  ·
                   rw [if_neg c51] at H
                   have c51b0 : (t220 != t215) = false := by simpa using c51
                   (try (have c51b1 : decide (t220 = t215) = true := by simpa using c51))
                   (try (have c51b2 : (t220 == t215) = true := by simpa using c51))
                   clear c51
                   by_cases c52 : (t224 != t215) = true
                   ·
                    rw [if_pos c52] at H
                    exact absurd H (by simp)
                   ·
                    rw [if_neg c52] at H
                    have c52b0 : (t224 != t215) = false := by simpa using c52
                    (try (have c52b1 : decide (t224 = t215) = true := by simpa using c52))
                    (try (have c52b2 : (t224 == t215) = true := by simpa using c52))
                    clear c52
                    by_cases c53 : (t232 != t215) = true
                    ·
                     rw [if_pos c53] at H
                     exact absurd H (by simp)
                    ·
                     rw [if_neg c53] at H
                     have c53b0 : (t232 != t215) = false := by simpa using c53
                     (try (have c53b1 : decide (t232 = t215) = true := by simpa using c53))
                     (try (have c53b2 : (t232 == t215) = true := by simpa using c53))
                     clear c53
                     have H' := Aside0.mk H
                     clear H
                     obtain ⟨Ao54, co54, eo54⟩ := Kd.R_slice HO226.out
                     subst eo54
                     obtain ⟨Ao55, co55, eo55⟩ := Kd.R_slice HO230.out
                     subst eo55
                     go_wp2_with (first | (go_at_call 34; refine calls_of_args (args' := #[.slice Ao54 t223.length co54, .slice Ao55 t227.length co55]) (by first | rfl) ?_; (with_reducible refine (laws_kPairs.calls kj6 _ _ t223 _ _ t227 true _ ?side1 ?side2 ?side3 ?side4 A40.out).mono ?_); (case side1 => repeat (first | exact (Kd.R_reads' HO226.out).2.2 | (with_reducible refine Kd.C_alloc ?_ _) | (with_reducible refine Kd.C_drewN ?_ _) | (with_reducible refine Kd.C_drew ?_))); (case side2 => exact (Kd.R_reads' HO226.out).2.1); (case side3 => repeat (first | exact (Kd.R_reads' HO230.out).2.2 | (with_reducible refine Kd.C_alloc ?_ _) | (with_reducible refine Kd.C_drewN ?_ _) | (with_reducible refine Kd.C_drew ?_))); (case side4 => exact (Kd.R_reads' HO230.out).2.1); rintro e w' ⟨rfl, ⟨nd, rfl⟩⟩) | (go_at_call 16; refine calls_of_args (args' := #[.slice A0 l0.length c0]) (by first | rfl) ?_; (with_reducible refine (impl_IsTrain.calls kj6 _ _ l0 t240 _ ?side1 ?side2 A46.out).mono ?_); (case side1 => repeat (first | exact (Kd.C_below HR0.out (by repeat (first | (with_reducible first | exact HB.out | apply below_alloc | apply pw_below_drewN | apply below_drew1 | refine below_set ?_ GE212.out) | exact HB.out))) | (with_reducible refine Kd.C_alloc ?_ _) | (with_reducible refine Kd.C_drewN ?_ _) | (with_reducible refine Kd.C_drew ?_))); (case side2 => exact HC0.out); rintro e w56 ⟨rfl, hb⟩; have n0_ := Aside0.mk (Kd.R_below (by (with_reducible repeat (first | apply Kd.R_alloc | apply Kd.R_drewN | apply Kd.R_drew)); exact HO226.out) hb); have n1_ := Aside0.mk (Kd.R_below (by (with_reducible repeat (first | apply Kd.R_alloc | apply Kd.R_drewN | apply Kd.R_drew)); exact HO230.out) hb); have n2_ := Aside0.mk (blk_below (g := gb212) (o := .cells #[.int .i64 a3_0, .int .i64 a3_1] 41 (0, 0)) (by (with_reducible repeat (first | refine blk_drewN ?_ _ | refine blk_drew ?_ | refine blk_alloc ?_ _)); exact BK212.out) hb); have n3_ := Aside0.mk (below_step (by repeat (first | (with_reducible first | exact HB.out | apply below_alloc | apply pw_below_drewN | apply below_drew1 | refine below_set ?_ GE212.out) | exact HB.out)) hb); clear HO226; clear HO230; clear BK212; clear HB; have HO226 := n0_; have HO230 := n1_; have BK212 := n2_; have HB := n3_; clear n0_ n1_ n2_ n3_; (try clear hb); (try clear hb2); (try clear hk); (try clear hi)) | (go_at_call 16; refine calls_of_args (args' := #[.slice A0 l0.length c0]) (by first | rfl) ?_; (with_reducible refine (impl_IsTrain.calls kj6 _ _ l0 t241 _ ?side1 ?side2 A48.out).mono ?_); (case side1 => repeat (first | exact (Kd.C_below HR0.out HB.out) | (with_reducible refine Kd.C_alloc ?_ _) | (with_reducible refine Kd.C_drewN ?_ _) | (with_reducible refine Kd.C_drew ?_))); (case side2 => exact HC0.out); rintro e w57 ⟨rfl, hb⟩; have n0_ := Aside0.mk (Kd.R_below (by (with_reducible repeat (first | apply Kd.R_alloc | apply Kd.R_drewN | apply Kd.R_drew)); exact HO226.out) hb); have n1_ := Aside0.mk (Kd.R_below (by (with_reducible repeat (first | apply Kd.R_alloc | apply Kd.R_drewN | apply Kd.R_drew)); exact HO230.out) hb); have n2_ := Aside0.mk (blk_below (g := gb212) (o := .cells #[.int .i64 a3_0, .int .i64 a3_1] 41 (0, 0)) (by (with_reducible repeat (first | refine blk_drewN ?_ _ | refine blk_drew ?_ | refine blk_alloc ?_ _)); exact BK212.out) hb); have n3_ := Aside0.mk (below_step (by repeat (first | (with_reducible first | exact HB.out | apply below_alloc | apply pw_below_drewN | apply below_drew1 | refine below_set ?_ GE212.out) | exact HB.out)) hb); clear HO226; clear HO230; clear BK212; clear HB; have HO226 := n0_; have HO230 := n1_; have BK212 := n2_; have HB := n3_; clear n0_ n1_ n2_ n3_; (try clear hb); (try clear hb2); (try clear hk); (try clear hi)) | (go_at_call 14; refine calls_of_args (args' := #[.slice A0 l0.length c0]) (by first | rfl) ?_; (with_reducible refine (spec_IsTrain.calls kj6 _ _ l0 t242 _ ?side1 ?side2 A49.out).mono ?_); (case side1 => repeat (first | exact (Kd.C_below HR0.out HB.out) | (with_reducible refine Kd.C_alloc ?_ _) | (with_reducible refine Kd.C_drewN ?_ _) | (with_reducible refine Kd.C_drew ?_))); (case side2 => exact HC0.out); rintro e w58 ⟨rfl, hb⟩; have n0_ := Aside0.mk (Kd.R_below (by (with_reducible repeat (first | apply Kd.R_alloc | apply Kd.R_drewN | apply Kd.R_drew)); exact HO226.out) hb); have n1_ := Aside0.mk (Kd.R_below (by (with_reducible repeat (first | apply Kd.R_alloc | apply Kd.R_drewN | apply Kd.R_drew)); exact HO230.out) hb); have n2_ := Aside0.mk (blk_below (g := gb212) (o := .cells #[.int .i64 a3_0, .int .i64 a3_1] 41 (0, 0)) (by (with_reducible repeat (first | refine blk_drewN ?_ _ | refine blk_drew ?_ | refine blk_alloc ?_ _)); exact BK212.out) hb); have n3_ := Aside0.mk (below_step (by repeat (first | (with_reducible first | exact HB.out | apply below_alloc | apply pw_below_drewN | apply below_drew1 | refine below_set ?_ GE212.out) | exact HB.out)) hb); clear HO226; clear HO230; clear BK212; clear HB; have HO226 := n0_; have HO230 := n1_; have BK212 := n2_; have HB := n3_; clear n0_ n1_ n2_ n3_; (try clear hb); (try clear hb2); (try clear hk); (try clear hi)))
                     go_meet
                     case rel => exact ⟨_, ((t236 != t215)), (by first | rfl | (simp; done) | (simp [*]; done)), H', ⟨by have := HJ6.out; first | omega | exact Nat.le_refl _⟩, ⟨by (with_reducible repeat (first | apply Kd.R_alloc | apply Kd.R_drewN | apply Kd.R_drew)); exact Kd.R_mono HO226.out (fun _ hk => hk.1.2)⟩, ⟨by (with_reducible repeat (first | refine blk_drewN ?_ _ | refine blk_drew ?_ | refine blk_alloc ?_ _)); exact BK212.out⟩, ⟨by repeat (first | (with_reducible first | exact HB.out | apply below_alloc | apply pw_below_drewN | apply below_drew1 | refine below_set ?_ GE212.out) | exact HB.out)⟩⟩
               ·
                rw [if_neg c45] at H
                exact absurd H (by simp)
             ·
              rw [if_neg c43] at H
              exact absurd H (by simp)
           ·
            replace c41 := Bool.eq_false_iff.mpr c41
            subst c41
            have H1 : (none) = some r := by rw [if_neg (show ¬ (false = true) by decide)] at H; exact H
            clear H
            have H := H1
            clear H1
            exact absurd H (by simp)
         ·
          rw [if_neg c38] at H
          exact absurd H (by simp)
       ·
        rw [if_neg c36] at H
        exact absurd H (by simp)
      ·
       rw [if_neg c35] at H
       exact absurd H (by simp)
    case rest => as_aux_lemma =>
     clear HC23
     try clear c1
     try clear c4
     try clear c5
     try clear c12
     obtain ⟨kq, x234_22, rfl, HA, HJ22, HO_23, BK212, HB⟩ := hcut
     cases kq with
     | zero => exact absurd HA.out (by simp [laws_FnTrainsTurnOfAll.j1])
     | succ kj22 =>
      have H := HA.out
      clear HA
      simp only [laws_FnTrainsTurnOfAll.j1] at H
      by_cases c59 : x234_22 = true
      ·
       subst c59
       have H1 : (none) = some r := by rw [if_pos rfl] at H; exact H
       clear H
       have H := H1
       clear H1
       exact absurd H (by simp)
      ·
       replace c59 := Bool.eq_false_iff.mpr c59
       subst c59
       have H1 : (if t215 = true then (laws_FnTrainsTurnOfAll.l0 kj22 l0 l1 a2 l4 l5 t213 t214 t219 t223 t231 t235 1 1 0 l0 (l0.length : Int) 0 a3_0 a3_1) else (laws_FnTrainsTurnOfAll.j5 kj22 l1 a2 l4 l5 a3_0 a3_1)) = some r := by rw [if_neg (show ¬ (false = true) by decide)] at H; exact H
       clear H
       have H := H1
       clear H1
       have HC60 := Aside0.mk H
       clear H
       go_upto_if 235 with (fail)
       go_cut [] from 235 to 336 (fun wc => ∃ (kq : Nat), Aside0 (laws_FnTrainsTurnOfAll.j5 kq l1 a2 l4 l5 a3_0 a3_1 = some r) ∧ Aside0 (kq ≤ kj22) ∧ Aside0 (wc.heap[gb212]? = some (.cells #[.int .i64 a3_0, .int .i64 a3_1] 41 (0, 0))) ∧ Aside0 (Below w.heap.size w wc))
       case first => as_aux_lemma =>
        have H := HC60.out
        clear HC60
        by_cases c61 : t215 = true
        ·
         subst c61
         have H1 : (laws_FnTrainsTurnOfAll.l0 kj22 l0 l1 a2 l4 l5 t213 t214 t219 t223 t231 t235 1 1 0 l0 (l0.length : Int) 0 a3_0 a3_1) = some r := by rw [if_pos rfl] at H; exact H
         clear H
         have H := H1
         clear H1
         have H' := Aside0.mk H
         clear H
         go_wp2
         go_loopg [35, 36, 37, 238] kj22 (fun kq v35 v36 v37 v238 w' => ∃ (x35_3 : Int) (x36_3 : Int) (x37_3 : Int) (x238_3 : Int), v35 = .int .i64 x35_3 ∧ v36 = .int .i64 x36_3 ∧ v37 = .int .i64 x37_3 ∧ v238 = .int .i64 x238_3 ∧ Aside0 (laws_FnTrainsTurnOfAll.l0 kq l0 l1 a2 l4 l5 t213 t214 t219 t223 t231 t235 x35_3 x36_3 x37_3 l0 (l0.length : Int) x238_3 a3_0 a3_1 = some r) ∧ Aside0 (kq ≤ kj22) ∧ Aside0 (Kd.R k41 41 w' w.heap.size (fun k_ => k_ ≠ gb212) v225 t223) ∧ Aside0 (w'.heap[gb212]? = some (.cells #[.int .i64 a3_0, .int .i64 a3_1] 41 (0, 0))) ∧ Aside0 (Below w.heap.size w w'))
         case atStart => exact ⟨(1), (1), (0), (0), (by first | rfl | (simp; done) | (simp [*]; done)), (by first | rfl | (simp; done) | (simp [*]; done)), (by first | rfl | (simp; done) | (simp [*]; done)), (by first | rfl | (simp; done) | (simp [*]; done)), H', ⟨Nat.le_refl _⟩, ⟨by (with_reducible repeat (first | apply Kd.R_alloc | apply Kd.R_drewN | apply Kd.R_drew)); exact HO_23.out⟩, ⟨by (with_reducible repeat (first | refine blk_drewN ?_ _ | refine blk_drew ?_ | refine blk_alloc ?_ _)); exact BK212.out⟩, ⟨by repeat (first | (with_reducible first | exact HB.out | apply below_alloc | apply pw_below_drewN | apply below_drew1 | refine below_set ?_ GE212.out) | exact HB.out)⟩⟩
         case round => as_aux_lemma =>
          clear H'
          try clear c1
          try clear c4
          try clear c5
          try clear c12
          try clear c59
          try clear c61
          obtain ⟨x35_3, x36_3, x37_3, x238_3, rfl, rfl, rfl, rfl, HA, HK3, HO_23, BK212, HB⟩ := hrel
          cases gk with
          | zero => exact absurd HA.out (by simp [laws_FnTrainsTurnOfAll.l0])
          | succ k3 =>
           have H := HA.out
           clear HA
           simp only [laws_FnTrainsTurnOfAll.l0] at H
           by_cases c62 : x238_3 < (l0.length : Int)
           ·
            rw [if_pos c62] at H
            have c62b0 : decide (x238_3 < (l0.length : Int)) = true := decide_eq_true c62
            clear c62
            (first | rw [c62b0] | (simp only [i64_w, i32_w]; rw [c62b0]) | skip)
            by_cases c63 : 0 ≤ x238_3
            ·
             rw [if_pos c63] at H
             have c63b0 : decide (0 ≤ x238_3) = true := decide_eq_true c63
             clear c63
             by_cases c64 : x238_3 < (l0.length : Int)
             ·
              rw [if_pos c64] at H
              have c64b0 : decide (x238_3 < (l0.length : Int)) = true := decide_eq_true c64
              clear c64
              replace H := Option.bind_eq_some_iff.mp H
              obtain ⟨t245, A650, H⟩ := H
              replace H : (if t245 = true then (laws_FnTrainsTurnOfAll.l0 k3 l0 l1 a2 l4 l5 t213 t214 t219 t223 t231 t235 (wrap64 (x35_3 * ((rd_T41 l0 x238_3).f0))) (wrap64 (x36_3 * ((rd_T41 l0 x238_3).f1))) (wrap64 (x37_3 + (wrap64 (((rd_T41 l0 x238_3).f0) + ((rd_T41 l0 x238_3).f1))))) l0 (l0.length : Int) (wrap64 (x238_3 + 1)) a3_0 a3_1) else (none)) = some r := H
              have A65 := Aside0.mk A650
              clear A650
              by_cases c66 : t245 = true
              ·
               subst c66
               have H1 : (laws_FnTrainsTurnOfAll.l0 k3 l0 l1 a2 l4 l5 t213 t214 t219 t223 t231 t235 (wrap64 (x35_3 * ((rd_T41 l0 x238_3).f0))) (wrap64 (x36_3 * ((rd_T41 l0 x238_3).f1))) (wrap64 (x37_3 + (wrap64 (((rd_T41 l0 x238_3).f0) + ((rd_T41 l0 x238_3).f1))))) l0 (l0.length : Int) (wrap64 (x238_3 + 1)) a3_0 a3_1) = some r := by rw [if_pos rfl] at H; exact H
               clear H
               have H := H1
               clear H1
               have H' := Aside0.mk H
               clear H
               have p243 : 0 ≤ (x238_3 : Int) := of_decide_eq_true (by first | (with_reducible assumption) | assumption)
               have q243 : x238_3 < (l0.length : Int) := of_decide_eq_true (by first | (with_reducible assumption) | assumption)
               obtain ⟨ad243, e243, hx243_0, hx243_1⟩ := at_T41 HR0.out x238_3 p243 q243
               cases e243
               replace hx243_0 := (HB.out.cell (World.block_lt_of_cell? w _ hx243_0)).trans hx243_0
               replace hx243_1 := (HB.out.cell (World.block_lt_of_cell? w _ hx243_1)).trans hx243_1
               replace p243 := eq_true p243
               replace q243 := eq_true q243
               go_wp2_with (first | ((with_reducible refine gate_dst (N := 39) rfl ?_); (try (refine gate_guard (by rfl) ?_; dsimp only)); refine box_event ?hg (N := 39) ?hd (cs := #[.int .i64 0, .int .i64 0]) (t := 41) ?hr ?_; (case hd => rfl); (case hg => rfl); (case hr => first | (go_simp; done) | (go_simp; rfl)); intro gb244 hg w67 hbox hb; have n0_ := Aside0.mk (Kd.R_below (Kd.R_elderB (by (with_reducible repeat (first | apply Kd.R_alloc | apply Kd.R_drewN | apply Kd.R_drew)); exact HO_23.out) gb244 (Nat.le_of_eq hg.symm)) hb); have n1_ := Aside0.mk (blk_below (g := gb212) (o := .cells #[.int .i64 a3_0, .int .i64 a3_1] 41 (0, 0)) (by (with_reducible repeat (first | refine blk_drewN ?_ _ | refine blk_drew ?_ | refine blk_alloc ?_ _)); exact BK212.out) hb); have n2_ := Aside0.mk (below_step (by repeat (first | (with_reducible first | exact HB.out | apply below_alloc | apply pw_below_drewN | apply below_drew1 | refine below_set ?_ GE212.out) | exact HB.out)) hb); have n3_ := Aside0.mk (hbox); have n4_ := Aside0.mk ((by rw [hg]; exact (below_size (by repeat (first | (with_reducible first | exact HB.out | apply below_alloc | apply pw_below_drewN | apply below_drew1 | refine below_set ?_ GE212.out) | exact HB.out))) : w.heap.size ≤ gb244)); have n5_ := Aside0.mk ((by rw [hg]; exact (below_size (by repeat (first | (with_reducible first | exact HB.out | apply below_alloc | apply pw_below_drewN | apply below_drew1 | refine below_set ?_ GE212.out) | exact HB.out))) : w.heap.size ≤ gb244)); have n6_ := Aside0.mk ((by rw [hg]; exact Nat.ne_of_lt (blk_lt (g := gb212) (o := .cells #[.int .i64 a3_0, .int .i64 a3_1] 41 (0, 0)) (by (with_reducible repeat (first | refine blk_drewN ?_ _ | refine blk_drew ?_ | refine blk_alloc ?_ _)); exact BK212.out)) : gb212 ≠ gb244)); have n7_ := Aside0.mk ((by rw [hg]; exact Nat.ne_of_gt (blk_lt (g := gb212) (o := .cells #[.int .i64 a3_0, .int .i64 a3_1] 41 (0, 0)) (by (with_reducible repeat (first | refine blk_drewN ?_ _ | refine blk_drew ?_ | refine blk_alloc ?_ _)); exact BK212.out)) : gb244 ≠ gb212)); clear HO_23; clear BK212; clear HB; have HO_23 := n0_; have BK212 := n1_; have HB := n2_; have BK244 := n3_; have GW244 := n4_; have GE244 := n5_; have NB212_244 := n6_; have NB244_212 := n7_; clear n0_ n1_ n2_ n3_ n4_ n5_ n6_ n7_; clear hb hbox hg; have hnb68 := NB244_212.out; have hnc68 := NB212_244.out; have hcz69_0 : w67.cell? ⟨gb244, 0, none⟩ = some (.int .i64 0) := (blk_cell BK244.out 0).trans rfl; have hcz69_1 : w67.cell? ⟨gb244, 1, none⟩ = some (.int .i64 0) := (blk_cell BK244.out 1).trans rfl; have hfz69_0 := blk_frozen BK244.out 0; have hfz69_1 := blk_frozen BK244.out 1) | ((with_reducible refine gate_callee (f := 35) rfl ?_); refine goesL_ (some 258) rfl rfl Try.func35 (by kernel_rfl) rfl #[.agg #[.int .i64 ((rd_T41 l0 x238_3).f0), .int .i64 ((rd_T41 l0 x238_3).f1)]] rfl (by (try simp only [List.map_toArray, List.map_cons, List.map_nil]); first | done | rfl | (simp only [List.length_drop, List.length_take]; rfl)) ?_; (with_reducible refine (impl_IsPair.calls ((rd_T41 l0 x238_3).f0) ((rd_T41 l0 x238_3).f1) true _ A65.out).mono ?_); rintro e w70 ⟨rfl, hb⟩; refine ⟨_, rfl, ?_⟩; have n0_ := Aside0.mk (Kd.R_below (by (with_reducible repeat (first | apply Kd.R_alloc | apply Kd.R_drewN | apply Kd.R_drew)); exact (Kd.R_mono (Kd.R_far (p := ⟨gb244, 1, none⟩) (Kd.R_far (p := ⟨gb244, 0, none⟩) (Kd.R_mono HO_23.out (fun k_ hk => (⟨hk, hk.2⟩ : _ ∧ k_ ≠ gb244))) (fun _ hk => hk.2) (.int .i64 ((rd_T41 l0 x238_3).f0))) (fun _ hk => hk.2) (.int .i64 ((rd_T41 l0 x238_3).f1))) (fun _ h_ => h_.1))) hb); have n1_ := Aside0.mk (blk_below (g := gb212) (o := .cells #[.int .i64 a3_0, .int .i64 a3_1] 41 (0, 0)) (by (with_reducible repeat (first | refine blk_drewN ?_ _ | refine blk_drew ?_ | refine blk_alloc ?_ _)); refine blk_far ?_ NB212_244.out _; (with_reducible repeat (first | refine blk_drewN ?_ _ | refine blk_drew ?_ | refine blk_alloc ?_ _)); refine blk_far ?_ NB212_244.out _; (with_reducible repeat (first | refine blk_drewN ?_ _ | refine blk_drew ?_ | refine blk_alloc ?_ _)); exact BK212.out) hb); have n2_ := Aside0.mk (blk_below (g := gb244) (o := .cells #[.int .i64 ((rd_T41 l0 x238_3).f0), .int .i64 ((rd_T41 l0 x238_3).f1)] 41 (0, 0)) (by (with_reducible repeat (first | refine blk_drewN ?_ _ | refine blk_drew ?_ | refine blk_alloc ?_ _)); refine blk_put (cs := #[.int .i64 ((rd_T41 l0 x238_3).f0), .int .i64 0]) ?_ 1 _ rfl; (with_reducible repeat (first | refine blk_drewN ?_ _ | refine blk_drew ?_ | refine blk_alloc ?_ _)); refine blk_put (cs := #[.int .i64 0, .int .i64 0]) ?_ 0 _ rfl; (with_reducible repeat (first | refine blk_drewN ?_ _ | refine blk_drew ?_ | refine blk_alloc ?_ _)); exact BK244.out) hb); have n3_ := Aside0.mk (below_step (by repeat (first | (with_reducible first | exact HB.out | apply below_alloc | apply pw_below_drewN | apply below_drew1 | refine below_set ?_ GE212.out | refine below_set ?_ GE244.out) | exact HB.out)) hb); clear HO_23; clear BK212; clear BK244; clear HB; have HO_23 := n0_; have BK212 := n1_; have BK244 := n2_; have HB := n3_; clear n0_ n1_ n2_ n3_; (try clear hb); (try clear hb2); (try clear hk); (try clear hi)))
               go_roundg k3
               case measure => have := HJ6.out; have := HJ22.out; have := HK3.out; omega
               case rel => exact ⟨(wrap64 (x35_3 * ((rd_T41 l0 x238_3).f0))), (wrap64 (x36_3 * ((rd_T41 l0 x238_3).f1))), (wrap64 (x37_3 + (wrap64 (((rd_T41 l0 x238_3).f0) + ((rd_T41 l0 x238_3).f1))))), (wrap64 (x238_3 + 1)), (by first | rfl | (simp; done) | (simp [*]; done)), (by first | rfl | (simp; done) | (simp [*]; done)), (by first | rfl | (simp; done) | (simp [*]; done)), (by first | rfl | (simp; done) | (simp [*]; done)), H', ⟨by have := HJ6.out; have := HJ22.out; have := HK3.out; omega⟩, ⟨by (with_reducible repeat (first | apply Kd.R_alloc | apply Kd.R_drewN | apply Kd.R_drew)); exact Kd.R_mono HO_23.out (fun _ hk => hk.1)⟩, ⟨by (with_reducible repeat (first | refine blk_drewN ?_ _ | refine blk_drew ?_ | refine blk_alloc ?_ _)); exact BK212.out⟩, ⟨by repeat (first | (with_reducible first | exact HB.out | apply below_alloc | apply pw_below_drewN | apply below_drew1 | refine below_set ?_ GE212.out | refine below_set ?_ GE244.out) | exact HB.out)⟩⟩
              ·
               replace c66 := Bool.eq_false_iff.mpr c66
               subst c66
               have H1 : (none) = some r := by rw [if_neg (show ¬ (false = true) by decide)] at H; exact H
               clear H
               have H := H1
               clear H1
               exact absurd H (by simp)
             ·
              rw [if_neg c64] at H
              exact absurd H (by simp)
            ·
             rw [if_neg c63] at H
             exact absurd H (by simp)
           ·
            rw [if_neg c62] at H
            have c62b0 : decide (x238_3 < (l0.length : Int)) = false := decide_eq_false c62
            clear c62
            (first | rw [c62b0] | (simp only [i64_w, i32_w]; rw [c62b0]) | skip)
            replace H := Option.bind_eq_some_iff.mp H
            obtain ⟨⟨t246, t247, t248⟩, A710, H⟩ := H
            replace H : ((impl_BackTrain.f k3 t223).bind fun bt249 => (if (wrap64 (t213 * x36_3)) = (wrap64 (x35_3 * t214)) then (if t213 < 1 then (none) else (if t214 < 1 then (none) else (if t248 = true then (if t246 = t214 then (if t247 = t213 then (if bt249.2 = true then ((laws_kPairs.f k3 bt249.1 l0).bind fun t253 => (if t253 = true then (if x37_3 = t235 then (if t219 = 1 then (if ((t219 == 1) != (((l0.length : Int) % 2) == 0)) = true then (none) else (laws_FnTrainsTurnOfAll.j3 k3 l0 l1 a2 l4 l5 t231 (decide (t231 < 1)) a3_0 a3_1)) else (if t219 = (-1) then (if ((t219 == 1) != (((l0.length : Int) % 2) == 0)) = true then (none) else (laws_FnTrainsTurnOfAll.j3 k3 l0 l1 a2 l4 l5 t231 (decide (t231 < 1)) a3_0 a3_1)) else (none))) else (none)) else (none))) else (none)) else (none)) else (none)) else (none)))) else (none))) = some r := H
            have A71 := Aside0.mk A710
            clear A710
            replace H := Option.bind_eq_some_iff.mp H
            obtain ⟨⟨t249, t250⟩, A720, H⟩ := H
            replace H : (if (wrap64 (t213 * x36_3)) = (wrap64 (x35_3 * t214)) then (if t213 < 1 then (none) else (if t214 < 1 then (none) else (if t248 = true then (if t246 = t214 then (if t247 = t213 then (if t250 = true then ((laws_kPairs.f k3 t249 l0).bind fun t253 => (if t253 = true then (if x37_3 = t235 then (if t219 = 1 then (if ((t219 == 1) != (((l0.length : Int) % 2) == 0)) = true then (none) else (laws_FnTrainsTurnOfAll.j3 k3 l0 l1 a2 l4 l5 t231 (decide (t231 < 1)) a3_0 a3_1)) else (if t219 = (-1) then (if ((t219 == 1) != (((l0.length : Int) % 2) == 0)) = true then (none) else (laws_FnTrainsTurnOfAll.j3 k3 l0 l1 a2 l4 l5 t231 (decide (t231 < 1)) a3_0 a3_1)) else (none))) else (none)) else (none))) else (none)) else (none)) else (none)) else (none)))) else (none)) = some r := H
            have A72 := Aside0.mk A720
            clear A720
            have HC73 := Aside0.mk H
            clear H
            obtain ⟨Ao74, co74, eo74⟩ := Kd.R_slice HO_23.out
            subst eo74
            go_upto_region 29 with (first | ((with_reducible refine gate_callee (f := 23) rfl ?_); refine goesL_ (some 263) rfl rfl Try.func23 (by kernel_rfl) rfl #[.slice Ao74 t223.length co74] rfl (by (try simp only [List.map_toArray, List.map_cons, List.map_nil]); first | done | rfl | (simp only [List.length_drop, List.length_take]; rfl)) ?_; (with_reducible refine (impl_RatioOf.calls k3 _ _ t223 t246 t247 t248 _ ?side1 ?side2 A71.out).mono ?_); (case side1 => repeat (first | exact (Kd.R_reads' HO_23.out).2.2 | (with_reducible refine Kd.C_alloc ?_ _) | (with_reducible refine Kd.C_drewN ?_ _) | (with_reducible refine Kd.C_drew ?_))); (case side2 => exact (Kd.R_reads' HO_23.out).2.1); rintro e w75 ⟨rfl, hb⟩; refine ⟨_, rfl, ?_⟩; have n0_ := Aside0.mk (Kd.R_below (by (with_reducible repeat (first | apply Kd.R_alloc | apply Kd.R_drewN | apply Kd.R_drew)); exact HO_23.out) hb); have n1_ := Aside0.mk (blk_below (g := gb212) (o := .cells #[.int .i64 a3_0, .int .i64 a3_1] 41 (0, 0)) (by (with_reducible repeat (first | refine blk_drewN ?_ _ | refine blk_drew ?_ | refine blk_alloc ?_ _)); exact BK212.out) hb); have n2_ := Aside0.mk (below_step (by repeat (first | (with_reducible first | exact HB.out | apply below_alloc | apply pw_below_drewN | apply below_drew1 | refine below_set ?_ GE212.out) | exact HB.out)) hb); clear HO_23; clear BK212; clear HB; have HO_23 := n0_; have BK212 := n1_; have HB := n2_; clear n0_ n1_ n2_; (try clear hb); (try clear hb2); (try clear hk); (try clear hi)) | ((with_reducible refine gate_callee (f := 25) rfl ?_); refine goesL_ (some 269) rfl rfl Try.func25 (by kernel_rfl) rfl #[.slice Ao74 t223.length co74] rfl (by (try simp only [List.map_toArray, List.map_cons, List.map_nil]); first | done | rfl | (simp only [List.length_drop, List.length_take]; rfl)) ?_; (with_reducible refine (impl_BackTrain.calls k3 _ _ t223 t249 t250 _ ?side1 ?side2 A72.out).mono ?_); (case side1 => repeat (first | exact (Kd.R_reads' HO_23.out).2.2 | (with_reducible refine Kd.C_alloc ?_ _) | (with_reducible refine Kd.C_drewN ?_ _) | (with_reducible refine Kd.C_drew ?_))); (case side2 => exact (Kd.R_reads' HO_23.out).2.1); rintro e w76 ⟨v251, rfl, ho0, hb⟩; refine ⟨_, rfl, ?_⟩; have n0_ := Aside0.mk (Kd.R_elder' (by (with_reducible repeat (first | apply Kd.R_alloc | apply Kd.R_drewN | apply Kd.R_drew)); exact HO_23.out) (Kd.R_base ho0) hb); have n1_ := Aside0.mk (Kd.R_lower (Kd.R_newB (Kd.R_new' ho0 (Kd.R_lt (by (with_reducible repeat (first | apply Kd.R_alloc | apply Kd.R_drewN | apply Kd.R_drew)); exact HO_23.out))) (g := gb212) (o := .cells #[.int .i64 a3_0, .int .i64 a3_1] 41 (0, 0)) (by (with_reducible repeat (first | refine blk_drewN ?_ _ | refine blk_drew ?_ | refine blk_alloc ?_ _)); exact BK212.out)) (below_size (by repeat (first | (with_reducible first | exact HB.out | apply below_alloc | apply pw_below_drewN | apply below_drew1 | refine below_set ?_ GE212.out) | exact HB.out)))); have n2_ := Aside0.mk (blk_below (g := gb212) (o := .cells #[.int .i64 a3_0, .int .i64 a3_1] 41 (0, 0)) (by (with_reducible repeat (first | refine blk_drewN ?_ _ | refine blk_drew ?_ | refine blk_alloc ?_ _)); exact BK212.out) hb); have n3_ := Aside0.mk (below_step (by repeat (first | (with_reducible first | exact HB.out | apply below_alloc | apply pw_below_drewN | apply below_drew1 | refine below_set ?_ GE212.out) | exact HB.out)) hb); clear HO_23; clear BK212; clear HB; have HO_23 := n0_; have HO252 := n1_; have BK212 := n2_; have HB := n3_; clear n0_ n1_ n2_ n3_; (try clear hb); (try clear hb2); (try clear hk); (try clear hi); (try clear ho0)))
            (try simp only [Act.put, List.setIfInBounds_toArray, List.set_cons_zero, List.set_cons_succ])
            go_cut [336] from 235 to 336 (fun v336 wc => ∃ (kq : Nat) (x336_72 : Bool), v336 = .bool x336_72 ∧ Aside0 (laws_FnTrainsTurnOfAll.j3 kq l0 l1 a2 l4 l5 t231 x336_72 a3_0 a3_1 = some r) ∧ Aside0 (kq ≤ k3) ∧ Aside0 (wc.heap[gb212]? = some (.cells #[.int .i64 a3_0, .int .i64 a3_1] 41 (0, 0))) ∧ Aside0 (Below w.heap.size w wc))
            case first => as_aux_lemma =>
             have H := HC73.out
             clear HC73
             by_cases c77 : (wrap64 (t213 * x36_3)) = (wrap64 (x35_3 * t214))
             ·
              rw [if_pos c77] at H
              have c77b0 : ((wrap64 (t213 * x36_3)) == (wrap64 (x35_3 * t214))) = true := beq_iff_eq.mpr c77
              have c77b1 : ((wrap64 (t213 * x36_3)) != (wrap64 (x35_3 * t214))) = false := bne_eq_false_iff_eq.mpr c77
              clear c77
              (first | rw [c77b0] | (simp only [i64_w, i32_w]; rw [c77b0]) | skip)
              by_cases c78 : t213 < 1
              ·
               rw [if_pos c78] at H
               exact absurd H (by simp)
              ·
               rw [if_neg c78] at H
               have c78b0 : decide (t213 < 1) = false := decide_eq_false c78
               clear c78
               by_cases c79 : t214 < 1
               ·
                rw [if_pos c79] at H
                exact absurd H (by simp)
               ·
                rw [if_neg c79] at H
                have c79b0 : decide (t214 < 1) = false := decide_eq_false c79
                clear c79
                by_cases c80 : t248 = true
                ·
                 subst c80
                 have H1 : (if t246 = t214 then (if t247 = t213 then (if t250 = true then ((laws_kPairs.f k3 t249 l0).bind fun t253 => (if t253 = true then (if x37_3 = t235 then (if t219 = 1 then (if ((t219 == 1) != (((l0.length : Int) % 2) == 0)) = true then (none) else (laws_FnTrainsTurnOfAll.j3 k3 l0 l1 a2 l4 l5 t231 (decide (t231 < 1)) a3_0 a3_1)) else (if t219 = (-1) then (if ((t219 == 1) != (((l0.length : Int) % 2) == 0)) = true then (none) else (laws_FnTrainsTurnOfAll.j3 k3 l0 l1 a2 l4 l5 t231 (decide (t231 < 1)) a3_0 a3_1)) else (none))) else (none)) else (none))) else (none)) else (none)) else (none)) = some r := by rw [if_pos rfl] at H; exact H
                 clear H
                 have H := H1
                 clear H1
                 by_cases c81 : t246 = t214
                 ·
                  rw [if_pos c81] at H
                  have c81b0 : (t246 == t214) = true := beq_iff_eq.mpr c81
                  have c81b1 : (t246 != t214) = false := bne_eq_false_iff_eq.mpr c81
                  clear c81
                  by_cases c82 : t247 = t213
                  ·
                   rw [if_pos c82] at H
                   have c82b0 : (t247 == t213) = true := beq_iff_eq.mpr c82
                   have c82b1 : (t247 != t213) = false := bne_eq_false_iff_eq.mpr c82
                   clear c82
                   by_cases c83 : t250 = true
                   ·
                    subst c83
                    have H1 : ((laws_kPairs.f k3 t249 l0).bind fun t253 => (if t253 = true then (if x37_3 = t235 then (if t219 = 1 then (if ((t219 == 1) != (((l0.length : Int) % 2) == 0)) = true then (none) else (laws_FnTrainsTurnOfAll.j3 k3 l0 l1 a2 l4 l5 t231 (decide (t231 < 1)) a3_0 a3_1)) else (if t219 = (-1) then (if ((t219 == 1) != (((l0.length : Int) % 2) == 0)) = true then (none) else (laws_FnTrainsTurnOfAll.j3 k3 l0 l1 a2 l4 l5 t231 (decide (t231 < 1)) a3_0 a3_1)) else (none))) else (none)) else (none))) = some r := by rw [if_pos rfl] at H; exact H
                    clear H
                    have H := H1
                    clear H1
                    replace H := Option.bind_eq_some_iff.mp H
                    obtain ⟨t253, A840, H⟩ := H
                    replace H : (if t253 = true then (if x37_3 = t235 then (if t219 = 1 then (if ((t219 == 1) != (((l0.length : Int) % 2) == 0)) = true then (none) else (laws_FnTrainsTurnOfAll.j3 k3 l0 l1 a2 l4 l5 t231 (decide (t231 < 1)) a3_0 a3_1)) else (if t219 = (-1) then (if ((t219 == 1) != (((l0.length : Int) % 2) == 0)) = true then (none) else (laws_FnTrainsTurnOfAll.j3 k3 l0 l1 a2 l4 l5 t231 (decide (t231 < 1)) a3_0 a3_1)) else (none))) else (none)) else (none)) = some r := H
                    have A84 := Aside0.mk A840
                    clear A840
                    by_cases c85 : t253 = true
                    ·
                     subst c85
                     have H1 : (if x37_3 = t235 then (if t219 = 1 then (if ((t219 == 1) != (((l0.length : Int) % 2) == 0)) = true then (none) else (laws_FnTrainsTurnOfAll.j3 k3 l0 l1 a2 l4 l5 t231 (decide (t231 < 1)) a3_0 a3_1)) else (if t219 = (-1) then (if ((t219 == 1) != (((l0.length : Int) % 2) == 0)) = true then (none) else (laws_FnTrainsTurnOfAll.j3 k3 l0 l1 a2 l4 l5 t231 (decide (t231 < 1)) a3_0 a3_1)) else (none))) else (none)) = some r := by rw [if_pos rfl] at H; exact H
                     clear H
                     have H := H1
                     clear H1
                     by_cases c86 : x37_3 = t235
                     ·
                      rw [if_pos c86] at H
                      have c86b0 : (x37_3 == t235) = true := beq_iff_eq.mpr c86
                      have c86b1 : (x37_3 != t235) = false := bne_eq_false_iff_eq.mpr c86
                      clear c86
                      by_cases c87 : t219 = 1
                      ·
                       rw [if_pos c87] at H
                       have c87b0 : (t219 == 1) = true := beq_iff_eq.mpr c87
                       have c87b1 : (t219 != 1) = false := bne_eq_false_iff_eq.mpr c87
                       clear c87
                       by_cases c88 : ((t219 == 1) != (((l0.length : Int) % 2) == 0)) = true
                       ·
                        rw [if_pos c88] at H
                        exact absurd H (by simp)
                       ·
                        rw [if_neg c88] at H
                        have c88b0 : ((t219 == 1) != (((l0.length : Int) % 2) == 0)) = false := by simpa using c88
                        have c88b9 : (((l0.length : Int) % 2) == 0) = true := by have z_ := c88b0; rw [c87b0] at z_; cases q_ : (((l0.length : Int) % 2) == 0) <;> simp [q_] at z_ ⊢
                        (try (have c88b1 : decide ((t219 == 1) = (((l0.length : Int) % 2) == 0)) = true := by simpa using c88))
                        (try (have c88b2 : ((t219 == 1) == (((l0.length : Int) % 2) == 0)) = true := by simpa using c88))
                        clear c88
                        have H' := Aside0.mk H
                        clear H
                        obtain ⟨Ao89, co89, eo89⟩ := Kd.R_slice HO252.out
                        subst eo89
                        go_wp2_with (first | (go_at_call 34; refine calls_of_args (args' := #[.slice Ao89 t249.length co89, .slice A0 l0.length c0]) (by first | rfl) ?_; (with_reducible refine (laws_kPairs.calls k3 _ _ t249 _ _ l0 true _ ?side1 ?side2 ?side3 ?side4 A84.out).mono ?_); (case side1 => repeat (first | exact (Kd.R_reads' HO252.out).2.2 | (with_reducible refine Kd.C_alloc ?_ _) | (with_reducible refine Kd.C_drewN ?_ _) | (with_reducible refine Kd.C_drew ?_))); (case side2 => exact (Kd.R_reads' HO252.out).2.1); (case side3 => repeat (first | exact (Kd.C_below HR0.out HB.out) | (with_reducible refine Kd.C_alloc ?_ _) | (with_reducible refine Kd.C_drewN ?_ _) | (with_reducible refine Kd.C_drew ?_))); (case side4 => exact HC0.out); rintro e w' ⟨rfl, ⟨nd, rfl⟩⟩))
                        go_meet
                        case rel => exact ⟨_, (decide (t231 < 1)), (by first | rfl | (simp; done) | (simp [*]; done)), H', ⟨by have := HJ6.out; have := HJ22.out; have := HK3.out; first | omega | exact Nat.le_refl _⟩, ⟨by (with_reducible repeat (first | refine blk_drewN ?_ _ | refine blk_drew ?_ | refine blk_alloc ?_ _)); exact BK212.out⟩, ⟨by repeat (first | (with_reducible first | exact HB.out | apply below_alloc | apply pw_below_drewN | apply below_drew1 | refine below_set ?_ GE212.out) | exact HB.out)⟩⟩
                      ·
                       rw [if_neg c87] at H
                       have c87b0 : (t219 == 1) = false := beq_eq_false_iff_ne.mpr c87
                       have c87b1 : (t219 != 1) = true := bne_iff_ne.mpr c87
                       by_cases c90 : t219 = (-1)
                       ·
                        rw [if_pos c90] at H
                        have c90b0 : (t219 == (-1)) = true := beq_iff_eq.mpr c90
                        have c90b1 : (t219 != (-1)) = false := bne_eq_false_iff_eq.mpr c90
                        clear c90
                        by_cases c91 : ((t219 == 1) != (((l0.length : Int) % 2) == 0)) = true
                        ·
                         rw [if_pos c91] at H
                         exact absurd H (by simp)
                        ·
                         rw [if_neg c91] at H
                         have c91b0 : ((t219 == 1) != (((l0.length : Int) % 2) == 0)) = false := by simpa using c91
                         have c91b9 : (((l0.length : Int) % 2) == 0) = false := by have z_ := c91b0; rw [c87b0] at z_; cases q_ : (((l0.length : Int) % 2) == 0) <;> simp [q_] at z_ ⊢
                         (try (have c91b1 : decide ((t219 == 1) = (((l0.length : Int) % 2) == 0)) = true := by simpa using c91))
                         (try (have c91b2 : ((t219 == 1) == (((l0.length : Int) % 2) == 0)) = true := by simpa using c91))
                         clear c91
                         have H' := Aside0.mk H
                         clear H
                         obtain ⟨Ao92, co92, eo92⟩ := Kd.R_slice HO252.out
                         subst eo92
                         go_wp2_with (first | (go_at_call 34; refine calls_of_args (args' := #[.slice Ao92 t249.length co92, .slice A0 l0.length c0]) (by first | rfl) ?_; (with_reducible refine (laws_kPairs.calls k3 _ _ t249 _ _ l0 true _ ?side1 ?side2 ?side3 ?side4 A84.out).mono ?_); (case side1 => repeat (first | exact (Kd.R_reads' HO252.out).2.2 | (with_reducible refine Kd.C_alloc ?_ _) | (with_reducible refine Kd.C_drewN ?_ _) | (with_reducible refine Kd.C_drew ?_))); (case side2 => exact (Kd.R_reads' HO252.out).2.1); (case side3 => repeat (first | exact (Kd.C_below HR0.out HB.out) | (with_reducible refine Kd.C_alloc ?_ _) | (with_reducible refine Kd.C_drewN ?_ _) | (with_reducible refine Kd.C_drew ?_))); (case side4 => exact HC0.out); rintro e w' ⟨rfl, ⟨nd, rfl⟩⟩))
                         go_meet
                         case rel => exact ⟨_, (decide (t231 < 1)), (by first | rfl | (simp; done) | (simp [*]; done)), H', ⟨by have := HJ6.out; have := HJ22.out; have := HK3.out; first | omega | exact Nat.le_refl _⟩, ⟨by (with_reducible repeat (first | refine blk_drewN ?_ _ | refine blk_drew ?_ | refine blk_alloc ?_ _)); exact BK212.out⟩, ⟨by repeat (first | (with_reducible first | exact HB.out | apply below_alloc | apply pw_below_drewN | apply below_drew1 | refine below_set ?_ GE212.out) | exact HB.out)⟩⟩
                       ·
                        rw [if_neg c90] at H
                        exact absurd H (by simp)
                     ·
                      rw [if_neg c86] at H
                      exact absurd H (by simp)
                    ·
                     replace c85 := Bool.eq_false_iff.mpr c85
                     subst c85
                     have H1 : (none) = some r := by rw [if_neg (show ¬ (false = true) by decide)] at H; exact H
                     clear H
                     have H := H1
                     clear H1
                     exact absurd H (by simp)
                   ·
                    replace c83 := Bool.eq_false_iff.mpr c83
                    subst c83
                    have H1 : (none) = some r := by rw [if_neg (show ¬ (false = true) by decide)] at H; exact H
                    clear H
                    have H := H1
                    clear H1
                    exact absurd H (by simp)
                  ·
                   rw [if_neg c82] at H
                   exact absurd H (by simp)
                 ·
                  rw [if_neg c81] at H
                  exact absurd H (by simp)
                ·
                 replace c80 := Bool.eq_false_iff.mpr c80
                 subst c80
                 have H1 : (none) = some r := by rw [if_neg (show ¬ (false = true) by decide)] at H; exact H
                 clear H
                 have H := H1
                 clear H1
                 exact absurd H (by simp)
             ·
              rw [if_neg c77] at H
              exact absurd H (by simp)
            case rest => as_aux_lemma =>
             clear HC73
             try clear c1
             try clear c4
             try clear c5
             try clear c12
             try clear c59
             try clear c61
             try clear c62
             try clear c62b0
             obtain ⟨kq, x336_72, rfl, HA, HJ72, BK212, HB⟩ := hcut
             cases kq with
             | zero => exact absurd HA.out (by simp [laws_FnTrainsTurnOfAll.j3])
             | succ kj72 =>
              have H := HA.out
              clear HA
              simp only [laws_FnTrainsTurnOfAll.j3] at H
              by_cases c93 : x336_72 = true
              ·
               subst c93
               have H1 : (none) = some r := by rw [if_pos rfl] at H; exact H
               clear H
               have H := H1
               clear H1
               exact absurd H (by simp)
              ·
               replace c93 := Bool.eq_false_iff.mpr c93
               subst c93
               have H1 : (laws_FnTrainsTurnOfAll.l1 kj72 l0 l1 a2 l4 l5 t231 (l0.length : Int) 0 a3_0 a3_1) = some r := by rw [if_neg (show ¬ (false = true) by decide)] at H; exact H
               clear H
               have H := H1
               clear H1
               have H' := Aside0.mk H
               clear H
               go_wp2
               go_loopg [339] kj72 (fun kq v339 w' => ∃ (x339_5 : Int), v339 = .int .i64 x339_5 ∧ Aside0 (laws_FnTrainsTurnOfAll.l1 kq l0 l1 a2 l4 l5 t231 (l0.length : Int) x339_5 a3_0 a3_1 = some r) ∧ Aside0 (kq ≤ kj72) ∧ Aside0 (w'.heap[gb212]? = some (.cells #[.int .i64 a3_0, .int .i64 a3_1] 41 (0, 0))) ∧ Aside0 (Below w.heap.size w w'))
               case atStart => exact ⟨(0), (by first | rfl | (simp; done) | (simp [*]; done)), H', ⟨Nat.le_refl _⟩, ⟨by (with_reducible repeat (first | refine blk_drewN ?_ _ | refine blk_drew ?_ | refine blk_alloc ?_ _)); exact BK212.out⟩, ⟨by repeat (first | (with_reducible first | exact HB.out | apply below_alloc | apply pw_below_drewN | apply below_drew1 | refine below_set ?_ GE212.out) | exact HB.out)⟩⟩
               case round => as_aux_lemma =>
                clear H'
                try clear c1
                try clear c4
                try clear c5
                try clear c12
                try clear c59
                try clear c61
                try clear c62
                try clear c62b0
                try clear c93
                obtain ⟨x339_5, rfl, HA, HK5, BK212, HB⟩ := hrel
                cases gk with
                | zero => exact absurd HA.out (by simp [laws_FnTrainsTurnOfAll.l1])
                | succ k5 =>
                 have H := HA.out
                 clear HA
                 simp only [laws_FnTrainsTurnOfAll.l1] at H
                 by_cases c94 : x339_5 < (l0.length : Int)
                 ·
                  rw [if_pos c94] at H
                  have c94b0 : decide (x339_5 < (l0.length : Int)) = true := decide_eq_true c94
                  clear c94
                  obtain ⟨ji95, hji95⟩ : ∃ j_ : Int, (wrap64 (x339_5 + 1)) = j_ := ⟨_, rfl⟩
                  replace H : (if 0 ≤ (ji95) then (if (ji95) ≤ (l0.length : Int) then ((impl_RatioOf.f k5 (l0.take ((ji95) : Int).toNat)).bind fun bt258 => (if bt258.2.2 = true then (if bt258.2.1 = 0 then (none) else (if (Int.tmod t231 bt258.2.1) = 0 then (laws_FnTrainsTurnOfAll.l1 k5 l0 l1 a2 l4 l5 t231 (l0.length : Int) ji95 a3_0 a3_1) else (none))) else (none))) else (none)) else (none)) = some r := by first | (rw [hji95] at H; exact H) | (simp only [hji95] at H ⊢; exact H)
                  have hji95w : (IntKind.i64.wrap (x339_5 + 1)) = ji95 := (i64_w _).trans hji95
                  by_cases c96 : 0 ≤ (ji95)
                  ·
                   rw [if_pos c96] at H
                   have c96b0 := eq_true c96
                   have c96b1 : decide (0 ≤ (ji95)) = true := decide_eq_true c96
                   clear c96
                   by_cases c97 : (ji95) ≤ (l0.length : Int)
                   ·
                    rw [if_pos c97] at H
                    have c97b0 := eq_true c97
                    have c97b1 : decide ((ji95) ≤ (l0.length : Int)) = true := decide_eq_true c97
                    clear c97
                    obtain ⟨y254, hy254⟩ : ∃ y_ : List (S41), y_ = (l0.take ((ji95) : Int).toNat) := ⟨_, rfl⟩
                    replace H : ((impl_RatioOf.f k5 y254).bind fun bt258 => (if bt258.2.2 = true then (if bt258.2.1 = 0 then (none) else (if (Int.tmod t231 bt258.2.1) = 0 then (laws_FnTrainsTurnOfAll.l1 k5 l0 l1 a2 l4 l5 t231 (l0.length : Int) ji95 a3_0 a3_1) else (none))) else (none))) = some r := by first | (rw [hy254]; with_reducible exact H) | (have H2_ := (Option.bind_some _ _).symm.trans H; rw [hy254]; with_reducible exact H2_) | (have H2_ := (Option.bind_some _ _).symm.trans H; with_reducible exact H2_) | with_reducible exact H | (rw [hy254]; exact H) | exact H
                    have Ny254 := Aside0.mk hy254
                    clear hy254
                    replace H := Option.bind_eq_some_iff.mp H
                    obtain ⟨⟨t258, t259, t260⟩, A980, H⟩ := H
                    replace H : (if t260 = true then (if t259 = 0 then (none) else (if (Int.tmod t231 t259) = 0 then (laws_FnTrainsTurnOfAll.l1 k5 l0 l1 a2 l4 l5 t231 (l0.length : Int) ji95 a3_0 a3_1) else (none))) else (none)) = some r := H
                    have A98 := Aside0.mk A980
                    clear A980
                    by_cases c99 : t260 = true
                    ·
                     subst c99
                     have H1 : (if t259 = 0 then (none) else (if (Int.tmod t231 t259) = 0 then (laws_FnTrainsTurnOfAll.l1 k5 l0 l1 a2 l4 l5 t231 (l0.length : Int) ji95 a3_0 a3_1) else (none))) = some r := by rw [if_pos rfl] at H; exact H
                     clear H
                     have H := H1
                     clear H1
                     by_cases c100 : t259 = 0
                     ·
                      rw [if_pos c100] at H
                      exact absurd H (by simp)
                     ·
                      rw [if_neg c100] at H
                      have c100b0 : (t259 == 0) = false := beq_eq_false_iff_ne.mpr c100
                      have c100b1 : (t259 != 0) = true := bne_iff_ne.mpr c100
                      by_cases c101 : (Int.tmod t231 t259) = 0
                      ·
                       rw [if_pos c101] at H
                       have c101b0 : ((Int.tmod t231 t259) == 0) = true := beq_iff_eq.mpr c101
                       have c101b1 : ((Int.tmod t231 t259) != 0) = false := bne_eq_false_iff_eq.mpr c101
                       clear c101
                       have H' := Aside0.mk H
                       clear H
                       have q102 : ((ji95) : Int) ≤ ((l0.length : Int) : Int) := of_decide_eq_true (by first | (with_reducible assumption) | assumption)
                       obtain ⟨i0102, hi0102, _, hsz102, _⟩ := info_parts info41
                       have hroom102 : l0.length ≤ c0 := HC0.out
                       have hC102 : Kd.C k41 _ A0 l0.length l0 := HR0.out
                       have hcut102 := cut_to (P := Try.prog) 25 41 .i64 Try.underlying25 hi0102 A0 l0.length c0 (ji95) (of_decide_eq_true (by first | (with_reducible assumption) | assumption)) q102 hroom102
                       have hr102 := Kd.C_take (m := ((ji95) : Int).toNat) hC102 (by omega)
                       have hy102 : y254.length = ((ji95) : Int).toNat := (by rw [Ny254.out, List.length_take]; omega)
                       rw [← Ny254.out] at hr102
                       rw [← hy102] at hcut102
                       have HR257 := Aside0.mk hr102
                       have HC257 := Aside0.mk (show y254.length ≤ c0 from by omega)
                       clear hr102 hC102 hroom102 hi0102 hsz102
                       have KY102 := Aside0.mk hy102
                       clear hy102
                       replace q102 := eq_true q102
                       go_wp2_with (first | ((with_reducible refine gate_callee (f := 23) rfl ?_); refine goesL_ (some 347) rfl rfl Try.func23 (by kernel_rfl) rfl #[.slice A0 y254.length c0] rfl (by (try simp only [List.map_toArray, List.map_cons, List.map_nil]); first | done | rfl | (simp only [List.length_drop, List.length_take]; rfl)) ?_; (with_reducible refine (impl_RatioOf.calls k5 _ _ y254 t258 t259 true _ ?side1 ?side2 A98.out).mono ?_); (case side1 => repeat (first | exact (Kd.C_below HR257.out HB.out) | (with_reducible refine Kd.C_alloc ?_ _) | (with_reducible refine Kd.C_drewN ?_ _) | (with_reducible refine Kd.C_drew ?_))); (case side2 => exact HC257.out); rintro e w103 ⟨rfl, hb⟩; refine ⟨_, rfl, ?_⟩; have n0_ := Aside0.mk (blk_below (g := gb212) (o := .cells #[.int .i64 a3_0, .int .i64 a3_1] 41 (0, 0)) (by (with_reducible repeat (first | refine blk_drewN ?_ _ | refine blk_drew ?_ | refine blk_alloc ?_ _)); exact BK212.out) hb); have n1_ := Aside0.mk (below_step (by repeat (first | (with_reducible first | exact HB.out | apply below_alloc | apply pw_below_drewN | apply below_drew1 | refine below_set ?_ GE212.out) | exact HB.out)) hb); clear BK212; clear HB; have BK212 := n0_; have HB := n1_; clear n0_ n1_; (try clear hb); (try clear hb2); (try clear hk); (try clear hi)))
                       go_roundg k5
                       case measure => have := HJ6.out; have := HJ22.out; have := HK3.out; have := HJ72.out; have := HK5.out; omega
                       case rel => exact ⟨(ji95), (by first | rfl | (simp; done) | (simp only [← hji95] <;> (first | rfl | simp)) | (simp [*]; done)), H', ⟨by have := HJ6.out; have := HJ22.out; have := HK3.out; have := HJ72.out; have := HK5.out; omega⟩, ⟨by (with_reducible repeat (first | refine blk_drewN ?_ _ | refine blk_drew ?_ | refine blk_alloc ?_ _)); exact BK212.out⟩, ⟨by repeat (first | (with_reducible first | exact HB.out | apply below_alloc | apply pw_below_drewN | apply below_drew1 | refine below_set ?_ GE212.out) | exact HB.out)⟩⟩
                      ·
                       rw [if_neg c101] at H
                       exact absurd H (by simp)
                    ·
                     replace c99 := Bool.eq_false_iff.mpr c99
                     subst c99
                     have H1 : (none) = some r := by rw [if_neg (show ¬ (false = true) by decide)] at H; exact H
                     clear H
                     have H := H1
                     clear H1
                     exact absurd H (by simp)
                   ·
                    rw [if_neg c97] at H
                    exact absurd H (by simp)
                  ·
                   rw [if_neg c96] at H
                   exact absurd H (by simp)
                 ·
                  rw [if_neg c94] at H
                  have c94b0 : decide (x339_5 < (l0.length : Int)) = false := decide_eq_false c94
                  clear c94
                  have H' := Aside0.mk H
                  clear H
                  go_wp2
                  go_meet
                  case rel => exact ⟨_, H', ⟨by have := HJ6.out; have := HJ22.out; have := HK3.out; have := HJ72.out; have := HK5.out; first | omega | exact Nat.le_refl _⟩, ⟨by (with_reducible repeat (first | refine blk_drewN ?_ _ | refine blk_drew ?_ | refine blk_alloc ?_ _)); exact BK212.out⟩, ⟨by repeat (first | (with_reducible first | exact HB.out | apply below_alloc | apply pw_below_drewN | apply below_drew1 | refine below_set ?_ GE212.out) | exact HB.out)⟩⟩
        ·
         replace c61 := Bool.eq_false_iff.mpr c61
         subst c61
         have H1 : (laws_FnTrainsTurnOfAll.j5 kj22 l1 a2 l4 l5 a3_0 a3_1) = some r := by rw [if_neg (show ¬ (false = true) by decide)] at H; exact H
         clear H
         have H := H1
         clear H1
         have H' := Aside0.mk H
         clear H
         go_wp2
         go_meet
         case rel => exact ⟨_, H', ⟨by have := HJ6.out; have := HJ22.out; first | omega | exact Nat.le_refl _⟩, ⟨by (with_reducible repeat (first | refine blk_drewN ?_ _ | refine blk_drew ?_ | refine blk_alloc ?_ _)); exact BK212.out⟩, ⟨by repeat (first | (with_reducible first | exact HB.out | apply below_alloc | apply pw_below_drewN | apply below_drew1 | refine below_set ?_ GE212.out) | exact HB.out)⟩⟩
       case rest => as_aux_lemma =>
        clear HC60
        try clear c1
        try clear c4
        try clear c5
        try clear c12
        try clear c59
        obtain ⟨kq, HA, HJ59, BK212, HB⟩ := hcut
        cases kq with
        | zero => exact absurd HA.out (by simp [laws_FnTrainsTurnOfAll.j5])
        | succ kj59 =>
         have H := HA.out
         clear HA
         simp only [laws_FnTrainsTurnOfAll.j5] at H
         replace H := Option.bind_eq_some_iff.mp H
         obtain ⟨⟨t261, t262, t263⟩, A1040, H⟩ := H
         replace H : ((spec_TurnsOfLast.f kj59 l1 a2).bind fun bt264 => ((impl_MeshesUntilSame.f kj59 a3_0 a3_1).bind fun bt267 => ((spec_MeshesUntilSame.f kj59 a3_0 a3_1).bind fun bt270 => ((impl_CompareRatios.f kj59 l4 l5).bind fun bt273 => ((spec_CompareRatios.f kj59 l4 l5).bind fun bt275 => (if (t263 != bt264.2.2) = true then (none) else (if t261 = bt264.1 then (if t262 = bt264.2.1 then (if (bt267.2.2 != bt270.2.2) = true then (none) else (if bt267.1 = bt270.1 then (if bt267.2.1 = bt270.2.1 then ((impl_IsPair.f a3_0 a3_1).bind fun t277 => (if (bt267.2.2 != t277) = true then (none) else ((impl_IsPair.f a3_0 a3_1).bind fun t278 => ((spec_IsPair.f a3_0 a3_1).bind fun t279 => (if (t278 != t279) = true then (none) else (if (bt273.2 != bt275.2) = true then (none) else (laws_FnTrainsTurnOfAll.j6 kj59 l1 a2 l4 l5 t261 t262 t263 bt267.1 bt267.2.1 bt267.2.2 bt273.1 bt273.2 (bt273.1 != bt275.1) a3_0 a3_1))))))) else (none)) else (none))) else (none)) else (none)))))))) = some r := H
         have A104 := Aside0.mk A1040
         clear A1040
         replace H := Option.bind_eq_some_iff.mp H
         obtain ⟨⟨t264, t265, t266⟩, A1050, H⟩ := H
         replace H : ((impl_MeshesUntilSame.f kj59 a3_0 a3_1).bind fun bt267 => ((spec_MeshesUntilSame.f kj59 a3_0 a3_1).bind fun bt270 => ((impl_CompareRatios.f kj59 l4 l5).bind fun bt273 => ((spec_CompareRatios.f kj59 l4 l5).bind fun bt275 => (if (t263 != t266) = true then (none) else (if t261 = t264 then (if t262 = t265 then (if (bt267.2.2 != bt270.2.2) = true then (none) else (if bt267.1 = bt270.1 then (if bt267.2.1 = bt270.2.1 then ((impl_IsPair.f a3_0 a3_1).bind fun t277 => (if (bt267.2.2 != t277) = true then (none) else ((impl_IsPair.f a3_0 a3_1).bind fun t278 => ((spec_IsPair.f a3_0 a3_1).bind fun t279 => (if (t278 != t279) = true then (none) else (if (bt273.2 != bt275.2) = true then (none) else (laws_FnTrainsTurnOfAll.j6 kj59 l1 a2 l4 l5 t261 t262 t263 bt267.1 bt267.2.1 bt267.2.2 bt273.1 bt273.2 (bt273.1 != bt275.1) a3_0 a3_1))))))) else (none)) else (none))) else (none)) else (none))))))) = some r := H
         have A105 := Aside0.mk A1050
         clear A1050
         replace H := Option.bind_eq_some_iff.mp H
         obtain ⟨⟨t267, t268, t269⟩, A1060, H⟩ := H
         replace H : ((spec_MeshesUntilSame.f kj59 a3_0 a3_1).bind fun bt270 => ((impl_CompareRatios.f kj59 l4 l5).bind fun bt273 => ((spec_CompareRatios.f kj59 l4 l5).bind fun bt275 => (if (t263 != t266) = true then (none) else (if t261 = t264 then (if t262 = t265 then (if (t269 != bt270.2.2) = true then (none) else (if t267 = bt270.1 then (if t268 = bt270.2.1 then ((impl_IsPair.f a3_0 a3_1).bind fun t277 => (if (t269 != t277) = true then (none) else ((impl_IsPair.f a3_0 a3_1).bind fun t278 => ((spec_IsPair.f a3_0 a3_1).bind fun t279 => (if (t278 != t279) = true then (none) else (if (bt273.2 != bt275.2) = true then (none) else (laws_FnTrainsTurnOfAll.j6 kj59 l1 a2 l4 l5 t261 t262 t263 t267 t268 t269 bt273.1 bt273.2 (bt273.1 != bt275.1) a3_0 a3_1))))))) else (none)) else (none))) else (none)) else (none)))))) = some r := H
         have A106 := Aside0.mk A1060
         clear A1060
         replace H := Option.bind_eq_some_iff.mp H
         obtain ⟨⟨t270, t271, t272⟩, A1070, H⟩ := H
         replace H : ((impl_CompareRatios.f kj59 l4 l5).bind fun bt273 => ((spec_CompareRatios.f kj59 l4 l5).bind fun bt275 => (if (t263 != t266) = true then (none) else (if t261 = t264 then (if t262 = t265 then (if (t269 != t272) = true then (none) else (if t267 = t270 then (if t268 = t271 then ((impl_IsPair.f a3_0 a3_1).bind fun t277 => (if (t269 != t277) = true then (none) else ((impl_IsPair.f a3_0 a3_1).bind fun t278 => ((spec_IsPair.f a3_0 a3_1).bind fun t279 => (if (t278 != t279) = true then (none) else (if (bt273.2 != bt275.2) = true then (none) else (laws_FnTrainsTurnOfAll.j6 kj59 l1 a2 l4 l5 t261 t262 t263 t267 t268 t269 bt273.1 bt273.2 (bt273.1 != bt275.1) a3_0 a3_1))))))) else (none)) else (none))) else (none)) else (none))))) = some r := H
         have A107 := Aside0.mk A1070
         clear A1070
         replace H := Option.bind_eq_some_iff.mp H
         obtain ⟨⟨t273, t274⟩, A1080, H⟩ := H
         replace H : ((spec_CompareRatios.f kj59 l4 l5).bind fun bt275 => (if (t263 != t266) = true then (none) else (if t261 = t264 then (if t262 = t265 then (if (t269 != t272) = true then (none) else (if t267 = t270 then (if t268 = t271 then ((impl_IsPair.f a3_0 a3_1).bind fun t277 => (if (t269 != t277) = true then (none) else ((impl_IsPair.f a3_0 a3_1).bind fun t278 => ((spec_IsPair.f a3_0 a3_1).bind fun t279 => (if (t278 != t279) = true then (none) else (if (t274 != bt275.2) = true then (none) else (laws_FnTrainsTurnOfAll.j6 kj59 l1 a2 l4 l5 t261 t262 t263 t267 t268 t269 t273 t274 (t273 != bt275.1) a3_0 a3_1))))))) else (none)) else (none))) else (none)) else (none)))) = some r := H
         have A108 := Aside0.mk A1080
         clear A1080
         replace H := Option.bind_eq_some_iff.mp H
         obtain ⟨⟨t275, t276⟩, A1090, H⟩ := H
         replace H : (if (t263 != t266) = true then (none) else (if t261 = t264 then (if t262 = t265 then (if (t269 != t272) = true then (none) else (if t267 = t270 then (if t268 = t271 then ((impl_IsPair.f a3_0 a3_1).bind fun t277 => (if (t269 != t277) = true then (none) else ((impl_IsPair.f a3_0 a3_1).bind fun t278 => ((spec_IsPair.f a3_0 a3_1).bind fun t279 => (if (t278 != t279) = true then (none) else (if (t274 != t276) = true then (none) else (laws_FnTrainsTurnOfAll.j6 kj59 l1 a2 l4 l5 t261 t262 t263 t267 t268 t269 t273 t274 (t273 != t275) a3_0 a3_1))))))) else (none)) else (none))) else (none)) else (none))) = some r := H
         have A109 := Aside0.mk A1090
         clear A1090
         have HC110 := Aside0.mk H
         clear H
         go_upto_region 44 with (first | ((with_reducible refine gate_callee (f := 31) rfl ?_); refine goesL_ (some 363) rfl rfl Try.func31 (by kernel_rfl) rfl #[.slice A1 l1.length c1, .int .i64 a2] rfl (by (try simp only [List.map_toArray, List.map_cons, List.map_nil]); first | done | rfl | (simp only [List.length_drop, List.length_take]; rfl)) ?_; (with_reducible refine (impl_TurnsOfLast.calls kj59 _ _ l1 a2 t261 t262 t263 _ ?side1 ?side2 A104.out).mono ?_); (case side1 => repeat (first | exact (Kd.C_below HR1.out HB.out) | (with_reducible refine Kd.C_alloc ?_ _) | (with_reducible refine Kd.C_drewN ?_ _) | (with_reducible refine Kd.C_drew ?_))); (case side2 => exact HC1.out); rintro e w111 ⟨rfl, hb⟩; refine ⟨_, rfl, ?_⟩; have n0_ := Aside0.mk (blk_below (g := gb212) (o := .cells #[.int .i64 a3_0, .int .i64 a3_1] 41 (0, 0)) (by (with_reducible repeat (first | refine blk_drewN ?_ _ | refine blk_drew ?_ | refine blk_alloc ?_ _)); exact BK212.out) hb); have n1_ := Aside0.mk (below_step (by repeat (first | (with_reducible first | exact HB.out | apply below_alloc | apply pw_below_drewN | apply below_drew1 | refine below_set ?_ GE212.out) | exact HB.out)) hb); clear BK212; clear HB; have BK212 := n0_; have HB := n1_; clear n0_ n1_; (try clear hb); (try clear hb2); (try clear hk); (try clear hi)) | ((with_reducible refine gate_callee (f := 30) rfl ?_); refine goesL_ (some 370) rfl rfl Try.func30 (by kernel_rfl) rfl #[.slice A1 l1.length c1, .int .i64 a2] rfl (by (try simp only [List.map_toArray, List.map_cons, List.map_nil]); first | done | rfl | (simp only [List.length_drop, List.length_take]; rfl)) ?_; (with_reducible refine (spec_TurnsOfLast.calls kj59 _ _ l1 a2 t264 t265 t266 _ ?side1 ?side2 A105.out).mono ?_); (case side1 => repeat (first | exact (Kd.C_below HR1.out HB.out) | (with_reducible refine Kd.C_alloc ?_ _) | (with_reducible refine Kd.C_drewN ?_ _) | (with_reducible refine Kd.C_drew ?_))); (case side2 => exact HC1.out); rintro e w112 ⟨rfl, hb⟩; refine ⟨_, rfl, ?_⟩; have n0_ := Aside0.mk (blk_below (g := gb212) (o := .cells #[.int .i64 a3_0, .int .i64 a3_1] 41 (0, 0)) (by (with_reducible repeat (first | refine blk_drewN ?_ _ | refine blk_drew ?_ | refine blk_alloc ?_ _)); exact BK212.out) hb); have n1_ := Aside0.mk (below_step (by repeat (first | (with_reducible first | exact HB.out | apply below_alloc | apply pw_below_drewN | apply below_drew1 | refine below_set ?_ GE212.out) | exact HB.out)) hb); clear BK212; clear HB; have BK212 := n0_; have HB := n1_; clear n0_ n1_; (try clear hb); (try clear hb2); (try clear hk); (try clear hi); have hcz113_0 : w112.cell? ⟨gb212, 0, none⟩ = some (.int .i64 a3_0) := (blk_cell BK212.out 0).trans rfl; have hcz113_1 : w112.cell? ⟨gb212, 1, none⟩ = some (.int .i64 a3_1) := (blk_cell BK212.out 1).trans rfl; have hfz113_0 := blk_frozen BK212.out 0; have hfz113_1 := blk_frozen BK212.out 1) | ((with_reducible refine gate_callee (f := 36) rfl ?_); refine goesL_ (some 376) rfl rfl Try.func36 (by kernel_rfl) rfl #[.agg #[.int .i64 a3_0, .int .i64 a3_1]] rfl (by (try simp only [List.map_toArray, List.map_cons, List.map_nil]); first | done | rfl | (simp only [List.length_drop, List.length_take]; rfl)) ?_; (with_reducible refine (impl_MeshesUntilSame.calls kj59 a3_0 a3_1 t267 t268 t269 _ A106.out).mono ?_); rintro e w114 ⟨rfl, hb⟩; refine ⟨_, rfl, ?_⟩; have n0_ := Aside0.mk (blk_below (g := gb212) (o := .cells #[.int .i64 a3_0, .int .i64 a3_1] 41 (0, 0)) (by (with_reducible repeat (first | refine blk_drewN ?_ _ | refine blk_drew ?_ | refine blk_alloc ?_ _)); exact BK212.out) hb); have n1_ := Aside0.mk (below_step (by repeat (first | (with_reducible first | exact HB.out | apply below_alloc | apply pw_below_drewN | apply below_drew1 | refine below_set ?_ GE212.out) | exact HB.out)) hb); clear BK212; clear HB; have BK212 := n0_; have HB := n1_; clear n0_ n1_; (try clear hb); (try clear hb2); (try clear hk); (try clear hi); have hcz115_0 : w114.cell? ⟨gb212, 0, none⟩ = some (.int .i64 a3_0) := (blk_cell BK212.out 0).trans rfl; have hcz115_1 : w114.cell? ⟨gb212, 1, none⟩ = some (.int .i64 a3_1) := (blk_cell BK212.out 1).trans rfl; have hfz115_0 := blk_frozen BK212.out 0; have hfz115_1 := blk_frozen BK212.out 1) | ((with_reducible refine gate_callee (f := 37) rfl ?_); refine goesL_ (some 382) rfl rfl Try.func37 (by kernel_rfl) rfl #[.agg #[.int .i64 a3_0, .int .i64 a3_1]] rfl (by (try simp only [List.map_toArray, List.map_cons, List.map_nil]); first | done | rfl | (simp only [List.length_drop, List.length_take]; rfl)) ?_; (with_reducible refine (spec_MeshesUntilSame.calls kj59 a3_0 a3_1 t270 t271 t272 _ A107.out).mono ?_); rintro e w116 ⟨rfl, hb⟩; refine ⟨_, rfl, ?_⟩; have n0_ := Aside0.mk (blk_below (g := gb212) (o := .cells #[.int .i64 a3_0, .int .i64 a3_1] 41 (0, 0)) (by (with_reducible repeat (first | refine blk_drewN ?_ _ | refine blk_drew ?_ | refine blk_alloc ?_ _)); exact BK212.out) hb); have n1_ := Aside0.mk (below_step (by repeat (first | (with_reducible first | exact HB.out | apply below_alloc | apply pw_below_drewN | apply below_drew1 | refine below_set ?_ GE212.out) | exact HB.out)) hb); clear BK212; clear HB; have BK212 := n0_; have HB := n1_; clear n0_ n1_; (try clear hb); (try clear hb2); (try clear hk); (try clear hi)) | ((with_reducible refine gate_callee (f := 33) rfl ?_); refine goesL_ (some 389) rfl rfl Try.func33 (by kernel_rfl) rfl #[.slice A4 l4.length c4, .slice A5 l5.length c5] rfl (by (try simp only [List.map_toArray, List.map_cons, List.map_nil]); first | done | rfl | (simp only [List.length_drop, List.length_take]; rfl)) ?_; (with_reducible refine (impl_CompareRatios.calls kj59 _ _ l4 _ _ l5 t273 t274 _ ?side1 ?side2 ?side3 ?side4 A108.out).mono ?_); (case side1 => repeat (first | exact (Kd.C_below HR4.out HB.out) | (with_reducible refine Kd.C_alloc ?_ _) | (with_reducible refine Kd.C_drewN ?_ _) | (with_reducible refine Kd.C_drew ?_))); (case side2 => exact HC4.out); (case side3 => repeat (first | exact (Kd.C_below HR5.out HB.out) | (with_reducible refine Kd.C_alloc ?_ _) | (with_reducible refine Kd.C_drewN ?_ _) | (with_reducible refine Kd.C_drew ?_))); (case side4 => exact HC5.out); rintro e w117 ⟨rfl, hb⟩; refine ⟨_, rfl, ?_⟩; have n0_ := Aside0.mk (blk_below (g := gb212) (o := .cells #[.int .i64 a3_0, .int .i64 a3_1] 41 (0, 0)) (by (with_reducible repeat (first | refine blk_drewN ?_ _ | refine blk_drew ?_ | refine blk_alloc ?_ _)); exact BK212.out) hb); have n1_ := Aside0.mk (below_step (by repeat (first | (with_reducible first | exact HB.out | apply below_alloc | apply pw_below_drewN | apply below_drew1 | refine below_set ?_ GE212.out) | exact HB.out)) hb); clear BK212; clear HB; have BK212 := n0_; have HB := n1_; clear n0_ n1_; (try clear hb); (try clear hb2); (try clear hk); (try clear hi)) | ((with_reducible refine gate_callee (f := 32) rfl ?_); refine goesL_ (some 395) rfl rfl Try.func32 (by kernel_rfl) rfl #[.slice A4 l4.length c4, .slice A5 l5.length c5] rfl (by (try simp only [List.map_toArray, List.map_cons, List.map_nil]); first | done | rfl | (simp only [List.length_drop, List.length_take]; rfl)) ?_; (with_reducible refine (spec_CompareRatios.calls kj59 _ _ l4 _ _ l5 t275 t276 _ ?side1 ?side2 ?side3 ?side4 A109.out).mono ?_); (case side1 => repeat (first | exact (Kd.C_below HR4.out HB.out) | (with_reducible refine Kd.C_alloc ?_ _) | (with_reducible refine Kd.C_drewN ?_ _) | (with_reducible refine Kd.C_drew ?_))); (case side2 => exact HC4.out); (case side3 => repeat (first | exact (Kd.C_below HR5.out HB.out) | (with_reducible refine Kd.C_alloc ?_ _) | (with_reducible refine Kd.C_drewN ?_ _) | (with_reducible refine Kd.C_drew ?_))); (case side4 => exact HC5.out); rintro e w118 ⟨rfl, hb⟩; refine ⟨_, rfl, ?_⟩; have n0_ := Aside0.mk (blk_below (g := gb212) (o := .cells #[.int .i64 a3_0, .int .i64 a3_1] 41 (0, 0)) (by (with_reducible repeat (first | refine blk_drewN ?_ _ | refine blk_drew ?_ | refine blk_alloc ?_ _)); exact BK212.out) hb); have n1_ := Aside0.mk (below_step (by repeat (first | (with_reducible first | exact HB.out | apply below_alloc | apply pw_below_drewN | apply below_drew1 | refine below_set ?_ GE212.out) | exact HB.out)) hb); clear BK212; clear HB; have BK212 := n0_; have HB := n1_; clear n0_ n1_; (try clear hb); (try clear hb2); (try clear hk); (try clear hi)))
         (try simp only [Act.put, List.setIfInBounds_toArray, List.set_cons_zero, List.set_cons_succ])
         go_cut [448] from 337 to 448 (fun v448 wc => ∃ (kq : Nat) (x448_109 : Bool), v448 = .bool x448_109 ∧ Aside0 (laws_FnTrainsTurnOfAll.j6 kq l1 a2 l4 l5 t261 t262 t263 t267 t268 t269 t273 t274 x448_109 a3_0 a3_1 = some r) ∧ Aside0 (kq ≤ kj59) ∧ Aside0 (wc.heap[gb212]? = some (.cells #[.int .i64 a3_0, .int .i64 a3_1] 41 (0, 0))) ∧ Aside0 (Below w.heap.size w wc))
         case first => as_aux_lemma =>
          have H := HC110.out
          clear HC110
          by_cases c119 : (t263 != t266) = true
          ·
           rw [if_pos c119] at H
           exact absurd H (by simp)
          ·
           rw [if_neg c119] at H
           have c119b0 : (t263 != t266) = false := by simpa using c119
           (try (have c119b1 : decide (t263 = t266) = true := by simpa using c119))
           (try (have c119b2 : (t263 == t266) = true := by simpa using c119))
           clear c119
           (first | rw [c119b0] | (simp only [i64_w, i32_w]; rw [c119b0]) | skip)
           by_cases c120 : t261 = t264
           ·
            rw [if_pos c120] at H
            have c120b0 : (t261 == t264) = true := beq_iff_eq.mpr c120
            have c120b1 : (t261 != t264) = false := bne_eq_false_iff_eq.mpr c120
            clear c120
            by_cases c121 : t262 = t265
            ·
             rw [if_pos c121] at H
             have c121b0 : (t262 == t265) = true := beq_iff_eq.mpr c121
             have c121b1 : (t262 != t265) = false := bne_eq_false_iff_eq.mpr c121
             clear c121
             by_cases c122 : (t269 != t272) = true
             ·
              rw [if_pos c122] at H
              exact absurd H (by simp)
             ·
              rw [if_neg c122] at H
              have c122b0 : (t269 != t272) = false := by simpa using c122
              (try (have c122b1 : decide (t269 = t272) = true := by simpa using c122))
              (try (have c122b2 : (t269 == t272) = true := by simpa using c122))
              clear c122
              by_cases c123 : t267 = t270
              ·
               rw [if_pos c123] at H
               have c123b0 : (t267 == t270) = true := beq_iff_eq.mpr c123
               have c123b1 : (t267 != t270) = false := bne_eq_false_iff_eq.mpr c123
               clear c123
               by_cases c124 : t268 = t271
               ·
                rw [if_pos c124] at H
                have c124b0 : (t268 == t271) = true := beq_iff_eq.mpr c124
                have c124b1 : (t268 != t271) = false := bne_eq_false_iff_eq.mpr c124
                clear c124
                replace H := Option.bind_eq_some_iff.mp H
                obtain ⟨t277, A1250, H⟩ := H
                replace H : (if (t269 != t277) = true then (none) else ((impl_IsPair.f a3_0 a3_1).bind fun t278 => ((spec_IsPair.f a3_0 a3_1).bind fun t279 => (if (t278 != t279) = true then (none) else (if (t274 != t276) = true then (none) else (laws_FnTrainsTurnOfAll.j6 kj59 l1 a2 l4 l5 t261 t262 t263 t267 t268 t269 t273 t274 (t273 != t275) a3_0 a3_1)))))) = some r := H
                have A125 := Aside0.mk A1250
                clear A1250
                by_cases c126 : (t269 != t277) = true
                ·
                 rw [if_pos c126] at H
                 exact absurd H (by simp)
                ·
                 rw [if_neg c126] at H
                 have c126b0 : (t269 != t277) = false := by simpa using c126
                 (try (have c126b1 : decide (t269 = t277) = true := by simpa using c126))
                 (try (have c126b2 : (t269 == t277) = true := by simpa using c126))
                 clear c126
                 replace H := Option.bind_eq_some_iff.mp H
                 obtain ⟨t278, A1270, H⟩ := H
                 replace H : ((spec_IsPair.f a3_0 a3_1).bind fun t279 => (if (t278 != t279) = true then (none) else (if (t274 != t276) = true then (none) else (laws_FnTrainsTurnOfAll.j6 kj59 l1 a2 l4 l5 t261 t262 t263 t267 t268 t269 t273 t274 (t273 != t275) a3_0 a3_1)))) = some r := H
                 have A127 := Aside0.mk A1270
                 clear A1270
                 replace H := Option.bind_eq_some_iff.mp H
                 obtain ⟨t279, A1280, H⟩ := H
                 replace H : (if (t278 != t279) = true then (none) else (if (t274 != t276) = true then (none) else (laws_FnTrainsTurnOfAll.j6 kj59 l1 a2 l4 l5 t261 t262 t263 t267 t268 t269 t273 t274 (t273 != t275) a3_0 a3_1))) = some r := H
                 have A128 := Aside0.mk A1280
                 clear A1280
                 by_cases c129 : (t278 != t279) = true
                 ·
                  rw [if_pos c129] at H
                  exact absurd H (by simp)
                 ·
                  rw [if_neg c129] at H
                  have c129b0 : (t278 != t279) = false := by simpa using c129
                  (try (have c129b1 : decide (t278 = t279) = true := by simpa using c129))
                  (try (have c129b2 : (t278 == t279) = true := by simpa using c129))
                  clear c129
                  by_cases c130 : (t274 != t276) = true
                  ·
                   rw [if_pos c130] at H
                   exact absurd H (by simp)
                  ·
                   rw [if_neg c130] at H
                   have c130b0 : (t274 != t276) = false := by simpa using c130
                   (try (have c130b1 : decide (t274 = t276) = true := by simpa using c130))
                   (try (have c130b2 : (t274 == t276) = true := by simpa using c130))
                   clear c130
                   have H' := Aside0.mk H
                   clear H
                   try go_wp2
                   have n0_ := Aside0.mk (blk_drew BK212.out)
                   have n1_ := Aside0.mk (below_drew1 HB.out)
                   clear BK212
                   clear HB
                   have BK212 := n0_
                   have HB := n1_
                   clear n0_ n1_
                   refine start_ (n := 51) (S := fun w' => w'.cell? ⟨gb212, 0, none⟩ = some (.int .i64 a3_0) ∧ w'.cell? ⟨gb212, 1, none⟩ = some (.int .i64 a3_1)) (ds := []) #[false, false, false, false, false, false, false, false, false, false, false, false, false, false, false, false, false, false, false, false, false, false, false, false, false, false, false, false, false, false, false, false, false, false, false, false, false, false, false, false, false, false, false, false, false, false, false, false, false, false, false] (by kernel_rfl) rfl rfl ⟨(blk_cell BK212.out 0).trans rfl, (blk_cell BK212.out 1).trans rfl⟩ (fun hHeld => ?_); refine with_tabW laws_FnTrainsTurnOfAll.tab44 laws_FnTrainsTurnOfAll.bits44 (fun HT_ HW_ => ?_)
                   generalize w118.drew = w131 at BK212 HB hHeld ⊢
                   refine pure_ (i := 0) (N := some 398) (v := ?_) (a' := ?_) #[true, false, false, false, false, false, false, false, false, false, false, false, false, false, false, false, false, false, false, false, false, false, false, false, false, false, false, false, false, false, false, false, false, false, false, false, false, false, false, false, false, false, false, false, false, false, false, false, false, false, false] rfl rfl (any_of HT_.out (by kernel_rfl)) (fun _ _ _ h => h) (Or.inl ⟨by rfl, ?_⟩) ?_ ?_
                   rotate_left
                   ·
                    intro w'
                    go_simp
                    with_reducible rfl
                   rotate_left
                   ·
                    simp only [Act.put, List.setIfInBounds_toArray, List.set_cons_zero, List.set_cons_succ, i64_w, i32_w]
                    rfl
                   refine pure_ (i := 1) (N := some 399) (v := ?_) (a' := ?_) #[true, true, false, false, false, false, false, false, false, false, false, false, false, false, false, false, false, false, false, false, false, false, false, false, false, false, false, false, false, false, false, false, false, false, false, false, false, false, false, false, false, false, false, false, false, false, false, false, false, false, false] rfl rfl (any_of HT_.out (by kernel_rfl)) (fun _ _ _ h => h) (Or.inl ⟨by rfl, ?_⟩) ?_ ?_
                   rotate_left
                   ·
                    intro w'
                    go_simp
                    with_reducible rfl
                   rotate_left
                   ·
                    simp only [Act.put, List.setIfInBounds_toArray, List.set_cons_zero, List.set_cons_succ, i64_w, i32_w]
                    rfl
                   refine pure_ (i := 2) (N := some 400) (v := ?_) (a' := ?_) #[true, true, true, false, false, false, false, false, false, false, false, false, false, false, false, false, false, false, false, false, false, false, false, false, false, false, false, false, false, false, false, false, false, false, false, false, false, false, false, false, false, false, false, false, false, false, false, false, false, false, false] rfl rfl (any_of HT_.out (by kernel_rfl)) (fun _ _ _ h => h) (Or.inl ⟨by rfl, ?_⟩) ?_ ?_
                   rotate_left
                   ·
                    intro w'
                    go_simp
                    with_reducible rfl
                   rotate_left
                   ·
                    simp only [Act.put, List.setIfInBounds_toArray, List.set_cons_zero, List.set_cons_succ, i64_w, i32_w]
                    rfl
                   refine pure_ (i := 3) (N := some 401) (v := ?_) (a' := ?_) #[true, true, true, true, false, false, false, false, false, false, false, false, false, false, false, false, false, false, false, false, false, false, false, false, false, false, false, false, false, false, false, false, false, false, false, false, false, false, false, false, false, false, false, false, false, false, false, false, false, false, false] rfl rfl (any_of HT_.out (by kernel_rfl)) (fun _ _ _ h => h) (Or.inl ⟨by rfl, ?_⟩) ?_ ?_
                   rotate_left
                   ·
                    intro w'
                    go_simp
                    with_reducible rfl
                   rotate_left
                   ·
                    simp only [Act.put, List.setIfInBounds_toArray, List.set_cons_zero, List.set_cons_succ, i64_w, i32_w]
                    rfl
                   refine pure_ (i := 4) (N := some 402) (v := ?_) (a' := ?_) #[true, true, true, true, true, false, false, false, false, false, false, false, false, false, false, false, false, false, false, false, false, false, false, false, false, false, false, false, false, false, false, false, false, false, false, false, false, false, false, false, false, false, false, false, false, false, false, false, false, false, false] rfl rfl (any_of HT_.out (by kernel_rfl)) (fun _ _ _ h => h) (Or.inl ⟨by rfl, ?_⟩) ?_ ?_
                   rotate_left
                   ·
                    intro w'
                    go_simp
                    with_reducible rfl
                   rotate_left
                   ·
                    simp only [Act.put, List.setIfInBounds_toArray, List.set_cons_zero, List.set_cons_succ, i64_w, i32_w]
                    rfl
                   refine pure_ (i := 5) (N := some 403) (v := ?_) (a' := ?_) #[true, true, true, true, true, true, false, false, false, false, false, false, false, false, false, false, false, false, false, false, false, false, false, false, false, false, false, false, false, false, false, false, false, false, false, false, false, false, false, false, false, false, false, false, false, false, false, false, false, false, false] rfl rfl (any_of HT_.out (by kernel_rfl)) (fun _ _ _ h => h) (Or.inl ⟨by rfl, ?_⟩) ?_ ?_
                   rotate_left
                   ·
                    intro w'
                    go_simp
                    with_reducible rfl
                   rotate_left
                   ·
                    simp only [Act.put, List.setIfInBounds_toArray, List.set_cons_zero, List.set_cons_succ, i64_w, i32_w]
                    rfl
                   refine pure_ (i := 6) (N := some 404) (v := ?_) (a' := ?_) #[true, true, true, true, true, true, true, false, false, false, false, false, false, false, false, false, false, false, false, false, false, false, false, false, false, false, false, false, false, false, false, false, false, false, false, false, false, false, false, false, false, false, false, false, false, false, false, false, false, false, false] rfl rfl (any_of HT_.out (by kernel_rfl)) (fun _ _ _ h => h) (Or.inl ⟨by rfl, ?_⟩) ?_ ?_
                   rotate_left
                   ·
                    intro w'
                    go_simp
                    with_reducible rfl
                   rotate_left
                   ·
                    simp only [Act.put, List.setIfInBounds_toArray, List.set_cons_zero, List.set_cons_succ, i64_w, i32_w]
                    rfl
                   refine pure_ (i := 7) (N := some 405) (v := ?_) (a' := ?_) #[true, true, true, true, true, true, true, true, false, false, false, false, false, false, false, false, false, false, false, false, false, false, false, false, false, false, false, false, false, false, false, false, false, false, false, false, false, false, false, false, false, false, false, false, false, false, false, false, false, false, false] rfl rfl (any_of HT_.out (by kernel_rfl)) (fun _ _ _ h => h) (Or.inl ⟨by rfl, ?_⟩) ?_ ?_
                   rotate_left
                   ·
                    intro w'
                    go_simp
                    with_reducible rfl
                   rotate_left
                   ·
                    simp only [Act.put, List.setIfInBounds_toArray, List.set_cons_zero, List.set_cons_succ, i64_w, i32_w]
                    rfl
                   refine pure_ (i := 8) (N := some 406) (v := ?_) (a' := ?_) #[true, true, true, true, true, true, true, true, true, false, false, false, false, false, false, false, false, false, false, false, false, false, false, false, false, false, false, false, false, false, false, false, false, false, false, false, false, false, false, false, false, false, false, false, false, false, false, false, false, false, false] rfl rfl (any_of HT_.out (by kernel_rfl)) (fun _ _ _ h => h) (Or.inl ⟨by rfl, ?_⟩) ?_ ?_
                   rotate_left
                   ·
                    intro w'
                    go_simp
                    with_reducible rfl
                   rotate_left
                   ·
                    simp only [Act.put, List.setIfInBounds_toArray, List.set_cons_zero, List.set_cons_succ, i64_w, i32_w]
                    rfl
                   refine pure_ (i := 9) (N := some 407) (v := ?_) (a' := ?_) #[true, true, true, true, true, true, true, true, true, true, false, false, false, false, false, false, false, false, false, false, false, false, false, false, false, false, false, false, false, false, false, false, false, false, false, false, false, false, false, false, false, false, false, false, false, false, false, false, false, false, false] rfl rfl (any_of HT_.out (by kernel_rfl)) (fun _ _ _ h => h) (Or.inl ⟨by rfl, ?_⟩) ?_ ?_
                   rotate_left
                   ·
                    intro w'
                    go_simp
                    with_reducible rfl
                   rotate_left
                   ·
                    simp only [Act.put, List.setIfInBounds_toArray, List.set_cons_zero, List.set_cons_succ, i64_w, i32_w]
                    rfl
                   refine pure_ (i := 10) (N := some 408) (v := ?_) (a' := ?_) #[true, true, true, true, true, true, true, true, true, true, true, false, false, false, false, false, false, false, false, false, false, false, false, false, false, false, false, false, false, false, false, false, false, false, false, false, false, false, false, false, false, false, false, false, false, false, false, false, false, false, false] rfl rfl (any_of HT_.out (by kernel_rfl)) (fun _ _ _ h => h) (Or.inl ⟨by rfl, ?_⟩) ?_ ?_
                   rotate_left
                   ·
                    intro w'
                    go_simp
                    with_reducible rfl
                   rotate_left
                   ·
                    simp only [Act.put, List.setIfInBounds_toArray, List.set_cons_zero, List.set_cons_succ, i64_w, i32_w]
                    rfl
                   refine pure_ (i := 11) (N := some 409) (v := ?_) (a' := ?_) #[true, true, true, true, true, true, true, true, true, true, true, true, false, false, false, false, false, false, false, false, false, false, false, false, false, false, false, false, false, false, false, false, false, false, false, false, false, false, false, false, false, false, false, false, false, false, false, false, false, false, false] rfl rfl (any_of HT_.out (by kernel_rfl)) (fun _ _ _ h => h) (Or.inl ⟨by rfl, ?_⟩) ?_ ?_
                   rotate_left
                   ·
                    intro w'
                    go_simp
                    with_reducible rfl
                   rotate_left
                   ·
                    simp only [Act.put, List.setIfInBounds_toArray, List.set_cons_zero, List.set_cons_succ, i64_w, i32_w]
                    rfl
                   refine pure_ (i := 12) (N := some 410) (v := ?_) (a' := ?_) #[true, true, true, true, true, true, true, true, true, true, true, true, true, false, false, false, false, false, false, false, false, false, false, false, false, false, false, false, false, false, false, false, false, false, false, false, false, false, false, false, false, false, false, false, false, false, false, false, false, false, false] rfl rfl (any_of HT_.out (by kernel_rfl)) (fun _ _ _ h => h) (Or.inl ⟨by rfl, ?_⟩) ?_ ?_
                   rotate_left
                   ·
                    intro w'
                    go_simp
                    with_reducible rfl
                   rotate_left
                   ·
                    simp only [Act.put, List.setIfInBounds_toArray, List.set_cons_zero, List.set_cons_succ, i64_w, i32_w]
                    rfl
                   refine pure_ (i := 13) (N := some 411) (v := ?_) (a' := ?_) #[true, true, true, true, true, true, true, true, true, true, true, true, true, true, false, false, false, false, false, false, false, false, false, false, false, false, false, false, false, false, false, false, false, false, false, false, false, false, false, false, false, false, false, false, false, false, false, false, false, false, false] rfl rfl (any_of HT_.out (by kernel_rfl)) (fun _ _ _ h => h) (Or.inl ⟨by rfl, ?_⟩) ?_ ?_
                   rotate_left
                   ·
                    intro w'
                    go_simp
                    with_reducible rfl
                   rotate_left
                   ·
                    simp only [Act.put, List.setIfInBounds_toArray, List.set_cons_zero, List.set_cons_succ, i64_w, i32_w]
                    rfl
                   refine pure_ (i := 14) (N := some 412) (v := ?_) (a' := ?_) #[true, true, true, true, true, true, true, true, true, true, true, true, true, true, true, false, false, false, false, false, false, false, false, false, false, false, false, false, false, false, false, false, false, false, false, false, false, false, false, false, false, false, false, false, false, false, false, false, false, false, false] rfl rfl (any_of HT_.out (by kernel_rfl)) (fun _ _ _ h => h) (Or.inl ⟨by rfl, ?_⟩) ?_ ?_
                   rotate_left
                   ·
                    intro w'
                    go_simp
                    with_reducible rfl
                   rotate_left
                   ·
                    simp only [Act.put, List.setIfInBounds_toArray, List.set_cons_zero, List.set_cons_succ, i64_w, i32_w]
                    rfl
                   refine pure_ (i := 15) (N := some 413) (v := ?_) (a' := ?_) #[true, true, true, true, true, true, true, true, true, true, true, true, true, true, true, true, false, false, false, false, false, false, false, false, false, false, false, false, false, false, false, false, false, false, false, false, false, false, false, false, false, false, false, false, false, false, false, false, false, false, false] rfl rfl (any_of HT_.out (by kernel_rfl)) (fun _ _ _ h => h) (Or.inl ⟨by rfl, ?_⟩) ?_ ?_
                   rotate_left
                   ·
                    intro w'
                    go_simp
                    with_reducible rfl
                   rotate_left
                   ·
                    simp only [Act.put, List.setIfInBounds_toArray, List.set_cons_zero, List.set_cons_succ, i64_w, i32_w]
                    rfl
                   refine pure_ (i := 16) (N := some 414) (v := ?_) (a' := ?_) #[true, true, true, true, true, true, true, true, true, true, true, true, true, true, true, true, true, false, false, false, false, false, false, false, false, false, false, false, false, false, false, false, false, false, false, false, false, false, false, false, false, false, false, false, false, false, false, false, false, false, false] rfl rfl (any_of HT_.out (by kernel_rfl)) (fun _ _ _ h => h) (Or.inl ⟨by rfl, ?_⟩) ?_ ?_
                   rotate_left
                   ·
                    intro w'
                    go_simp
                    with_reducible rfl
                   rotate_left
                   ·
                    simp only [Act.put, List.setIfInBounds_toArray, List.set_cons_zero, List.set_cons_succ, i64_w, i32_w]
                    rfl
                   refine pure_ (i := 17) (N := some 415) (v := ?_) (a' := ?_) #[true, true, true, true, true, true, true, true, true, true, true, true, true, true, true, true, true, true, false, false, false, false, false, false, false, false, false, false, false, false, false, false, false, false, false, false, false, false, false, false, false, false, false, false, false, false, false, false, false, false, false] rfl rfl (any_of HT_.out (by kernel_rfl)) (fun _ _ _ h => h) (Or.inl ⟨by rfl, ?_⟩) ?_ ?_
                   rotate_left
                   ·
                    intro w'
                    go_simp
                    with_reducible rfl
                   rotate_left
                   ·
                    simp only [Act.put, List.setIfInBounds_toArray, List.set_cons_zero, List.set_cons_succ, i64_w, i32_w]
                    rfl
                   refine pure_ (i := 18) (N := some 416) (v := ?_) (a' := ?_) #[true, true, true, true, true, true, true, true, true, true, true, true, true, true, true, true, true, true, true, false, false, false, false, false, false, false, false, false, false, false, false, false, false, false, false, false, false, false, false, false, false, false, false, false, false, false, false, false, false, false, false] rfl rfl (any_of HT_.out (by kernel_rfl)) (fun _ _ _ h => h) (Or.inl ⟨by rfl, ?_⟩) ?_ ?_
                   rotate_left
                   ·
                    intro w'
                    go_simp
                    with_reducible rfl
                   rotate_left
                   ·
                    simp only [Act.put, List.setIfInBounds_toArray, List.set_cons_zero, List.set_cons_succ, i64_w, i32_w]
                    rfl
                   refine pure_ (i := 19) (N := some 417) (v := ?_) (a' := ?_) #[true, true, true, true, true, true, true, true, true, true, true, true, true, true, true, true, true, true, true, true, false, false, false, false, false, false, false, false, false, false, false, false, false, false, false, false, false, false, false, false, false, false, false, false, false, false, false, false, false, false, false] rfl rfl (any_of HT_.out (by kernel_rfl)) (fun _ _ _ h => h) (Or.inl ⟨by rfl, ?_⟩) ?_ ?_
                   rotate_left
                   ·
                    intro w'
                    go_simp
                    with_reducible rfl
                   rotate_left
                   ·
                    simp only [Act.put, List.setIfInBounds_toArray, List.set_cons_zero, List.set_cons_succ, i64_w, i32_w]
                    rfl
                   refine pure_ (i := 20) (N := some 418) (v := ?_) (a' := ?_) #[true, true, true, true, true, true, true, true, true, true, true, true, true, true, true, true, true, true, true, true, true, false, false, false, false, false, false, false, false, false, false, false, false, false, false, false, false, false, false, false, false, false, false, false, false, false, false, false, false, false, false] rfl rfl (any_of HT_.out (by kernel_rfl)) (fun _ _ _ h => h) (Or.inl ⟨by rfl, ?_⟩) ?_ ?_
                   rotate_left
                   ·
                    intro w'
                    go_simp
                    with_reducible rfl
                   rotate_left
                   ·
                    simp only [Act.put, List.setIfInBounds_toArray, List.set_cons_zero, List.set_cons_succ, i64_w, i32_w]
                    rfl
                   refine pure_ (i := 21) (N := some 419) (v := ?_) (a' := ?_) #[true, true, true, true, true, true, true, true, true, true, true, true, true, true, true, true, true, true, true, true, true, true, false, false, false, false, false, false, false, false, false, false, false, false, false, false, false, false, false, false, false, false, false, false, false, false, false, false, false, false, false] rfl rfl (any_of HT_.out (by kernel_rfl)) (fun _ _ _ h => h) (Or.inl ⟨by rfl, ?_⟩) ?_ ?_
                   rotate_left
                   ·
                    intro w'
                    go_simp
                    with_reducible rfl
                   rotate_left
                   ·
                    simp only [Act.put, List.setIfInBounds_toArray, List.set_cons_zero, List.set_cons_succ, i64_w, i32_w]
                    rfl
                   refine pure_ (i := 22) (N := some 420) (v := ?_) (a' := ?_) #[true, true, true, true, true, true, true, true, true, true, true, true, true, true, true, true, true, true, true, true, true, true, true, false, false, false, false, false, false, false, false, false, false, false, false, false, false, false, false, false, false, false, false, false, false, false, false, false, false, false, false] rfl rfl (any_of HT_.out (by kernel_rfl)) (fun _ _ _ h => h) (Or.inl ⟨by rfl, ?_⟩) ?_ ?_
                   rotate_left
                   ·
                    intro w'
                    go_simp
                    with_reducible rfl
                   rotate_left
                   ·
                    simp only [Act.put, List.setIfInBounds_toArray, List.set_cons_zero, List.set_cons_succ, i64_w, i32_w]
                    rfl
                   refine pure_ (i := 23) (N := some 421) (v := ?_) (a' := ?_) #[true, true, true, true, true, true, true, true, true, true, true, true, true, true, true, true, true, true, true, true, true, true, true, true, false, false, false, false, false, false, false, false, false, false, false, false, false, false, false, false, false, false, false, false, false, false, false, false, false, false, false] rfl rfl (any_of HT_.out (by kernel_rfl)) (fun _ _ _ h => h) (Or.inl ⟨by rfl, ?_⟩) ?_ ?_
                   rotate_left
                   ·
                    intro w'
                    go_simp
                    with_reducible rfl
                   rotate_left
                   ·
                    simp only [Act.put, List.setIfInBounds_toArray, List.set_cons_zero, List.set_cons_succ, i64_w, i32_w]
                    rfl
                   refine pure_ (i := 24) (N := some 422) (v := ?_) (a' := ?_) #[true, true, true, true, true, true, true, true, true, true, true, true, true, true, true, true, true, true, true, true, true, true, true, true, true, false, false, false, false, false, false, false, false, false, false, false, false, false, false, false, false, false, false, false, false, false, false, false, false, false, false] rfl rfl (any_of HT_.out (by kernel_rfl)) (fun _ _ _ h => h) (Or.inl ⟨by rfl, ?_⟩) ?_ ?_
                   rotate_left
                   ·
                    intro w'
                    go_simp
                    with_reducible rfl
                   rotate_left
                   ·
                    simp only [Act.put, List.setIfInBounds_toArray, List.set_cons_zero, List.set_cons_succ, i64_w, i32_w]
                    rfl
                   refine pure_ (i := 25) (N := some 423) (v := ?_) (a' := ?_) #[true, true, true, true, true, true, true, true, true, true, true, true, true, true, true, true, true, true, true, true, true, true, true, true, true, true, false, false, false, false, false, false, false, false, false, false, false, false, false, false, false, false, false, false, false, false, false, false, false, false, false] rfl rfl (any_of HT_.out (by kernel_rfl)) (fun _ _ _ h => h) (Or.inl ⟨by rfl, ?_⟩) ?_ ?_
                   rotate_left
                   ·
                    intro w'
                    go_simp
                    with_reducible rfl
                   rotate_left
                   ·
                    simp only [Act.put, List.setIfInBounds_toArray, List.set_cons_zero, List.set_cons_succ, i64_w, i32_w]
                    rfl
                   refine pure_ (i := 26) (N := some 424) (v := ?_) (a' := ?_) #[true, true, true, true, true, true, true, true, true, true, true, true, true, true, true, true, true, true, true, true, true, true, true, true, true, true, true, false, false, false, false, false, false, false, false, false, false, false, false, false, false, false, false, false, false, false, false, false, false, false, false] rfl rfl (any_of HT_.out (by kernel_rfl)) (fun _ _ _ h => h) (Or.inl ⟨by rfl, ?_⟩) ?_ ?_
                   rotate_left
                   ·
                    intro w'
                    go_simp
                    with_reducible rfl
                   rotate_left
                   ·
                    simp only [Act.put, List.setIfInBounds_toArray, List.set_cons_zero, List.set_cons_succ, i64_w, i32_w]
                    rfl
                   refine pure_ (i := 27) (N := some 425) (v := ?_) (a' := ?_) #[true, true, true, true, true, true, true, true, true, true, true, true, true, true, true, true, true, true, true, true, true, true, true, true, true, true, true, true, false, false, false, false, false, false, false, false, false, false, false, false, false, false, false, false, false, false, false, false, false, false, false] rfl rfl (any_of HT_.out (by kernel_rfl)) (fun _ _ _ h => h) (Or.inl ⟨by rfl, ?_⟩) ?_ ?_
                   rotate_left
                   ·
                    intro w'
                    go_simp
                    with_reducible rfl
                   rotate_left
                   ·
                    simp only [Act.put, List.setIfInBounds_toArray, List.set_cons_zero, List.set_cons_succ, i64_w, i32_w]
                    rfl
                   refine pure_ (i := 28) (N := some 426) (v := ?_) (a' := ?_) #[true, true, true, true, true, true, true, true, true, true, true, true, true, true, true, true, true, true, true, true, true, true, true, true, true, true, true, true, true, false, false, false, false, false, false, false, false, false, false, false, false, false, false, false, false, false, false, false, false, false, false] rfl rfl (any_of HT_.out (by kernel_rfl)) (fun _ _ _ h => h) (Or.inl ⟨by rfl, ?_⟩) ?_ ?_
                   rotate_left
                   ·
                    intro w'
                    go_simp
                    with_reducible rfl
                   rotate_left
                   ·
                    simp only [Act.put, List.setIfInBounds_toArray, List.set_cons_zero, List.set_cons_succ, i64_w, i32_w]
                    rfl
                   refine pure_ (i := 29) (N := some 427) (v := ?_) (a' := ?_) #[true, true, true, true, true, true, true, true, true, true, true, true, true, true, true, true, true, true, true, true, true, true, true, true, true, true, true, true, true, true, false, false, false, false, false, false, false, false, false, false, false, false, false, false, false, false, false, false, false, false, false] rfl rfl (any_of HT_.out (by kernel_rfl)) (fun _ _ _ h => h) (Or.inl ⟨by rfl, ?_⟩) ?_ ?_
                   rotate_left
                   ·
                    intro w'
                    go_simp
                    with_reducible rfl
                   rotate_left
                   ·
                    simp only [Act.put, List.setIfInBounds_toArray, List.set_cons_zero, List.set_cons_succ, i64_w, i32_w]
                    rfl
                   refine take_ (i := 30) (N := some 428) (v := ?_) (a' := ?_) #[true, true, true, true, true, true, true, true, true, true, true, true, true, true, true, true, true, true, true, true, true, true, true, true, true, true, true, true, true, true, true, false, false, false, false, false, false, false, false, false, false, false, false, false, false, false, false, false, false, false, false] rfl rfl (take_ofW HT_.out HW_.out (by kernel_rfl)) (fun _ _ _ h => h) (Or.inl ⟨by rfl, ?_⟩) hHeld ?_ ?_
                   rotate_left
                   ·
                    rintro w' ⟨s0, s1⟩
                    go_simp
                    with_reducible rfl
                   rotate_left
                   ·
                    simp only [Act.put, List.setIfInBounds_toArray, List.set_cons_zero, List.set_cons_succ, i64_w, i32_w]
                    rfl
                   refine one_ (i := 31) (N := some 429) #[true, true, true, true, true, true, true, true, true, true, true, true, true, true, true, true, true, true, true, true, true, true, true, true, true, true, true, true, true, true, true, true, false, false, false, false, false, false, false, false, false, false, false, false, false, false, false, false, false, false, false] rfl rfl (one_of HT_.out (by kernel_rfl)) (by decide) (fun K hK => ?_)
                   refine goes_ Try.func35 (by kernel_rfl) rfl #[.agg #[.int .i64 a3_0, .int .i64 a3_1]] (by rfl) rfl rfl (by (try simp only [List.map_toArray, List.map_cons, List.map_nil]); first | done | rfl | (simp only [List.length_drop, List.length_take]; rfl)) ?_
                   with_reducible refine (impl_IsPair.calls a3_0 a3_1 t277 _ A125.out).mono ?_
                   rintro e w132 ⟨rfl, hb⟩
                   refine ⟨_, rfl, ?_⟩
                   have n0_ := Aside0.mk (blk_below (g := gb212) (o := .cells #[.int .i64 a3_0, .int .i64 a3_1] 41 (0, 0)) (by (with_reducible repeat (first | refine blk_drewN ?_ _ | refine blk_drew ?_ | refine blk_alloc ?_ _)); exact BK212.out) hb)
                   have n1_ := Aside0.mk (below_step (by repeat (first | (with_reducible first | exact HB.out | apply below_alloc | apply pw_below_drewN | apply below_drew1 | refine below_set ?_ GE212.out) | exact HB.out)) hb)
                   clear BK212
                   clear HB
                   have BK212 := n0_
                   have HB := n1_
                   clear n0_ n1_
                   (try clear hb)
                   (try clear hb2)
                   (try clear hk)
                   (try clear hi)
                   refine hK.out _ _ ⟨(blk_cell BK212.out 0).trans rfl, (blk_cell BK212.out 1).trans rfl⟩ (fun hHeld => ?_)
                   clear hK K
                   refine norm_ (a' := ?_) ?_ ?_
                   rotate_left
                   ·
                    show Act.put _ (some 429) _ = _
                    simp only [Act.put, List.setIfInBounds_toArray, List.set_cons_zero, List.set_cons_succ, i64_w, i32_w]
                    rfl
                   refine pure_ (i := 32) (N := some 430) (v := ?_) (a' := ?_) #[true, true, true, true, true, true, true, true, true, true, true, true, true, true, true, true, true, true, true, true, true, true, true, true, true, true, true, true, true, true, true, true, true, false, false, false, false, false, false, false, false, false, false, false, false, false, false, false, false, false, false] rfl rfl (any_of HT_.out (by kernel_rfl)) (fun _ _ _ h => h) (Or.inl ⟨by rfl, ?_⟩) ?_ ?_
                   rotate_left
                   ·
                    intro w'
                    go_simp
                    with_reducible rfl
                   rotate_left
                   ·
                    simp only [Act.put, List.setIfInBounds_toArray, List.set_cons_zero, List.set_cons_succ, i64_w, i32_w]
                    rfl
                   refine pure_ (i := 33) (N := some 431) (v := ?_) (a' := ?_) #[true, true, true, true, true, true, true, true, true, true, true, true, true, true, true, true, true, true, true, true, true, true, true, true, true, true, true, true, true, true, true, true, true, true, false, false, false, false, false, false, false, false, false, false, false, false, false, false, false, false, false] rfl rfl (any_of HT_.out (by kernel_rfl)) (fun _ _ _ h => h) (Or.inl ⟨by rfl, ?_⟩) ?_ ?_
                   rotate_left
                   ·
                    intro w'
                    go_simp
                    with_reducible rfl
                   rotate_left
                   ·
                    simp only [Act.put, List.setIfInBounds_toArray, List.set_cons_zero, List.set_cons_succ, i64_w, i32_w]
                    rfl
                   refine pure_ (i := 34) (N := some 432) (v := ?_) (a' := ?_) #[true, true, true, true, true, true, true, true, true, true, true, true, true, true, true, true, true, true, true, true, true, true, true, true, true, true, true, true, true, true, true, true, true, true, true, false, false, false, false, false, false, false, false, false, false, false, false, false, false, false, false] rfl rfl (any_of HT_.out (by kernel_rfl)) (fun _ _ _ h => h) (Or.inl ⟨by rfl, ?_⟩) ?_ ?_
                   rotate_left
                   ·
                    intro w'
                    go_simp
                    with_reducible rfl
                   rotate_left
                   ·
                    simp only [Act.put, List.setIfInBounds_toArray, List.set_cons_zero, List.set_cons_succ, i64_w, i32_w]
                    rfl
                   refine take_ (i := 35) (N := some 433) (v := ?_) (a' := ?_) #[true, true, true, true, true, true, true, true, true, true, true, true, true, true, true, true, true, true, true, true, true, true, true, true, true, true, true, true, true, true, true, true, true, true, true, true, false, false, false, false, false, false, false, false, false, false, false, false, false, false, false] rfl rfl (take_ofW HT_.out HW_.out (by kernel_rfl)) (fun _ _ _ h => h) (Or.inl ⟨by rfl, ?_⟩) hHeld ?_ ?_
                   rotate_left
                   ·
                    rintro w' ⟨s0, s1⟩
                    go_simp
                    with_reducible rfl
                   rotate_left
                   ·
                    simp only [Act.put, List.setIfInBounds_toArray, List.set_cons_zero, List.set_cons_succ, i64_w, i32_w]
                    rfl
                   refine take_ (i := 37) (N := some 435) (v := ?_) (a' := ?_) #[true, true, true, true, true, true, true, true, true, true, true, true, true, true, true, true, true, true, true, true, true, true, true, true, true, true, true, true, true, true, true, true, true, true, true, true, false, true, false, false, false, false, false, false, false, false, false, false, false, false, false] rfl rfl (take_ofW HT_.out HW_.out (by kernel_rfl)) (fun _ _ _ h => h) (Or.inl ⟨by rfl, ?_⟩) hHeld ?_ ?_
                   rotate_left
                   ·
                    rintro w' ⟨s0, s1⟩
                    go_simp
                    with_reducible rfl
                   rotate_left
                   ·
                    simp only [Act.put, List.setIfInBounds_toArray, List.set_cons_zero, List.set_cons_succ, i64_w, i32_w]
                    rfl
                   refine one_ (i := 36) (N := some 434) #[true, true, true, true, true, true, true, true, true, true, true, true, true, true, true, true, true, true, true, true, true, true, true, true, true, true, true, true, true, true, true, true, true, true, true, true, true, true, false, false, false, false, false, false, false, false, false, false, false, false, false] rfl rfl (one_of HT_.out (by kernel_rfl)) (by decide) (fun K hK => ?_)
                   refine goes_ Try.func35 (by kernel_rfl) rfl #[.agg #[.int .i64 a3_0, .int .i64 a3_1]] (by rfl) rfl rfl (by (try simp only [List.map_toArray, List.map_cons, List.map_nil]); first | done | rfl | (simp only [List.length_drop, List.length_take]; rfl)) ?_
                   with_reducible refine (impl_IsPair.calls a3_0 a3_1 t278 _ A127.out).mono ?_
                   rintro e w133 ⟨rfl, hb⟩
                   refine ⟨_, rfl, ?_⟩
                   have n0_ := Aside0.mk (blk_below (g := gb212) (o := .cells #[.int .i64 a3_0, .int .i64 a3_1] 41 (0, 0)) (by (with_reducible repeat (first | refine blk_drewN ?_ _ | refine blk_drew ?_ | refine blk_alloc ?_ _)); exact BK212.out) hb)
                   have n1_ := Aside0.mk (below_step (by repeat (first | (with_reducible first | exact HB.out | apply below_alloc | apply pw_below_drewN | apply below_drew1 | refine below_set ?_ GE212.out) | exact HB.out)) hb)
                   clear BK212
                   clear HB
                   have BK212 := n0_
                   have HB := n1_
                   clear n0_ n1_
                   (try clear hb)
                   (try clear hb2)
                   (try clear hk)
                   (try clear hi)
                   refine hK.out _ _ ⟨(blk_cell BK212.out 0).trans rfl, (blk_cell BK212.out 1).trans rfl⟩ (fun hHeld => ?_)
                   clear hK K
                   refine norm_ (a' := ?_) ?_ ?_
                   rotate_left
                   ·
                    show Act.put _ (some 434) _ = _
                    simp only [Act.put, List.setIfInBounds_toArray, List.set_cons_zero, List.set_cons_succ, i64_w, i32_w]
                    rfl
                   refine one_ (i := 38) (N := some 436) #[true, true, true, true, true, true, true, true, true, true, true, true, true, true, true, true, true, true, true, true, true, true, true, true, true, true, true, true, true, true, true, true, true, true, true, true, true, true, true, false, false, false, false, false, false, false, false, false, false, false, false] rfl rfl (one_of HT_.out (by kernel_rfl)) (by decide) (fun K hK => ?_)
                   refine goes_ Try.func38 (by kernel_rfl) rfl #[.agg #[.int .i64 a3_0, .int .i64 a3_1]] (by rfl) rfl rfl (by (try simp only [List.map_toArray, List.map_cons, List.map_nil]); first | done | rfl | (simp only [List.length_drop, List.length_take]; rfl)) ?_
                   with_reducible refine (spec_IsPair.calls a3_0 a3_1 t279 _ A128.out).mono ?_
                   rintro e w134 ⟨rfl, hb⟩
                   refine ⟨_, rfl, ?_⟩
                   have n0_ := Aside0.mk (blk_below (g := gb212) (o := .cells #[.int .i64 a3_0, .int .i64 a3_1] 41 (0, 0)) (by (with_reducible repeat (first | refine blk_drewN ?_ _ | refine blk_drew ?_ | refine blk_alloc ?_ _)); exact BK212.out) hb)
                   have n1_ := Aside0.mk (below_step (by repeat (first | (with_reducible first | exact HB.out | apply below_alloc | apply pw_below_drewN | apply below_drew1 | refine below_set ?_ GE212.out) | exact HB.out)) hb)
                   clear BK212
                   clear HB
                   have BK212 := n0_
                   have HB := n1_
                   clear n0_ n1_
                   (try clear hb)
                   (try clear hb2)
                   (try clear hk)
                   (try clear hi)
                   refine hK.out _ _ ⟨(blk_cell BK212.out 0).trans rfl, (blk_cell BK212.out 1).trans rfl⟩ (fun hHeld => ?_)
                   clear hK K
                   refine norm_ (a' := ?_) ?_ ?_
                   rotate_left
                   ·
                    show Act.put _ (some 436) _ = _
                    simp only [Act.put, List.setIfInBounds_toArray, List.set_cons_zero, List.set_cons_succ, i64_w, i32_w]
                    rfl
                   refine pure_ (i := 39) (N := some 437) (v := ?_) (a' := ?_) #[true, true, true, true, true, true, true, true, true, true, true, true, true, true, true, true, true, true, true, true, true, true, true, true, true, true, true, true, true, true, true, true, true, true, true, true, true, true, true, true, false, false, false, false, false, false, false, false, false, false, false] rfl rfl (any_of HT_.out (by kernel_rfl)) (fun _ _ _ h => h) (Or.inl ⟨by rfl, ?_⟩) ?_ ?_
                   rotate_left
                   ·
                    intro w'
                    go_simp
                    with_reducible rfl
                   rotate_left
                   ·
                    simp only [Act.put, List.setIfInBounds_toArray, List.set_cons_zero, List.set_cons_succ, i64_w, i32_w]
                    rfl
                   refine pure_ (i := 40) (N := some 438) (v := ?_) (a' := ?_) #[true, true, true, true, true, true, true, true, true, true, true, true, true, true, true, true, true, true, true, true, true, true, true, true, true, true, true, true, true, true, true, true, true, true, true, true, true, true, true, true, true, false, false, false, false, false, false, false, false, false, false] rfl rfl (any_of HT_.out (by kernel_rfl)) (fun _ _ _ h => h) (Or.inl ⟨by rfl, ?_⟩) ?_ ?_
                   rotate_left
                   ·
                    intro w'
                    go_simp
                    with_reducible rfl
                   rotate_left
                   ·
                    simp only [Act.put, List.setIfInBounds_toArray, List.set_cons_zero, List.set_cons_succ, i64_w, i32_w]
                    rfl
                   refine pure_ (i := 41) (N := some 439) (v := ?_) (a' := ?_) #[true, true, true, true, true, true, true, true, true, true, true, true, true, true, true, true, true, true, true, true, true, true, true, true, true, true, true, true, true, true, true, true, true, true, true, true, true, true, true, true, true, true, false, false, false, false, false, false, false, false, false] rfl rfl (any_of HT_.out (by kernel_rfl)) (fun _ _ _ h => h) (Or.inl ⟨by rfl, ?_⟩) ?_ ?_
                   rotate_left
                   ·
                    intro w'
                    go_simp
                    with_reducible rfl
                   rotate_left
                   ·
                    simp only [Act.put, List.setIfInBounds_toArray, List.set_cons_zero, List.set_cons_succ, i64_w, i32_w]
                    rfl
                   refine pure_ (i := 42) (N := some 440) (v := ?_) (a' := ?_) #[true, true, true, true, true, true, true, true, true, true, true, true, true, true, true, true, true, true, true, true, true, true, true, true, true, true, true, true, true, true, true, true, true, true, true, true, true, true, true, true, true, true, true, false, false, false, false, false, false, false, false] rfl rfl (any_of HT_.out (by kernel_rfl)) (fun _ _ _ h => h) (Or.inl ⟨by rfl, ?_⟩) ?_ ?_
                   rotate_left
                   ·
                    intro w'
                    go_simp
                    with_reducible rfl
                   rotate_left
                   ·
                    simp only [Act.put, List.setIfInBounds_toArray, List.set_cons_zero, List.set_cons_succ, i64_w, i32_w]
                    rfl
                   refine pure_ (i := 43) (N := some 441) (v := ?_) (a' := ?_) #[true, true, true, true, true, true, true, true, true, true, true, true, true, true, true, true, true, true, true, true, true, true, true, true, true, true, true, true, true, true, true, true, true, true, true, true, true, true, true, true, true, true, true, true, false, false, false, false, false, false, false] rfl rfl (any_of HT_.out (by kernel_rfl)) (fun _ _ _ h => h) (Or.inl ⟨by rfl, ?_⟩) ?_ ?_
                   rotate_left
                   ·
                    intro w'
                    go_simp
                    with_reducible rfl
                   rotate_left
                   ·
                    simp only [Act.put, List.setIfInBounds_toArray, List.set_cons_zero, List.set_cons_succ, i64_w, i32_w]
                    rfl
                   refine pure_ (i := 44) (N := some 442) (v := ?_) (a' := ?_) #[true, true, true, true, true, true, true, true, true, true, true, true, true, true, true, true, true, true, true, true, true, true, true, true, true, true, true, true, true, true, true, true, true, true, true, true, true, true, true, true, true, true, true, true, true, false, false, false, false, false, false] rfl rfl (any_of HT_.out (by kernel_rfl)) (fun _ _ _ h => h) (Or.inl ⟨by rfl, ?_⟩) ?_ ?_
                   rotate_left
                   ·
                    intro w'
                    go_simp
                    with_reducible rfl
                   rotate_left
                   ·
                    simp only [Act.put, List.setIfInBounds_toArray, List.set_cons_zero, List.set_cons_succ, i64_w, i32_w]
                    rfl
                   refine pure_ (i := 45) (N := some 443) (v := ?_) (a' := ?_) #[true, true, true, true, true, true, true, true, true, true, true, true, true, true, true, true, true, true, true, true, true, true, true, true, true, true, true, true, true, true, true, true, true, true, true, true, true, true, true, true, true, true, true, true, true, true, false, false, false, false, false] rfl rfl (any_of HT_.out (by kernel_rfl)) (fun _ _ _ h => h) (Or.inl ⟨by rfl, ?_⟩) ?_ ?_
                   rotate_left
                   ·
                    intro w'
                    go_simp
                    with_reducible rfl
                   rotate_left
                   ·
                    simp only [Act.put, List.setIfInBounds_toArray, List.set_cons_zero, List.set_cons_succ, i64_w, i32_w]
                    rfl
                   refine pure_ (i := 46) (N := some 444) (v := ?_) (a' := ?_) #[true, true, true, true, true, true, true, true, true, true, true, true, true, true, true, true, true, true, true, true, true, true, true, true, true, true, true, true, true, true, true, true, true, true, true, true, true, true, true, true, true, true, true, true, true, true, true, false, false, false, false] rfl rfl (any_of HT_.out (by kernel_rfl)) (fun _ _ _ h => h) (Or.inl ⟨by rfl, ?_⟩) ?_ ?_
                   rotate_left
                   ·
                    intro w'
                    go_simp
                    with_reducible rfl
                   rotate_left
                   ·
                    simp only [Act.put, List.setIfInBounds_toArray, List.set_cons_zero, List.set_cons_succ, i64_w, i32_w]
                    rfl
                   refine pure_ (i := 47) (N := some 445) (v := ?_) (a' := ?_) #[true, true, true, true, true, true, true, true, true, true, true, true, true, true, true, true, true, true, true, true, true, true, true, true, true, true, true, true, true, true, true, true, true, true, true, true, true, true, true, true, true, true, true, true, true, true, true, true, false, false, false] rfl rfl (any_of HT_.out (by kernel_rfl)) (fun _ _ _ h => h) (Or.inl ⟨by rfl, ?_⟩) ?_ ?_
                   rotate_left
                   ·
                    intro w'
                    go_simp
                    with_reducible rfl
                   rotate_left
                   ·
                    simp only [Act.put, List.setIfInBounds_toArray, List.set_cons_zero, List.set_cons_succ, i64_w, i32_w]
                    rfl
                   refine pure_ (i := 48) (N := some 446) (v := ?_) (a' := ?_) #[true, true, true, true, true, true, true, true, true, true, true, true, true, true, true, true, true, true, true, true, true, true, true, true, true, true, true, true, true, true, true, true, true, true, true, true, true, true, true, true, true, true, true, true, true, true, true, true, true, false, false] rfl rfl (any_of HT_.out (by kernel_rfl)) (fun _ _ _ h => h) (Or.inl ⟨by rfl, ?_⟩) ?_ ?_
                   rotate_left
                   ·
                    intro w'
                    go_simp
                    with_reducible rfl
                   rotate_left
                   ·
                    simp only [Act.put, List.setIfInBounds_toArray, List.set_cons_zero, List.set_cons_succ, i64_w, i32_w]
                    rfl
                   refine pure_ (i := 49) (N := some 447) (v := ?_) (a' := ?_) #[true, true, true, true, true, true, true, true, true, true, true, true, true, true, true, true, true, true, true, true, true, true, true, true, true, true, true, true, true, true, true, true, true, true, true, true, true, true, true, true, true, true, true, true, true, true, true, true, true, true, false] rfl rfl (any_of HT_.out (by kernel_rfl)) (fun _ _ _ h => h) (Or.inl ⟨by rfl, ?_⟩) ?_ ?_
                   rotate_left
                   ·
                    intro w'
                    go_simp
                    with_reducible rfl
                   rotate_left
                   ·
                    simp only [Act.put, List.setIfInBounds_toArray, List.set_cons_zero, List.set_cons_succ, i64_w, i32_w]
                    rfl
                   refine pure_ (i := 50) (N := some 448) (v := ?_) (a' := ?_) #[true, true, true, true, true, true, true, true, true, true, true, true, true, true, true, true, true, true, true, true, true, true, true, true, true, true, true, true, true, true, true, true, true, true, true, true, true, true, true, true, true, true, true, true, true, true, true, true, true, true, true] rfl rfl (any_of HT_.out (by kernel_rfl)) (fun _ _ _ h => h) (Or.inl ⟨by rfl, ?_⟩) ?_ ?_
                   rotate_left
                   ·
                    intro w'
                    go_simp
                    with_reducible rfl
                   rotate_left
                   ·
                    simp only [Act.put, List.setIfInBounds_toArray, List.set_cons_zero, List.set_cons_succ, i64_w, i32_w]
                    rfl
                   refine done_ (done_of HT_.out (by kernel_rfl)) ?_
                   try go_wp2
                   go_meet
                   case rel => exact ⟨_, ((t273 != t275)), (by first | rfl | (simp; done) | (simp [*]; done)), H', ⟨by have := HJ6.out; have := HJ22.out; have := HJ59.out; first | omega | exact Nat.le_refl _⟩, ⟨by (with_reducible repeat (first | refine blk_drewN ?_ _ | refine blk_drew ?_ | refine blk_alloc ?_ _)); exact BK212.out⟩, ⟨by repeat (first | (with_reducible first | exact HB.out | apply below_alloc | apply pw_below_drewN | apply below_drew1 | refine below_set ?_ GE212.out) | exact HB.out)⟩⟩
               ·
                rw [if_neg c124] at H
                exact absurd H (by simp)
              ·
               rw [if_neg c123] at H
               exact absurd H (by simp)
            ·
             rw [if_neg c121] at H
             exact absurd H (by simp)
           ·
            rw [if_neg c120] at H
            exact absurd H (by simp)
         case rest => as_aux_lemma =>
          clear HC110
          try clear c1
          try clear c4
          try clear c5
          try clear c12
          obtain ⟨kq, x448_109, rfl, HA, HJ109, BK212, HB⟩ := hcut
          cases kq with
          | zero => exact absurd HA.out (by simp [laws_FnTrainsTurnOfAll.j6])
          | succ kj109 =>
           have H := HA.out
           clear HA
           simp only [laws_FnTrainsTurnOfAll.j6] at H
           by_cases c135 : x448_109 = true
           ·
            subst c135
            have H1 : (none) = some r := by rw [if_pos rfl] at H; exact H
            clear H
            have H := H1
            clear H1
            exact absurd H (by simp)
           ·
            replace c135 := Bool.eq_false_iff.mpr c135
            subst c135
            have H1 : (if t263 = true then ((impl_RatioOf.f kj109 l1).bind fun bt280 => ((impl_DirectionOf.f kj109 l1).bind fun bt283 => (if bt280.2.2 = true then (if bt283.2 = true then (if t262 < 1 then (none) else (if (wrap64 (t261 * bt280.2.1)) = (wrap64 ((wrap64 ((wrap64 (bt280.1 * a2)) * bt283.1)) * t262)) then (laws_FnTrainsTurnOfAll.j7 kj109 l4 l5 t267 t268 t269 t273 t274 a3_0 a3_1) else (none))) else (none)) else (none)))) else (laws_FnTrainsTurnOfAll.j7 kj109 l4 l5 t267 t268 t269 t273 t274 a3_0 a3_1)) = some r := by rw [if_neg (show ¬ (false = true) by decide)] at H; exact H
            clear H
            have H := H1
            clear H1
            have HC136 := Aside0.mk H
            clear H
            go_upto_if 449 with (fail)
            go_cut [] from 449 to 513 (fun wc => ∃ (kq : Nat), Aside0 (laws_FnTrainsTurnOfAll.j7 kq l4 l5 t267 t268 t269 t273 t274 a3_0 a3_1 = some r) ∧ Aside0 (kq ≤ kj109) ∧ Aside0 (wc.heap[gb212]? = some (.cells #[.int .i64 a3_0, .int .i64 a3_1] 41 (0, 0))) ∧ Aside0 (Below w.heap.size w wc))
            case first => as_aux_lemma =>
             have H := HC136.out
             clear HC136
             by_cases c137 : t263 = true
             ·
              subst c137
              have H1 : ((impl_RatioOf.f kj109 l1).bind fun bt280 => ((impl_DirectionOf.f kj109 l1).bind fun bt283 => (if bt280.2.2 = true then (if bt283.2 = true then (if t262 < 1 then (none) else (if (wrap64 (t261 * bt280.2.1)) = (wrap64 ((wrap64 ((wrap64 (bt280.1 * a2)) * bt283.1)) * t262)) then (laws_FnTrainsTurnOfAll.j7 kj109 l4 l5 t267 t268 t269 t273 t274 a3_0 a3_1) else (none))) else (none)) else (none)))) = some r := by rw [if_pos rfl] at H; exact H
              clear H
              have H := H1
              clear H1
              replace H := Option.bind_eq_some_iff.mp H
              obtain ⟨⟨t280, t281, t282⟩, A1380, H⟩ := H
              replace H : ((impl_DirectionOf.f kj109 l1).bind fun bt283 => (if t282 = true then (if bt283.2 = true then (if t262 < 1 then (none) else (if (wrap64 (t261 * t281)) = (wrap64 ((wrap64 ((wrap64 (t280 * a2)) * bt283.1)) * t262)) then (laws_FnTrainsTurnOfAll.j7 kj109 l4 l5 t267 t268 t269 t273 t274 a3_0 a3_1) else (none))) else (none)) else (none))) = some r := H
              have A138 := Aside0.mk A1380
              clear A1380
              replace H := Option.bind_eq_some_iff.mp H
              obtain ⟨⟨t283, t284⟩, A1390, H⟩ := H
              replace H : (if t282 = true then (if t284 = true then (if t262 < 1 then (none) else (if (wrap64 (t261 * t281)) = (wrap64 ((wrap64 ((wrap64 (t280 * a2)) * t283)) * t262)) then (laws_FnTrainsTurnOfAll.j7 kj109 l4 l5 t267 t268 t269 t273 t274 a3_0 a3_1) else (none))) else (none)) else (none)) = some r := H
              have A139 := Aside0.mk A1390
              clear A1390
              by_cases c140 : t282 = true
              ·
               subst c140
               have H1 : (if t284 = true then (if t262 < 1 then (none) else (if (wrap64 (t261 * t281)) = (wrap64 ((wrap64 ((wrap64 (t280 * a2)) * t283)) * t262)) then (laws_FnTrainsTurnOfAll.j7 kj109 l4 l5 t267 t268 t269 t273 t274 a3_0 a3_1) else (none))) else (none)) = some r := by rw [if_pos rfl] at H; exact H
               clear H
               have H := H1
               clear H1
               by_cases c141 : t284 = true
               ·
                subst c141
                have H1 : (if t262 < 1 then (none) else (if (wrap64 (t261 * t281)) = (wrap64 ((wrap64 ((wrap64 (t280 * a2)) * t283)) * t262)) then (laws_FnTrainsTurnOfAll.j7 kj109 l4 l5 t267 t268 t269 t273 t274 a3_0 a3_1) else (none))) = some r := by rw [if_pos rfl] at H; exact H
                clear H
                have H := H1
                clear H1
                by_cases c142 : t262 < 1
                ·
                 rw [if_pos c142] at H
                 exact absurd H (by simp)
                ·
                 rw [if_neg c142] at H
                 have c142b0 : decide (t262 < 1) = false := decide_eq_false c142
                 clear c142
                 (first | rw [c142b0] | (simp only [i64_w, i32_w]; rw [c142b0]) | skip)
                 by_cases c143 : (wrap64 (t261 * t281)) = (wrap64 ((wrap64 ((wrap64 (t280 * a2)) * t283)) * t262))
                 ·
                  rw [if_pos c143] at H
                  have c143b0 : ((wrap64 (t261 * t281)) == (wrap64 ((wrap64 ((wrap64 (t280 * a2)) * t283)) * t262))) = true := beq_iff_eq.mpr c143
                  have c143b1 : ((wrap64 (t261 * t281)) != (wrap64 ((wrap64 ((wrap64 (t280 * a2)) * t283)) * t262))) = false := bne_eq_false_iff_eq.mpr c143
                  clear c143
                  have H' := Aside0.mk H
                  clear H
                  go_wp2_with (first | ((with_reducible refine gate_callee (f := 23) rfl ?_); refine goesL_ (some 452) rfl rfl Try.func23 (by kernel_rfl) rfl #[.slice A1 l1.length c1] rfl (by (try simp only [List.map_toArray, List.map_cons, List.map_nil]); first | done | rfl | (simp only [List.length_drop, List.length_take]; rfl)) ?_; (with_reducible refine (impl_RatioOf.calls kj109 _ _ l1 t280 t281 true _ ?side1 ?side2 A138.out).mono ?_); (case side1 => repeat (first | exact (Kd.C_below HR1.out HB.out) | (with_reducible refine Kd.C_alloc ?_ _) | (with_reducible refine Kd.C_drewN ?_ _) | (with_reducible refine Kd.C_drew ?_))); (case side2 => exact HC1.out); rintro e w144 ⟨rfl, hb⟩; refine ⟨_, rfl, ?_⟩; have n0_ := Aside0.mk (blk_below (g := gb212) (o := .cells #[.int .i64 a3_0, .int .i64 a3_1] 41 (0, 0)) (by (with_reducible repeat (first | refine blk_drewN ?_ _ | refine blk_drew ?_ | refine blk_alloc ?_ _)); exact BK212.out) hb); have n1_ := Aside0.mk (below_step (by repeat (first | (with_reducible first | exact HB.out | apply below_alloc | apply pw_below_drewN | apply below_drew1 | refine below_set ?_ GE212.out) | exact HB.out)) hb); clear BK212; clear HB; have BK212 := n0_; have HB := n1_; clear n0_ n1_; (try clear hb); (try clear hb2); (try clear hk); (try clear hi)) | ((with_reducible refine gate_callee (f := 19) rfl ?_); refine goesL_ (some 458) rfl rfl Try.func19 (by kernel_rfl) rfl #[.slice A1 l1.length c1] rfl (by (try simp only [List.map_toArray, List.map_cons, List.map_nil]); first | done | rfl | (simp only [List.length_drop, List.length_take]; rfl)) ?_; (with_reducible refine (impl_DirectionOf.calls kj109 _ _ l1 t283 true _ ?side1 ?side2 A139.out).mono ?_); (case side1 => repeat (first | exact (Kd.C_below HR1.out HB.out) | (with_reducible refine Kd.C_alloc ?_ _) | (with_reducible refine Kd.C_drewN ?_ _) | (with_reducible refine Kd.C_drew ?_))); (case side2 => exact HC1.out); rintro e w145 ⟨rfl, hb⟩; refine ⟨_, rfl, ?_⟩; have n0_ := Aside0.mk (blk_below (g := gb212) (o := .cells #[.int .i64 a3_0, .int .i64 a3_1] 41 (0, 0)) (by (with_reducible repeat (first | refine blk_drewN ?_ _ | refine blk_drew ?_ | refine blk_alloc ?_ _)); exact BK212.out) hb); have n1_ := Aside0.mk (below_step (by repeat (first | (with_reducible first | exact HB.out | apply below_alloc | apply pw_below_drewN | apply below_drew1 | refine below_set ?_ GE212.out) | exact HB.out)) hb); clear BK212; clear HB; have BK212 := n0_; have HB := n1_; clear n0_ n1_; (try clear hb); (try clear hb2); (try clear hk); (try clear hi)))
                  go_meet
                  case rel => exact ⟨_, H', ⟨by have := HJ6.out; have := HJ22.out; have := HJ59.out; have := HJ109.out; first | omega | exact Nat.le_refl _⟩, ⟨by (with_reducible repeat (first | refine blk_drewN ?_ _ | refine blk_drew ?_ | refine blk_alloc ?_ _)); exact BK212.out⟩, ⟨by repeat (first | (with_reducible first | exact HB.out | apply below_alloc | apply pw_below_drewN | apply below_drew1 | refine below_set ?_ GE212.out) | exact HB.out)⟩⟩
                 ·
                  rw [if_neg c143] at H
                  exact absurd H (by simp)
               ·
                replace c141 := Bool.eq_false_iff.mpr c141
                subst c141
                have H1 : (none) = some r := by rw [if_neg (show ¬ (false = true) by decide)] at H; exact H
                clear H
                have H := H1
                clear H1
                exact absurd H (by simp)
              ·
               replace c140 := Bool.eq_false_iff.mpr c140
               subst c140
               have H1 : (none) = some r := by rw [if_neg (show ¬ (false = true) by decide)] at H; exact H
               clear H
               have H := H1
               clear H1
               exact absurd H (by simp)
             ·
              replace c137 := Bool.eq_false_iff.mpr c137
              subst c137
              have H1 : (laws_FnTrainsTurnOfAll.j7 kj109 l4 l5 t267 t268 t269 t273 t274 a3_0 a3_1) = some r := by rw [if_neg (show ¬ (false = true) by decide)] at H; exact H
              clear H
              have H := H1
              clear H1
              have H' := Aside0.mk H
              clear H
              go_wp2
              go_meet
              case rel => exact ⟨_, H', ⟨by have := HJ6.out; have := HJ22.out; have := HJ59.out; have := HJ109.out; first | omega | exact Nat.le_refl _⟩, ⟨by (with_reducible repeat (first | refine blk_drewN ?_ _ | refine blk_drew ?_ | refine blk_alloc ?_ _)); exact BK212.out⟩, ⟨by repeat (first | (with_reducible first | exact HB.out | apply below_alloc | apply pw_below_drewN | apply below_drew1 | refine below_set ?_ GE212.out) | exact HB.out)⟩⟩
            case rest => as_aux_lemma =>
             clear HC136
             try clear c1
             try clear c4
             try clear c5
             try clear c12
             try clear c135
             obtain ⟨kq, HA, HJ135, BK212, HB⟩ := hcut
             cases kq with
             | zero => exact absurd HA.out (by simp [laws_FnTrainsTurnOfAll.j7])
             | succ kj135 =>
              have H := HA.out
              clear HA
              simp only [laws_FnTrainsTurnOfAll.j7] at H
              have HC146 := Aside0.mk H
              clear H
              go_upto_region 51 with (fail)
              go_cut [513] from 449 to 513 (fun v513 wc => ∃ (kq : Nat) (x513_145 : Bool), v513 = .bool x513_145 ∧ Aside0 (laws_FnTrainsTurnOfAll.j8 kq l4 l5 t273 t274 x513_145 = some r) ∧ Aside0 (kq ≤ kj135) ∧ Aside0 (wc.heap[gb212]? = some (.cells #[.int .i64 a3_0, .int .i64 a3_1] 41 (0, 0))) ∧ Aside0 (Below w.heap.size w wc))
              case first => as_aux_lemma =>
               have H := HC146.out
               clear HC146
               by_cases c147 : t269 = true
               ·
                subst c147
                have H1 : (if (wrap64 (t267 * a3_0)) = (wrap64 (t268 * a3_1)) then (if t267 < 1 then (none) else (if t267 = 0 then (none) else (if (Int.tmod a3_1 t267) = 0 then (if t268 = 0 then (none) else (laws_FnTrainsTurnOfAll.j8 kj135 l4 l5 t273 t274 ((Int.tmod a3_0 t268) != 0))) else (none)))) else (none)) = some r := by rw [if_pos rfl] at H; exact H
                clear H
                have H := H1
                clear H1
                by_cases c148 : (wrap64 (t267 * a3_0)) = (wrap64 (t268 * a3_1))
                ·
                 rw [if_pos c148] at H
                 have c148b0 : ((wrap64 (t267 * a3_0)) == (wrap64 (t268 * a3_1))) = true := beq_iff_eq.mpr c148
                 have c148b1 : ((wrap64 (t267 * a3_0)) != (wrap64 (t268 * a3_1))) = false := bne_eq_false_iff_eq.mpr c148
                 clear c148
                 (first | rw [c148b0] | (simp only [i64_w, i32_w]; rw [c148b0]) | skip)
                 by_cases c149 : t267 < 1
                 ·
                  rw [if_pos c149] at H
                  exact absurd H (by simp)
                 ·
                  rw [if_neg c149] at H
                  have c149b0 : decide (t267 < 1) = false := decide_eq_false c149
                  clear c149
                  by_cases c150 : t267 = 0
                  ·
                   rw [if_pos c150] at H
                   exact absurd H (by simp)
                  ·
                   rw [if_neg c150] at H
                   have c150b0 : (t267 == 0) = false := beq_eq_false_iff_ne.mpr c150
                   have c150b1 : (t267 != 0) = true := bne_iff_ne.mpr c150
                   by_cases c151 : (Int.tmod a3_1 t267) = 0
                   ·
                    rw [if_pos c151] at H
                    have c151b0 : ((Int.tmod a3_1 t267) == 0) = true := beq_iff_eq.mpr c151
                    have c151b1 : ((Int.tmod a3_1 t267) != 0) = false := bne_eq_false_iff_eq.mpr c151
                    clear c151
                    by_cases c152 : t268 = 0
                    ·
                     rw [if_pos c152] at H
                     exact absurd H (by simp)
                    ·
                     rw [if_neg c152] at H
                     have c152b0 : (t268 == 0) = false := beq_eq_false_iff_ne.mpr c152
                     have c152b1 : (t268 != 0) = true := bne_iff_ne.mpr c152
                     have H' := Aside0.mk H
                     clear H
                     have hcz153_0 : wc.cell? ⟨gb212, 0, none⟩ = some (.int .i64 a3_0) := (blk_cell BK212.out 0).trans rfl
                     have hcz153_1 : wc.cell? ⟨gb212, 1, none⟩ = some (.int .i64 a3_1) := (blk_cell BK212.out 1).trans rfl
                     have hfz153_0 := blk_frozen BK212.out 0
                     have hfz153_1 := blk_frozen BK212.out 1
                     go_wp2
                     go_meet
                     case rel => exact ⟨_, (((Int.tmod a3_0 t268) != 0)), (by first | rfl | (simp; done) | (simp [*]; done)), H', ⟨by have := HJ6.out; have := HJ22.out; have := HJ59.out; have := HJ109.out; have := HJ135.out; first | omega | exact Nat.le_refl _⟩, ⟨by (with_reducible repeat (first | refine blk_drewN ?_ _ | refine blk_drew ?_ | refine blk_alloc ?_ _)); exact BK212.out⟩, ⟨by repeat (first | (with_reducible first | exact HB.out | apply below_alloc | apply pw_below_drewN | apply below_drew1 | refine below_set ?_ GE212.out) | exact HB.out)⟩⟩
                   ·
                    rw [if_neg c151] at H
                    exact absurd H (by simp)
                ·
                 rw [if_neg c148] at H
                 exact absurd H (by simp)
               ·
                replace c147 := Bool.eq_false_iff.mpr c147
                subst c147
                have H1 : (laws_FnTrainsTurnOfAll.j8 kj135 l4 l5 t273 t274 false) = some r := by rw [if_neg (show ¬ (false = true) by decide)] at H; exact H
                clear H
                have H := H1
                clear H1
                have H' := Aside0.mk H
                clear H
                go_wp2
                go_meet
                case rel => exact ⟨_, (false), (by first | rfl | (simp; done) | (simp [*]; done)), H', ⟨by have := HJ6.out; have := HJ22.out; have := HJ59.out; have := HJ109.out; have := HJ135.out; first | omega | exact Nat.le_refl _⟩, ⟨by (with_reducible repeat (first | refine blk_drewN ?_ _ | refine blk_drew ?_ | refine blk_alloc ?_ _)); exact BK212.out⟩, ⟨by repeat (first | (with_reducible first | exact HB.out | apply below_alloc | apply pw_below_drewN | apply below_drew1 | refine below_set ?_ GE212.out) | exact HB.out)⟩⟩
              case rest => as_aux_lemma =>
               clear HC146
               try clear c1
               try clear c4
               try clear c5
               try clear c12
               try clear c135
               obtain ⟨kq, x513_145, rfl, HA, HJ145, BK212, HB⟩ := hcut
               cases kq with
               | zero => exact absurd HA.out (by simp [laws_FnTrainsTurnOfAll.j8])
               | succ kj145 =>
                have H := HA.out
                clear HA
                simp only [laws_FnTrainsTurnOfAll.j8] at H
                by_cases c154 : x513_145 = true
                ·
                 subst c154
                 have H1 : (none) = some r := by rw [if_pos rfl] at H; exact H
                 clear H
                 have H := H1
                 clear H1
                 exact absurd H (by simp)
                ·
                 replace c154 := Bool.eq_false_iff.mpr c154
                 subst c154
                 have H1 : (if t274 = true then ((impl_CompareRatios.f kj145 l5 l4).bind fun bt285 => ((impl_RatioOf.f kj145 l4).bind fun bt287 => ((impl_RatioOf.f kj145 l5).bind fun bt290 => (if bt285.2 = true then (if bt285.1 = (wrap64 (-t273)) then (if bt287.2.2 = true then (if bt290.2.2 = true then (if bt287.1 = bt290.1 then (if ((t273 == 0) == (bt287.2.1 == bt290.2.1)) = true then (some ((decide (t273 > 0)) == (decide ((wrap64 (bt287.1 * bt290.2.1)) > (wrap64 (bt290.1 * bt287.2.1)))))) else (none)) else (if ((t273 == 0) == false) = true then (some ((decide (t273 > 0)) == (decide ((wrap64 (bt287.1 * bt290.2.1)) > (wrap64 (bt290.1 * bt287.2.1)))))) else (none))) else (none)) else (none)) else (none)) else (none))))) else (some true)) = some r := by rw [if_neg (show ¬ (false = true) by decide)] at H; exact H
                 clear H
                 have H := H1
                 clear H1
                 by_cases c155 : t274 = true
                 ·
                  subst c155
                  have H1 : ((impl_CompareRatios.f kj145 l5 l4).bind fun bt285 => ((impl_RatioOf.f kj145 l4).bind fun bt287 => ((impl_RatioOf.f kj145 l5).bind fun bt290 => (if bt285.2 = true then (if bt285.1 = (wrap64 (-t273)) then (if bt287.2.2 = true then (if bt290.2.2 = true then (if bt287.1 = bt290.1 then (if ((t273 == 0) == (bt287.2.1 == bt290.2.1)) = true then (some ((decide (t273 > 0)) == (decide ((wrap64 (bt287.1 * bt290.2.1)) > (wrap64 (bt290.1 * bt287.2.1)))))) else (none)) else (if ((t273 == 0) == false) = true then (some ((decide (t273 > 0)) == (decide ((wrap64 (bt287.1 * bt290.2.1)) > (wrap64 (bt290.1 * bt287.2.1)))))) else (none))) else (none)) else (none)) else (none)) else (none))))) = some r := by rw [if_pos rfl] at H; exact H
                  clear H
                  have H := H1
                  clear H1
                  replace H := Option.bind_eq_some_iff.mp H
                  obtain ⟨⟨t285, t286⟩, A1560, H⟩ := H
                  replace H : ((impl_RatioOf.f kj145 l4).bind fun bt287 => ((impl_RatioOf.f kj145 l5).bind fun bt290 => (if t286 = true then (if t285 = (wrap64 (-t273)) then (if bt287.2.2 = true then (if bt290.2.2 = true then (if bt287.1 = bt290.1 then (if ((t273 == 0) == (bt287.2.1 == bt290.2.1)) = true then (some ((decide (t273 > 0)) == (decide ((wrap64 (bt287.1 * bt290.2.1)) > (wrap64 (bt290.1 * bt287.2.1)))))) else (none)) else (if ((t273 == 0) == false) = true then (some ((decide (t273 > 0)) == (decide ((wrap64 (bt287.1 * bt290.2.1)) > (wrap64 (bt290.1 * bt287.2.1)))))) else (none))) else (none)) else (none)) else (none)) else (none)))) = some r := H
                  have A156 := Aside0.mk A1560
                  clear A1560
                  replace H := Option.bind_eq_some_iff.mp H
                  obtain ⟨⟨t287, t288, t289⟩, A1570, H⟩ := H
                  replace H : ((impl_RatioOf.f kj145 l5).bind fun bt290 => (if t286 = true then (if t285 = (wrap64 (-t273)) then (if t289 = true then (if bt290.2.2 = true then (if t287 = bt290.1 then (if ((t273 == 0) == (t288 == bt290.2.1)) = true then (some ((decide (t273 > 0)) == (decide ((wrap64 (t287 * bt290.2.1)) > (wrap64 (bt290.1 * t288)))))) else (none)) else (if ((t273 == 0) == false) = true then (some ((decide (t273 > 0)) == (decide ((wrap64 (t287 * bt290.2.1)) > (wrap64 (bt290.1 * t288)))))) else (none))) else (none)) else (none)) else (none)) else (none))) = some r := H
                  have A157 := Aside0.mk A1570
                  clear A1570
                  replace H := Option.bind_eq_some_iff.mp H
                  obtain ⟨⟨t290, t291, t292⟩, A1580, H⟩ := H
                  replace H : (if t286 = true then (if t285 = (wrap64 (-t273)) then (if t289 = true then (if t292 = true then (if t287 = t290 then (if ((t273 == 0) == (t288 == t291)) = true then (some ((decide (t273 > 0)) == (decide ((wrap64 (t287 * t291)) > (wrap64 (t290 * t288)))))) else (none)) else (if ((t273 == 0) == false) = true then (some ((decide (t273 > 0)) == (decide ((wrap64 (t287 * t291)) > (wrap64 (t290 * t288)))))) else (none))) else (none)) else (none)) else (none)) else (none)) = some r := H
                  have A158 := Aside0.mk A1580
                  clear A1580
                  by_cases c159 : t286 = true
                  ·
                   subst c159
                   have H1 : (if t285 = (wrap64 (-t273)) then (if t289 = true then (if t292 = true then (if t287 = t290 then (if ((t273 == 0) == (t288 == t291)) = true then (some ((decide (t273 > 0)) == (decide ((wrap64 (t287 * t291)) > (wrap64 (t290 * t288)))))) else (none)) else (if ((t273 == 0) == false) = true then (some ((decide (t273 > 0)) == (decide ((wrap64 (t287 * t291)) > (wrap64 (t290 * t288)))))) else (none))) else (none)) else (none)) else (none)) = some r := by rw [if_pos rfl] at H; exact H
                   clear H
                   have H := H1
                   clear H1
                   by_cases c160 : t285 = (wrap64 (-t273))
                   ·
                    rw [if_pos c160] at H
                    have c160b0 : (t285 == (wrap64 (-t273))) = true := beq_iff_eq.mpr c160
                    have c160b1 : (t285 != (wrap64 (-t273))) = false := bne_eq_false_iff_eq.mpr c160
                    clear c160
                    by_cases c161 : t289 = true
                    ·
                     subst c161
                     have H1 : (if t292 = true then (if t287 = t290 then (if ((t273 == 0) == (t288 == t291)) = true then (some ((decide (t273 > 0)) == (decide ((wrap64 (t287 * t291)) > (wrap64 (t290 * t288)))))) else (none)) else (if ((t273 == 0) == false) = true then (some ((decide (t273 > 0)) == (decide ((wrap64 (t287 * t291)) > (wrap64 (t290 * t288)))))) else (none))) else (none)) = some r := by rw [if_pos rfl] at H; exact H
                     clear H
                     have H := H1
                     clear H1
                     by_cases c162 : t292 = true
                     ·
                      subst c162
                      have H1 : (if t287 = t290 then (if ((t273 == 0) == (t288 == t291)) = true then (some ((decide (t273 > 0)) == (decide ((wrap64 (t287 * t291)) > (wrap64 (t290 * t288)))))) else (none)) else (if ((t273 == 0) == false) = true then (some ((decide (t273 > 0)) == (decide ((wrap64 (t287 * t291)) > (wrap64 (t290 * t288)))))) else (none))) = some r := by rw [if_pos rfl] at H; exact H
                      clear H
                      have H := H1
                      clear H1
                      by_cases c163 : t287 = t290
                      ·
                       rw [if_pos c163] at H
                       have c163b0 : (t287 == t290) = true := beq_iff_eq.mpr c163
                       have c163b1 : (t287 != t290) = false := bne_eq_false_iff_eq.mpr c163
                       clear c163
                       by_cases c164 : ((t273 == 0) == (t288 == t291)) = true
                       ·
                        rw [if_pos c164] at H
                        have c164b0 : ((t273 == 0) == (t288 == t291)) = true := c164
                        (try (have c164b1 : decide ((t273 == 0) = (t288 == t291)) = true := by simpa using c164))
                        (try (have c164b2 : ((t273 == 0) == (t288 == t291)) = true := by simpa using c164))
                        clear c164
                        obtain rfl := Option.some.inj H
                        go_wp2_with (first | ((with_reducible refine gate_callee (f := 33) rfl ?_); refine goesL_ (some 518) rfl rfl Try.func33 (by kernel_rfl) rfl #[.slice A5 l5.length c5, .slice A4 l4.length c4] rfl (by (try simp only [List.map_toArray, List.map_cons, List.map_nil]); first | done | rfl | (simp only [List.length_drop, List.length_take]; rfl)) ?_; (with_reducible refine (impl_CompareRatios.calls kj145 _ _ l5 _ _ l4 t285 true _ ?side1 ?side2 ?side3 ?side4 A156.out).mono ?_); (case side1 => repeat (first | exact (Kd.C_below HR5.out HB.out) | (with_reducible refine Kd.C_alloc ?_ _) | (with_reducible refine Kd.C_drewN ?_ _) | (with_reducible refine Kd.C_drew ?_))); (case side2 => exact HC5.out); (case side3 => repeat (first | exact (Kd.C_below HR4.out HB.out) | (with_reducible refine Kd.C_alloc ?_ _) | (with_reducible refine Kd.C_drewN ?_ _) | (with_reducible refine Kd.C_drew ?_))); (case side4 => exact HC4.out); rintro e w165 ⟨rfl, hb⟩; refine ⟨_, rfl, ?_⟩; have n0_ := Aside0.mk (blk_below (g := gb212) (o := .cells #[.int .i64 a3_0, .int .i64 a3_1] 41 (0, 0)) (by (with_reducible repeat (first | refine blk_drewN ?_ _ | refine blk_drew ?_ | refine blk_alloc ?_ _)); exact BK212.out) hb); have n1_ := Aside0.mk (below_step (by repeat (first | (with_reducible first | exact HB.out | apply below_alloc | apply pw_below_drewN | apply below_drew1 | refine below_set ?_ GE212.out) | exact HB.out)) hb); clear BK212; clear HB; have BK212 := n0_; have HB := n1_; clear n0_ n1_; (try clear hb); (try clear hb2); (try clear hk); (try clear hi)) | ((with_reducible refine gate_callee (f := 23) rfl ?_); refine goesL_ (some 523) rfl rfl Try.func23 (by kernel_rfl) rfl #[.slice A4 l4.length c4] rfl (by (try simp only [List.map_toArray, List.map_cons, List.map_nil]); first | done | rfl | (simp only [List.length_drop, List.length_take]; rfl)) ?_; (with_reducible refine (impl_RatioOf.calls kj145 _ _ l4 t287 t288 true _ ?side1 ?side2 A157.out).mono ?_); (case side1 => repeat (first | exact (Kd.C_below HR4.out HB.out) | (with_reducible refine Kd.C_alloc ?_ _) | (with_reducible refine Kd.C_drewN ?_ _) | (with_reducible refine Kd.C_drew ?_))); (case side2 => exact HC4.out); rintro e w166 ⟨rfl, hb⟩; refine ⟨_, rfl, ?_⟩; have n0_ := Aside0.mk (blk_below (g := gb212) (o := .cells #[.int .i64 a3_0, .int .i64 a3_1] 41 (0, 0)) (by (with_reducible repeat (first | refine blk_drewN ?_ _ | refine blk_drew ?_ | refine blk_alloc ?_ _)); exact BK212.out) hb); have n1_ := Aside0.mk (below_step (by repeat (first | (with_reducible first | exact HB.out | apply below_alloc | apply pw_below_drewN | apply below_drew1 | refine below_set ?_ GE212.out) | exact HB.out)) hb); clear BK212; clear HB; have BK212 := n0_; have HB := n1_; clear n0_ n1_; (try clear hb); (try clear hb2); (try clear hk); (try clear hi)) | ((with_reducible refine gate_callee (f := 23) rfl ?_); refine goesL_ (some 529) rfl rfl Try.func23 (by kernel_rfl) rfl #[.slice A5 l5.length c5] rfl (by (try simp only [List.map_toArray, List.map_cons, List.map_nil]); first | done | rfl | (simp only [List.length_drop, List.length_take]; rfl)) ?_; (with_reducible refine (impl_RatioOf.calls kj145 _ _ l5 t290 t291 true _ ?side1 ?side2 A158.out).mono ?_); (case side1 => repeat (first | exact (Kd.C_below HR5.out HB.out) | (with_reducible refine Kd.C_alloc ?_ _) | (with_reducible refine Kd.C_drewN ?_ _) | (with_reducible refine Kd.C_drew ?_))); (case side2 => exact HC5.out); rintro e w167 ⟨rfl, hb⟩; refine ⟨_, rfl, ?_⟩; have n0_ := Aside0.mk (blk_below (g := gb212) (o := .cells #[.int .i64 a3_0, .int .i64 a3_1] 41 (0, 0)) (by (with_reducible repeat (first | refine blk_drewN ?_ _ | refine blk_drew ?_ | refine blk_alloc ?_ _)); exact BK212.out) hb); have n1_ := Aside0.mk (below_step (by repeat (first | (with_reducible first | exact HB.out | apply below_alloc | apply pw_below_drewN | apply below_drew1 | refine below_set ?_ GE212.out) | exact HB.out)) hb); clear BK212; clear HB; have BK212 := n0_; have HB := n1_; clear n0_ n1_; (try clear hb); (try clear hb2); (try clear hk); (try clear hi)))
                        go_ret
                        exact ⟨by first | rfl | (simp [errW_none, errW_some] <;> rfl) | (simp [*, errW_none, errW_some] <;> rfl), by repeat (first | (with_reducible first | exact HB.out | apply below_alloc | apply pw_below_drewN | apply below_drew1 | refine below_set ?_ GE212.out) | exact HB.out)⟩
                       ·
                        rw [if_neg c164] at H
                        exact absurd H (by simp)
                      ·
                       rw [if_neg c163] at H
                       have c163b0 : (t287 == t290) = false := beq_eq_false_iff_ne.mpr c163
                       have c163b1 : (t287 != t290) = true := bne_iff_ne.mpr c163
                       by_cases c168 : ((t273 == 0) == false) = true
                       ·
                        rw [if_pos c168] at H
                        have c168b0 : ((t273 == 0) == false) = true := c168
                        (try (have c168b1 : decide ((t273 == 0) = false) = true := by simpa using c168))
                        (try (have c168b2 : ((t273 == 0) == false) = true := by simpa using c168))
                        clear c168
                        obtain rfl := Option.some.inj H
                        go_wp2_with (first | ((with_reducible refine gate_callee (f := 33) rfl ?_); refine goesL_ (some 518) rfl rfl Try.func33 (by kernel_rfl) rfl #[.slice A5 l5.length c5, .slice A4 l4.length c4] rfl (by (try simp only [List.map_toArray, List.map_cons, List.map_nil]); first | done | rfl | (simp only [List.length_drop, List.length_take]; rfl)) ?_; (with_reducible refine (impl_CompareRatios.calls kj145 _ _ l5 _ _ l4 t285 true _ ?side1 ?side2 ?side3 ?side4 A156.out).mono ?_); (case side1 => repeat (first | exact (Kd.C_below HR5.out HB.out) | (with_reducible refine Kd.C_alloc ?_ _) | (with_reducible refine Kd.C_drewN ?_ _) | (with_reducible refine Kd.C_drew ?_))); (case side2 => exact HC5.out); (case side3 => repeat (first | exact (Kd.C_below HR4.out HB.out) | (with_reducible refine Kd.C_alloc ?_ _) | (with_reducible refine Kd.C_drewN ?_ _) | (with_reducible refine Kd.C_drew ?_))); (case side4 => exact HC4.out); rintro e w169 ⟨rfl, hb⟩; refine ⟨_, rfl, ?_⟩; have n0_ := Aside0.mk (blk_below (g := gb212) (o := .cells #[.int .i64 a3_0, .int .i64 a3_1] 41 (0, 0)) (by (with_reducible repeat (first | refine blk_drewN ?_ _ | refine blk_drew ?_ | refine blk_alloc ?_ _)); exact BK212.out) hb); have n1_ := Aside0.mk (below_step (by repeat (first | (with_reducible first | exact HB.out | apply below_alloc | apply pw_below_drewN | apply below_drew1 | refine below_set ?_ GE212.out) | exact HB.out)) hb); clear BK212; clear HB; have BK212 := n0_; have HB := n1_; clear n0_ n1_; (try clear hb); (try clear hb2); (try clear hk); (try clear hi)) | ((with_reducible refine gate_callee (f := 23) rfl ?_); refine goesL_ (some 523) rfl rfl Try.func23 (by kernel_rfl) rfl #[.slice A4 l4.length c4] rfl (by (try simp only [List.map_toArray, List.map_cons, List.map_nil]); first | done | rfl | (simp only [List.length_drop, List.length_take]; rfl)) ?_; (with_reducible refine (impl_RatioOf.calls kj145 _ _ l4 t287 t288 true _ ?side1 ?side2 A157.out).mono ?_); (case side1 => repeat (first | exact (Kd.C_below HR4.out HB.out) | (with_reducible refine Kd.C_alloc ?_ _) | (with_reducible refine Kd.C_drewN ?_ _) | (with_reducible refine Kd.C_drew ?_))); (case side2 => exact HC4.out); rintro e w170 ⟨rfl, hb⟩; refine ⟨_, rfl, ?_⟩; have n0_ := Aside0.mk (blk_below (g := gb212) (o := .cells #[.int .i64 a3_0, .int .i64 a3_1] 41 (0, 0)) (by (with_reducible repeat (first | refine blk_drewN ?_ _ | refine blk_drew ?_ | refine blk_alloc ?_ _)); exact BK212.out) hb); have n1_ := Aside0.mk (below_step (by repeat (first | (with_reducible first | exact HB.out | apply below_alloc | apply pw_below_drewN | apply below_drew1 | refine below_set ?_ GE212.out) | exact HB.out)) hb); clear BK212; clear HB; have BK212 := n0_; have HB := n1_; clear n0_ n1_; (try clear hb); (try clear hb2); (try clear hk); (try clear hi)) | ((with_reducible refine gate_callee (f := 23) rfl ?_); refine goesL_ (some 529) rfl rfl Try.func23 (by kernel_rfl) rfl #[.slice A5 l5.length c5] rfl (by (try simp only [List.map_toArray, List.map_cons, List.map_nil]); first | done | rfl | (simp only [List.length_drop, List.length_take]; rfl)) ?_; (with_reducible refine (impl_RatioOf.calls kj145 _ _ l5 t290 t291 true _ ?side1 ?side2 A158.out).mono ?_); (case side1 => repeat (first | exact (Kd.C_below HR5.out HB.out) | (with_reducible refine Kd.C_alloc ?_ _) | (with_reducible refine Kd.C_drewN ?_ _) | (with_reducible refine Kd.C_drew ?_))); (case side2 => exact HC5.out); rintro e w171 ⟨rfl, hb⟩; refine ⟨_, rfl, ?_⟩; have n0_ := Aside0.mk (blk_below (g := gb212) (o := .cells #[.int .i64 a3_0, .int .i64 a3_1] 41 (0, 0)) (by (with_reducible repeat (first | refine blk_drewN ?_ _ | refine blk_drew ?_ | refine blk_alloc ?_ _)); exact BK212.out) hb); have n1_ := Aside0.mk (below_step (by repeat (first | (with_reducible first | exact HB.out | apply below_alloc | apply pw_below_drewN | apply below_drew1 | refine below_set ?_ GE212.out) | exact HB.out)) hb); clear BK212; clear HB; have BK212 := n0_; have HB := n1_; clear n0_ n1_; (try clear hb); (try clear hb2); (try clear hk); (try clear hi)))
                        go_ret
                        exact ⟨by first | rfl | (simp [errW_none, errW_some] <;> rfl) | (simp [*, errW_none, errW_some] <;> rfl), by repeat (first | (with_reducible first | exact HB.out | apply below_alloc | apply pw_below_drewN | apply below_drew1 | refine below_set ?_ GE212.out) | exact HB.out)⟩
                       ·
                        rw [if_neg c168] at H
                        exact absurd H (by simp)
                     ·
                      replace c162 := Bool.eq_false_iff.mpr c162
                      subst c162
                      have H1 : (none) = some r := by rw [if_neg (show ¬ (false = true) by decide)] at H; exact H
                      clear H
                      have H := H1
                      clear H1
                      exact absurd H (by simp)
                    ·
                     replace c161 := Bool.eq_false_iff.mpr c161
                     subst c161
                     have H1 : (none) = some r := by rw [if_neg (show ¬ (false = true) by decide)] at H; exact H
                     clear H
                     have H := H1
                     clear H1
                     exact absurd H (by simp)
                   ·
                    rw [if_neg c160] at H
                    exact absurd H (by simp)
                  ·
                   replace c159 := Bool.eq_false_iff.mpr c159
                   subst c159
                   have H1 : (none) = some r := by rw [if_neg (show ¬ (false = true) by decide)] at H; exact H
                   clear H
                   have H := H1
                   clear H1
                   exact absurd H (by simp)
                 ·
                  replace c155 := Bool.eq_false_iff.mpr c155
                  subst c155
                  have H1 : (some true) = some r := by rw [if_neg (show ¬ (false = true) by decide)] at H; exact H
                  clear H
                  have H := H1
                  clear H1
                  obtain rfl := Option.some.inj H
                  go_wp2
                  go_ret
                  exact ⟨by first | rfl | (simp [errW_none, errW_some] <;> rfl) | (simp [*, errW_none, errW_some] <;> rfl), by repeat (first | (with_reducible first | exact HB.out | apply below_alloc | apply pw_below_drewN | apply below_drew1 | refine below_set ?_ GE212.out) | exact HB.out)⟩

end Go.Proofs.Ytcchbhcpmpgccaa.GFnTrainsTurnOfAll
