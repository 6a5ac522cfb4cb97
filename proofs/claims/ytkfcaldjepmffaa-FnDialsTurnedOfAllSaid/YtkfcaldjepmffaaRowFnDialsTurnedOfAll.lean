/- The row of FnDialsTurnedOfAll: for every input the law returns true, and each argument reads behind the call as it read before. -/
import Derived.Test.YtkfcaldjepmffaaRows
import Derived.Test.YtkfcaldjepmffaaGFnDialsTurnedOfAllx16
import Derived.Test.YtkfcaldjepmffaaPureFnDialsTurnedOfAll
import Derived.WalkKit
import Derived.ProofKit
import Derived.OpenShut
import Derived.ShutString
import Derived.ChangeOld
import Derived.Below
import Derived.SizedLaws
import Derived.Lib.SmallJoins
import Derived.ChangeSame
import Derived.Test.YtkfcaldjepmffaaWSized
set_option linter.unusedVariables false
namespace Go.Proofs.Ytkfcaldjepmffaa.fnDialsTurnedOfAll
open Go.ChangeShapes Go.WideShapes Go.ChangeAt Go.RowKit Go.Joins
open Go.ChangeMaps (open_string shut_string)
theorem own : ownKnob Try.prog.godebug = none := by kernel_rfl
theorem laidOut : laidOutB Try.prog = true := by kernel_rfl
set_option maxHeartbeats 4000000 in
set_option maxRecDepth 100000 in
theorem lifted (os : Os) (started : os.Started) (H : Type) (enc : TypeId × Value → H) :
    ReturnsInHanded {} Try.checked os 4 .any (Rows.fnDialsTurnedOfAllSpec.pre6 enc Try.prog Try.f4 Rows.fnDialsTurnedOfAllRow.domain false) (Rows.fnDialsTurnedOfAllSpec.post enc Try.prog Try.f4 false true false false) := by
  refine returnsInHanded_of_change_sized (C := Try.checked) own started (by kernel_rfl) Try.func4
    (ChangeSpec.witness6 (enc := enc) (C := Try.checked) false ⟨#[], #[.int .i64 0, .agg #[.int .i64 0, .int .i64 0, .int .i64 0, .int .i64 0], .int .i64 0, .agg #[.int .i64 0, .int .i64 0], .int .i64 0, .agg #[.int .i64 0, .int .i64 0, .int .i64 0, .int .i64 0], .agg #[.int .i64 0, .int .i64 0, .int .i64 0, .int .i64 0], .agg #[.int .i64 0, .int .i64 0, .int .i64 0, .int .i64 0], .agg #[.int .i64 0, .int .i64 0]], []⟩ 8 (by kernel_rfl) (by kernel_rfl) (by kernel_rfl) (by kernel_rfl)) ?_
  intro W base args ds gs before hval0 hW hcnd hsz0 _
  have hsz : (DataW.weightsEach Try.prog (Try.f4.params.toList ++ Rows.fnDialsTurnedOfAllSpec.plain.varTypes Try.prog) (ds ++ gs)).all (· ≤ reachBytes) = true := hsz0
  have hval : ∀ (j : Nat) t v, Try.f4.params[j]? = some t → args[j]? = some v → Value.okWide Try.prog W .any base t v := hval0
  have hW' := hW
  obtain ⟨p, q, hA0, hV, rfl, hfz, hnd⟩ := hW
  have hA : DataW.TrodAll enc Try.prog W 0 (fun _ => true) true Try.f4.params.toList args.toList ds p := hA0
  rw [Try.params4] at hA hval hsz
  obtain ⟨v0, vs0, d0, ds0, p0, q0, hargs, rfl, rfl, h0, r0⟩ := trodAll_cons hA
  obtain ⟨v1, vs1, d1, ds1, p1, q1, rfl, rfl, rfl, h1, r1⟩ := trodAll_cons r0
  obtain ⟨v2, vs2, d2, ds2, p2, q2, rfl, rfl, rfl, h2, r2⟩ := trodAll_cons r1
  obtain ⟨v3, vs3, d3, ds3, p3, q3, rfl, rfl, rfl, h3, r3⟩ := trodAll_cons r2
  obtain ⟨v4, vs4, d4, ds4, p4, q4, rfl, rfl, rfl, h4, r4⟩ := trodAll_cons r3
  obtain ⟨v5, vs5, d5, ds5, p5, q5, rfl, rfl, rfl, h5, r5⟩ := trodAll_cons r4
  obtain ⟨v6, vs6, d6, ds6, p6, q6, rfl, rfl, rfl, h6, r6⟩ := trodAll_cons r5
  obtain ⟨v7, vs7, d7, ds7, p7, q7, rfl, rfl, rfl, h7, r7⟩ := trodAll_cons r6
  obtain ⟨v8, vs8, d8, ds8, p8, q8, rfl, rfl, rfl, h8, r8⟩ := trodAll_cons r7
  obtain ⟨rfl, rfl, rfl⟩ := trodAll_nil r8
  obtain rfl : args = #[v0, v1, v2, v3, v4, v5, v6, v7, v8] := by cases args; simp_all
  obtain ⟨rfl, rfl⟩ := trodVars_none hV
  obtain ⟨a0, rfl, rfl, rfl, w0⟩ := open_int Try.underlying3 (hval 0 3 v0 rfl rfl) h0
  have k1 := h1
  have lt1 : ∀ x ∈ p1, x.block < W.heap.size := by obtain ⟨m, hm⟩ := k1; exact DataW.trod_lt m _ _ _ hm
  obtain ⟨cs1, rfl, hl1⟩ := okWide_struct Try.underlying25 (hval 1 25 v1 rfl rfl)
  obtain ⟨c1_0, c1_1, c1_2, c1_3, rfl⟩ := array4 (hl1.trans (by kernel_rfl))
  obtain ⟨fu1, hf1⟩ := h1
  obtain ⟨y1_0, y1_1, n1, _, _, s1_0, s1_1⟩ := trod_struct2 Try.underlying25 hf1
  obtain ⟨z1_0, x1_0, m1_0, _, _, g1_0, g1_1⟩ := trod_struct2 Try.underlying23 s1_0
  obtain ⟨z1_1, x1_1, m1_1, _, _, g1_2, g1_3⟩ := trod_struct2 Try.underlying23 s1_1
  obtain ⟨a1_0, e1_0, _, w1_0⟩ := DataW.trod_int Try.underlying3 g1_0
  obtain rfl : c1_0 = .int .i64 a1_0 := by simpa [Value.cells, show Try.prog.cellsOf 23 = 2 from by kernel_rfl, show Try.prog.cellsOf 3 = 1 from by kernel_rfl] using e1_0
  obtain ⟨a1_1, e1_1, _, w1_1⟩ := DataW.trod_int Try.underlying3 g1_1
  obtain rfl : c1_1 = .int .i64 a1_1 := by simpa [Value.cells, show Try.prog.cellsOf 23 = 2 from by kernel_rfl, show Try.prog.cellsOf 3 = 1 from by kernel_rfl] using e1_1
  obtain ⟨a1_2, e1_2, _, w1_2⟩ := DataW.trod_int Try.underlying3 g1_2
  obtain rfl : c1_2 = .int .i64 a1_2 := by simpa [Value.cells, show Try.prog.cellsOf 23 = 2 from by kernel_rfl, show Try.prog.cellsOf 3 = 1 from by kernel_rfl] using e1_2
  obtain ⟨a1_3, e1_3, _, w1_3⟩ := DataW.trod_int Try.underlying3 g1_3
  obtain rfl : c1_3 = .int .i64 a1_3 := by simpa [Value.cells, show Try.prog.cellsOf 23 = 2 from by kernel_rfl, show Try.prog.cellsOf 3 = 1 from by kernel_rfl] using e1_3
  obtain ⟨a2, rfl, rfl, rfl, w2⟩ := open_int Try.underlying3 (hval 2 3 v2 rfl rfl) h2
  have k3 := h3
  have lt3 : ∀ x ∈ p3, x.block < W.heap.size := by obtain ⟨m, hm⟩ := k3; exact DataW.trod_lt m _ _ _ hm
  obtain ⟨c3_0, c3_1, y3_0, y3_1, m3, rfl, _, _, hy3_0, hy3_1⟩ := open_agg2 Try.underlying23 (by kernel_rfl) (by kernel_rfl) (hval 3 23 v3 rfl rfl) h3
  obtain ⟨a3_0, e3_0, _, w3_0⟩ := DataW.trod_int Try.underlying3 hy3_0
  obtain rfl : c3_0 = .int .i64 a3_0 := by simpa using e3_0
  obtain ⟨a3_1, e3_1, _, w3_1⟩ := DataW.trod_int Try.underlying3 hy3_1
  obtain rfl : c3_1 = .int .i64 a3_1 := by simpa using e3_1
  obtain ⟨a4, rfl, rfl, rfl, w4⟩ := open_int Try.underlying3 (hval 4 3 v4 rfl rfl) h4
  have k5 := h5
  have lt5 : ∀ x ∈ p5, x.block < W.heap.size := by obtain ⟨m, hm⟩ := k5; exact DataW.trod_lt m _ _ _ hm
  obtain ⟨cs5, rfl, hl5⟩ := okWide_struct Try.underlying25 (hval 5 25 v5 rfl rfl)
  obtain ⟨c5_0, c5_1, c5_2, c5_3, rfl⟩ := array4 (hl5.trans (by kernel_rfl))
  obtain ⟨fu5, hf5⟩ := h5
  obtain ⟨y5_0, y5_1, n5, _, _, s5_0, s5_1⟩ := trod_struct2 Try.underlying25 hf5
  obtain ⟨z5_0, x5_0, m5_0, _, _, g5_0, g5_1⟩ := trod_struct2 Try.underlying23 s5_0
  obtain ⟨z5_1, x5_1, m5_1, _, _, g5_2, g5_3⟩ := trod_struct2 Try.underlying23 s5_1
  obtain ⟨a5_0, e5_0, _, w5_0⟩ := DataW.trod_int Try.underlying3 g5_0
  obtain rfl : c5_0 = .int .i64 a5_0 := by simpa [Value.cells, show Try.prog.cellsOf 23 = 2 from by kernel_rfl, show Try.prog.cellsOf 3 = 1 from by kernel_rfl] using e5_0
  obtain ⟨a5_1, e5_1, _, w5_1⟩ := DataW.trod_int Try.underlying3 g5_1
  obtain rfl : c5_1 = .int .i64 a5_1 := by simpa [Value.cells, show Try.prog.cellsOf 23 = 2 from by kernel_rfl, show Try.prog.cellsOf 3 = 1 from by kernel_rfl] using e5_1
  obtain ⟨a5_2, e5_2, _, w5_2⟩ := DataW.trod_int Try.underlying3 g5_2
  obtain rfl : c5_2 = .int .i64 a5_2 := by simpa [Value.cells, show Try.prog.cellsOf 23 = 2 from by kernel_rfl, show Try.prog.cellsOf 3 = 1 from by kernel_rfl] using e5_2
  obtain ⟨a5_3, e5_3, _, w5_3⟩ := DataW.trod_int Try.underlying3 g5_3
  obtain rfl : c5_3 = .int .i64 a5_3 := by simpa [Value.cells, show Try.prog.cellsOf 23 = 2 from by kernel_rfl, show Try.prog.cellsOf 3 = 1 from by kernel_rfl] using e5_3
  have k6 := h6
  have lt6 : ∀ x ∈ p6, x.block < W.heap.size := by obtain ⟨m, hm⟩ := k6; exact DataW.trod_lt m _ _ _ hm
  obtain ⟨cs6, rfl, hl6⟩ := okWide_struct Try.underlying25 (hval 6 25 v6 rfl rfl)
  obtain ⟨c6_0, c6_1, c6_2, c6_3, rfl⟩ := array4 (hl6.trans (by kernel_rfl))
  obtain ⟨fu6, hf6⟩ := h6
  obtain ⟨y6_0, y6_1, n6, _, _, s6_0, s6_1⟩ := trod_struct2 Try.underlying25 hf6
  obtain ⟨z6_0, x6_0, m6_0, _, _, g6_0, g6_1⟩ := trod_struct2 Try.underlying23 s6_0
  obtain ⟨z6_1, x6_1, m6_1, _, _, g6_2, g6_3⟩ := trod_struct2 Try.underlying23 s6_1
  obtain ⟨a6_0, e6_0, _, w6_0⟩ := DataW.trod_int Try.underlying3 g6_0
  obtain rfl : c6_0 = .int .i64 a6_0 := by simpa [Value.cells, show Try.prog.cellsOf 23 = 2 from by kernel_rfl, show Try.prog.cellsOf 3 = 1 from by kernel_rfl] using e6_0
  obtain ⟨a6_1, e6_1, _, w6_1⟩ := DataW.trod_int Try.underlying3 g6_1
  obtain rfl : c6_1 = .int .i64 a6_1 := by simpa [Value.cells, show Try.prog.cellsOf 23 = 2 from by kernel_rfl, show Try.prog.cellsOf 3 = 1 from by kernel_rfl] using e6_1
  obtain ⟨a6_2, e6_2, _, w6_2⟩ := DataW.trod_int Try.underlying3 g6_2
  obtain rfl : c6_2 = .int .i64 a6_2 := by simpa [Value.cells, show Try.prog.cellsOf 23 = 2 from by kernel_rfl, show Try.prog.cellsOf 3 = 1 from by kernel_rfl] using e6_2
  obtain ⟨a6_3, e6_3, _, w6_3⟩ := DataW.trod_int Try.underlying3 g6_3
  obtain rfl : c6_3 = .int .i64 a6_3 := by simpa [Value.cells, show Try.prog.cellsOf 23 = 2 from by kernel_rfl, show Try.prog.cellsOf 3 = 1 from by kernel_rfl] using e6_3
  have k7 := h7
  have lt7 : ∀ x ∈ p7, x.block < W.heap.size := by obtain ⟨m, hm⟩ := k7; exact DataW.trod_lt m _ _ _ hm
  obtain ⟨cs7, rfl, hl7⟩ := okWide_struct Try.underlying25 (hval 7 25 v7 rfl rfl)
  obtain ⟨c7_0, c7_1, c7_2, c7_3, rfl⟩ := array4 (hl7.trans (by kernel_rfl))
  obtain ⟨fu7, hf7⟩ := h7
  obtain ⟨y7_0, y7_1, n7, _, _, s7_0, s7_1⟩ := trod_struct2 Try.underlying25 hf7
  obtain ⟨z7_0, x7_0, m7_0, _, _, g7_0, g7_1⟩ := trod_struct2 Try.underlying23 s7_0
  obtain ⟨z7_1, x7_1, m7_1, _, _, g7_2, g7_3⟩ := trod_struct2 Try.underlying23 s7_1
  obtain ⟨a7_0, e7_0, _, w7_0⟩ := DataW.trod_int Try.underlying3 g7_0
  obtain rfl : c7_0 = .int .i64 a7_0 := by simpa [Value.cells, show Try.prog.cellsOf 23 = 2 from by kernel_rfl, show Try.prog.cellsOf 3 = 1 from by kernel_rfl] using e7_0
  obtain ⟨a7_1, e7_1, _, w7_1⟩ := DataW.trod_int Try.underlying3 g7_1
  obtain rfl : c7_1 = .int .i64 a7_1 := by simpa [Value.cells, show Try.prog.cellsOf 23 = 2 from by kernel_rfl, show Try.prog.cellsOf 3 = 1 from by kernel_rfl] using e7_1
  obtain ⟨a7_2, e7_2, _, w7_2⟩ := DataW.trod_int Try.underlying3 g7_2
  obtain rfl : c7_2 = .int .i64 a7_2 := by simpa [Value.cells, show Try.prog.cellsOf 23 = 2 from by kernel_rfl, show Try.prog.cellsOf 3 = 1 from by kernel_rfl] using e7_2
  obtain ⟨a7_3, e7_3, _, w7_3⟩ := DataW.trod_int Try.underlying3 g7_3
  obtain rfl : c7_3 = .int .i64 a7_3 := by simpa [Value.cells, show Try.prog.cellsOf 23 = 2 from by kernel_rfl, show Try.prog.cellsOf 3 = 1 from by kernel_rfl] using e7_3
  have k8 := h8
  have lt8 : ∀ x ∈ p8, x.block < W.heap.size := by obtain ⟨m, hm⟩ := k8; exact DataW.trod_lt m _ _ _ hm
  obtain ⟨c8_0, c8_1, y8_0, y8_1, m8, rfl, _, _, hy8_0, hy8_1⟩ := open_agg2 Try.underlying23 (by kernel_rfl) (by kernel_rfl) (hval 8 23 v8 rfl rfl) h8
  obtain ⟨a8_0, e8_0, _, w8_0⟩ := DataW.trod_int Try.underlying3 hy8_0
  obtain rfl : c8_0 = .int .i64 a8_0 := by simpa using e8_0
  obtain ⟨a8_1, e8_1, _, w8_1⟩ := DataW.trod_int Try.underlying3 hy8_1
  obtain rfl : c8_1 = .int .i64 a8_1 := by simpa using e8_1
  clear hA0 hval0 hsz0 hsz
  obtain ⟨kk, law⟩ := Pure.FnDialsTurnedOfAllWay.law a0 a1_0 a1_1 a1_2 a1_3 a2 a3_0 a3_1 a4 a5_0 a5_1 a5_2 a5_3 a6_0 a6_1 a6_2 a6_3 a7_0 a7_1 a7_2 a7_3 a8_0 a8_1 w0 w1_0 w1_1 w1_2 w1_3 w2 w3_0 w3_1 w4 w5_0 w5_1 w5_2 w5_3 w6_0 w6_1 w6_2 w6_3 w7_0 w7_1 w7_2 w7_3 w8_0 w8_1
  refine (GFnDialsTurnedOfAll.laws_FnDialsTurnedOfAll.calls kk a0 a1_0 a1_1 a1_2 a1_3 a2 a3_0 a3_1 a4 a5_0 a5_1 a5_2 a5_3 a6_0 a6_1 a6_2 a6_3 a7_0 a7_1 a7_2 a7_3 a8_0 a8_1 true W law).mono fun e W' ⟨he, bel0⟩ => ?_
  have bel : Below W.heap.size W W' := bel0
  subst he
  exact ⟨_, rfl, _, _, _, [], _, [], hW', trodAll_mk1 (shut_bool Try.underlying4 _), (trodAll_cons_mk (shut_int Try.underlying3 w0) (trodAll_cons_mk (Below.trod laidOut (by kernel_rfl) (of_decide_eq_true (by kernel_rfl)) k1 bel lt1) (trodAll_cons_mk (shut_int Try.underlying3 w2) (trodAll_cons_mk (Below.trod laidOut (by kernel_rfl) (of_decide_eq_true (by kernel_rfl)) k3 bel lt3) (trodAll_cons_mk (shut_int Try.underlying3 w4) (trodAll_cons_mk (Below.trod laidOut (by kernel_rfl) (of_decide_eq_true (by kernel_rfl)) k5 bel lt5) (trodAll_cons_mk (Below.trod laidOut (by kernel_rfl) (of_decide_eq_true (by kernel_rfl)) k6 bel lt6) (trodAll_cons_mk (Below.trod laidOut (by kernel_rfl) (of_decide_eq_true (by kernel_rfl)) k7 bel lt7) (trodAll_cons_mk (Below.trod laidOut (by kernel_rfl) (of_decide_eq_true (by kernel_rfl)) k8 bel lt8) trodAll_mk0))))))))), rfl, bel.frame _, fun h => by cases h⟩
theorem over : Rows.fnDialsTurnedOfAllRow.holds Try.pinned (OpenSpec.ofChange Rows.fnDialsTurnedOfAllSpec) :=
  OpenClaim.holds_of_wide 4 Try.f4 rfl rfl rfl rfl rfl rfl rfl ⟨rfl, rfl, rfl, rfl, rfl⟩ rfl rfl rfl rfl rfl (by kernel_rfl) Try.func4 (by kernel_rfl)
    (of_decide_eq_true (by kernel_rfl)) (by unfold Func.isWrapper; first | (rw [if_pos (by decide +kernel)]; kernel_rfl) | (rw [if_neg (by decide +kernel)]; exact ⟨rfl, rfl⟩))
    (fun os started H enc _ => lifted os started H enc)
theorem proved : Rows.FnDialsTurnedOfAllSaid := over
#print axioms proved
end Go.Proofs.Ytkfcaldjepmffaa.fnDialsTurnedOfAll
namespace Go.Proofs.Ytkfcaldjepmffaa
/-- The row, under a short name, for the claim. -/
theorem fnDialsTurnedOfAll_holds : Rows.FnDialsTurnedOfAllSaid := fnDialsTurnedOfAll.proved
end Go.Proofs.Ytkfcaldjepmffaa
