/- The row of FnSeenTrueOfAll: for every input the law returns true, and each argument reads behind the call as it read before. -/
import Derived.Test.YtkfcaldjepmffaaRows
import Derived.Test.YtkfcaldjepmffaaGFnSeenTrueOfAllx15
import Derived.Test.YtkfcaldjepmffaaPureFnSeenTrueOfAll
import Derived.WalkKit
import Derived.ProofKit
import Derived.OpenShut
import Derived.ShutString
import Derived.ChangeOld
import Derived.Below
import Derived.SizedLaws
import Derived.Lib.SmallJoins
import Derived.ChangeSame
import Derived.Test.YtkfcaldjepmffaaWSized
set_option linter.unusedVariables false
namespace Go.Proofs.Ytkfcaldjepmffaa.fnSeenTrueOfAll
open Go.ChangeShapes Go.WideShapes Go.ChangeAt Go.RowKit Go.Joins
open Go.ChangeMaps (open_string shut_string)
theorem own : ownKnob Try.prog.godebug = none := by kernel_rfl
theorem laidOut : laidOutB Try.prog = true := by kernel_rfl
set_option maxHeartbeats 4000000 in
set_option maxRecDepth 100000 in
theorem lifted (os : Os) (started : os.Started) (H : Type) (enc : TypeId × Value → H) :
    ReturnsInHanded {} Try.checked os 3 .any (Rows.fnSeenTrueOfAllSpec.pre6 enc Try.prog Try.f3 Rows.fnSeenTrueOfAllRow.domain false) (Rows.fnSeenTrueOfAllSpec.post enc Try.prog Try.f3 false true false false) := by
  refine returnsInHanded_of_change_sized (C := Try.checked) own started (by kernel_rfl) Try.func3
    (ChangeSpec.witness6 (enc := enc) (C := Try.checked) false ⟨#[], #[.int .i64 0, .agg #[.int .i64 0, .int .i64 0], .int .i64 0, .int .i64 0, .agg #[.int .i64 0, .int .i64 0, .int .i64 0, .int .i64 0], .agg #[.int .i64 0, .int .i64 0, .int .i64 0, .int .i64 0]], []⟩ 8 (by kernel_rfl) (by kernel_rfl) (by kernel_rfl) (by kernel_rfl)) ?_
  intro W base args ds gs before hval0 hW hcnd hsz0 _
  have hsz : (DataW.weightsEach Try.prog (Try.f3.params.toList ++ Rows.fnSeenTrueOfAllSpec.plain.varTypes Try.prog) (ds ++ gs)).all (· ≤ reachBytes) = true := hsz0
  have hval : ∀ (j : Nat) t v, Try.f3.params[j]? = some t → args[j]? = some v → Value.okWide Try.prog W .any base t v := hval0
  have hW' := hW
  obtain ⟨p, q, hA0, hV, rfl, hfz, hnd⟩ := hW
  have hA : DataW.TrodAll enc Try.prog W 0 (fun _ => true) true Try.f3.params.toList args.toList ds p := hA0
  rw [Try.params3] at hA hval hsz
  obtain ⟨v0, vs0, d0, ds0, p0, q0, hargs, rfl, rfl, h0, r0⟩ := trodAll_cons hA
  obtain ⟨v1, vs1, d1, ds1, p1, q1, rfl, rfl, rfl, h1, r1⟩ := trodAll_cons r0
  obtain ⟨v2, vs2, d2, ds2, p2, q2, rfl, rfl, rfl, h2, r2⟩ := trodAll_cons r1
  obtain ⟨v3, vs3, d3, ds3, p3, q3, rfl, rfl, rfl, h3, r3⟩ := trodAll_cons r2
  obtain ⟨v4, vs4, d4, ds4, p4, q4, rfl, rfl, rfl, h4, r4⟩ := trodAll_cons r3
  obtain ⟨v5, vs5, d5, ds5, p5, q5, rfl, rfl, rfl, h5, r5⟩ := trodAll_cons r4
  obtain ⟨rfl, rfl, rfl⟩ := trodAll_nil r5
  obtain rfl : args = #[v0, v1, v2, v3, v4, v5] := by cases args; simp_all
  obtain ⟨rfl, rfl⟩ := trodVars_none hV
  obtain ⟨a0, rfl, rfl, rfl, w0⟩ := open_int Try.underlying3 (hval 0 3 v0 rfl rfl) h0
  have k1 := h1
  have lt1 : ∀ x ∈ p1, x.block < W.heap.size := by obtain ⟨m, hm⟩ := k1; exact DataW.trod_lt m _ _ _ hm
  obtain ⟨c1_0, c1_1, y1_0, y1_1, m1, rfl, _, _, hy1_0, hy1_1⟩ := open_agg2 Try.underlying23 (by kernel_rfl) (by kernel_rfl) (hval 1 23 v1 rfl rfl) h1
  obtain ⟨a1_0, e1_0, _, w1_0⟩ := DataW.trod_int Try.underlying3 hy1_0
  obtain rfl : c1_0 = .int .i64 a1_0 := by simpa using e1_0
  obtain ⟨a1_1, e1_1, _, w1_1⟩ := DataW.trod_int Try.underlying3 hy1_1
  obtain rfl : c1_1 = .int .i64 a1_1 := by simpa using e1_1
  obtain ⟨a2, rfl, rfl, rfl, w2⟩ := open_int Try.underlying3 (hval 2 3 v2 rfl rfl) h2
  obtain ⟨a3, rfl, rfl, rfl, w3⟩ := open_int Try.underlying3 (hval 3 3 v3 rfl rfl) h3
  have k4 := h4
  have lt4 : ∀ x ∈ p4, x.block < W.heap.size := by obtain ⟨m, hm⟩ := k4; exact DataW.trod_lt m _ _ _ hm
  obtain ⟨cs4, rfl, hl4⟩ := okWide_struct Try.underlying25 (hval 4 25 v4 rfl rfl)
  obtain ⟨c4_0, c4_1, c4_2, c4_3, rfl⟩ := array4 (hl4.trans (by kernel_rfl))
  obtain ⟨fu4, hf4⟩ := h4
  obtain ⟨y4_0, y4_1, n4, _, _, s4_0, s4_1⟩ := trod_struct2 Try.underlying25 hf4
  obtain ⟨z4_0, x4_0, m4_0, _, _, g4_0, g4_1⟩ := trod_struct2 Try.underlying23 s4_0
  obtain ⟨z4_1, x4_1, m4_1, _, _, g4_2, g4_3⟩ := trod_struct2 Try.underlying23 s4_1
  obtain ⟨a4_0, e4_0, _, w4_0⟩ := DataW.trod_int Try.underlying3 g4_0
  obtain rfl : c4_0 = .int .i64 a4_0 := by simpa [Value.cells, show Try.prog.cellsOf 23 = 2 from by kernel_rfl, show Try.prog.cellsOf 3 = 1 from by kernel_rfl] using e4_0
  obtain ⟨a4_1, e4_1, _, w4_1⟩ := DataW.trod_int Try.underlying3 g4_1
  obtain rfl : c4_1 = .int .i64 a4_1 := by simpa [Value.cells, show Try.prog.cellsOf 23 = 2 from by kernel_rfl, show Try.prog.cellsOf 3 = 1 from by kernel_rfl] using e4_1
  obtain ⟨a4_2, e4_2, _, w4_2⟩ := DataW.trod_int Try.underlying3 g4_2
  obtain rfl : c4_2 = .int .i64 a4_2 := by simpa [Value.cells, show Try.prog.cellsOf 23 = 2 from by kernel_rfl, show Try.prog.cellsOf 3 = 1 from by kernel_rfl] using e4_2
  obtain ⟨a4_3, e4_3, _, w4_3⟩ := DataW.trod_int Try.underlying3 g4_3
  obtain rfl : c4_3 = .int .i64 a4_3 := by simpa [Value.cells, show Try.prog.cellsOf 23 = 2 from by kernel_rfl, show Try.prog.cellsOf 3 = 1 from by kernel_rfl] using e4_3
  have k5 := h5
  have lt5 : ∀ x ∈ p5, x.block < W.heap.size := by obtain ⟨m, hm⟩ := k5; exact DataW.trod_lt m _ _ _ hm
  obtain ⟨cs5, rfl, hl5⟩ := okWide_struct Try.underlying25 (hval 5 25 v5 rfl rfl)
  obtain ⟨c5_0, c5_1, c5_2, c5_3, rfl⟩ := array4 (hl5.trans (by kernel_rfl))
  obtain ⟨fu5, hf5⟩ := h5
  obtain ⟨y5_0, y5_1, n5, _, _, s5_0, s5_1⟩ := trod_struct2 Try.underlying25 hf5
  obtain ⟨z5_0, x5_0, m5_0, _, _, g5_0, g5_1⟩ := trod_struct2 Try.underlying23 s5_0
  obtain ⟨z5_1, x5_1, m5_1, _, _, g5_2, g5_3⟩ := trod_struct2 Try.underlying23 s5_1
  obtain ⟨a5_0, e5_0, _, w5_0⟩ := DataW.trod_int Try.underlying3 g5_0
  obtain rfl : c5_0 = .int .i64 a5_0 := by simpa [Value.cells, show Try.prog.cellsOf 23 = 2 from by kernel_rfl, show Try.prog.cellsOf 3 = 1 from by kernel_rfl] using e5_0
  obtain ⟨a5_1, e5_1, _, w5_1⟩ := DataW.trod_int Try.underlying3 g5_1
  obtain rfl : c5_1 = .int .i64 a5_1 := by simpa [Value.cells, show Try.prog.cellsOf 23 = 2 from by kernel_rfl, show Try.prog.cellsOf 3 = 1 from by kernel_rfl] using e5_1
  obtain ⟨a5_2, e5_2, _, w5_2⟩ := DataW.trod_int Try.underlying3 g5_2
  obtain rfl : c5_2 = .int .i64 a5_2 := by simpa [Value.cells, show Try.prog.cellsOf 23 = 2 from by kernel_rfl, show Try.prog.cellsOf 3 = 1 from by kernel_rfl] using e5_2
  obtain ⟨a5_3, e5_3, _, w5_3⟩ := DataW.trod_int Try.underlying3 g5_3
  obtain rfl : c5_3 = .int .i64 a5_3 := by simpa [Value.cells, show Try.prog.cellsOf 23 = 2 from by kernel_rfl, show Try.prog.cellsOf 3 = 1 from by kernel_rfl] using e5_3
  clear hA0 hval0 hsz0 hsz
  obtain ⟨kk, law⟩ := Pure.FnSeenTrueOfAllWay.law a0 a1_0 a1_1 a2 a3 a4_0 a4_1 a4_2 a4_3 a5_0 a5_1 a5_2 a5_3 w0 w1_0 w1_1 w2 w3 w4_0 w4_1 w4_2 w4_3 w5_0 w5_1 w5_2 w5_3
  refine (GFnSeenTrueOfAll.laws_FnSeenTrueOfAll.calls kk a0 a1_0 a1_1 a2 a3 a4_0 a4_1 a4_2 a4_3 a5_0 a5_1 a5_2 a5_3 true W law).mono fun e W' ⟨he, bel0⟩ => ?_
  have bel : Below W.heap.size W W' := bel0
  subst he
  exact ⟨_, rfl, _, _, _, [], _, [], hW', trodAll_mk1 (shut_bool Try.underlying4 _), (trodAll_cons_mk (shut_int Try.underlying3 w0) (trodAll_cons_mk (Below.trod laidOut (by kernel_rfl) (of_decide_eq_true (by kernel_rfl)) k1 bel lt1) (trodAll_cons_mk (shut_int Try.underlying3 w2) (trodAll_cons_mk (shut_int Try.underlying3 w3) (trodAll_cons_mk (Below.trod laidOut (by kernel_rfl) (of_decide_eq_true (by kernel_rfl)) k4 bel lt4) (trodAll_cons_mk (Below.trod laidOut (by kernel_rfl) (of_decide_eq_true (by kernel_rfl)) k5 bel lt5) trodAll_mk0)))))), rfl, bel.frame _, fun h => by cases h⟩
theorem over : Rows.fnSeenTrueOfAllRow.holds Try.pinned (OpenSpec.ofChange Rows.fnSeenTrueOfAllSpec) :=
  OpenClaim.holds_of_wide 3 Try.f3 rfl rfl rfl rfl rfl rfl rfl ⟨rfl, rfl, rfl, rfl, rfl⟩ rfl rfl rfl rfl rfl (by kernel_rfl) Try.func3 (by kernel_rfl)
    (of_decide_eq_true (by kernel_rfl)) (by unfold Func.isWrapper; first | (rw [if_pos (by decide +kernel)]; kernel_rfl) | (rw [if_neg (by decide +kernel)]; exact ⟨rfl, rfl⟩))
    (fun os started H enc _ => lifted os started H enc)
theorem proved : Rows.FnSeenTrueOfAllSaid := over
#print axioms proved
end Go.Proofs.Ytkfcaldjepmffaa.fnSeenTrueOfAll
namespace Go.Proofs.Ytkfcaldjepmffaa
/-- The row, under a short name, for the claim. -/
theorem fnSeenTrueOfAll_holds : Rows.FnSeenTrueOfAllSaid := fnSeenTrueOfAll.proved
end Go.Proofs.Ytkfcaldjepmffaa
