/- The row of FnTrainsTurnOfAll: for every input the law returns true, and each argument reads behind the call as it read before. -/
import Derived.Test.YtcchbhcpmpgccaaRows
import Derived.Test.YtcchbhcpmpgccaaGFnTrainsTurnOfAllx7
import Derived.Test.YtcchbhcpmpgccaaPureFnTrainsTurnOfAll
import Derived.WalkKit
import Derived.ProofKit
import Derived.OpenShut
import Derived.ShutString
import Derived.ChangeOld
import Derived.Below
import Derived.SizedLaws
import Derived.Lib.SmallJoins
import Derived.ChangeSame
import Derived.Test.YtcchbhcpmpgccaaWSized
import Derived.Test.YtcchbhcpmpgccaaLibOpen
set_option linter.unusedVariables false
namespace Go.Proofs.Ytcchbhcpmpgccaa.fnTrainsTurnOfAll
open Go.ChangeShapes Go.WideShapes Go.ChangeAt Go.RowKit Go.Joins
open Go.ChangeMaps (open_string shut_string)
open Go.Proofs.YtcchbhcpmpgccaaW.PrintWords Go.Proofs.Ytcchbhcpmpgccaa.GFnTrainsTurnOfAll
theorem own : ownKnob Try.prog.godebug = none := by kernel_rfl
theorem laidOut : laidOutB Try.prog = true := by kernel_rfl
set_option maxRecDepth 100000 in
theorem lifted (os : Os) (started : os.Started) (H : Type) (enc : TypeId × Value → H) :
    ReturnsInHanded {} Try.checked os 11 .any (Rows.fnTrainsTurnOfAllSpec.pre6 enc Try.prog Try.f11 Rows.fnTrainsTurnOfAllRow.domain false) (Rows.fnTrainsTurnOfAllSpec.post enc Try.prog Try.f11 false true false false) := by
  refine returnsInHanded_of_change_sized (C := Try.checked) own started (by kernel_rfl) Try.func11
    (ChangeSpec.witness6 (enc := enc) (C := Try.checked) false ⟨#[], #[.slice none 0 0, .slice none 0 0, .int .i64 0, .agg #[.int .i64 0, .int .i64 0], .slice none 0 0, .slice none 0 0], []⟩ 8 (by kernel_rfl) (by kernel_rfl) (by kernel_rfl) (by kernel_rfl)) ?_
  intro W base args ds gs before hval0 hW hcnd hsz0 _
  have hsz : (DataW.weightsEach Try.prog (Try.f11.params.toList ++ Rows.fnTrainsTurnOfAllSpec.plain.varTypes Try.prog) (ds ++ gs)).all (· ≤ reachBytes) = true := hsz0
  have hval : ∀ (j : Nat) t v, Try.f11.params[j]? = some t → args[j]? = some v → Value.okWide Try.prog W .any base t v := hval0
  have hW' := hW
  obtain ⟨p, q, hA0, hV, rfl, hfz, hnd⟩ := hW
  have hA : DataW.TrodAll enc Try.prog W 0 (fun _ => true) true Try.f11.params.toList args.toList ds p := hA0
  rw [Try.params11] at hA hval hsz
  obtain ⟨v0, vs0, d0, ds0, p0, q0, hargs, rfl, rfl, h0, r0⟩ := trodAll_cons hA
  obtain ⟨v1, vs1, d1, ds1, p1, q1, rfl, rfl, rfl, h1, r1⟩ := trodAll_cons r0
  obtain ⟨v2, vs2, d2, ds2, p2, q2, rfl, rfl, rfl, h2, r2⟩ := trodAll_cons r1
  obtain ⟨v3, vs3, d3, ds3, p3, q3, rfl, rfl, rfl, h3, r3⟩ := trodAll_cons r2
  obtain ⟨v4, vs4, d4, ds4, p4, q4, rfl, rfl, rfl, h4, r4⟩ := trodAll_cons r3
  obtain ⟨v5, vs5, d5, ds5, p5, q5, rfl, rfl, rfl, h5, r5⟩ := trodAll_cons r4
  obtain ⟨rfl, rfl, rfl⟩ := trodAll_nil r5
  obtain rfl : args = #[v0, v1, v2, v3, v4, v5] := by cases args; simp_all
  obtain ⟨rfl, rfl⟩ := trodVars_none hV
  obtain ⟨A0, len0, cap0, rfl⟩ := okWide_slice Try.underlying25 (hval 0 25 v0 rfl rfl)
  have k0 := h0
  have lt0 : ∀ x ∈ p0, x.block < W.heap.size := by obtain ⟨m, hm⟩ := k0; exact DataW.trod_lt m _ _ _ hm
  obtain ⟨zs0, zl0, zc0, zm0, zw0, zr0⟩ := Lib.open_pairs Try.underlying25 Try.underlying41 (by kernel_rfl) rfl rfl (by kernel_rfl) (by kernel_rfl) Try.underlying3 Try.underlying3 h0
  obtain ⟨l0, hl0⟩ : ∃ l : List S41, l = zs0.map (fun q => (⟨q.1, q.2⟩ : S41)) := ⟨_, rfl⟩
  have ll0 : l0.length = len0 := by rw [hl0, List.length_map, zl0]
  have hr0 : Kd.C k41 W A0 l0.length l0 := by
    refine ⟨rfl, by rw [ll0]; unfold maxLen at zm0; omega, fun hn => ?_⟩
    obtain ⟨ad, ea, hz⟩ := zr0 (by rw [← ll0]; exact hn)
    refine ⟨ad, ea, fun j p hj => ⟨[.int .i64 p.f0, .int .i64 p.f1], rfl, k41_mk W p, fun u v hv => ?_⟩⟩
    rw [hl0, List.getElem?_map, Option.map_eq_some_iff] at hj
    obtain ⟨q, hq, rfl⟩ := hj
    have z := hz j q hq
    match u, hv with
    | 0, hv => cases hv; exact z.1
    | 1, hv => cases hv; exact z.2
  have hc0 : l0.length ≤ cap0 := by rw [ll0]; exact zc0
  have hw0 : ∀ x ∈ l0, (Lit.int .i64 x.f0).wf = true ∧ (Lit.int .i64 x.f1).wf = true := by
    intro x hx
    rw [hl0, List.mem_map] at hx
    obtain ⟨q, hq, rfl⟩ := hx
    exact zw0 q hq
  have hn0 : l0.length ≤ maxLen := by rw [ll0]; omega
  clear hl0 zr0 zw0
  subst ll0
  obtain ⟨A1, len1, cap1, rfl⟩ := okWide_slice Try.underlying25 (hval 1 25 v1 rfl rfl)
  have k1 := h1
  have lt1 : ∀ x ∈ p1, x.block < W.heap.size := by obtain ⟨m, hm⟩ := k1; exact DataW.trod_lt m _ _ _ hm
  obtain ⟨zs1, zl1, zc1, zm1, zw1, zr1⟩ := Lib.open_pairs Try.underlying25 Try.underlying41 (by kernel_rfl) rfl rfl (by kernel_rfl) (by kernel_rfl) Try.underlying3 Try.underlying3 h1
  obtain ⟨l1, hl1⟩ : ∃ l : List S41, l = zs1.map (fun q => (⟨q.1, q.2⟩ : S41)) := ⟨_, rfl⟩
  have ll1 : l1.length = len1 := by rw [hl1, List.length_map, zl1]
  have hr1 : Kd.C k41 W A1 l1.length l1 := by
    refine ⟨rfl, by rw [ll1]; unfold maxLen at zm1; omega, fun hn => ?_⟩
    obtain ⟨ad, ea, hz⟩ := zr1 (by rw [← ll1]; exact hn)
    refine ⟨ad, ea, fun j p hj => ⟨[.int .i64 p.f0, .int .i64 p.f1], rfl, k41_mk W p, fun u v hv => ?_⟩⟩
    rw [hl1, List.getElem?_map, Option.map_eq_some_iff] at hj
    obtain ⟨q, hq, rfl⟩ := hj
    have z := hz j q hq
    match u, hv with
    | 0, hv => cases hv; exact z.1
    | 1, hv => cases hv; exact z.2
  have hc1 : l1.length ≤ cap1 := by rw [ll1]; exact zc1
  have hw1 : ∀ x ∈ l1, (Lit.int .i64 x.f0).wf = true ∧ (Lit.int .i64 x.f1).wf = true := by
    intro x hx
    rw [hl1, List.mem_map] at hx
    obtain ⟨q, hq, rfl⟩ := hx
    exact zw1 q hq
  have hn1 : l1.length ≤ maxLen := by rw [ll1]; omega
  clear hl1 zr1 zw1
  subst ll1
  obtain ⟨a2, rfl, rfl, rfl, w2⟩ := open_int Try.underlying3 (hval 2 3 v2 rfl rfl) h2
  have k3 := h3
  have lt3 : ∀ x ∈ p3, x.block < W.heap.size := by obtain ⟨m, hm⟩ := k3; exact DataW.trod_lt m _ _ _ hm
  obtain ⟨c3_0, c3_1, y3_0, y3_1, m3, rfl, _, _, hy3_0, hy3_1⟩ := open_agg2 Try.underlying41 (by kernel_rfl) (by kernel_rfl) (hval 3 41 v3 rfl rfl) h3
  obtain ⟨a3_0, e3_0, _, w3_0⟩ := DataW.trod_int Try.underlying3 hy3_0
  obtain rfl : c3_0 = .int .i64 a3_0 := by simpa using e3_0
  obtain ⟨a3_1, e3_1, _, w3_1⟩ := DataW.trod_int Try.underlying3 hy3_1
  obtain rfl : c3_1 = .int .i64 a3_1 := by simpa using e3_1
  obtain ⟨A4, len4, cap4, rfl⟩ := okWide_slice Try.underlying25 (hval 4 25 v4 rfl rfl)
  have k4 := h4
  have lt4 : ∀ x ∈ p4, x.block < W.heap.size := by obtain ⟨m, hm⟩ := k4; exact DataW.trod_lt m _ _ _ hm
  obtain ⟨zs4, zl4, zc4, zm4, zw4, zr4⟩ := Lib.open_pairs Try.underlying25 Try.underlying41 (by kernel_rfl) rfl rfl (by kernel_rfl) (by kernel_rfl) Try.underlying3 Try.underlying3 h4
  obtain ⟨l4, hl4⟩ : ∃ l : List S41, l = zs4.map (fun q => (⟨q.1, q.2⟩ : S41)) := ⟨_, rfl⟩
  have ll4 : l4.length = len4 := by rw [hl4, List.length_map, zl4]
  have hr4 : Kd.C k41 W A4 l4.length l4 := by
    refine ⟨rfl, by rw [ll4]; unfold maxLen at zm4; omega, fun hn => ?_⟩
    obtain ⟨ad, ea, hz⟩ := zr4 (by rw [← ll4]; exact hn)
    refine ⟨ad, ea, fun j p hj => ⟨[.int .i64 p.f0, .int .i64 p.f1], rfl, k41_mk W p, fun u v hv => ?_⟩⟩
    rw [hl4, List.getElem?_map, Option.map_eq_some_iff] at hj
    obtain ⟨q, hq, rfl⟩ := hj
    have z := hz j q hq
    match u, hv with
    | 0, hv => cases hv; exact z.1
    | 1, hv => cases hv; exact z.2
  have hc4 : l4.length ≤ cap4 := by rw [ll4]; exact zc4
  have hw4 : ∀ x ∈ l4, (Lit.int .i64 x.f0).wf = true ∧ (Lit.int .i64 x.f1).wf = true := by
    intro x hx
    rw [hl4, List.mem_map] at hx
    obtain ⟨q, hq, rfl⟩ := hx
    exact zw4 q hq
  have hn4 : l4.length ≤ maxLen := by rw [ll4]; omega
  clear hl4 zr4 zw4
  subst ll4
  obtain ⟨A5, len5, cap5, rfl⟩ := okWide_slice Try.underlying25 (hval 5 25 v5 rfl rfl)
  have k5 := h5
  have lt5 : ∀ x ∈ p5, x.block < W.heap.size := by obtain ⟨m, hm⟩ := k5; exact DataW.trod_lt m _ _ _ hm
  obtain ⟨zs5, zl5, zc5, zm5, zw5, zr5⟩ := Lib.open_pairs Try.underlying25 Try.underlying41 (by kernel_rfl) rfl rfl (by kernel_rfl) (by kernel_rfl) Try.underlying3 Try.underlying3 h5
  obtain ⟨l5, hl5⟩ : ∃ l : List S41, l = zs5.map (fun q => (⟨q.1, q.2⟩ : S41)) := ⟨_, rfl⟩
  have ll5 : l5.length = len5 := by rw [hl5, List.length_map, zl5]
  have hr5 : Kd.C k41 W A5 l5.length l5 := by
    refine ⟨rfl, by rw [ll5]; unfold maxLen at zm5; omega, fun hn => ?_⟩
    obtain ⟨ad, ea, hz⟩ := zr5 (by rw [← ll5]; exact hn)
    refine ⟨ad, ea, fun j p hj => ⟨[.int .i64 p.f0, .int .i64 p.f1], rfl, k41_mk W p, fun u v hv => ?_⟩⟩
    rw [hl5, List.getElem?_map, Option.map_eq_some_iff] at hj
    obtain ⟨q, hq, rfl⟩ := hj
    have z := hz j q hq
    match u, hv with
    | 0, hv => cases hv; exact z.1
    | 1, hv => cases hv; exact z.2
  have hc5 : l5.length ≤ cap5 := by rw [ll5]; exact zc5
  have hw5 : ∀ x ∈ l5, (Lit.int .i64 x.f0).wf = true ∧ (Lit.int .i64 x.f1).wf = true := by
    intro x hx
    rw [hl5, List.mem_map] at hx
    obtain ⟨q, hq, rfl⟩ := hx
    exact zw5 q hq
  have hn5 : l5.length ≤ maxLen := by rw [ll5]; omega
  clear hl5 zr5 zw5
  subst ll5
  clear hA0 hval0 hsz0 hsz
  obtain ⟨kk, law⟩ := Pure.FnTrainsTurnOfAllWay.law l0 l1 a2 a3_0 a3_1 l4 l5 hn0 hw0 hn1 hw1 w2 w3_0 w3_1 hn4 hw4 hn5 hw5
  refine (GFnTrainsTurnOfAll.laws_FnTrainsTurnOfAll.calls kk _ _ l0 _ _ l1 a2 a3_0 a3_1 _ _ l4 _ _ l5 true W hr0 hc0 hr1 hc1 hr4 hc4 hr5 hc5 law).mono fun e W' ⟨he, bel0⟩ => ?_
  have bel : Below W.heap.size W W' := bel0
  subst he
  exact ⟨_, rfl, _, _, _, [], _, [], hW', trodAll_mk1 (shut_bool Try.underlying4 _), (trodAll_cons_mk (Below.trod laidOut (by kernel_rfl) (of_decide_eq_true (by kernel_rfl)) k0 bel lt0) (trodAll_cons_mk (Below.trod laidOut (by kernel_rfl) (of_decide_eq_true (by kernel_rfl)) k1 bel lt1) (trodAll_cons_mk (shut_int Try.underlying3 w2) (trodAll_cons_mk (Below.trod laidOut (by kernel_rfl) (of_decide_eq_true (by kernel_rfl)) k3 bel lt3) (trodAll_cons_mk (Below.trod laidOut (by kernel_rfl) (of_decide_eq_true (by kernel_rfl)) k4 bel lt4) (trodAll_cons_mk (Below.trod laidOut (by kernel_rfl) (of_decide_eq_true (by kernel_rfl)) k5 bel lt5) trodAll_mk0)))))), rfl, bel.frame _, fun h => by cases h⟩
theorem over : Rows.fnTrainsTurnOfAllRow.holds Try.pinned (OpenSpec.ofChange Rows.fnTrainsTurnOfAllSpec) :=
  OpenClaim.holds_of_wide 11 Try.f11 rfl rfl rfl rfl rfl rfl rfl ⟨rfl, rfl, rfl, rfl, rfl⟩ rfl rfl rfl rfl rfl (by kernel_rfl) Try.func11 (by kernel_rfl)
    (of_decide_eq_true (by kernel_rfl)) (by unfold Func.isWrapper; first | (rw [if_pos (by decide +kernel)]; kernel_rfl) | (rw [if_neg (by decide +kernel)]; exact ⟨rfl, rfl⟩))
    (fun os started H enc _ => lifted os started H enc)
theorem proved : Rows.FnTrainsTurnOfAllSaid := over
#print axioms proved
end Go.Proofs.Ytcchbhcpmpgccaa.fnTrainsTurnOfAll
namespace Go.Proofs.Ytcchbhcpmpgccaa
/-- The row, under a short name, for the claim. -/
theorem fnTrainsTurnOfAll_holds : Rows.FnTrainsTurnOfAllSaid := fnTrainsTurnOfAll.proved
end Go.Proofs.Ytcchbhcpmpgccaa
