/- The row of FnExactBackTrain: for every input the law returns true, and each argument reads behind the call as it read before. -/
import Derived.Test.YtcchbhcpmpgccaaRows
import Derived.Test.YtcchbhcpmpgccaaGFnExactBackTrainx3
import Derived.Test.YtcchbhcpmpgccaaPureFnExactBackTrain
import Derived.WalkKit
import Derived.ProofKit
import Derived.OpenShut
import Derived.ShutString
import Derived.ChangeOld
import Derived.Below
import Derived.SizedLaws
import Derived.Lib.SmallJoins
import Derived.ChangeSame
import Derived.Test.YtcchbhcpmpgccaaWSized
import Derived.Test.YtcchbhcpmpgccaaLibOpen
set_option linter.unusedVariables false
namespace Go.Proofs.Ytcchbhcpmpgccaa.fnExactBackTrain
open Go.ChangeShapes Go.WideShapes Go.ChangeAt Go.RowKit Go.Joins
open Go.ChangeMaps (open_string shut_string)
open Go.Proofs.YtcchbhcpmpgccaaW.PrintWords Go.Proofs.Ytcchbhcpmpgccaa.GFnExactBackTrain
theorem own : ownKnob Try.prog.godebug = none := by kernel_rfl
theorem laidOut : laidOutB Try.prog = true := by kernel_rfl
set_option maxRecDepth 100000 in
theorem lifted (os : Os) (started : os.Started) (H : Type) (enc : TypeId × Value → H) :
    ReturnsInHanded {} Try.checked os 7 .any (Rows.fnExactBackTrainSpec.pre6 enc Try.prog Try.f7 Rows.fnExactBackTrainRow.domain false) (Rows.fnExactBackTrainSpec.post enc Try.prog Try.f7 false true false false) := by
  refine returnsInHanded_of_change_sized (C := Try.checked) own started (by kernel_rfl) Try.func7
    (ChangeSpec.witness6 (enc := enc) (C := Try.checked) false ⟨#[], #[.slice none 0 0], []⟩ 8 (by kernel_rfl) (by kernel_rfl) (by kernel_rfl) (by kernel_rfl)) ?_
  intro W base args ds gs before hval0 hW hcnd hsz0 _
  have hsz : (DataW.weightsEach Try.prog (Try.f7.params.toList ++ Rows.fnExactBackTrainSpec.plain.varTypes Try.prog) (ds ++ gs)).all (· ≤ reachBytes) = true := hsz0
  have hval : ∀ (j : Nat) t v, Try.f7.params[j]? = some t → args[j]? = some v → Value.okWide Try.prog W .any base t v := hval0
  have hW' := hW
  obtain ⟨p, q, hA0, hV, rfl, hfz, hnd⟩ := hW
  have hA : DataW.TrodAll enc Try.prog W 0 (fun _ => true) true Try.f7.params.toList args.toList ds p := hA0
  rw [Try.params7] at hA hval hsz
  obtain ⟨v0, vs0, d0, ds0, p0, q0, hargs, rfl, rfl, h0, r0⟩ := trodAll_cons hA
  obtain ⟨rfl, rfl, rfl⟩ := trodAll_nil r0
  obtain rfl : args = #[v0] := by cases args; simp_all
  obtain ⟨rfl, rfl⟩ := trodVars_none hV
  obtain ⟨A0, len0, cap0, rfl⟩ := okWide_slice Try.underlying22 (hval 0 22 v0 rfl rfl)
  have k0 := h0
  have lt0 : ∀ x ∈ p0, x.block < W.heap.size := by obtain ⟨m, hm⟩ := k0; exact DataW.trod_lt m _ _ _ hm
  obtain ⟨zs0, zl0, zc0, zm0, zw0, zr0⟩ := Lib.open_pairs Try.underlying22 Try.underlying54 (by kernel_rfl) rfl rfl (by kernel_rfl) (by kernel_rfl) Try.underlying3 Try.underlying3 h0
  obtain ⟨l0, hl0⟩ : ∃ l : List S54, l = zs0.map (fun q => (⟨q.1, q.2⟩ : S54)) := ⟨_, rfl⟩
  have ll0 : l0.length = len0 := by rw [hl0, List.length_map, zl0]
  have hr0 : Kd.C k54 W A0 l0.length l0 := by
    refine ⟨rfl, by rw [ll0]; unfold maxLen at zm0; omega, fun hn => ?_⟩
    obtain ⟨ad, ea, hz⟩ := zr0 (by rw [← ll0]; exact hn)
    refine ⟨ad, ea, fun j p hj => ⟨[.int .i64 p.f0, .int .i64 p.f1], rfl, k54_mk W p, fun u v hv => ?_⟩⟩
    rw [hl0, List.getElem?_map, Option.map_eq_some_iff] at hj
    obtain ⟨q, hq, rfl⟩ := hj
    have z := hz j q hq
    match u, hv with
    | 0, hv => cases hv; exact z.1
    | 1, hv => cases hv; exact z.2
  have hc0 : l0.length ≤ cap0 := by rw [ll0]; exact zc0
  have hw0 : ∀ x ∈ l0, (Lit.int .i64 x.f0).wf = true ∧ (Lit.int .i64 x.f1).wf = true := by
    intro x hx
    rw [hl0, List.mem_map] at hx
    obtain ⟨q, hq, rfl⟩ := hx
    exact zw0 q hq
  have hn0 : l0.length ≤ maxLen := by rw [ll0]; omega
  clear hl0 zr0 zw0
  subst ll0
  clear hA0 hval0 hsz0 hsz
  obtain ⟨kk, law⟩ := Pure.FnExactBackTrainWay.law l0 hn0 hw0
  refine (GFnExactBackTrain.laws_FnExactBackTrain.calls kk _ _ l0 true W hr0 hc0 law).mono fun e W' ⟨he, bel0⟩ => ?_
  have bel : Below W.heap.size W W' := bel0
  subst he
  exact ⟨_, rfl, _, _, _, [], _, [], hW', trodAll_mk1 (shut_bool Try.underlying4 _), (trodAll_cons_mk (Below.trod laidOut (by kernel_rfl) (of_decide_eq_true (by kernel_rfl)) k0 bel lt0) trodAll_mk0), rfl, bel.frame _, fun h => by cases h⟩
theorem over : Rows.fnExactBackTrainRow.holds Try.pinned (OpenSpec.ofChange Rows.fnExactBackTrainSpec) :=
  OpenClaim.holds_of_wide 7 Try.f7 rfl rfl rfl rfl rfl rfl rfl ⟨rfl, rfl, rfl, rfl, rfl⟩ rfl rfl rfl rfl rfl (by kernel_rfl) Try.func7 (by kernel_rfl)
    (of_decide_eq_true (by kernel_rfl)) (by unfold Func.isWrapper; first | (rw [if_pos (by decide +kernel)]; kernel_rfl) | (rw [if_neg (by decide +kernel)]; exact ⟨rfl, rfl⟩))
    (fun os started H enc _ => lifted os started H enc)
theorem proved : Rows.FnExactBackTrainSaid := over
#print axioms proved
end Go.Proofs.Ytcchbhcpmpgccaa.fnExactBackTrain
namespace Go.Proofs.Ytcchbhcpmpgccaa
/-- The row, under a short name, for the claim. -/
theorem fnExactBackTrain_holds : Rows.FnExactBackTrainSaid := fnExactBackTrain.proved
end Go.Proofs.Ytcchbhcpmpgccaa
