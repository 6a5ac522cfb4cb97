/- The row of FnExactTurnTune: for every input the law returns true, and each argument reads behind the call as it read before. -/
import Derived.Test.YtmhnbjoepgdiaaaRows
import Derived.Test.YtmhnbjoepgdiaaaGFnExactTurnTunex3
import Derived.Test.YtmhnbjoepgdiaaaPureFnExactTurnTune
import Derived.WalkKit
import Derived.ProofKit
import Derived.OpenShut
import Derived.ShutString
import Derived.ChangeOld
import Derived.Below
import Derived.SizedLaws
import Derived.Lib.SmallJoins
import Derived.ChangeSame
import Derived.Test.YtmhnbjoepgdiaaaWSized
import Derived.Test.YtmhnbjoepgdiaaaLibOpen
set_option linter.unusedVariables false
namespace Go.Proofs.Ytmhnbjoepgdiaaa.fnExactTurnTune
open Go.ChangeShapes Go.WideShapes Go.ChangeAt Go.RowKit Go.Joins
open Go.ChangeMaps (open_string shut_string)
open Go.Proofs.YtmhnbjoepgdiaaaW.PrintWords Go.Proofs.Ytmhnbjoepgdiaaa.GFnExactTurnTune
theorem own : ownKnob Try.prog.godebug = none := by kernel_rfl
theorem laidOut : laidOutB Try.prog = true := by kernel_rfl
set_option maxRecDepth 100000 in
theorem lifted (os : Os) (started : os.Started) (H : Type) (enc : TypeId × Value → H) :
    ReturnsInHanded {} Try.checked os 9 .any (Rows.fnExactTurnTuneSpec.pre6 enc Try.prog Try.f9 Rows.fnExactTurnTuneRow.domain false) (Rows.fnExactTurnTuneSpec.post enc Try.prog Try.f9 false true false false) := by
  refine returnsInHanded_of_change_sized (C := Try.checked) own started (by kernel_rfl) Try.func9
    (ChangeSpec.witness6 (enc := enc) (C := Try.checked) false ⟨#[], #[.slice none 0 0, .int .i64 0], []⟩ 8 (by kernel_rfl) (by kernel_rfl) (by kernel_rfl) (by kernel_rfl)) ?_
  intro W base args ds gs before hval0 hW hcnd hsz0 _
  have hsz : (DataW.weightsEach Try.prog (Try.f9.params.toList ++ Rows.fnExactTurnTuneSpec.plain.varTypes Try.prog) (ds ++ gs)).all (· ≤ reachBytes) = true := hsz0
  have hval : ∀ (j : Nat) t v, Try.f9.params[j]? = some t → args[j]? = some v → Value.okWide Try.prog W .any base t v := hval0
  have hW' := hW
  obtain ⟨p, q, hA0, hV, rfl, hfz, hnd⟩ := hW
  have hA : DataW.TrodAll enc Try.prog W 0 (fun _ => true) true Try.f9.params.toList args.toList ds p := hA0
  rw [Try.params9] at hA hval hsz
  obtain ⟨v0, vs0, d0, ds0, p0, q0, hargs, rfl, rfl, h0, r0⟩ := trodAll_cons hA
  obtain ⟨v1, vs1, d1, ds1, p1, q1, rfl, rfl, rfl, h1, r1⟩ := trodAll_cons r0
  obtain ⟨rfl, rfl, rfl⟩ := trodAll_nil r1
  obtain rfl : args = #[v0, v1] := by cases args; simp_all
  obtain ⟨rfl, rfl⟩ := trodVars_none hV
  obtain ⟨A0, len0, cap0, rfl⟩ := okWide_slice Try.underlying22 (hval 0 22 v0 rfl rfl)
  have k0 := h0
  have lt0 : ∀ x ∈ p0, x.block < W.heap.size := by obtain ⟨m, hm⟩ := k0; exact DataW.trod_lt m _ _ _ hm
  obtain ⟨l0, ll0, zc0, zm0, hw0, zr0⟩ := Lib.open_strs Try.underlying22 Try.underlying9 (by kernel_rfl) h0
  have hr0 : Kd.C Kd.string W A0 l0.length l0 := by
    refine ⟨rfl, by rw [ll0]; unfold maxLen at zm0; omega, fun hn => ?_⟩
    obtain ⟨ad, ea, hz⟩ := zr0 (by rw [← ll0]; exact hn)
    refine ⟨ad, ea, fun j p hj => ⟨[.string p], rfl, rfl, fun u v hv => ?_⟩⟩
    have z := hz j p hj
    match u, hv with
    | 0, hv =>
      cases hv
      show W.cell? (ad.add (j * 1 + 0)) = _
      rw [Nat.mul_one, Nat.add_zero]
      exact z
  have hc0 : l0.length ≤ cap0 := by rw [ll0]; exact zc0
  have hn0 : l0.length ≤ maxLen := by rw [ll0]; omega
  clear zr0
  subst ll0
  obtain ⟨a1, rfl, rfl, rfl, w1⟩ := open_int Try.underlying3 (hval 1 3 v1 rfl rfl) h1
  clear hA0 hval0 hsz0 hsz
  obtain ⟨kk, law⟩ := Pure.FnExactTurnTuneWay.law l0 a1 hn0 hw0 w1
  refine (GFnExactTurnTune.laws_FnExactTurnTune.calls kk _ _ l0 a1 true W hr0 hc0 law).mono fun e W' ⟨he, bel0⟩ => ?_
  have bel : Below W.heap.size W W' := bel0
  subst he
  exact ⟨_, rfl, _, _, _, [], _, [], hW', trodAll_mk1 (shut_bool Try.underlying4 _), (trodAll_cons_mk (Below.trod laidOut (by kernel_rfl) (of_decide_eq_true (by kernel_rfl)) k0 bel lt0) (trodAll_cons_mk (shut_int Try.underlying3 w1) trodAll_mk0)), rfl, bel.frame _, fun h => by cases h⟩
theorem over : Rows.fnExactTurnTuneRow.holds Try.pinned (OpenSpec.ofChange Rows.fnExactTurnTuneSpec) :=
  OpenClaim.holds_of_wide 9 Try.f9 rfl rfl rfl rfl rfl rfl rfl ⟨rfl, rfl, rfl, rfl, rfl⟩ rfl rfl rfl rfl rfl (by kernel_rfl) Try.func9 (by kernel_rfl)
    (of_decide_eq_true (by kernel_rfl)) (by unfold Func.isWrapper; first | (rw [if_pos (by decide +kernel)]; kernel_rfl) | (rw [if_neg (by decide +kernel)]; exact ⟨rfl, rfl⟩))
    (fun os started H enc _ => lifted os started H enc)
theorem proved : Rows.FnExactTurnTuneSaid := over
#print axioms proved
end Go.Proofs.Ytmhnbjoepgdiaaa.fnExactTurnTune
namespace Go.Proofs.Ytmhnbjoepgdiaaa
/-- The row, under a short name, for the claim. -/
theorem fnExactTurnTune_holds : Rows.FnExactTurnTuneSaid := fnExactTurnTune.proved
end Go.Proofs.Ytmhnbjoepgdiaaa
