/- The row of FnExactTuneText: for every input the law returns true, and each argument reads behind the call as it read before. -/
import Derived.Test.YtmhnbjoepgdiaaaRows
import Derived.Test.YtmhnbjoepgdiaaaGFnExactTuneTextx2
import Derived.Test.YtmhnbjoepgdiaaaPureFnExactTuneText
import Derived.WalkKit
import Derived.ProofKit
import Derived.OpenShut
import Derived.ShutString
import Derived.ChangeOld
import Derived.Below
import Derived.SizedLaws
import Derived.Lib.SmallJoins
import Derived.ChangeSame
import Derived.Test.YtmhnbjoepgdiaaaWSized
import Derived.Test.YtmhnbjoepgdiaaaLibOpen
set_option linter.unusedVariables false
namespace Go.Proofs.Ytmhnbjoepgdiaaa.fnExactTuneText
open Go.ChangeShapes Go.WideShapes Go.ChangeAt Go.RowKit Go.Joins
open Go.ChangeMaps (open_string shut_string)
open Go.Proofs.YtmhnbjoepgdiaaaW.PrintWords Go.Proofs.Ytmhnbjoepgdiaaa.GFnExactTuneText
theorem own : ownKnob Try.prog.godebug = none := by kernel_rfl
theorem laidOut : laidOutB Try.prog = true := by kernel_rfl
set_option maxRecDepth 100000 in
theorem lifted (os : Os) (started : os.Started) (H : Type) (enc : TypeId × Value → H) :
    ReturnsInHanded {} Try.checked os 12 .any (Rows.fnExactTuneTextSpec.pre6 enc Try.prog Try.f12 Rows.fnExactTuneTextRow.domain false) (Rows.fnExactTuneTextSpec.post enc Try.prog Try.f12 false true false false) := by
  refine returnsInHanded_of_change_sized (C := Try.checked) own started (by kernel_rfl) Try.func12
    (ChangeSpec.witness6 (enc := enc) (C := Try.checked) false ⟨#[], #[.slice none 0 0], []⟩ 8 (by kernel_rfl) (by kernel_rfl) (by kernel_rfl) (by kernel_rfl)) ?_
  intro W base args ds gs before hval0 hW hcnd hsz0 _
  have hsz : (DataW.weightsEach Try.prog (Try.f12.params.toList ++ Rows.fnExactTuneTextSpec.plain.varTypes Try.prog) (ds ++ gs)).all (· ≤ reachBytes) = true := hsz0
  have hval : ∀ (j : Nat) t v, Try.f12.params[j]? = some t → args[j]? = some v → Value.okWide Try.prog W .any base t v := hval0
  have hW' := hW
  obtain ⟨p, q, hA0, hV, rfl, hfz, hnd⟩ := hW
  have hA : DataW.TrodAll enc Try.prog W 0 (fun _ => true) true Try.f12.params.toList args.toList ds p := hA0
  rw [Try.params12] at hA hval hsz
  obtain ⟨v0, vs0, d0, ds0, p0, q0, hargs, rfl, rfl, h0, r0⟩ := trodAll_cons hA
  obtain ⟨rfl, rfl, rfl⟩ := trodAll_nil r0
  obtain rfl : args = #[v0] := by cases args; simp_all
  obtain ⟨rfl, rfl⟩ := trodVars_none hV
  obtain ⟨A0, len0, cap0, rfl⟩ := okWide_slice Try.underlying22 (hval 0 22 v0 rfl rfl)
  have k0 := h0
  have lt0 : ∀ x ∈ p0, x.block < W.heap.size := by obtain ⟨m, hm⟩ := k0; exact DataW.trod_lt m _ _ _ hm
  obtain ⟨l0, ll0, zc0, zm0, hw0, zr0⟩ := Lib.open_strs Try.underlying22 Try.underlying9 (by kernel_rfl) h0
  have hr0 : Kd.C Kd.string W A0 l0.length l0 := by
    refine ⟨rfl, by rw [ll0]; unfold maxLen at zm0; omega, fun hn => ?_⟩
    obtain ⟨ad, ea, hz⟩ := zr0 (by rw [← ll0]; exact hn)
    refine ⟨ad, ea, fun j p hj => ⟨[.string p], rfl, rfl, fun u v hv => ?_⟩⟩
    have z := hz j p hj
    match u, hv with
    | 0, hv =>
      cases hv
      show W.cell? (ad.add (j * 1 + 0)) = _
      rw [Nat.mul_one, Nat.add_zero]
      exact z
  have hc0 : l0.length ≤ cap0 := by rw [ll0]; exact zc0
  have hn0 : l0.length ≤ maxLen := by rw [ll0]; omega
  clear zr0
  subst ll0
  clear hA0 hval0 hsz0 hsz
  obtain ⟨kk, law⟩ := Pure.FnExactTuneTextWay.law l0 hn0 hw0
  refine (GFnExactTuneText.laws_FnExactTuneText.calls kk _ _ l0 true W hr0 hc0 law).mono fun e W' ⟨he, bel0⟩ => ?_
  have bel : Below W.heap.size W W' := bel0
  subst he
  exact ⟨_, rfl, _, _, _, [], _, [], hW', trodAll_mk1 (shut_bool Try.underlying4 _), (trodAll_cons_mk (Below.trod laidOut (by kernel_rfl) (of_decide_eq_true (by kernel_rfl)) k0 bel lt0) trodAll_mk0), rfl, bel.frame _, fun h => by cases h⟩
theorem over : Rows.fnExactTuneTextRow.holds Try.pinned (OpenSpec.ofChange Rows.fnExactTuneTextSpec) :=
  OpenClaim.holds_of_wide 12 Try.f12 rfl rfl rfl rfl rfl rfl rfl ⟨rfl, rfl, rfl, rfl, rfl⟩ rfl rfl rfl rfl rfl (by kernel_rfl) Try.func12 (by kernel_rfl)
    (of_decide_eq_true (by kernel_rfl)) (by unfold Func.isWrapper; first | (rw [if_pos (by decide +kernel)]; kernel_rfl) | (rw [if_neg (by decide +kernel)]; exact ⟨rfl, rfl⟩))
    (fun os started H enc _ => lifted os started H enc)
theorem proved : Rows.FnExactTuneTextSaid := over
#print axioms proved
end Go.Proofs.Ytmhnbjoepgdiaaa.fnExactTuneText
namespace Go.Proofs.Ytmhnbjoepgdiaaa
/-- The row, under a short name, for the claim. -/
theorem fnExactTuneText_holds : Rows.FnExactTuneTextSaid := fnExactTuneText.proved
end Go.Proofs.Ytmhnbjoepgdiaaa
