/-
  The row of the law FnCoded: each argument opened, the law's contract with the plain statement, and the arguments read again.
  Conditions: none (the given statement's own form).
-/
import Derived.Test.YtbdnpfjjaokdbaaRows
import Derived.Test.YtbdnpfjjaokdbaaHFnCodedx0
import Derived.Test.YtbdnpfjjaokdbaaHFnCodedx1
import Derived.Test.YtbdnpfjjaokdbaaHFnCodedx2
import Derived.Test.YtbdnpfjjaokdbaaHFnCodedx3
import Derived.Test.YtbdnpfjjaokdbaaHFnCodedx4
import Derived.Test.YtbdnpfjjaokdbaaHFnCodedx5
import Derived.Test.YtbdnpfjjaokdbaaHFnCodedx6
import Derived.Test.YtbdnpfjjaokdbaaHFnCodedx7
import Derived.Test.YtbdnpfjjaokdbaaHFnCodedx8
import Derived.Test.YtbdnpfjjaokdbaaHFnCodedx9
import Derived.Test.YtbdnpfjjaokdbaaHFnCodedx10
import Derived.Test.YtbdnpfjjaokdbaaHFnCodedx11
import Derived.Test.YtbdnpfjjaokdbaaHFnCodedx12
import Derived.Test.YtbdnpfjjaokdbaaHFnCodedx13
import Derived.Test.YtbdnpfjjaokdbaaHFnCodedx14
import Derived.Test.YtbdnpfjjaokdbaaHFnCodedx15
import Derived.Test.YtbdnpfjjaokdbaaPureFnCoded
import Derived.Test.YtbdnpfjjaokdbaaRowBase
import Derived.WalkKit
import Derived.ProofKit
import Derived.OpenShut
import Derived.ShutString
import Derived.ChangeOld
import Derived.Below
import Derived.SizedLaws
namespace Go.Proofs.Ytbdnpfjjaokdbaa.fnCoded
open Go.ChangeShapes Go.WideShapes Go.ChangeAt Go.RowKit
open Go.ChangeMaps (open_string shut_string)
open Go.Proofs.YtbdnpfjjaokdbaaW.PrintWords Go.Proofs.Ytbdnpfjjaokdbaa.RowBase Go.Proofs.Ytbdnpfjjaokdbaa.HFnCoded
set_option linter.unusedVariables false
theorem own : ownKnob Try.prog.godebug = none := by kernel_rfl
theorem laidOut : laidOutB Try.prog = true := by kernel_rfl
set_option maxRecDepth 100000 in
theorem lifted (os : Os) (started : os.Started) (H : Type) (enc : TypeId × Value → H) :
    ReturnsInHanded {} Try.checked os 13 .any (Rows.fnCodedSpec.pre6 enc Try.prog Try.f13 Rows.fnCodedRow.domain false) (Rows.fnCodedSpec.post enc Try.prog Try.f13 false true false false) := by
  refine returnsInHanded_of_change_sized (C := Try.checked) own started (by kernel_rfl) Try.func13
    (ChangeSpec.witness6 (enc := enc) (C := Try.checked) false ⟨#[], #[.slice none 0 0], []⟩ 8 (by kernel_rfl) (by kernel_rfl) (by kernel_rfl) (by kernel_rfl)) ?_
  intro W base args ds gs before hval0 hW hcnd hsz0 _
  have hsz : (DataW.weightsEach Try.prog (Try.f13.params.toList ++ Rows.fnCodedSpec.plain.varTypes Try.prog) (ds ++ gs)).all (· ≤ reachBytes) = true := hsz0
  have hval : ∀ (j : Nat) t v, Try.f13.params[j]? = some t → args[j]? = some v → Value.okWide Try.prog W .any base t v := hval0
  have hW' := hW
  obtain ⟨p, q, hA0, hV, rfl, hfz, hnd⟩ := hW
  have hA : DataW.TrodAll enc Try.prog W 0 (fun _ => true) true Try.f13.params.toList args.toList ds p := hA0
  rw [Try.params13] at hA hval hsz
  obtain ⟨v0, vs0, d0, ds0, p0, q0, hargs, rfl, rfl, h0, r0⟩ := trodAll_cons hA
  obtain ⟨rfl, rfl, rfl⟩ := trodAll_nil r0
  obtain rfl : args = #[v0] := by cases args; simp_all
  obtain ⟨rfl, rfl⟩ := trodVars_none hV
  obtain ⟨a0, len0, cap0, rfl⟩ := okWide_slice Try.underlying37 (hval 0 37 v0 rfl rfl)
  have k0 := h0
  have lt0 : ∀ x ∈ p0, x.block < W.heap.size := by obtain ⟨m, hm⟩ := k0; exact DataW.trod_lt m _ _ _ hm
  obtain ⟨l0, A0, c0, e0, hc0, hr0, hw0⟩ := slice_arg (Opn.slice Try.underlying37 (by kernel_rfl) (Opn.int Try.underlying5)) (v := .slice a0 len0 cap0) rfl h0
  obtain ⟨rfl, rfl, rfl⟩ : a0 = A0 ∧ len0 = l0.length ∧ cap0 = c0 := by simpa using e0
  clear hA0 hval0 hsz0 hsz
  have hp := Pure.FnCoded l0 hw0
  refine (laws_FnCoded.calls (r := true) (w := W) (l0 := l0) (hr0 := hr0) (hc0 := hc0) (h := hp)).mono ?_
  rintro e W' ⟨rfl, bel0⟩
  have bel : Below W.heap.size W W' := bel0
  exact ⟨_, rfl, _, _, _, [], _, [], hW', trodAll_mk1 (shut_bool Try.underlying4 _), (trodAll_cons_mk (Below.trod laidOut (by kernel_rfl) (of_decide_eq_true (by kernel_rfl)) k0 bel lt0) trodAll_mk0), rfl, bel.frame _, fun h => by cases h⟩
theorem over : Rows.fnCodedRow.holds Try.pinned (OpenSpec.ofChange Rows.fnCodedSpec) :=
  OpenClaim.holds_of_wide 13 Try.f13 rfl rfl rfl rfl rfl rfl rfl ⟨rfl, rfl, rfl, rfl, rfl⟩ rfl rfl rfl rfl rfl (by kernel_rfl) Try.func13 (by kernel_rfl)
    (of_decide_eq_true (by kernel_rfl)) (by unfold Func.isWrapper; first | (rw [if_pos (by decide +kernel)]; kernel_rfl) | (rw [if_neg (by decide +kernel)]; exact ⟨rfl, rfl⟩))
    (fun os started H enc _ => lifted os started H enc)
theorem proved : Rows.FnCodedSaid := over
#print axioms proved
end Go.Proofs.Ytbdnpfjjaokdbaa.fnCoded
namespace Go.Proofs.Ytbdnpfjjaokdbaa
theorem fnCoded_holds : Rows.FnCodedSaid := fnCoded.proved
end Go.Proofs.Ytbdnpfjjaokdbaa
