/-
  The row of the law FnDecoded: each argument opened, the law's contract with the plain statement, and the arguments read again.
  Conditions: none (the given statement's own form).
-/
import Derived.Test.YtbdnpfjjaokdbaaRows
import Derived.Test.YtbdnpfjjaokdbaaHFnDecodedx0
import Derived.Test.YtbdnpfjjaokdbaaHFnDecodedx1
import Derived.Test.YtbdnpfjjaokdbaaHFnDecodedx2
import Derived.Test.YtbdnpfjjaokdbaaHFnDecodedx3
import Derived.Test.YtbdnpfjjaokdbaaHFnDecodedx4
import Derived.Test.YtbdnpfjjaokdbaaHFnDecodedx5
import Derived.Test.YtbdnpfjjaokdbaaHFnDecodedx6
import Derived.Test.YtbdnpfjjaokdbaaHFnDecodedx7
import Derived.Test.YtbdnpfjjaokdbaaHFnDecodedx8
import Derived.Test.YtbdnpfjjaokdbaaHFnDecodedx9
import Derived.Test.YtbdnpfjjaokdbaaHFnDecodedx10
import Derived.Test.YtbdnpfjjaokdbaaHFnDecodedx11
import Derived.Test.YtbdnpfjjaokdbaaHFnDecodedx12
import Derived.Test.YtbdnpfjjaokdbaaPureFnDecoded
import Derived.Test.YtbdnpfjjaokdbaaRowBase
import Derived.WalkKit
import Derived.ProofKit
import Derived.OpenShut
import Derived.ShutString
import Derived.ChangeOld
import Derived.Below
import Derived.SizedLaws
namespace Go.Proofs.Ytbdnpfjjaokdbaa.fnDecoded
open Go.ChangeShapes Go.WideShapes Go.ChangeAt Go.RowKit
open Go.ChangeMaps (open_string shut_string)
open Go.Proofs.YtbdnpfjjaokdbaaW.PrintWords Go.Proofs.Ytbdnpfjjaokdbaa.RowBase Go.Proofs.Ytbdnpfjjaokdbaa.HFnDecoded
set_option linter.unusedVariables false
theorem own : ownKnob Try.prog.godebug = none := by kernel_rfl
theorem laidOut : laidOutB Try.prog = true := by kernel_rfl
set_option maxRecDepth 100000 in
theorem lifted (os : Os) (started : os.Started) (H : Type) (enc : TypeId × Value → H) :
    ReturnsInHanded {} Try.checked os 12 .any (Rows.fnDecodedSpec.pre6 enc Try.prog Try.f12 Rows.fnDecodedRow.domain false) (Rows.fnDecodedSpec.post enc Try.prog Try.f12 false true false false) := by
  refine returnsInHanded_of_change_sized (C := Try.checked) own started (by kernel_rfl) Try.func12
    (ChangeSpec.witness6 (enc := enc) (C := Try.checked) false ⟨#[], #[.slice none 0 0], []⟩ 8 (by kernel_rfl) (by kernel_rfl) (by kernel_rfl) (by kernel_rfl)) ?_
  intro W base args ds gs before hval0 hW hcnd hsz0 _
  have hsz : (DataW.weightsEach Try.prog (Try.f12.params.toList ++ Rows.fnDecodedSpec.plain.varTypes Try.prog) (ds ++ gs)).all (· ≤ reachBytes) = true := hsz0
  have hval : ∀ (j : Nat) t v, Try.f12.params[j]? = some t → args[j]? = some v → Value.okWide Try.prog W .any base t v := hval0
  have hW' := hW
  obtain ⟨p, q, hA0, hV, rfl, hfz, hnd⟩ := hW
  have hA : DataW.TrodAll enc Try.prog W 0 (fun _ => true) true Try.f12.params.toList args.toList ds p := hA0
  rw [Try.params12] at hA hval hsz
  obtain ⟨v0, vs0, d0, ds0, p0, q0, hargs, rfl, rfl, h0, r0⟩ := trodAll_cons hA
  obtain ⟨rfl, rfl, rfl⟩ := trodAll_nil r0
  obtain rfl : args = #[v0] := by cases args; simp_all
  obtain ⟨rfl, rfl⟩ := trodVars_none hV
  obtain ⟨a0, len0, cap0, rfl⟩ := okWide_slice Try.underlying37 (hval 0 37 v0 rfl rfl)
  have k0 := h0
  have lt0 : ∀ x ∈ p0, x.block < W.heap.size := by obtain ⟨m, hm⟩ := k0; exact DataW.trod_lt m _ _ _ hm
  obtain ⟨l0, A0, c0, e0, hc0, hr0, hw0⟩ := slice_arg (Opn.slice Try.underlying37 (by kernel_rfl) (Opn.int Try.underlying5)) (v := .slice a0 len0 cap0) rfl h0
  obtain ⟨rfl, rfl, rfl⟩ : a0 = A0 ∧ len0 = l0.length ∧ cap0 = c0 := by simpa using e0
  clear hA0 hval0 hsz0 hsz
  have hp := Pure.FnDecoded l0 hw0
  refine (laws_FnDecoded.calls (r := true) (w := W) (l0 := l0) (hr0 := hr0) (hc0 := hc0) (h := hp)).mono ?_
  rintro e W' ⟨rfl, bel0⟩
  have bel : Below W.heap.size W W' := bel0
  exact ⟨_, rfl, _, _, _, [], _, [], hW', trodAll_mk1 (shut_bool Try.underlying4 _), (trodAll_cons_mk (Below.trod laidOut (by kernel_rfl) (of_decide_eq_true (by kernel_rfl)) k0 bel lt0) trodAll_mk0), rfl, bel.frame _, fun h => by cases h⟩
theorem over : Rows.fnDecodedRow.holds Try.pinned (OpenSpec.ofChange Rows.fnDecodedSpec) :=
  OpenClaim.holds_of_wide 12 Try.f12 rfl rfl rfl rfl rfl rfl rfl ⟨rfl, rfl, rfl, rfl, rfl⟩ rfl rfl rfl rfl rfl (by kernel_rfl) Try.func12 (by kernel_rfl)
    (of_decide_eq_true (by kernel_rfl)) (by unfold Func.isWrapper; first | (rw [if_pos (by decide +kernel)]; kernel_rfl) | (rw [if_neg (by decide +kernel)]; exact ⟨rfl, rfl⟩))
    (fun os started H enc _ => lifted os started H enc)
theorem proved : Rows.FnDecodedSaid := over
#print axioms proved
end Go.Proofs.Ytbdnpfjjaokdbaa.fnDecoded
namespace Go.Proofs.Ytbdnpfjjaokdbaa
theorem fnDecoded_holds : Rows.FnDecodedSaid := fnDecoded.proved
end Go.Proofs.Ytbdnpfjjaokdbaa
