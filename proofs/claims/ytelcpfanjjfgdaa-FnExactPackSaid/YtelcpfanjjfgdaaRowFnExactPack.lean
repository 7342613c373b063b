/-
  The row of the law FnExactPack: each argument opened, the law's contract with the plain statement, and the arguments read again.
  Conditions: none (the given statement's own form).
-/
import Derived.Test.YtelcpfanjjfgdaaRows
import Derived.Test.YtelcpfanjjfgdaaHFnExactPackx0
import Derived.Test.YtelcpfanjjfgdaaHFnExactPackx1
import Derived.Test.YtelcpfanjjfgdaaHFnExactPackx2
import Derived.Test.YtelcpfanjjfgdaaHFnExactPackx3
import Derived.Test.YtelcpfanjjfgdaaHFnExactPackx4
import Derived.Test.YtelcpfanjjfgdaaHFnExactPackx5
import Derived.Test.YtelcpfanjjfgdaaHFnExactPackx6
import Derived.Test.YtelcpfanjjfgdaaHFnExactPackx7
import Derived.Test.YtelcpfanjjfgdaaHFnExactPackx8
import Derived.Test.YtelcpfanjjfgdaaHFnExactPackx9
import Derived.Test.YtelcpfanjjfgdaaHFnExactPackx10
import Derived.Test.YtelcpfanjjfgdaaPureFnExactPack
import Derived.Test.YtelcpfanjjfgdaaRowBase
import Derived.WalkKit
import Derived.ProofKit
import Derived.OpenShut
import Derived.ShutString
import Derived.ChangeOld
import Derived.Below
import Derived.SizedLaws
namespace Go.Proofs.Ytelcpfanjjfgdaa.fnExactPack
open Go.ChangeShapes Go.WideShapes Go.ChangeAt Go.RowKit
open Go.ChangeMaps (open_string shut_string)
open Go.Proofs.YtelcpfanjjfgdaaW.PrintWords Go.Proofs.Ytelcpfanjjfgdaa.RowBase Go.Proofs.Ytelcpfanjjfgdaa.HFnExactPack
set_option linter.unusedVariables false
theorem own : ownKnob Try.prog.godebug = none := by kernel_rfl
theorem laidOut : laidOutB Try.prog = true := by kernel_rfl
set_option maxRecDepth 100000 in
theorem lifted (os : Os) (started : os.Started) (H : Type) (enc : TypeId × Value → H) :
    ReturnsInHanded {} Try.checked os 12 .any (Rows.fnExactPackSpec.pre6 enc Try.prog Try.f12 Rows.fnExactPackRow.domain false) (Rows.fnExactPackSpec.post enc Try.prog Try.f12 false true false false) := by
  refine returnsInHanded_of_change_sized (C := Try.checked) own started (by kernel_rfl) Try.func12
    (ChangeSpec.witness6 (enc := enc) (C := Try.checked) false ⟨#[], #[.slice none 0 0, .slice none 0 0], []⟩ 8 (by kernel_rfl) (by kernel_rfl) (by kernel_rfl) (by kernel_rfl)) ?_
  intro W base args ds gs before hval0 hW hcnd hsz0 _
  have hsz : (DataW.weightsEach Try.prog (Try.f12.params.toList ++ Rows.fnExactPackSpec.plain.varTypes Try.prog) (ds ++ gs)).all (· ≤ reachBytes) = true := hsz0
  have hval : ∀ (j : Nat) t v, Try.f12.params[j]? = some t → args[j]? = some v → Value.okWide Try.prog W .any base t v := hval0
  have hW' := hW
  obtain ⟨p, q, hA0, hV, rfl, hfz, hnd⟩ := hW
  have hA : DataW.TrodAll enc Try.prog W 0 (fun _ => true) true Try.f12.params.toList args.toList ds p := hA0
  rw [Try.params12] at hA hval hsz
  obtain ⟨v0, vs0, d0, ds0, p0, q0, hargs, rfl, rfl, h0, r0⟩ := trodAll_cons hA
  obtain ⟨v1, vs1, d1, ds1, p1, q1, rfl, rfl, rfl, h1, r1⟩ := trodAll_cons r0
  obtain ⟨rfl, rfl, rfl⟩ := trodAll_nil r1
  obtain rfl : args = #[v0, v1] := by cases args; simp_all
  obtain ⟨rfl, rfl⟩ := trodVars_none hV
  obtain ⟨a0, len0, cap0, rfl⟩ := okWide_slice Try.underlying46 (hval 0 46 v0 rfl rfl)
  have k0 := h0
  have lt0 : ∀ x ∈ p0, x.block < W.heap.size := by obtain ⟨m, hm⟩ := k0; exact DataW.trod_lt m _ _ _ hm
  obtain ⟨l0, A0, c0, e0, hc0, hr0, hw0⟩ := slice_arg (Opn.slice Try.underlying46 (by kernel_rfl) (Opn.string Try.underlying9)) (v := .slice a0 len0 cap0) rfl h0
  obtain ⟨rfl, rfl, rfl⟩ : a0 = A0 ∧ len0 = l0.length ∧ cap0 = c0 := by simpa using e0
  obtain ⟨a1, len1, cap1, rfl⟩ := okWide_slice Try.underlying55 (hval 1 55 v1 rfl rfl)
  have k1 := h1
  have lt1 : ∀ x ∈ p1, x.block < W.heap.size := by obtain ⟨m, hm⟩ := k1; exact DataW.trod_lt m _ _ _ hm
  obtain ⟨l1, A1, c1, e1, hc1, hr1, hw1⟩ := slice_arg (Opn.slice Try.underlying55 (by kernel_rfl) (Opn.slice Try.underlying22 (by kernel_rfl) (Opn.int Try.underlying5))) (v := .slice a1 len1 cap1) rfl h1
  obtain ⟨rfl, rfl, rfl⟩ : a1 = A1 ∧ len1 = l1.length ∧ cap1 = c1 := by simpa using e1
  clear hA0 hval0 hsz0 hsz
  obtain ⟨k, hp⟩ := Pure.FnExactPack l0 l1 hw0 hw1
  refine (laws_FnExactPack.calls (k := k) (r := true) (w := W) (l0 := l0) (hr0 := hr0) (hc0 := hc0) (l1 := l1) (hr1 := hr1) (hc1 := hc1) (h := hp)).mono ?_
  rintro e W' ⟨rfl, bel0⟩
  have bel : Below W.heap.size W W' := bel0
  exact ⟨_, rfl, _, _, _, [], _, [], hW', trodAll_mk1 (shut_bool Try.underlying4 _), (trodAll_cons_mk (Below.trod laidOut (by kernel_rfl) (of_decide_eq_true (by kernel_rfl)) k0 bel lt0) (trodAll_cons_mk (Below.trod laidOut (by kernel_rfl) (of_decide_eq_true (by kernel_rfl)) k1 bel lt1) trodAll_mk0)), rfl, bel.frame _, fun h => by cases h⟩
theorem over : Rows.fnExactPackRow.holds Try.pinned (OpenSpec.ofChange Rows.fnExactPackSpec) :=
  OpenClaim.holds_of_wide 12 Try.f12 rfl rfl rfl rfl rfl rfl rfl ⟨rfl, rfl, rfl, rfl, rfl⟩ rfl rfl rfl rfl rfl (by kernel_rfl) Try.func12 (by kernel_rfl)
    (of_decide_eq_true (by kernel_rfl)) (by unfold Func.isWrapper; first | (rw [if_pos (by decide +kernel)]; kernel_rfl) | (rw [if_neg (by decide +kernel)]; exact ⟨rfl, rfl⟩))
    (fun os started H enc _ => lifted os started H enc)
theorem proved : Rows.FnExactPackSaid := over
#print axioms proved
end Go.Proofs.Ytelcpfanjjfgdaa.fnExactPack
namespace Go.Proofs.Ytelcpfanjjfgdaa
theorem fnExactPack_holds : Rows.FnExactPackSaid := fnExactPack.proved
end Go.Proofs.Ytelcpfanjjfgdaa
