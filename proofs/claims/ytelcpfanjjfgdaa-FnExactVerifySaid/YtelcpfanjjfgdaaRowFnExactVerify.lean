/-
  The row of the law FnExactVerify: each argument opened, the law's contract with the plain statement, and the arguments read again.
  Conditions: none (the given statement's own form).
-/
import Derived.Test.YtelcpfanjjfgdaaRows
import Derived.Test.YtelcpfanjjfgdaaHFnExactVerifyx0
import Derived.Test.YtelcpfanjjfgdaaHFnExactVerifyx1
import Derived.Test.YtelcpfanjjfgdaaHFnExactVerifyx2
import Derived.Test.YtelcpfanjjfgdaaHFnExactVerifyx3
import Derived.Test.YtelcpfanjjfgdaaHFnExactVerifyx4
import Derived.Test.YtelcpfanjjfgdaaHFnExactVerifyx5
import Derived.Test.YtelcpfanjjfgdaaHFnExactVerifyx6
import Derived.Test.YtelcpfanjjfgdaaHFnExactVerifyx7
import Derived.Test.YtelcpfanjjfgdaaHFnExactVerifyx8
import Derived.Test.YtelcpfanjjfgdaaHFnExactVerifyx9
import Derived.Test.YtelcpfanjjfgdaaHFnExactVerifyx10
import Derived.Test.YtelcpfanjjfgdaaHFnExactVerifyx11
import Derived.Test.YtelcpfanjjfgdaaHFnExactVerifyx12
import Derived.Test.YtelcpfanjjfgdaaPureFnExactVerify
import Derived.Test.YtelcpfanjjfgdaaRowBase
import Derived.WalkKit
import Derived.ProofKit
import Derived.OpenShut
import Derived.ShutString
import Derived.ChangeOld
import Derived.Below
import Derived.SizedLaws
namespace Go.Proofs.Ytelcpfanjjfgdaa.fnExactVerify
open Go.ChangeShapes Go.WideShapes Go.ChangeAt Go.RowKit
open Go.ChangeMaps (open_string shut_string)
open Go.Proofs.YtelcpfanjjfgdaaW.PrintWords Go.Proofs.Ytelcpfanjjfgdaa.RowBase Go.Proofs.Ytelcpfanjjfgdaa.HFnExactVerify
set_option linter.unusedVariables false
theorem own : ownKnob Try.prog.godebug = none := by kernel_rfl
theorem laidOut : laidOutB Try.prog = true := by kernel_rfl
theorem opn77 : Opn Try.prog 77 k77 (fun x => (x.f0.size ≤ maxLen ∧ ((Lit.int .i64 x.f1).wf = true ∧ (Lit.int .i64 x.f2).wf = true))) := by
  have h := Opn.iso (β := S77) (f := fun x : S77 => (x.f0, x.f1, x.f2)) (Opn.struct Try.underlying77 (by kernel_rfl) (OpnF.cons rfl (by kernel_rfl) (Opn.string Try.underlying9) (OpnF.cons rfl (by kernel_rfl) (Opn.int Try.underlying2) (OpnF.one rfl (by kernel_rfl) (Opn.int Try.underlying2))))) (fun p => ⟨p.1, p.2.1, p.2.2⟩) (fun _ => rfl)
  exact h.mono fun _ hx => hx
set_option maxRecDepth 100000 in
theorem lifted (os : Os) (started : os.Started) (H : Type) (enc : TypeId × Value → H) :
    ReturnsInHanded {} Try.checked os 10 .any (Rows.fnExactVerifySpec.pre6 enc Try.prog Try.f10 Rows.fnExactVerifyRow.domain false) (Rows.fnExactVerifySpec.post enc Try.prog Try.f10 false true false false) := by
  refine returnsInHanded_of_change_sized (C := Try.checked) own started (by kernel_rfl) Try.func10
    (ChangeSpec.witness6 (enc := enc) (C := Try.checked) false ⟨#[], #[.slice none 0 0, .slice none 0 0, .slice none 0 0], []⟩ 8 (by kernel_rfl) (by kernel_rfl) (by kernel_rfl) (by kernel_rfl)) ?_
  intro W base args ds gs before hval0 hW hcnd hsz0 _
  have hsz : (DataW.weightsEach Try.prog (Try.f10.params.toList ++ Rows.fnExactVerifySpec.plain.varTypes Try.prog) (ds ++ gs)).all (· ≤ reachBytes) = true := hsz0
  have hval : ∀ (j : Nat) t v, Try.f10.params[j]? = some t → args[j]? = some v → Value.okWide Try.prog W .any base t v := hval0
  have hW' := hW
  obtain ⟨p, q, hA0, hV, rfl, hfz, hnd⟩ := hW
  have hA : DataW.TrodAll enc Try.prog W 0 (fun _ => true) true Try.f10.params.toList args.toList ds p := hA0
  rw [Try.params10] at hA hval hsz
  obtain ⟨v0, vs0, d0, ds0, p0, q0, hargs, rfl, rfl, h0, r0⟩ := trodAll_cons hA
  obtain ⟨v1, vs1, d1, ds1, p1, q1, rfl, rfl, rfl, h1, r1⟩ := trodAll_cons r0
  obtain ⟨v2, vs2, d2, ds2, p2, q2, rfl, rfl, rfl, h2, r2⟩ := trodAll_cons r1
  obtain ⟨rfl, rfl, rfl⟩ := trodAll_nil r2
  obtain rfl : args = #[v0, v1, v2] := by cases args; simp_all
  obtain ⟨rfl, rfl⟩ := trodVars_none hV
  obtain ⟨a0, len0, cap0, rfl⟩ := okWide_slice Try.underlying37 (hval 0 37 v0 rfl rfl)
  have k0 := h0
  have lt0 : ∀ x ∈ p0, x.block < W.heap.size := by obtain ⟨m, hm⟩ := k0; exact DataW.trod_lt m _ _ _ hm
  obtain ⟨l0, A0, c0, e0, hc0, hr0, hw0⟩ := slice_arg (Opn.slice Try.underlying37 (by kernel_rfl) opn77) (v := .slice a0 len0 cap0) rfl h0
  obtain ⟨rfl, rfl, rfl⟩ : a0 = A0 ∧ len0 = l0.length ∧ cap0 = c0 := by simpa using e0
  obtain ⟨a1, len1, cap1, rfl⟩ := okWide_slice Try.underlying46 (hval 1 46 v1 rfl rfl)
  have k1 := h1
  have lt1 : ∀ x ∈ p1, x.block < W.heap.size := by obtain ⟨m, hm⟩ := k1; exact DataW.trod_lt m _ _ _ hm
  obtain ⟨l1, A1, c1, e1, hc1, hr1, hw1⟩ := slice_arg (Opn.slice Try.underlying46 (by kernel_rfl) (Opn.string Try.underlying9)) (v := .slice a1 len1 cap1) rfl h1
  obtain ⟨rfl, rfl, rfl⟩ : a1 = A1 ∧ len1 = l1.length ∧ cap1 = c1 := by simpa using e1
  obtain ⟨a2, len2, cap2, rfl⟩ := okWide_slice Try.underlying55 (hval 2 55 v2 rfl rfl)
  have k2 := h2
  have lt2 : ∀ x ∈ p2, x.block < W.heap.size := by obtain ⟨m, hm⟩ := k2; exact DataW.trod_lt m _ _ _ hm
  obtain ⟨l2, A2, c2, e2, hc2, hr2, hw2⟩ := slice_arg (Opn.slice Try.underlying55 (by kernel_rfl) (Opn.slice Try.underlying22 (by kernel_rfl) (Opn.int Try.underlying5))) (v := .slice a2 len2 cap2) rfl h2
  obtain ⟨rfl, rfl, rfl⟩ : a2 = A2 ∧ len2 = l2.length ∧ cap2 = c2 := by simpa using e2
  clear hA0 hval0 hsz0 hsz
  obtain ⟨k, hp⟩ := Pure.FnExactVerify l0 l1 l2 hw0 hw1 hw2
  refine (laws_FnExactVerify.calls (k := k) (r := true) (w := W) (l0 := l0) (hr0 := hr0) (hc0 := hc0) (l1 := l1) (hr1 := hr1) (hc1 := hc1) (l2 := l2) (hr2 := hr2) (hc2 := hc2) (h := hp)).mono ?_
  rintro e W' ⟨rfl, bel0⟩
  have bel : Below W.heap.size W W' := bel0
  exact ⟨_, rfl, _, _, _, [], _, [], hW', trodAll_mk1 (shut_bool Try.underlying4 _), (trodAll_cons_mk (Below.trod laidOut (by kernel_rfl) (of_decide_eq_true (by kernel_rfl)) k0 bel lt0) (trodAll_cons_mk (Below.trod laidOut (by kernel_rfl) (of_decide_eq_true (by kernel_rfl)) k1 bel lt1) (trodAll_cons_mk (Below.trod laidOut (by kernel_rfl) (of_decide_eq_true (by kernel_rfl)) k2 bel lt2) trodAll_mk0))), rfl, bel.frame _, fun h => by cases h⟩
theorem over : Rows.fnExactVerifyRow.holds Try.pinned (OpenSpec.ofChange Rows.fnExactVerifySpec) :=
  OpenClaim.holds_of_wide 10 Try.f10 rfl rfl rfl rfl rfl rfl rfl ⟨rfl, rfl, rfl, rfl, rfl⟩ rfl rfl rfl rfl rfl (by kernel_rfl) Try.func10 (by kernel_rfl)
    (of_decide_eq_true (by kernel_rfl)) (by unfold Func.isWrapper; first | (rw [if_pos (by decide +kernel)]; kernel_rfl) | (rw [if_neg (by decide +kernel)]; exact ⟨rfl, rfl⟩))
    (fun os started H enc _ => lifted os started H enc)
theorem proved : Rows.FnExactVerifySaid := over
#print axioms proved
end Go.Proofs.Ytelcpfanjjfgdaa.fnExactVerify
namespace Go.Proofs.Ytelcpfanjjfgdaa
theorem fnExactVerify_holds : Rows.FnExactVerifySaid := fnExactVerify.proved
end Go.Proofs.Ytelcpfanjjfgdaa
