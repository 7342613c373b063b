/-
  The row of the law FnTitlesBack: each argument opened, the law's contract with the plain statement, and the arguments read again.
  Conditions: none (the given statement's own form).
-/
import Derived.Test.YtidogkjhjmcliaaDoorRows
import Derived.Test.YtidogkjhjmcliaaDoorTie
import Derived.Test.YtidogkjhjmcliaaDoorCards
import Derived.Test.YtidogkjhjmcliaaDoorHFnTitlesBackx0
import Derived.Test.YtidogkjhjmcliaaDoorHFnTitlesBackx1
import Derived.Test.YtidogkjhjmcliaaDoorHFnTitlesBackx2
import Derived.Test.YtidogkjhjmcliaaDoorHFnTitlesBackx3
import Derived.Test.YtidogkjhjmcliaaDoorHFnTitlesBackx4
import Derived.Test.YtidogkjhjmcliaaDoorHFnTitlesBackx5
import Derived.Test.YtidogkjhjmcliaaDoorHFnTitlesBackx6
import Derived.Test.YtidogkjhjmcliaaDoorHFnTitlesBackx7
import Derived.Test.YtidogkjhjmcliaaDoorHFnTitlesBackx8
import Derived.Test.YtidogkjhjmcliaaDoorHFnTitlesBackx9
import Derived.Test.YtidogkjhjmcliaaDoorHFnTitlesBackx10
import Derived.Test.YtidogkjhjmcliaaDoorHFnTitlesBackx11
import Derived.Test.YtidogkjhjmcliaaDoorHFnTitlesBackx12
import Derived.Test.YtidogkjhjmcliaaDoorHFnTitlesBackx13
import Derived.Test.YtidogkjhjmcliaaDoorHFnTitlesBackx14
import Derived.Test.YtidogkjhjmcliaaDoorHFnTitlesBackx15
import Derived.Test.YtidogkjhjmcliaaDoorHFnTitlesBackx16
import Derived.Test.YtidogkjhjmcliaaDoorHFnTitlesBackx17
import Derived.Test.YtidogkjhjmcliaaDoorPureFnTitlesBack
import Derived.Test.YtidogkjhjmcliaaDoorRowBase
import Derived.WalkKit
import Derived.ProofKit
import Derived.OpenShut
import Derived.ShutString
import Derived.ChangeOld
import Derived.Below
import Derived.SizedLaws
import Derived.LaidMore
import Derived.Deep.DeepHandedRow
import Derived.Deep.DeepWitnessRowRef
import Derived.Stop.LaidErr
import Derived.SevenTiedAt
namespace Go.Proofs.YtidogkjhjmcliaaDoor.fnTitlesBack
open Go.ChangeShapes Go.WideShapes Go.ChangeAt Go.RowKit
open Go.ChangeMaps (open_string shut_string)
open Go.Proofs.YtidogkjhjmcliaaDoorW.PrintWords Go.Proofs.YtidogkjhjmcliaaDoor.RowBase Go.Proofs.YtidogkjhjmcliaaDoor.HFnTitlesBack
set_option linter.unusedVariables false
theorem own : ownKnob Tryd.prog.godebug = none := by kernel_rfl
theorem laidOut : laidOutB Tryd.prog = true := by kernel_rfl
theorem laid_met (os : Os) (args : Array Value) : laidMetH Tryd.prog Rows.fnTitlesBackRow.laid ((World.doorLaid Tryd.prog 24 os).forCall (fun _ _ => 0) ⟨#[], args, []⟩).memory :=
  laidMetH_of_parts3 (fuel := 8) (laidMet_of_run' 8 (by kernel_rfl) (by kernel_rfl)) (by kernel_rfl) (by kernel_rfl)
theorem witness_row (os : Os) {H : Type} (enc : TypeId × Value → H) :
    (OpenSpec.ofChange Rows.fnTitlesBackSpec).preRow enc Tryd.prog Tryd.f5 Rows.fnTitlesBackRow.domain false Rows.fnTitlesBackRow.laid ((World.doorLaid Tryd.prog 24 os).forCall (fun _ _ => 0) ⟨#[], #[.slice none 0 0], []⟩).memory #[.slice none 0 0] := by
  have hw : (DataW.whole enc Tryd.prog ((World.doorLaid Tryd.prog 24 os).forCall (fun _ _ => 0) ⟨#[], #[.slice none 0 0], []⟩).memory Tryd.f5.params.toList (OpenSpec.ofChange Rows.fnTitlesBackSpec).vars false #[Value.slice none 0 0].toList 8).map (fun x => (x.1, x.2.1)) = some ([.nil], []) := by kernel_rfl
  obtain ⟨⟨x1, x2, x3⟩, hx, hx1⟩ := Option.map_eq_some_iff.1 hw
  simp only [Prod.mk.injEq] at hx1
  obtain ⟨rfl, rfl⟩ := hx1
  exact OpenSpec.preRow_of_cond 8 hx (by kernel_rfl) (fun k hk => by cases hk) (by kernel_rfl) (laid_met os _)
theorem heap_four {W : World} (hsh : W.ShapedOpen Tryd.prog) : 4 ≤ W.heap.size := by
  have h0 : (((begin Tryd.prog (fun _ _ => 0) default).world.heap[3]?).bind Obj.row?).isSome = true := by kernel_rfl
  obtain ⟨⟨zero, t⟩, hz⟩ := Option.isSome_iff_exists.1 h0
  obtain ⟨cs, hh, _⟩ := hsh.1 3 zero t (of_decide_eq_true (by kernel_rfl)) hz
  have := (Array.getElem?_eq_some_iff.1 hh).1
  omega
theorem glob_of {W : World} (hsh : W.ShapedOpen Tryd.prog) (hL : laidMetH Tryd.prog Rows.fnTitlesBackRow.laid W) (hsz : 4 ≤ W.heap.size) : Glob W :=
  ⟨hsz, Go.Proofs.cell_of_shapedOpen_int (zero := #[.int .i64 0]) (t := 3) hsh (of_decide_eq_true (by kernel_rfl)) (by kernel_rfl) rfl (by kernel_rfl) (by kernel_rfl) Tryd.underlying3,
    Lib.tabIs_of_head (g := 0) (t := 99) (e := 88) (n := 20) (by kernel_rfl) (by kernel_rfl) (by kernel_rfl) (by kernel_rfl) (by kernel_rfl) (by kernel_rfl) (laidMet.tail (laidMet.tail (show laidMet Tryd.prog Rows.fnTitlesBackRow.laid W from hL)))⟩
set_option maxRecDepth 100000 in
theorem lifted (os : Os) (started : os.Started) (H : Type) (enc : TypeId × Value → H) (F : Stop.Interp) :
    ReturnsInHanded {} Tryd.checked os 5 .any ((OpenSpec.ofChange Rows.fnTitlesBackSpec).preRow enc Tryd.prog Tryd.f5 Rows.fnTitlesBackRow.domain false Rows.fnTitlesBackRow.laid) (((OpenSpec.ofChange Rows.fnTitlesBackSpec).at F).post enc Tryd.prog Tryd.f5 false true false false) := by
  refine returnsInHanded_of_row (C := Tryd.checked) (s := OpenSpec.ofChange Rows.fnTitlesBackSpec) own started (by kernel_rfl) Tryd.func5
    (witness_row_atRef (enc := enc) (C := Tryd.checked) false (World.doorLaid Tryd.prog 24 os) #[.slice none 0 0] rfl (by kernel_rfl) (by kernel_rfl) (by kernel_rfl) (witness_row os enc)) ?_
  intro W base args ds gs before hval0 hW hcnd _ hsz0 hL hsh _
  have hglob : Glob W := glob_of hsh hL (heap_four hsh)
  have hsz : (DataW.weightsEach Tryd.prog (Tryd.f5.params.toList ++ (OpenSpec.ofChange Rows.fnTitlesBackSpec).bare.plain.varTypes Tryd.prog) (ds ++ gs)).all (· ≤ reachBytes) = true := hsz0
  have hval : ∀ (j : Nat) t v, Tryd.f5.params[j]? = some t → args[j]? = some v → Value.okWide Tryd.prog W .any base t v := hval0
  have hW' := hW
  obtain ⟨p, q, hA0, hV, rfl, hfz, hnd⟩ := hW
  have hA : DataW.TrodAll enc Tryd.prog W 0 (fun _ => true) true Tryd.f5.params.toList args.toList ds p := hA0
  rw [Tryd.params5] at hA hval hsz
  obtain ⟨v0, vs0, d0, ds0, p0, q0, hargs, rfl, rfl, h0, r0⟩ := trodAll_cons hA
  obtain ⟨rfl, rfl, rfl⟩ := trodAll_nil r0
  obtain rfl : args = #[v0] := by cases args; simp_all
  obtain ⟨rfl, rfl⟩ := trodVars_none hV
  obtain ⟨a0, len0, cap0, rfl⟩ := okWide_slice Tryd.underlying36 (hval 0 36 v0 rfl rfl)
  have k0 := h0
  have lt0 : ∀ x ∈ p0, x.block < W.heap.size := by obtain ⟨m, hm⟩ := k0; exact DataW.trod_lt m _ _ _ hm
  obtain ⟨l0, A0, c0, e0, hc0, hr0, hw0⟩ := slice_arg (Opn.slice Tryd.underlying36 (by kernel_rfl) (Opn.int Tryd.underlying5)) (v := .slice a0 len0 cap0) rfl h0
  obtain ⟨rfl, rfl, rfl⟩ : a0 = A0 ∧ len0 = l0.length ∧ cap0 = c0 := by simpa using e0
  clear hA0 hval0 hsz0 hsz
  obtain ⟨k, hp⟩ := Pure.FnTitlesBack l0 hw0
  refine (laws_FnTitlesBack.calls (k := k) (r := true) (w := W) (l0 := l0) (hr0 := hr0) (hc0 := hc0) (hgl := hglob) (h := hp)).mono ?_
  rintro e W' ⟨rfl, bel0⟩
  have bel : Below W.heap.size W W' := bel0
  exact ⟨_, rfl, _, _, _, [], _, [], hW', trodAll_mk1 (shut_bool Tryd.underlying4 _), (trodAll_cons_mk (Below.trod laidOut (by kernel_rfl) (of_decide_eq_true (by kernel_rfl)) k0 bel lt0) trodAll_mk0), rfl, bel.frame _, fun h => by cases h⟩
theorem over : Rows.fnTitlesBackRow.holds Tryd.pinned (OpenSpec.ofChange Rows.fnTitlesBackSpec) :=
  OpenClaim.holds_of_cond 5 Tryd.f5 rfl rfl rfl rfl rfl rfl rfl ⟨rfl, rfl, rfl, rfl, rfl⟩ rfl rfl rfl rfl rfl (by kernel_rfl) Tryd.func5 (by kernel_rfl)
    (of_decide_eq_true (by kernel_rfl)) (by unfold Func.isWrapper; first | (rw [if_pos (by decide +kernel)]; kernel_rfl) | (rw [if_neg (by decide +kernel)]; exact ⟨rfl, rfl⟩))
    (fun os started H enc _ F0 => by rw [OpenClaim.pre_eq_preRow]; exact lifted os started H enc F0)
theorem card : Rows.FnTitlesBackCardSaid :=
  Claim7.holds_tied_plain_at .later [] [.data, .data, .data] true (true, "863eb966ea530ea0c5a5d43ca9088f5d290f1eef95715f2290e94cb75e4f6914") false
    over (fun _ h => by cases h) (by kernel_rfl) (fun _ h => by cases h) fnTitlesBack_row_tie rfl ⟨rfl, rfl⟩ (by kernel_rfl) rfl
    (fun f fn hf hfn => by
      obtain rfl : f = 5 := Option.some.inj ((show Tryd.prog.funcNamed Rows.fnTitlesBackRow.func = some 5 by kernel_rfl).symm.trans hf) |>.symm
      obtain rfl : fn = Tryd.f5 := (Option.some.inj (Tryd.func5.symm.trans hfn)).symm
      exact ⟨by kernel_rfl, fun j t ht => by
        rw [Tryd.params5] at ht
        have h3 : t = 36 := by
          rcases j with _ | j
          · simpa using ht.symm
          · simp at ht
        subst h3
        exact (show Tryd.prog.wantsStandIn 36 = false by kernel_rfl)⟩)
    (by kernel_rfl)
#print axioms card
end Go.Proofs.YtidogkjhjmcliaaDoor.fnTitlesBack
namespace Go.Proofs.YtidogkjhjmcliaaDoor
theorem fnTitlesBack_holds : Rows.FnTitlesBackCardSaid := fnTitlesBack.card
end Go.Proofs.YtidogkjhjmcliaaDoor
