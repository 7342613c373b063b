-- Laid by myprint.py, a program of this repo, out of the kit's printer and this repo's own texts (wip/hand).
import Derived.Test.YtbdnpfjjaokdbaaHFnExactEncodex0
import Derived.Test.YtbdnpfjjaokdbaaHFnExactEncodex1
import Derived.Test.YtbdnpfjjaokdbaaHFnExactEncodex6
import Derived.Test.YtbdnpfjjaokdbaaHFnExactEncodex11
import Derived.Test.YtbdnpfjjaokdbaaHFnExactEncodex12
namespace Go.Proofs.Ytbdnpfjjaokdbaa.HFnExactEncode
open Go.RowKit Go.Proofs.YtbdnpfjjaokdbaaW.PrintWords Go.Proofs.YtbdnpfjjaokdbaaW.PrintLast Go.Proofs.YtbdnpfjjaokdbaaW.PrintMore
attribute [local go_sem] max2_int min2_int max_two min_two max_three min_three max_four min_four   -- for this text's walks alone
set_option linter.unusedVariables false
set_option linter.unusedSimpArgs false
theorem Na : type_of% @Aside0.mk := @Aside0.mk
theorem Nb : type_of% @blk_drew := @blk_drew
theorem Nc : type_of% @Kd.R_drew := @Kd.R_drew
theorem Nd : type_of% @below_set := @below_set
theorem Ne : type_of% @blk_alloc := @blk_alloc
theorem Nf : type_of% @blk_drewN := @blk_drewN
theorem Ng : type_of% @Kd.R_alloc := @Kd.R_alloc
theorem Nh : type_of% @Kd.R_drewN := @Kd.R_drewN
theorem Ni : type_of% @blk_cell := @blk_cell
theorem Nj : type_of% @pw_below_drewN := @pw_below_drewN
theorem Nk : type_of% @below_drew1 := @below_drew1
theorem Nl : type_of% @below_alloc := @below_alloc
theorem Nm : type_of% @Kd.C_drew := @Kd.C_drew
theorem Nn : type_of% @Kd.R_reads' := @Kd.R_reads'
theorem No : type_of% @blk_below := @blk_below
theorem Np : type_of% @Kd.R_mono := @Kd.R_mono
theorem Nq : type_of% @Kd.R_below := @Kd.R_below
theorem Nr : type_of% @Kd.R_far := @Kd.R_far
theorem Ns : type_of% @blk_frozen := @blk_frozen
theorem Nt : type_of% @Kd.C_alloc := @Kd.C_alloc
theorem Nu : type_of% @Kd.C_drewN := @Kd.C_drewN
theorem Nv : type_of% @below_size := @below_size
theorem Nw : type_of% @below_step := @below_step
theorem Nx : type_of% @Kd.R_slice := @Kd.R_slice
theorem Ny : type_of% @Kd.R_elder' := @Kd.R_elder'
theorem Nz : type_of% @gate_callee := @gate_callee

/-! ### laws_FnExactEncode: function 11 -/
mutual
def laws_FnExactEncode.j0 : Nat → Int → List Int → Bool → List Int → Bool → Bool → Int → Int → List Int → Int → Int → List Int → Int → Int → List Int → Int → Int → List Int → Option (Bool)
 | 0, _, _, _, _, _, _, _, _, _, _, _, _, _, _, _, _, _, _ => none
 | k + 1, x2, x8, x9, x12, x13, x57, x360000, x360001, x360002, x361000, x361001, x361002, x383000, x383001, x383002, x389000, x389001, x389002 => if x57 = true then (some false) else ((laws_toPicture.f k x360000 x360001 x360002).bind fun bt394 => ((laws_eqPicture.f k x383000 x383001 x383002 bt394.1 bt394.2.1 bt394.2.2).bind fun t399 => (if t399 = true then ((laws_toPicture.f k x361000 x361001 x361002).bind fun bt400 => ((laws_eqPicture.f k x389000 x389001 x389002 bt400.1 bt400.2.1 bt400.2.2).bind fun zs => (if zs = true then ((laws_markPicture.f k x383000 x383001 x383002 1).bind fun bt406 => ((laws_markPicture.f k x389000 x389001 x389002 bt406.1).bind fun bt408 => (if bt408.1 < 0 then (laws_FnExactEncode.j1 k x2 x8 x9 x12 true x360000 x360001 x360002 x361000 x361001 x361002) else ((laws_eqByteS.f k x12 x8).bind fun za => (if za = true then (laws_FnExactEncode.j1 k x2 x8 x9 x12 (x13 != x9) x360000 x360001 x360002 x361000 x361001 x361002) else (laws_FnExactEncode.j1 k x2 x8 x9 x12 true x360000 x360001 x360002 x361000 x361001 x361002)))))) else (some false)))) else (some false))))
def laws_FnExactEncode.j1 : Nat → Int → List Int → Bool → List Int → Bool → Int → Int → List Int → Int → Int → List Int → Option (Bool)
 | 0, _, _, _, _, _, _, _, _, _, _, _ => none
 | k + 1, x2, x8, x9, x12, x86, x360000, x360001, x360002, x361000, x361001, x361002 => if x86 = true then (some false) else ((laws_markByteS.f k x12 1).bind fun bt411 => ((laws_heldByteS.f k bt411.2 1).bind fun zi => (if zi < 0 then (some false) else (if zi = bt411.1 then ((laws_toPicture.f k x360000 x360001 x360002).bind fun bt414 => ((laws_toPicture.f k x361000 x361001 x361002).bind fun bt419 => ((impl_Encode.f k bt414.1 bt414.2.1 bt414.2.2 bt419.1 bt419.2.1 bt419.2.2 x2).bind fun bt424 => ((laws_eqByteS.f k bt424.1 x8).bind fun zo => (if zo = true then (laws_FnExactEncode.j2 k bt411.2 bt411.1 (bt424.2 != x9)) else (laws_FnExactEncode.j2 k bt411.2 bt411.1 true)))))) else (some false)))))
def laws_FnExactEncode.j2 : Nat → List Int → Int → Bool → Option (Bool)
 | 0, _, _, _ => none
 | k + 1, x12, x15, x115 => if x115 = true then (some false) else ((laws_heldByteS.f k x12 1).bind fun zn => (if zn < 0 then (some false) else (if zn = x15 then (some true) else (some false))))
end
def laws_FnExactEncode.f (k : Nat) (a0_0 : Int) (a0_1 : Int) (l0_2 : List Int) (a1_0 : Int) (a1_1 : Int) (l1_2 : List Int) (a2 : Int) : Option (Bool) := (laws_szPicture.f a0_0 a0_1 l0_2 1048576).bind fun zl => (if zl < 0 then (some true) else ((laws_szPicture.f a1_0 a1_1 l1_2 zl).bind fun zy => (if zy < 0 then (some true) else ((laws_toPicture.f k a0_0 a0_1 l0_2).bind fun bt363 => ((laws_toPicture.f k a1_0 a1_1 l1_2).bind fun bt368 => ((spec_Encode.f k bt363.1 bt363.2.1 bt363.2.2 bt368.1 bt368.2.1 bt368.2.2 a2).bind fun bt373 => ((laws_toPicture.f k a0_0 a0_1 l0_2).bind fun bt377 => ((laws_toPicture.f k a1_0 a1_1 l1_2).bind fun bt383 => ((impl_Encode.f k bt377.1 bt377.2.1 bt377.2.2 bt383.1 bt383.2.1 bt383.2.2 a2).bind fun bt389 => ((laws_eqByteS.f k bt389.1 bt373.1).bind fun yz => (if yz = true then (laws_FnExactEncode.j0 k a2 bt373.1 bt373.2 bt389.1 bt389.2 (bt389.2 != bt373.2) a0_0 a0_1 l0_2 a1_0 a1_1 l1_2 bt377.1 bt377.2.1 bt377.2.2 bt383.1 bt383.2.1 bt383.2.2) else (laws_FnExactEncode.j0 k a2 bt373.1 bt373.2 bt389.1 bt389.2 true a0_0 a0_1 l0_2 a1_0 a1_1 l1_2 bt377.1 bt377.2.1 bt377.2.2 bt383.1 bt383.2.1 bt383.2.2))))))))))))
theorem laws_FnExactEncode.mono_l : ∀ k, (∀ y0 y1 y2 y3 y4 y5 y6 y7 y8 y9 y10 y11 y12 y13 y14 y15 y16 y17, LeO (laws_FnExactEncode.j0 k y0 y1 y2 y3 y4 y5 y6 y7 y8 y9 y10 y11 y12 y13 y14 y15 y16 y17) (laws_FnExactEncode.j0 (k + 1) y0 y1 y2 y3 y4 y5 y6 y7 y8 y9 y10 y11 y12 y13 y14 y15 y16 y17)) ∧ (∀ y0 y1 y2 y3 y4 y5 y6 y7 y8 y9 y10, LeO (laws_FnExactEncode.j1 k y0 y1 y2 y3 y4 y5 y6 y7 y8 y9 y10) (laws_FnExactEncode.j1 (k + 1) y0 y1 y2 y3 y4 y5 y6 y7 y8 y9 y10)) ∧ (∀ y0 y1 y2, LeO (laws_FnExactEncode.j2 k y0 y1 y2) (laws_FnExactEncode.j2 (k + 1) y0 y1 y2))
 | 0 => ⟨fun _ _ _ _ _ _ _ _ _ _ _ _ _ _ _ _ _ _ r h => by simp [laws_FnExactEncode.j0] at h, fun _ _ _ _ _ _ _ _ _ _ _ r h => by simp [laws_FnExactEncode.j1] at h, fun _ _ _ r h => by simp [laws_FnExactEncode.j2] at h⟩
 | k + 1 => by
  obtain⟨ih0,ih1,ih2⟩:=laws_FnExactEncode.mono_l k
  refine⟨?_,?_,?_⟩
  ·intro y0 y1 y2 y3 y4 y5 y6 y7 y8 y9 y10 y11 y12 y13 y14 y15 y16 y17
   unfold laws_FnExactEncode.j0
   repeat' first
   | (with_reducible exact ih0 _ _ _ _ _ _ _ _ _ _ _ _ _ _ _ _ _ _)
   | (with_reducible exact ih1 _ _ _ _ _ _ _ _ _ _ _)
   | (with_reducible exact ih2 _ _ _)
   | (with_reducible exact impl_Encode.mono _ _ _ _ _ _ _ _)
   | (with_reducible exact laws_eqByteS.mono _ _ _)
   | (with_reducible exact laws_eqPicture.mono _ _ _ _ _ _ _)
   | (with_reducible exact laws_heldByteS.mono _ _ _)
   | (with_reducible exact laws_markByteS.mono _ _ _)
   | (with_reducible exact laws_markPicture.mono _ _ _ _ _)
   | (with_reducible exact laws_toPicture.mono _ _ _ _)
   | (with_reducible exact spec_Encode.mono _ _ _ _ _ _ _ _)
   | (with_reducible exact LeO.refl _)
   | (with_reducible exact LeO.none _)
   | (with_reducible refine LeO.ite ?_ ?_)
   | (with_reducible refine LeO.bind ?_ (fun _ => ?_))
   | exact ih0 _ _ _ _ _ _ _ _ _ _ _ _ _ _ _ _ _ _
   | exact ih1 _ _ _ _ _ _ _ _ _ _ _
   | exact ih2 _ _ _
   | exact impl_Encode.mono _ _ _ _ _ _ _ _
   | exact laws_eqByteS.mono _ _ _
   | exact laws_eqPicture.mono _ _ _ _ _ _ _
   | exact laws_heldByteS.mono _ _ _
   | exact laws_markByteS.mono _ _ _
   | exact laws_markPicture.mono _ _ _ _ _
   | exact laws_toPicture.mono _ _ _ _
   | exact spec_Encode.mono _ _ _ _ _ _ _ _
   | exact LeO.none _
   | refine LeO.ite ?_ ?_
   | refine LeO.bind ?_ (fun _ => ?_)
  ·intro y0 y1 y2 y3 y4 y5 y6 y7 y8 y9 y10
   unfold laws_FnExactEncode.j1
   repeat' first
   | (with_reducible exact ih0 _ _ _ _ _ _ _ _ _ _ _ _ _ _ _ _ _ _)
   | (with_reducible exact ih1 _ _ _ _ _ _ _ _ _ _ _)
   | (with_reducible exact ih2 _ _ _)
   | (with_reducible exact impl_Encode.mono _ _ _ _ _ _ _ _)
   | (with_reducible exact laws_eqByteS.mono _ _ _)
   | (with_reducible exact laws_eqPicture.mono _ _ _ _ _ _ _)
   | (with_reducible exact laws_heldByteS.mono _ _ _)
   | (with_reducible exact laws_markByteS.mono _ _ _)
   | (with_reducible exact laws_markPicture.mono _ _ _ _ _)
   | (with_reducible exact laws_toPicture.mono _ _ _ _)
   | (with_reducible exact spec_Encode.mono _ _ _ _ _ _ _ _)
   | (with_reducible exact LeO.refl _)
   | (with_reducible exact LeO.none _)
   | (with_reducible refine LeO.ite ?_ ?_)
   | (with_reducible refine LeO.bind ?_ (fun _ => ?_))
   | exact ih0 _ _ _ _ _ _ _ _ _ _ _ _ _ _ _ _ _ _
   | exact ih1 _ _ _ _ _ _ _ _ _ _ _
   | exact ih2 _ _ _
   | exact impl_Encode.mono _ _ _ _ _ _ _ _
   | exact laws_eqByteS.mono _ _ _
   | exact laws_eqPicture.mono _ _ _ _ _ _ _
   | exact laws_heldByteS.mono _ _ _
   | exact laws_markByteS.mono _ _ _
   | exact laws_markPicture.mono _ _ _ _ _
   | exact laws_toPicture.mono _ _ _ _
   | exact spec_Encode.mono _ _ _ _ _ _ _ _
   | exact LeO.none _
   | refine LeO.ite ?_ ?_
   | refine LeO.bind ?_ (fun _ => ?_)
  ·intro y0 y1 y2
   unfold laws_FnExactEncode.j2
   repeat' first
   | (with_reducible exact ih0 _ _ _ _ _ _ _ _ _ _ _ _ _ _ _ _ _ _)
   | (with_reducible exact ih1 _ _ _ _ _ _ _ _ _ _ _)
   | (with_reducible exact ih2 _ _ _)
   | (with_reducible exact impl_Encode.mono _ _ _ _ _ _ _ _)
   | (with_reducible exact laws_eqByteS.mono _ _ _)
   | (with_reducible exact laws_eqPicture.mono _ _ _ _ _ _ _)
   | (with_reducible exact laws_heldByteS.mono _ _ _)
   | (with_reducible exact laws_markByteS.mono _ _ _)
   | (with_reducible exact laws_markPicture.mono _ _ _ _ _)
   | (with_reducible exact laws_toPicture.mono _ _ _ _)
   | (with_reducible exact spec_Encode.mono _ _ _ _ _ _ _ _)
   | (with_reducible exact LeO.refl _)
   | (with_reducible exact LeO.none _)
   | (with_reducible refine LeO.ite ?_ ?_)
   | (with_reducible refine LeO.bind ?_ (fun _ => ?_))
   | exact ih0 _ _ _ _ _ _ _ _ _ _ _ _ _ _ _ _ _ _
   | exact ih1 _ _ _ _ _ _ _ _ _ _ _
   | exact ih2 _ _ _
   | exact impl_Encode.mono _ _ _ _ _ _ _ _
   | exact laws_eqByteS.mono _ _ _
   | exact laws_eqPicture.mono _ _ _ _ _ _ _
   | exact laws_heldByteS.mono _ _ _
   | exact laws_markByteS.mono _ _ _
   | exact laws_markPicture.mono _ _ _ _ _
   | exact laws_toPicture.mono _ _ _ _
   | exact spec_Encode.mono _ _ _ _ _ _ _ _
   | exact LeO.none _
   | refine LeO.ite ?_ ?_
   | refine LeO.bind ?_ (fun _ => ?_)
theorem laws_FnExactEncode.mono : ∀ a0 a1 a2 a3 a4 a5 a6 k, LeO (laws_FnExactEncode.f k a0 a1 a2 a3 a4 a5 a6) (laws_FnExactEncode.f (k + 1) a0 a1 a2 a3 a4 a5 a6) := by
 intro a0 a1 a2 a3 a4 a5 a6 k
 obtain⟨ih0,ih1,ih2⟩:=laws_FnExactEncode.mono_l k
 unfold laws_FnExactEncode.f
 repeat' first
   | (with_reducible exact ih0 _ _ _ _ _ _ _ _ _ _ _ _ _ _ _ _ _ _)
   | (with_reducible exact ih1 _ _ _ _ _ _ _ _ _ _ _)
   | (with_reducible exact ih2 _ _ _)
   | (with_reducible exact impl_Encode.mono _ _ _ _ _ _ _ _)
   | (with_reducible exact laws_eqByteS.mono _ _ _)
   | (with_reducible exact laws_eqPicture.mono _ _ _ _ _ _ _)
   | (with_reducible exact laws_heldByteS.mono _ _ _)
   | (with_reducible exact laws_markByteS.mono _ _ _)
   | (with_reducible exact laws_markPicture.mono _ _ _ _ _)
   | (with_reducible exact laws_toPicture.mono _ _ _ _)
   | (with_reducible exact spec_Encode.mono _ _ _ _ _ _ _ _)
   | (with_reducible exact LeO.refl _)
   | (with_reducible exact LeO.none _)
   | (with_reducible refine LeO.ite ?_ ?_)
   | (with_reducible refine LeO.bind ?_ (fun _ => ?_))
   | exact ih0 _ _ _ _ _ _ _ _ _ _ _ _ _ _ _ _ _ _
   | exact ih1 _ _ _ _ _ _ _ _ _ _ _
   | exact ih2 _ _ _
   | exact impl_Encode.mono _ _ _ _ _ _ _ _
   | exact laws_eqByteS.mono _ _ _
   | exact laws_eqPicture.mono _ _ _ _ _ _ _
   | exact laws_heldByteS.mono _ _ _
   | exact laws_markByteS.mono _ _ _
   | exact laws_markPicture.mono _ _ _ _ _
   | exact laws_toPicture.mono _ _ _ _
   | exact spec_Encode.mono _ _ _ _ _ _ _ _
   | exact LeO.none _
   | refine LeO.ite ?_ ?_
   | refine LeO.bind ?_ (fun _ => ?_)
def laws_FnExactEncode.T8 : Bool × List (List Nat × List Nat) := (true, [([], []), ([0], [0]), ([], []), ([2, 1], [2]), ([], []), ([1, 3, 4, 3], [1, 3, 4]), ([5], [5]), ([6], [6]), ([6], [6]), ([7, 5, 0, 1, 2, 3, 4, 5, 6, 7], [7]), ([8, 9, 0, 1, 2, 3, 4, 5, 6, 7, 8, 9], [8])])
def laws_FnExactEncode.B8 : List Nat := [0, 1, 0, 7, 0, 31, 63, 127, 127, 255, 1023]
theorem laws_FnExactEncode.tab8 : rtab .any (opsOf Try.f11 8) = laws_FnExactEncode.T8 := by kernel_rfl
theorem laws_FnExactEncode.bits8 : waitsOk laws_FnExactEncode.T8.2 laws_FnExactEncode.B8 = true := by kernel_rfl
def laws_FnExactEncode.T31 : Bool × List (List Nat × List Nat) := (true, [([], []), ([0], [0]), ([], []), ([2, 1], [2]), ([], []), ([1, 3, 4, 3], [1, 3, 4]), ([5], [5]), ([6], [6]), ([6], [6]), ([7, 5, 0, 1, 2, 3, 4, 5, 6, 7], [7]), ([8, 9, 0, 1, 2, 3, 4, 5, 6, 7, 8, 9], [8])])
def laws_FnExactEncode.B31 : List Nat := [0, 1, 0, 7, 0, 31, 63, 127, 127, 255, 1023]
theorem laws_FnExactEncode.tab31 : rtab .any (opsOf Try.f11 31) = laws_FnExactEncode.T31 := by kernel_rfl
theorem laws_FnExactEncode.bits31 : waitsOk laws_FnExactEncode.T31.2 laws_FnExactEncode.B31 = true := by kernel_rfl
set_option maxHeartbeats 8000000 in
set_option maxRecDepth 100000 in
theorem laws_FnExactEncode.calls (k : Nat) (a0_0 : Int) (a0_1 : Int) (A0_2 : Option Addr) (c0_2 : Nat) (l0_2 : List Int) (a1_0 : Int) (a1_1 : Int) (A1_2 : Option Addr) (c1_2 : Nat) (l1_2 : List Int) (a2 : Int) (r : Bool) (w : World) (hr0_2 : Kd.C (Kd.int .i64) w A0_2 l0_2.length l0_2) (hc0_2 : l0_2.length ≤ c0_2) (hr1_2 : Kd.C (Kd.int .i64) w A1_2 l1_2.length l1_2) (hc1_2 : l1_2.length ≤ c1_2) (h : laws_FnExactEncode.f k a0_0 a0_1 l0_2 a1_0 a1_1 l1_2 a2 = some true) :
  Calls Try.prog 11 #[.agg #[.int .i64 a0_0,.int .i64 a0_1,.slice A0_2 l0_2.length c0_2],.agg #[.int .i64 a1_0,.int .i64 a1_1,.slice A1_2 l1_2.length c1_2],.int .i64 a2] w fun e w'=>e=.returned (.bool true)∧Below w.heap.size w w':=by
 have hu24:=Try.underlying24
 have hu27:=Try.underlying27
 have va:=Na hr0_2
 have zz:=Na hc0_2
 clear hr0_2 hc0_2
 have vf:=Na hr1_2
 have vc:=Na hc1_2
 clear hr1_2 hc1_2
 have HB:=Na (Below.refl w.heap.size w)
 have H:((laws_szPicture.f a0_0 a0_1 l0_2 1048576).bind fun zl=>(if zl < 0 then (some true) else ((laws_szPicture.f a1_0 a1_1 l1_2 zl).bind fun zy=>(if zy < 0 then (some true) else ((laws_toPicture.f k a0_0 a0_1 l0_2).bind fun bt363=>((laws_toPicture.f k a1_0 a1_1 l1_2).bind fun bt368=>((spec_Encode.f k bt363.1 bt363.2.1 bt363.2.2 bt368.1 bt368.2.1 bt368.2.2 a2).bind fun bt373=>((laws_toPicture.f k a0_0 a0_1 l0_2).bind fun bt377=>((laws_toPicture.f k a1_0 a1_1 l1_2).bind fun bt383=>((impl_Encode.f k bt377.1 bt377.2.1 bt377.2.2 bt383.1 bt383.2.1 bt383.2.2 a2).bind fun bt389=>((laws_eqByteS.f k bt389.1 bt373.1).bind fun yz=>(if yz=true then (laws_FnExactEncode.j0 k a2 bt373.1 bt373.2 bt389.1 bt389.2 (bt389.2 != bt373.2) a0_0 a0_1 l0_2 a1_0 a1_1 l1_2 bt377.1 bt377.2.1 bt377.2.2 bt383.1 bt383.2.1 bt383.2.2) else (laws_FnExactEncode.j0 k a2 bt373.1 bt373.2 bt389.1 bt389.2 true a0_0 a0_1 l0_2 a1_0 a1_1 l1_2 bt377.1 bt377.2.1 bt377.2.2 bt383.1 bt383.2.1 bt383.2.2)))))))))))))=some true:=h
 clear h
 replace H:=Option.bind_eq_some_iff.mp H
 obtain⟨zl,A40,H⟩:=H
 replace H:(if zl < 0 then (some true) else ((laws_szPicture.f a1_0 a1_1 l1_2 zl).bind fun zy=>(if zy < 0 then (some true) else ((laws_toPicture.f k a0_0 a0_1 l0_2).bind fun bt363=>((laws_toPicture.f k a1_0 a1_1 l1_2).bind fun bt368=>((spec_Encode.f k bt363.1 bt363.2.1 bt363.2.2 bt368.1 bt368.2.1 bt368.2.2 a2).bind fun bt373=>((laws_toPicture.f k a0_0 a0_1 l0_2).bind fun bt377=>((laws_toPicture.f k a1_0 a1_1 l1_2).bind fun bt383=>((impl_Encode.f k bt377.1 bt377.2.1 bt377.2.2 bt383.1 bt383.2.1 bt383.2.2 a2).bind fun bt389=>((laws_eqByteS.f k bt389.1 bt373.1).bind fun yz=>(if yz=true then (laws_FnExactEncode.j0 k a2 bt373.1 bt373.2 bt389.1 bt389.2 (bt389.2 != bt373.2) a0_0 a0_1 l0_2 a1_0 a1_1 l1_2 bt377.1 bt377.2.1 bt377.2.2 bt383.1 bt383.2.1 bt383.2.2) else (laws_FnExactEncode.j0 k a2 bt373.1 bt373.2 bt389.1 bt389.2 true a0_0 a0_1 l0_2 a1_0 a1_1 l1_2 bt377.1 bt377.2.1 bt377.2.2 bt383.1 bt383.2.1 bt383.2.2))))))))))))=some true:=H
 have A4:=Na A40
 clear A40
 by_cases c5:zl < 0
 ·rw [if_pos c5] at H
  have c5b0:decide (zl < 0)=true:=decide_eq_true c5
  clear c5
  clear H
  go_enter Try.func11,Try.ntmps11
  go_wp2_with (first|((with_reducible refine gate_dst (N:=3) rfl ?_);refine box_event ?hg (N:=3) ?hd (cs:=#[.int .i64 a0_0,.int .i64 a0_1,.slice A0_2 l0_2.length c0_2]) (t:=24) ?hr ?_;(case hd=>rfl);(case hg=>rfl);(case hr=>first|(go_simp;done)|(go_simp;rfl));intro qh hg w6 hbox hb;have qz:=Na (Nw (by repeat(first|(with_reducible first|exact HB.out|apply Nl|apply Nj|apply Nk)|exact HB.out)) hb);have ya:=Na (hbox);have yb:=Na ((by rw [hg];exact(Nv (by repeat(first|(with_reducible first|exact HB.out|apply Nl|apply Nj|apply Nk)|exact HB.out))):w.heap.size≤qh));have yi:=Na ((by rw [hg];exact(Nv (by repeat(first|(with_reducible first|exact HB.out|apply Nl|apply Nj|apply Nk)|exact HB.out))):w.heap.size≤qh));clear HB;have HB:=qz;have qa:=ya;have GW359:=yb;have ql:=yi;clear qz ya yb yi;clear hb hbox hg)|((with_reducible refine gate_dst (N:=4) rfl ?_);refine box_event ?hg (N:=4) ?hd (cs:=#[.int .i64 a1_0,.int .i64 a1_1,.slice A1_2 l1_2.length c1_2]) (t:=24) ?hr ?_;(case hd=>rfl);(case hg=>rfl);(case hr=>first|(go_simp;done)|(go_simp;rfl));intro qk hg w7 hbox hb;have qz:=Na (No (g:=qh) (o:=.cells #[.int .i64 a0_0,.int .i64 a0_1,.slice A0_2 l0_2.length c0_2] 24 (0,0)) (by(with_reducible repeat(first|refine Nf ?_ _|refine Nb ?_|refine Ne ?_ _));exact qa.out) hb);have ya:=Na (Nw (by repeat(first|(with_reducible first|exact HB.out|apply Nl|apply Nj|apply Nk|refine Nd ?_ ql.out)|exact HB.out)) hb);have yb:=Na (hbox);have yi:=Na ((by rw [hg];exact(Nv (by repeat(first|(with_reducible first|exact HB.out|apply Nl|apply Nj|apply Nk|refine Nd ?_ ql.out)|exact HB.out))):w.heap.size≤qk));have yn:=Na ((by rw [hg];exact(Nv (by repeat(first|(with_reducible first|exact HB.out|apply Nl|apply Nj|apply Nk|refine Nd ?_ ql.out)|exact HB.out))):w.heap.size≤qk));have yo:=Na ((by rw [hg];exact Nat.ne_of_lt (blk_lt (g:=qh) (o:=.cells #[.int .i64 a0_0,.int .i64 a0_1,.slice A0_2 l0_2.length c0_2] 24 (0,0)) (by(with_reducible repeat(first|refine Nf ?_ _|refine Nb ?_|refine Ne ?_ _));exact qa.out)):qh≠qk));have yp:=Na ((by rw [hg];exact Nat.ne_of_gt (blk_lt (g:=qh) (o:=.cells #[.int .i64 a0_0,.int .i64 a0_1,.slice A0_2 l0_2.length c0_2] 24 (0,0)) (by(with_reducible repeat(first|refine Nf ?_ _|refine Nb ?_|refine Ne ?_ _));exact qa.out)):qk≠qh));clear qa;clear HB;have qa:=qz;have HB:=ya;have qd:=yb;have GW360:=yi;have qo:=yn;have zb:=yo;have ze:=yp;clear qz ya yb yi yn yo yp;clear hb hbox hg;have hnb8:=zb.out;have hnc8:=ze.out;have hcz9_0:w7.cell? ⟨qh,0,none⟩=some (.int .i64 a0_0):=(Ni qa.out 0).trans rfl;have hcz9_1:w7.cell? ⟨qh,1,none⟩=some (.int .i64 a0_1):=(Ni qa.out 1).trans rfl;have hcz9_2:w7.cell? ⟨qh,2,none⟩=some (.slice A0_2 l0_2.length c0_2):=(Ni qa.out 2).trans rfl;have hfz9_0:=Ns qa.out 0;have hfz9_1:=Ns qa.out 1;have hfz9_2:=Ns qa.out 2)|((with_reducible refine Nz (f:=14) rfl ?_);refine goesL_ (some 21) rfl rfl Try.func14 (by kernel_rfl) rfl #[.agg #[.int .i64 a0_0,.int .i64 a0_1,.slice A0_2 l0_2.length c0_2],.int .i64 1048576] rfl (by(try simp only [List.map_toArray,List.map_cons,List.map_nil]);first|done|rfl|(simp only [List.length_drop,List.length_take];rfl)) ?_;(with_reducible refine(laws_szPicture.calls a0_0 a0_1 _ _ l0_2 1048576 zl _ ?side1 ?side2 A4.out).mono ?_);(case side1=>repeat(first|exact(Kd.C_below va.out HB.out)|(with_reducible refine Nt ?_ _)|(with_reducible refine Nu ?_ _)|(with_reducible refine Nm ?_)));(case side2=>exact zz.out);rintro e w10 ⟨rfl,hb⟩;refine⟨_,rfl,?_⟩;have qz:=Na (No (g:=qh) (o:=.cells #[.int .i64 a0_0,.int .i64 a0_1,.slice A0_2 l0_2.length c0_2] 24 (0,0)) (by(with_reducible repeat(first|refine Nf ?_ _|refine Nb ?_|refine Ne ?_ _));exact qa.out) hb);have ya:=Na (No (g:=qk) (o:=.cells #[.int .i64 a1_0,.int .i64 a1_1,.slice A1_2 l1_2.length c1_2] 24 (0,0)) (by(with_reducible repeat(first|refine Nf ?_ _|refine Nb ?_|refine Ne ?_ _));exact qd.out) hb);have yb:=Na (Nw (by repeat(first|(with_reducible first|exact HB.out|apply Nl|apply Nj|apply Nk|refine Nd ?_ ql.out|refine Nd ?_ qo.out)|exact HB.out)) hb);clear qa;clear qd;clear HB;have qa:=qz;have qd:=ya;have HB:=yb;clear qz ya yb;(try clear hb);(try clear hb2);(try clear hk);(try clear hi)))
  go_ret
  exact⟨by first|rfl|(simp [errW_none,errW_some] <;> rfl)|(simp [*,errW_none,errW_some] <;> rfl),by repeat(first|(with_reducible first|exact HB.out|apply Nl|apply Nj|apply Nk|refine Nd ?_ ql.out|refine Nd ?_ qo.out)|exact HB.out)⟩
 ·rw [if_neg c5] at H
  have c5b0:decide (zl < 0)=false:=decide_eq_false c5
  clear c5
  replace H:=Option.bind_eq_some_iff.mp H
  obtain⟨zy,A110,H⟩:=H
  replace H:(if zy < 0 then (some true) else ((laws_toPicture.f k a0_0 a0_1 l0_2).bind fun bt363=>((laws_toPicture.f k a1_0 a1_1 l1_2).bind fun bt368=>((spec_Encode.f k bt363.1 bt363.2.1 bt363.2.2 bt368.1 bt368.2.1 bt368.2.2 a2).bind fun bt373=>((laws_toPicture.f k a0_0 a0_1 l0_2).bind fun bt377=>((laws_toPicture.f k a1_0 a1_1 l1_2).bind fun bt383=>((impl_Encode.f k bt377.1 bt377.2.1 bt377.2.2 bt383.1 bt383.2.1 bt383.2.2 a2).bind fun bt389=>((laws_eqByteS.f k bt389.1 bt373.1).bind fun yz=>(if yz=true then (laws_FnExactEncode.j0 k a2 bt373.1 bt373.2 bt389.1 bt389.2 (bt389.2 != bt373.2) a0_0 a0_1 l0_2 a1_0 a1_1 l1_2 bt377.1 bt377.2.1 bt377.2.2 bt383.1 bt383.2.1 bt383.2.2) else (laws_FnExactEncode.j0 k a2 bt373.1 bt373.2 bt389.1 bt389.2 true a0_0 a0_1 l0_2 a1_0 a1_1 l1_2 bt377.1 bt377.2.1 bt377.2.2 bt383.1 bt383.2.1 bt383.2.2))))))))))=some true:=H
  have A11:=Na A110
  clear A110
  by_cases c12:zy < 0
  ·rw [if_pos c12] at H
   have c12b0:decide (zy < 0)=true:=decide_eq_true c12
   clear c12
   clear H
   go_enter Try.func11,Try.ntmps11
   go_wp2_with (first|((with_reducible refine gate_dst (N:=3) rfl ?_);refine box_event ?hg (N:=3) ?hd (cs:=#[.int .i64 a0_0,.int .i64 a0_1,.slice A0_2 l0_2.length c0_2]) (t:=24) ?hr ?_;(case hd=>rfl);(case hg=>rfl);(case hr=>first|(go_simp;done)|(go_simp;rfl));intro qh hg w13 hbox hb;have qz:=Na (Nw (by repeat(first|(with_reducible first|exact HB.out|apply Nl|apply Nj|apply Nk)|exact HB.out)) hb);have ya:=Na (hbox);have yb:=Na ((by rw [hg];exact(Nv (by repeat(first|(with_reducible first|exact HB.out|apply Nl|apply Nj|apply Nk)|exact HB.out))):w.heap.size≤qh));have yi:=Na ((by rw [hg];exact(Nv (by repeat(first|(with_reducible first|exact HB.out|apply Nl|apply Nj|apply Nk)|exact HB.out))):w.heap.size≤qh));clear HB;have HB:=qz;have qa:=ya;have GW359:=yb;have ql:=yi;clear qz ya yb yi;clear hb hbox hg)|((with_reducible refine gate_dst (N:=4) rfl ?_);refine box_event ?hg (N:=4) ?hd (cs:=#[.int .i64 a1_0,.int .i64 a1_1,.slice A1_2 l1_2.length c1_2]) (t:=24) ?hr ?_;(case hd=>rfl);(case hg=>rfl);(case hr=>first|(go_simp;done)|(go_simp;rfl));intro qk hg w14 hbox hb;have qz:=Na (No (g:=qh) (o:=.cells #[.int .i64 a0_0,.int .i64 a0_1,.slice A0_2 l0_2.length c0_2] 24 (0,0)) (by(with_reducible repeat(first|refine Nf ?_ _|refine Nb ?_|refine Ne ?_ _));exact qa.out) hb);have ya:=Na (Nw (by repeat(first|(with_reducible first|exact HB.out|apply Nl|apply Nj|apply Nk|refine Nd ?_ ql.out)|exact HB.out)) hb);have yb:=Na (hbox);have yi:=Na ((by rw [hg];exact(Nv (by repeat(first|(with_reducible first|exact HB.out|apply Nl|apply Nj|apply Nk|refine Nd ?_ ql.out)|exact HB.out))):w.heap.size≤qk));have yn:=Na ((by rw [hg];exact(Nv (by repeat(first|(with_reducible first|exact HB.out|apply Nl|apply Nj|apply Nk|refine Nd ?_ ql.out)|exact HB.out))):w.heap.size≤qk));have yo:=Na ((by rw [hg];exact Nat.ne_of_lt (blk_lt (g:=qh) (o:=.cells #[.int .i64 a0_0,.int .i64 a0_1,.slice A0_2 l0_2.length c0_2] 24 (0,0)) (by(with_reducible repeat(first|refine Nf ?_ _|refine Nb ?_|refine Ne ?_ _));exact qa.out)):qh≠qk));have yp:=Na ((by rw [hg];exact Nat.ne_of_gt (blk_lt (g:=qh) (o:=.cells #[.int .i64 a0_0,.int .i64 a0_1,.slice A0_2 l0_2.length c0_2] 24 (0,0)) (by(with_reducible repeat(first|refine Nf ?_ _|refine Nb ?_|refine Ne ?_ _));exact qa.out)):qk≠qh));clear qa;clear HB;have qa:=qz;have HB:=ya;have qd:=yb;have GW360:=yi;have qo:=yn;have zb:=yo;have ze:=yp;clear qz ya yb yi yn yo yp;clear hb hbox hg;have hnb15:=zb.out;have hnc15:=ze.out;have hcz16_0:w14.cell? ⟨qh,0,none⟩=some (.int .i64 a0_0):=(Ni qa.out 0).trans rfl;have hcz16_1:w14.cell? ⟨qh,1,none⟩=some (.int .i64 a0_1):=(Ni qa.out 1).trans rfl;have hcz16_2:w14.cell? ⟨qh,2,none⟩=some (.slice A0_2 l0_2.length c0_2):=(Ni qa.out 2).trans rfl;have hfz16_0:=Ns qa.out 0;have hfz16_1:=Ns qa.out 1;have hfz16_2:=Ns qa.out 2)|((with_reducible refine Nz (f:=14) rfl ?_);refine goesL_ (some 21) rfl rfl Try.func14 (by kernel_rfl) rfl #[.agg #[.int .i64 a0_0,.int .i64 a0_1,.slice A0_2 l0_2.length c0_2],.int .i64 1048576] rfl (by(try simp only [List.map_toArray,List.map_cons,List.map_nil]);first|done|rfl|(simp only [List.length_drop,List.length_take];rfl)) ?_;(with_reducible refine(laws_szPicture.calls a0_0 a0_1 _ _ l0_2 1048576 zl _ ?side1 ?side2 A4.out).mono ?_);(case side1=>repeat(first|exact(Kd.C_below va.out HB.out)|(with_reducible refine Nt ?_ _)|(with_reducible refine Nu ?_ _)|(with_reducible refine Nm ?_)));(case side2=>exact zz.out);rintro e w17 ⟨rfl,hb⟩;refine⟨_,rfl,?_⟩;have qz:=Na (No (g:=qh) (o:=.cells #[.int .i64 a0_0,.int .i64 a0_1,.slice A0_2 l0_2.length c0_2] 24 (0,0)) (by(with_reducible repeat(first|refine Nf ?_ _|refine Nb ?_|refine Ne ?_ _));exact qa.out) hb);have ya:=Na (No (g:=qk) (o:=.cells #[.int .i64 a1_0,.int .i64 a1_1,.slice A1_2 l1_2.length c1_2] 24 (0,0)) (by(with_reducible repeat(first|refine Nf ?_ _|refine Nb ?_|refine Ne ?_ _));exact qd.out) hb);have yb:=Na (Nw (by repeat(first|(with_reducible first|exact HB.out|apply Nl|apply Nj|apply Nk|refine Nd ?_ ql.out|refine Nd ?_ qo.out)|exact HB.out)) hb);clear qa;clear qd;clear HB;have qa:=qz;have qd:=ya;have HB:=yb;clear qz ya yb;(try clear hb);(try clear hb2);(try clear hk);(try clear hi);have hcz18_0:w17.cell? ⟨qk,0,none⟩=some (.int .i64 a1_0):=(Ni qd.out 0).trans rfl;have hcz18_1:w17.cell? ⟨qk,1,none⟩=some (.int .i64 a1_1):=(Ni qd.out 1).trans rfl;have hcz18_2:w17.cell? ⟨qk,2,none⟩=some (.slice A1_2 l1_2.length c1_2):=(Ni qd.out 2).trans rfl;have hfz18_0:=Ns qd.out 0;have hfz18_1:=Ns qd.out 1;have hfz18_2:=Ns qd.out 2)|((with_reducible refine Nz (f:=14) rfl ?_);refine goesL_ (some 26) rfl rfl Try.func14 (by kernel_rfl) rfl #[.agg #[.int .i64 a1_0,.int .i64 a1_1,.slice A1_2 l1_2.length c1_2],.int .i64 zl] rfl (by(try simp only [List.map_toArray,List.map_cons,List.map_nil]);first|done|rfl|(simp only [List.length_drop,List.length_take];rfl)) ?_;(with_reducible refine(laws_szPicture.calls a1_0 a1_1 _ _ l1_2 zl zy _ ?side1 ?side2 A11.out).mono ?_);(case side1=>repeat(first|exact(Kd.C_below vf.out HB.out)|(with_reducible refine Nt ?_ _)|(with_reducible refine Nu ?_ _)|(with_reducible refine Nm ?_)));(case side2=>exact vc.out);rintro e w19 ⟨rfl,hb⟩;refine⟨_,rfl,?_⟩;have qz:=Na (No (g:=qh) (o:=.cells #[.int .i64 a0_0,.int .i64 a0_1,.slice A0_2 l0_2.length c0_2] 24 (0,0)) (by(with_reducible repeat(first|refine Nf ?_ _|refine Nb ?_|refine Ne ?_ _));exact qa.out) hb);have ya:=Na (No (g:=qk) (o:=.cells #[.int .i64 a1_0,.int .i64 a1_1,.slice A1_2 l1_2.length c1_2] 24 (0,0)) (by(with_reducible repeat(first|refine Nf ?_ _|refine Nb ?_|refine Ne ?_ _));exact qd.out) hb);have yb:=Na (Nw (by repeat(first|(with_reducible first|exact HB.out|apply Nl|apply Nj|apply Nk|refine Nd ?_ ql.out|refine Nd ?_ qo.out)|exact HB.out)) hb);clear qa;clear qd;clear HB;have qa:=qz;have qd:=ya;have HB:=yb;clear qz ya yb;(try clear hb);(try clear hb2);(try clear hk);(try clear hi)))
   go_ret
   exact⟨by first|rfl|(simp [errW_none,errW_some] <;> rfl)|(simp [*,errW_none,errW_some] <;> rfl),by repeat(first|(with_reducible first|exact HB.out|apply Nl|apply Nj|apply Nk|refine Nd ?_ ql.out|refine Nd ?_ qo.out)|exact HB.out)⟩
  ·rw [if_neg c12] at H
   have c12b0:decide (zy < 0)=false:=decide_eq_false c12
   clear c12
   replace H:=Option.bind_eq_some_iff.mp H
   obtain⟨⟨t363,t364,t365⟩,A200,H⟩:=H
   replace H:((laws_toPicture.f k a1_0 a1_1 l1_2).bind fun bt368=>((spec_Encode.f k t363 t364 t365 bt368.1 bt368.2.1 bt368.2.2 a2).bind fun bt373=>((laws_toPicture.f k a0_0 a0_1 l0_2).bind fun bt377=>((laws_toPicture.f k a1_0 a1_1 l1_2).bind fun bt383=>((impl_Encode.f k bt377.1 bt377.2.1 bt377.2.2 bt383.1 bt383.2.1 bt383.2.2 a2).bind fun bt389=>((laws_eqByteS.f k bt389.1 bt373.1).bind fun yz=>(if yz=true then (laws_FnExactEncode.j0 k a2 bt373.1 bt373.2 bt389.1 bt389.2 (bt389.2 != bt373.2) a0_0 a0_1 l0_2 a1_0 a1_1 l1_2 bt377.1 bt377.2.1 bt377.2.2 bt383.1 bt383.2.1 bt383.2.2) else (laws_FnExactEncode.j0 k a2 bt373.1 bt373.2 bt389.1 bt389.2 true a0_0 a0_1 l0_2 a1_0 a1_1 l1_2 bt377.1 bt377.2.1 bt377.2.2 bt383.1 bt383.2.1 bt383.2.2))))))))=some true:=H
   have A20:=Na A200
   clear A200
   replace H:=Option.bind_eq_some_iff.mp H
   obtain⟨⟨t368,t369,t370⟩,A210,H⟩:=H
   replace H:((spec_Encode.f k t363 t364 t365 t368 t369 t370 a2).bind fun bt373=>((laws_toPicture.f k a0_0 a0_1 l0_2).bind fun bt377=>((laws_toPicture.f k a1_0 a1_1 l1_2).bind fun bt383=>((impl_Encode.f k bt377.1 bt377.2.1 bt377.2.2 bt383.1 bt383.2.1 bt383.2.2 a2).bind fun bt389=>((laws_eqByteS.f k bt389.1 bt373.1).bind fun yz=>(if yz=true then (laws_FnExactEncode.j0 k a2 bt373.1 bt373.2 bt389.1 bt389.2 (bt389.2 != bt373.2) a0_0 a0_1 l0_2 a1_0 a1_1 l1_2 bt377.1 bt377.2.1 bt377.2.2 bt383.1 bt383.2.1 bt383.2.2) else (laws_FnExactEncode.j0 k a2 bt373.1 bt373.2 bt389.1 bt389.2 true a0_0 a0_1 l0_2 a1_0 a1_1 l1_2 bt377.1 bt377.2.1 bt377.2.2 bt383.1 bt383.2.1 bt383.2.2)))))))=some true:=H
   have A21:=Na A210
   clear A210
   replace H:=Option.bind_eq_some_iff.mp H
   obtain⟨⟨qp,qq⟩,A220,H⟩:=H
   replace H:((laws_toPicture.f k a0_0 a0_1 l0_2).bind fun bt377=>((laws_toPicture.f k a1_0 a1_1 l1_2).bind fun bt383=>((impl_Encode.f k bt377.1 bt377.2.1 bt377.2.2 bt383.1 bt383.2.1 bt383.2.2 a2).bind fun bt389=>((laws_eqByteS.f k bt389.1 qp).bind fun yz=>(if yz=true then (laws_FnExactEncode.j0 k a2 qp qq bt389.1 bt389.2 (bt389.2 != qq) a0_0 a0_1 l0_2 a1_0 a1_1 l1_2 bt377.1 bt377.2.1 bt377.2.2 bt383.1 bt383.2.1 bt383.2.2) else (laws_FnExactEncode.j0 k a2 qp qq bt389.1 bt389.2 true a0_0 a0_1 l0_2 a1_0 a1_1 l1_2 bt377.1 bt377.2.1 bt377.2.2 bt383.1 bt383.2.1 bt383.2.2))))))=some true:=H
   have A22:=Na A220
   clear A220
   replace H:=Option.bind_eq_some_iff.mp H
   obtain⟨⟨qv,qw,qt⟩,A230,H⟩:=H
   replace H:((laws_toPicture.f k a1_0 a1_1 l1_2).bind fun bt383=>((impl_Encode.f k qv qw qt bt383.1 bt383.2.1 bt383.2.2 a2).bind fun bt389=>((laws_eqByteS.f k bt389.1 qp).bind fun yz=>(if yz=true then (laws_FnExactEncode.j0 k a2 qp qq bt389.1 bt389.2 (bt389.2 != qq) a0_0 a0_1 l0_2 a1_0 a1_1 l1_2 qv qw qt bt383.1 bt383.2.1 bt383.2.2) else (laws_FnExactEncode.j0 k a2 qp qq bt389.1 bt389.2 true a0_0 a0_1 l0_2 a1_0 a1_1 l1_2 qv qw qt bt383.1 bt383.2.1 bt383.2.2)))))=some true:=H
   have A23:=Na A230
   clear A230
   replace H:=Option.bind_eq_some_iff.mp H
   obtain⟨⟨qx,qy,qu⟩,A240,H⟩:=H
   replace H:((impl_Encode.f k qv qw qt qx qy qu a2).bind fun bt389=>((laws_eqByteS.f k bt389.1 qp).bind fun yz=>(if yz=true then (laws_FnExactEncode.j0 k a2 qp qq bt389.1 bt389.2 (bt389.2 != qq) a0_0 a0_1 l0_2 a1_0 a1_1 l1_2 qv qw qt qx qy qu) else (laws_FnExactEncode.j0 k a2 qp qq bt389.1 bt389.2 true a0_0 a0_1 l0_2 a1_0 a1_1 l1_2 qv qw qt qx qy qu))))=some true:=H
   have A24:=Na A240
   clear A240
   replace H:=Option.bind_eq_some_iff.mp H
   obtain⟨⟨qr,yy⟩,A250,H⟩:=H
   replace H:((laws_eqByteS.f k qr qp).bind fun yz=>(if yz=true then (laws_FnExactEncode.j0 k a2 qp qq qr yy (yy != qq) a0_0 a0_1 l0_2 a1_0 a1_1 l1_2 qv qw qt qx qy qu) else (laws_FnExactEncode.j0 k a2 qp qq qr yy true a0_0 a0_1 l0_2 a1_0 a1_1 l1_2 qv qw qt qx qy qu)))=some true:=H
   have A25:=Na A250
   clear A250
   have HC26:=Na H
   clear H
   go_enter Try.func11,Try.ntmps11
   try go_wp2_with (first|((with_reducible refine gate_dst (N:=3) rfl ?_);refine box_event ?hg (N:=3) ?hd (cs:=#[.int .i64 a0_0,.int .i64 a0_1,.slice A0_2 l0_2.length c0_2]) (t:=24) ?hr ?_;(case hd=>rfl);(case hg=>rfl);(case hr=>first|(go_simp;done)|(go_simp;rfl));intro qh hg w27 hbox hb;have qz:=Na (Nw (by repeat(first|(with_reducible first|exact HB.out|apply Nl|apply Nj|apply Nk)|exact HB.out)) hb);have ya:=Na (hbox);have yb:=Na ((by rw [hg];exact(Nv (by repeat(first|(with_reducible first|exact HB.out|apply Nl|apply Nj|apply Nk)|exact HB.out))):w.heap.size≤qh));have yi:=Na ((by rw [hg];exact(Nv (by repeat(first|(with_reducible first|exact HB.out|apply Nl|apply Nj|apply Nk)|exact HB.out))):w.heap.size≤qh));clear HB;have HB:=qz;have qa:=ya;have GW359:=yb;have ql:=yi;clear qz ya yb yi;clear hb hbox hg)|((with_reducible refine gate_dst (N:=4) rfl ?_);refine box_event ?hg (N:=4) ?hd (cs:=#[.int .i64 a1_0,.int .i64 a1_1,.slice A1_2 l1_2.length c1_2]) (t:=24) ?hr ?_;(case hd=>rfl);(case hg=>rfl);(case hr=>first|(go_simp;done)|(go_simp;rfl));intro qk hg w28 hbox hb;have qz:=Na (No (g:=qh) (o:=.cells #[.int .i64 a0_0,.int .i64 a0_1,.slice A0_2 l0_2.length c0_2] 24 (0,0)) (by(with_reducible repeat(first|refine Nf ?_ _|refine Nb ?_|refine Ne ?_ _));exact qa.out) hb);have ya:=Na (Nw (by repeat(first|(with_reducible first|exact HB.out|apply Nl|apply Nj|apply Nk|refine Nd ?_ ql.out)|exact HB.out)) hb);have yb:=Na (hbox);have yi:=Na ((by rw [hg];exact(Nv (by repeat(first|(with_reducible first|exact HB.out|apply Nl|apply Nj|apply Nk|refine Nd ?_ ql.out)|exact HB.out))):w.heap.size≤qk));have yn:=Na ((by rw [hg];exact(Nv (by repeat(first|(with_reducible first|exact HB.out|apply Nl|apply Nj|apply Nk|refine Nd ?_ ql.out)|exact HB.out))):w.heap.size≤qk));have yo:=Na ((by rw [hg];exact Nat.ne_of_lt (blk_lt (g:=qh) (o:=.cells #[.int .i64 a0_0,.int .i64 a0_1,.slice A0_2 l0_2.length c0_2] 24 (0,0)) (by(with_reducible repeat(first|refine Nf ?_ _|refine Nb ?_|refine Ne ?_ _));exact qa.out)):qh≠qk));have yp:=Na ((by rw [hg];exact Nat.ne_of_gt (blk_lt (g:=qh) (o:=.cells #[.int .i64 a0_0,.int .i64 a0_1,.slice A0_2 l0_2.length c0_2] 24 (0,0)) (by(with_reducible repeat(first|refine Nf ?_ _|refine Nb ?_|refine Ne ?_ _));exact qa.out)):qk≠qh));clear qa;clear HB;have qa:=qz;have HB:=ya;have qd:=yb;have GW360:=yi;have qo:=yn;have zb:=yo;have ze:=yp;clear qz ya yb yi yn yo yp;clear hb hbox hg;have hnb29:=zb.out;have hnc29:=ze.out;have hcz30_0:w28.cell? ⟨qh,0,none⟩=some (.int .i64 a0_0):=(Ni qa.out 0).trans rfl;have hcz30_1:w28.cell? ⟨qh,1,none⟩=some (.int .i64 a0_1):=(Ni qa.out 1).trans rfl;have hcz30_2:w28.cell? ⟨qh,2,none⟩=some (.slice A0_2 l0_2.length c0_2):=(Ni qa.out 2).trans rfl;have hfz30_0:=Ns qa.out 0;have hfz30_1:=Ns qa.out 1;have hfz30_2:=Ns qa.out 2)|((with_reducible refine Nz (f:=14) rfl ?_);refine goesL_ (some 21) rfl rfl Try.func14 (by kernel_rfl) rfl #[.agg #[.int .i64 a0_0,.int .i64 a0_1,.slice A0_2 l0_2.length c0_2],.int .i64 1048576] rfl (by(try simp only [List.map_toArray,List.map_cons,List.map_nil]);first|done|rfl|(simp only [List.length_drop,List.length_take];rfl)) ?_;(with_reducible refine(laws_szPicture.calls a0_0 a0_1 _ _ l0_2 1048576 zl _ ?side1 ?side2 A4.out).mono ?_);(case side1=>repeat(first|exact(Kd.C_below va.out HB.out)|(with_reducible refine Nt ?_ _)|(with_reducible refine Nu ?_ _)|(with_reducible refine Nm ?_)));(case side2=>exact zz.out);rintro e w31 ⟨rfl,hb⟩;refine⟨_,rfl,?_⟩;have qz:=Na (No (g:=qh) (o:=.cells #[.int .i64 a0_0,.int .i64 a0_1,.slice A0_2 l0_2.length c0_2] 24 (0,0)) (by(with_reducible repeat(first|refine Nf ?_ _|refine Nb ?_|refine Ne ?_ _));exact qa.out) hb);have ya:=Na (No (g:=qk) (o:=.cells #[.int .i64 a1_0,.int .i64 a1_1,.slice A1_2 l1_2.length c1_2] 24 (0,0)) (by(with_reducible repeat(first|refine Nf ?_ _|refine Nb ?_|refine Ne ?_ _));exact qd.out) hb);have yb:=Na (Nw (by repeat(first|(with_reducible first|exact HB.out|apply Nl|apply Nj|apply Nk|refine Nd ?_ ql.out|refine Nd ?_ qo.out)|exact HB.out)) hb);clear qa;clear qd;clear HB;have qa:=qz;have qd:=ya;have HB:=yb;clear qz ya yb;(try clear hb);(try clear hb2);(try clear hk);(try clear hi);have hcz32_0:w31.cell? ⟨qk,0,none⟩=some (.int .i64 a1_0):=(Ni qd.out 0).trans rfl;have hcz32_1:w31.cell? ⟨qk,1,none⟩=some (.int .i64 a1_1):=(Ni qd.out 1).trans rfl;have hcz32_2:w31.cell? ⟨qk,2,none⟩=some (.slice A1_2 l1_2.length c1_2):=(Ni qd.out 2).trans rfl;have hfz32_0:=Ns qd.out 0;have hfz32_1:=Ns qd.out 1;have hfz32_2:=Ns qd.out 2)|((with_reducible refine Nz (f:=14) rfl ?_);refine goesL_ (some 26) rfl rfl Try.func14 (by kernel_rfl) rfl #[.agg #[.int .i64 a1_0,.int .i64 a1_1,.slice A1_2 l1_2.length c1_2],.int .i64 zl] rfl (by(try simp only [List.map_toArray,List.map_cons,List.map_nil]);first|done|rfl|(simp only [List.length_drop,List.length_take];rfl)) ?_;(with_reducible refine(laws_szPicture.calls a1_0 a1_1 _ _ l1_2 zl zy _ ?side1 ?side2 A11.out).mono ?_);(case side1=>repeat(first|exact(Kd.C_below vf.out HB.out)|(with_reducible refine Nt ?_ _)|(with_reducible refine Nu ?_ _)|(with_reducible refine Nm ?_)));(case side2=>exact vc.out);rintro e w33 ⟨rfl,hb⟩;refine⟨_,rfl,?_⟩;have qz:=Na (No (g:=qh) (o:=.cells #[.int .i64 a0_0,.int .i64 a0_1,.slice A0_2 l0_2.length c0_2] 24 (0,0)) (by(with_reducible repeat(first|refine Nf ?_ _|refine Nb ?_|refine Ne ?_ _));exact qa.out) hb);have ya:=Na (No (g:=qk) (o:=.cells #[.int .i64 a1_0,.int .i64 a1_1,.slice A1_2 l1_2.length c1_2] 24 (0,0)) (by(with_reducible repeat(first|refine Nf ?_ _|refine Nb ?_|refine Ne ?_ _));exact qd.out) hb);have yb:=Na (Nw (by repeat(first|(with_reducible first|exact HB.out|apply Nl|apply Nj|apply Nk|refine Nd ?_ ql.out|refine Nd ?_ qo.out)|exact HB.out)) hb);clear qa;clear qd;clear HB;have qa:=qz;have qd:=ya;have HB:=yb;clear qz ya yb;(try clear hb);(try clear hb2);(try clear hk);(try clear hi)))
   have qz:=Na (Nb qa.out)
   have ya:=Na (Nb qd.out)
   have yb:=Na (Nk HB.out)
   clear qa
   clear qd
   clear HB
   have qa:=qz
   have qd:=ya
   have HB:=yb
   clear qz ya yb
   refine start_ (n:=11) (S:=fun w'=>w'.cell? ⟨qh,0,none⟩=some (.int .i64 a0_0)∧w'.cell? ⟨qh,1,none⟩=some (.int .i64 a0_1)∧w'.cell? ⟨qh,2,none⟩=some (.slice A0_2 l0_2.length c0_2)∧w'.cell? ⟨qk,0,none⟩=some (.int .i64 a1_0)∧w'.cell? ⟨qk,1,none⟩=some (.int .i64 a1_1)∧w'.cell? ⟨qk,2,none⟩=some (.slice A1_2 l1_2.length c1_2)) (ds:=[]) #[false,false,false,false,false,false,false,false,false,false,false] (by kernel_rfl) rfl rfl ⟨(Ni qa.out 0).trans rfl,(Ni qa.out 1).trans rfl,(Ni qa.out 2).trans rfl,(Ni qd.out 0).trans rfl,(Ni qd.out 1).trans rfl,(Ni qd.out 2).trans rfl⟩ (fun hHeld=>?_);refine with_tabW laws_FnExactEncode.tab8 laws_FnExactEncode.bits8 (fun HT_ HW_=>?_)
   generalize w33.drew=w34 at qa qd HB hHeld ⊢
   refine pure_ (i:=4) (N:=some 34) (v:=?_) (a':=?_) #[false,false,false,false,true,false,false,false,false,false,false] rfl rfl (any_of HT_.out (by kernel_rfl)) (fun _ _ _ h=>h) (Or.inl ⟨by rfl,?_⟩) ?_ ?_
   rotate_left
   ·intro w'
    go_simp
    with_reducible rfl
   rotate_left
   ·simp only [Act.put,List.setIfInBounds_toArray,List.set_cons_zero,List.set_cons_succ,i64_w,i32_w]
    rfl
   refine take_ (i:=0) (N:=some 30) (v:=?_) (a':=?_) #[true,false,false,false,true,false,false,false,false,false,false] rfl rfl (take_ofW HT_.out HW_.out (by kernel_rfl)) (fun _ _ _ h=>h) (Or.inl ⟨by rfl,?_⟩) hHeld ?_ ?_
   rotate_left
   ·rintro w' ⟨s0,s1,s2,s3,s4,s5⟩
    go_simp
    with_reducible rfl
   rotate_left
   ·simp only [Act.put,List.setIfInBounds_toArray,List.set_cons_zero,List.set_cons_succ,i64_w,i32_w]
    rfl
   refine take_ (i:=2) (N:=some 32) (v:=?_) (a':=?_) #[true,false,true,false,true,false,false,false,false,false,false] rfl rfl (take_ofW HT_.out HW_.out (by kernel_rfl)) (fun _ _ _ h=>h) (Or.inl ⟨by rfl,?_⟩) hHeld ?_ ?_
   rotate_left
   ·rintro w' ⟨s0,s1,s2,s3,s4,s5⟩
    go_simp
    with_reducible rfl
   rotate_left
   ·simp only [Act.put,List.setIfInBounds_toArray,List.set_cons_zero,List.set_cons_succ,i64_w,i32_w]
    rfl
   refine one_ (i:=1) (N:=some 31) #[true,true,true,false,true,false,false,false,false,false,false] rfl rfl (one_of HT_.out (by kernel_rfl)) (by decide) (fun K hK=>?_)
   refine goes_ Try.func16 (by kernel_rfl) rfl #[.agg #[.int .i64 a0_0,.int .i64 a0_1,.slice A0_2 l0_2.length c0_2]] (by rfl) rfl rfl (by(try simp only [List.map_toArray,List.map_cons,List.map_nil]);first|done|rfl|(simp only [List.length_drop,List.length_take];rfl)) ?_
   with_reducible refine(laws_toPicture.calls k a0_0 a0_1 _ _ l0_2 t363 t364 t365 _ ?side1 ?side2 A20.out).mono ?_
   (case side1=>repeat(first|exact(Kd.C_below va.out HB.out)|(with_reducible refine Nt ?_ _)|(with_reducible refine Nu ?_ _)|(with_reducible refine Nm ?_)))
   (case side2=>exact zz.out)
   rintro e w35 ⟨v366,rfl,yx,hb⟩
   refine⟨_,rfl,?_⟩
   have qz:=Na (Kd.R_lower yx (Nv (by repeat(first|(with_reducible first|exact HB.out|apply Nl|apply Nj|apply Nk|refine Nd ?_ ql.out|refine Nd ?_ qo.out)|exact HB.out))))
   have ya:=Na (No (g:=qh) (o:=.cells #[.int .i64 a0_0,.int .i64 a0_1,.slice A0_2 l0_2.length c0_2] 24 (0,0)) (by(with_reducible repeat(first|refine Nf ?_ _|refine Nb ?_|refine Ne ?_ _));exact qa.out) hb)
   have yb:=Na (No (g:=qk) (o:=.cells #[.int .i64 a1_0,.int .i64 a1_1,.slice A1_2 l1_2.length c1_2] 24 (0,0)) (by(with_reducible repeat(first|refine Nf ?_ _|refine Nb ?_|refine Ne ?_ _));exact qd.out) hb)
   have yi:=Na (Nw (by repeat(first|(with_reducible first|exact HB.out|apply Nl|apply Nj|apply Nk|refine Nd ?_ ql.out|refine Nd ?_ qo.out)|exact HB.out)) hb)
   clear qa
   clear qd
   clear HB
   have yh:=qz
   have qa:=ya
   have qd:=yb
   have HB:=yi
   clear qz ya yb yi
   (try clear hb)
   (try clear hb2)
   (try clear hk)
   (try clear hi)
   (try clear yx)
   refine hK.out _ _ ⟨(Ni qa.out 0).trans rfl,(Ni qa.out 1).trans rfl,(Ni qa.out 2).trans rfl,(Ni qd.out 0).trans rfl,(Ni qd.out 1).trans rfl,(Ni qd.out 2).trans rfl⟩ (fun hHeld=>?_)
   clear hK K
   refine norm_ (a':=?_) ?_ ?_
   rotate_left
   ·show Act.put _ (some 31) _=_
    simp only [Act.put,List.setIfInBounds_toArray,List.set_cons_zero,List.set_cons_succ,i64_w,i32_w]
    rfl
   refine one_ (i:=3) (N:=some 33) #[true,true,true,true,true,false,false,false,false,false,false] rfl rfl (one_of HT_.out (by kernel_rfl)) (by decide) (fun K hK=>?_)
   refine goes_ Try.func16 (by kernel_rfl) rfl #[.agg #[.int .i64 a1_0,.int .i64 a1_1,.slice A1_2 l1_2.length c1_2]] (by rfl) rfl rfl (by(try simp only [List.map_toArray,List.map_cons,List.map_nil]);first|done|rfl|(simp only [List.length_drop,List.length_take];rfl)) ?_
   with_reducible refine(laws_toPicture.calls k a1_0 a1_1 _ _ l1_2 t368 t369 t370 _ ?side1 ?side2 A21.out).mono ?_
   (case side1=>repeat(first|exact(Kd.C_below vf.out HB.out)|(with_reducible refine Nt ?_ _)|(with_reducible refine Nu ?_ _)|(with_reducible refine Nm ?_)))
   (case side2=>exact vc.out)
   rintro e w36 ⟨v371,rfl,yx,hb⟩
   refine⟨_,rfl,?_⟩
   have qz:=Na (Ny (by(with_reducible repeat(first|apply Ng|apply Nh|apply Nc));exact yh.out) (Kd.R_base yx) hb)
   have ya:=Na (Kd.R_lower (Kd.R_new' yx (Kd.R_lt (by(with_reducible repeat(first|apply Ng|apply Nh|apply Nc));exact yh.out))) (Nv (by repeat(first|(with_reducible first|exact HB.out|apply Nl|apply Nj|apply Nk|refine Nd ?_ ql.out|refine Nd ?_ qo.out)|exact HB.out))))
   have yb:=Na (No (g:=qh) (o:=.cells #[.int .i64 a0_0,.int .i64 a0_1,.slice A0_2 l0_2.length c0_2] 24 (0,0)) (by(with_reducible repeat(first|refine Nf ?_ _|refine Nb ?_|refine Ne ?_ _));exact qa.out) hb)
   have yi:=Na (No (g:=qk) (o:=.cells #[.int .i64 a1_0,.int .i64 a1_1,.slice A1_2 l1_2.length c1_2] 24 (0,0)) (by(with_reducible repeat(first|refine Nf ?_ _|refine Nb ?_|refine Ne ?_ _));exact qd.out) hb)
   have yn:=Na (Nw (by repeat(first|(with_reducible first|exact HB.out|apply Nl|apply Nj|apply Nk|refine Nd ?_ ql.out|refine Nd ?_ qo.out)|exact HB.out)) hb)
   clear yh
   clear qa
   clear qd
   clear HB
   have yh:=qz
   have yl:=ya
   have qa:=yb
   have qd:=yi
   have HB:=yn
   clear qz ya yb yi yn
   (try clear hb)
   (try clear hb2)
   (try clear hk)
   (try clear hi)
   (try clear yx)
   obtain⟨Ao37,co37,eo37⟩:=Nx yh.out
   (first|subst eo37|(injection eo37 with f1_ f2_ f3_;have f4_:=f1_.symm;have f5_:=f3_.symm;clear f1_ f2_ f3_;subst f4_;subst f5_))
   obtain⟨Ao38,co38,eo38⟩:=Nx yl.out
   (first|subst eo38|(injection eo38 with f1_ f2_ f3_;have f4_:=f1_.symm;have f5_:=f3_.symm;clear f1_ f2_ f3_;subst f4_;subst f5_))
   refine hK.out _ _ ⟨(Ni qa.out 0).trans rfl,(Ni qa.out 1).trans rfl,(Ni qa.out 2).trans rfl,(Ni qd.out 0).trans rfl,(Ni qd.out 1).trans rfl,(Ni qd.out 2).trans rfl⟩ (fun hHeld=>?_)
   clear hK K
   refine norm_ (a':=?_) ?_ ?_
   rotate_left
   ·show Act.put _ (some 33) _=_
    simp only [Act.put,List.setIfInBounds_toArray,List.set_cons_zero,List.set_cons_succ,i64_w,i32_w]
    rfl
   refine one_ (i:=5) (N:=some 35) #[true,true,true,true,true,true,false,false,false,false,false] rfl rfl (one_of HT_.out (by kernel_rfl)) (by decide) (fun K hK=>?_)
   refine goes_ Try.func41 (by kernel_rfl) rfl #[.agg #[.int .i64 t363,.int .i64 t364,.slice Ao37 t365.length co37],.agg #[.int .i64 t368,.int .i64 t369,.slice Ao38 t370.length co38],.int .i64 a2] (by rfl) rfl rfl (by(try simp only [List.map_toArray,List.map_cons,List.map_nil]);first|done|rfl|(simp only [List.length_drop,List.length_take];rfl)) ?_
   with_reducible refine(spec_Encode.calls k t363 t364 _ _ t365 t368 t369 _ _ t370 a2 qp qq _ ?side1 ?side2 ?side3 ?side4 A22.out).mono ?_
   (case side1=>repeat(first|exact(Nn yh.out).2.2|(with_reducible refine Nt ?_ _)|(with_reducible refine Nu ?_ _)|(with_reducible refine Nm ?_)))
   (case side2=>exact(Nn yh.out).2.1)
   (case side3=>repeat(first|exact(Nn yl.out).2.2|(with_reducible refine Nt ?_ _)|(with_reducible refine Nu ?_ _)|(with_reducible refine Nm ?_)))
   (case side4=>exact(Nn yl.out).2.1)
   rintro e w39 ⟨v374,rfl,yx,hb⟩
   refine⟨_,rfl,?_⟩
   have qz:=Na (Nq (by(with_reducible repeat(first|apply Ng|apply Nh|apply Nc));exact yh.out) hb)
   have ya:=Na (Nq (by(with_reducible repeat(first|apply Ng|apply Nh|apply Nc));exact yl.out) hb)
   have yb:=Na (Kd.R_lower yx (Nv (by repeat(first|(with_reducible first|exact HB.out|apply Nl|apply Nj|apply Nk|refine Nd ?_ ql.out|refine Nd ?_ qo.out)|exact HB.out))))
   have yi:=Na (No (g:=qh) (o:=.cells #[.int .i64 a0_0,.int .i64 a0_1,.slice A0_2 l0_2.length c0_2] 24 (0,0)) (by(with_reducible repeat(first|refine Nf ?_ _|refine Nb ?_|refine Ne ?_ _));exact qa.out) hb)
   have yn:=Na (No (g:=qk) (o:=.cells #[.int .i64 a1_0,.int .i64 a1_1,.slice A1_2 l1_2.length c1_2] 24 (0,0)) (by(with_reducible repeat(first|refine Nf ?_ _|refine Nb ?_|refine Ne ?_ _));exact qd.out) hb)
   have yo:=Na (Nw (by repeat(first|(with_reducible first|exact HB.out|apply Nl|apply Nj|apply Nk|refine Nd ?_ ql.out|refine Nd ?_ qo.out)|exact HB.out)) hb)
   clear yh
   clear yl
   clear qa
   clear qd
   clear HB
   have yh:=qz
   have yl:=ya
   have yk:=yb
   have qa:=yi
   have qd:=yn
   have HB:=yo
   clear qz ya yb yi yn yo
   (try clear hb)
   (try clear hb2)
   (try clear hk)
   (try clear hi)
   (try clear yx)
   refine hK.out _ _ ⟨(Ni qa.out 0).trans rfl,(Ni qa.out 1).trans rfl,(Ni qa.out 2).trans rfl,(Ni qd.out 0).trans rfl,(Ni qd.out 1).trans rfl,(Ni qd.out 2).trans rfl⟩ (fun hHeld=>?_)
   clear hK K
   refine norm_ (a':=?_) ?_ ?_
   rotate_left
   ·show Act.put _ (some 35) _=_
    simp only [Act.put,List.setIfInBounds_toArray,List.set_cons_zero,List.set_cons_succ,i64_w,i32_w]
    rfl
   refine pure_ (i:=6) (N:=some 29) (v:=?_) (a':=?_) #[true,true,true,true,true,true,true,false,false,false,false] rfl rfl (any_of HT_.out (by kernel_rfl)) (fun _ _ _ h=>h) (Or.inl ⟨by rfl,?_⟩) ?_ ?_
   rotate_left
   ·intro w'
    go_simp
    with_reducible rfl
   rotate_left
   ·simp only [Act.put,List.setIfInBounds_toArray,List.set_cons_zero,List.set_cons_succ,i64_w,i32_w]
    rfl
   refine pure_ (i:=7) (N:=some 36) (v:=?_) (a':=?_) #[true,true,true,true,true,true,true,true,false,false,false] rfl rfl (any_of HT_.out (by kernel_rfl)) (fun _ _ _ h=>h) (Or.inl ⟨by rfl,?_⟩) ?_ ?_
   rotate_left
   ·intro w'
    go_simp
    with_reducible rfl
   rotate_left
   ·simp only [Act.put,List.setIfInBounds_toArray,List.set_cons_zero,List.set_cons_succ,i64_w,i32_w]
    rfl
   refine pure_ (i:=8) (N:=some 37) (v:=?_) (a':=?_) #[true,true,true,true,true,true,true,true,true,false,false] rfl rfl (any_of HT_.out (by kernel_rfl)) (fun _ _ _ h=>h) (Or.inl ⟨by rfl,?_⟩) ?_ ?_
   rotate_left
   ·intro w'
    go_simp
    with_reducible rfl
   rotate_left
   ·simp only [Act.put,List.setIfInBounds_toArray,List.set_cons_zero,List.set_cons_succ,i64_w,i32_w]
    rfl
   refine pure_ (i:=9) (N:=some 8) (v:=?_) (a':=?_) #[true,true,true,true,true,true,true,true,true,true,false] rfl rfl (any_of HT_.out (by kernel_rfl)) (fun _ _ _ h=>h) (Or.inl ⟨by rfl,?_⟩) ?_ ?_
   rotate_left
   ·intro w'
    go_simp
    with_reducible rfl
   rotate_left
   ·simp only [Act.put,List.setIfInBounds_toArray,List.set_cons_zero,List.set_cons_succ,i64_w,i32_w]
    rfl
   refine pure_ (i:=10) (N:=some 9) (v:=?_) (a':=?_) #[true,true,true,true,true,true,true,true,true,true,true] rfl rfl (any_of HT_.out (by kernel_rfl)) (fun _ _ _ h=>h) (Or.inl ⟨by rfl,?_⟩) ?_ ?_
   rotate_left
   ·intro w'
    go_simp
    with_reducible rfl
   rotate_left
   ·simp only [Act.put,List.setIfInBounds_toArray,List.set_cons_zero,List.set_cons_succ,i64_w,i32_w]
    rfl
   refine done_ (done_of HT_.out (by kernel_rfl)) ?_
   have hcz40_0:w39.cell? ⟨qh,0,none⟩=some (.int .i64 a0_0):=(Ni qa.out 0).trans rfl
   have hcz40_1:w39.cell? ⟨qh,1,none⟩=some (.int .i64 a0_1):=(Ni qa.out 1).trans rfl
   have hcz40_2:w39.cell? ⟨qh,2,none⟩=some (.slice A0_2 l0_2.length c0_2):=(Ni qa.out 2).trans rfl
   have hfz40_0:=Ns qa.out 0
   have hfz40_1:=Ns qa.out 1
   have hfz40_2:=Ns qa.out 2
   go_upto_region 12 with (first|((with_reducible refine Nz (f:=16) rfl ?_);refine goesL_ (some 39) rfl rfl Try.func16 (by kernel_rfl) rfl #[.agg #[.int .i64 a0_0,.int .i64 a0_1,.slice A0_2 l0_2.length c0_2]] rfl (by(try simp only [List.map_toArray,List.map_cons,List.map_nil]);first|done|rfl|(simp only [List.length_drop,List.length_take];rfl)) ?_;(with_reducible refine(laws_toPicture.calls k a0_0 a0_1 _ _ l0_2 qv qw qt _ ?side1 ?side2 A23.out).mono ?_);(case side1=>repeat(first|exact(Kd.C_below va.out HB.out)|(with_reducible refine Nt ?_ _)|(with_reducible refine Nu ?_ _)|(with_reducible refine Nm ?_)));(case side2=>exact zz.out);rintro e w41 ⟨v380,rfl,yx,hb⟩;refine⟨_,rfl,?_⟩;have qz:=Na (Ny (by(with_reducible repeat(first|apply Ng|apply Nh|apply Nc));exact yh.out) (Kd.R_base yx) hb);have ya:=Na (Ny (by(with_reducible repeat(first|apply Ng|apply Nh|apply Nc));exact yl.out) (Kd.R_base yx) hb);have yb:=Na (Nq (by(with_reducible repeat(first|apply Ng|apply Nh|apply Nc));exact yk.out) hb);have yi:=Na (Kd.R_lower (Kd.R_new' (Kd.R_new' yx (Kd.R_lt (by(with_reducible repeat(first|apply Ng|apply Nh|apply Nc));exact yh.out))) (Kd.R_lt (by(with_reducible repeat(first|apply Ng|apply Nh|apply Nc));exact yl.out))) (Nv (by repeat(first|(with_reducible first|exact HB.out|apply Nl|apply Nj|apply Nk|refine Nd ?_ ql.out|refine Nd ?_ qo.out)|exact HB.out))));have yn:=Na (No (g:=qh) (o:=.cells #[.int .i64 a0_0,.int .i64 a0_1,.slice A0_2 l0_2.length c0_2] 24 (0,0)) (by(with_reducible repeat(first|refine Nf ?_ _|refine Nb ?_|refine Ne ?_ _));exact qa.out) hb);have yo:=Na (No (g:=qk) (o:=.cells #[.int .i64 a1_0,.int .i64 a1_1,.slice A1_2 l1_2.length c1_2] 24 (0,0)) (by(with_reducible repeat(first|refine Nf ?_ _|refine Nb ?_|refine Ne ?_ _));exact qd.out) hb);have yp:=Na (Nw (by repeat(first|(with_reducible first|exact HB.out|apply Nl|apply Nj|apply Nk|refine Nd ?_ ql.out|refine Nd ?_ qo.out)|exact HB.out)) hb);clear yh;clear yl;clear yk;clear qa;clear qd;clear HB;have yh:=qz;have yl:=ya;have yk:=yb;have yr:=yi;have qa:=yn;have qd:=yo;have HB:=yp;clear qz ya yb yi yn yo yp;(try clear hb);(try clear hb2);(try clear hk);(try clear hi);(try clear yx))|((with_reducible refine gate_dst (N:=10) rfl ?_);refine box_event ?hg (N:=10) ?hd (cs:=#[.int .i64 0,.int .i64 0,.slice none 0 0]) (t:=27) ?hr ?_;(case hd=>rfl);(case hg=>rfl);(case hr=>first|(go_simp;done)|(go_simp;rfl));intro qm hg w42 hbox hb;have qz:=Na (Nq (by(with_reducible repeat(first|apply Ng|apply Nh|apply Nc));exact yh.out) hb);have ya:=Na (Nq (by(with_reducible repeat(first|apply Ng|apply Nh|apply Nc));exact yl.out) hb);have yb:=Na (Nq (by(with_reducible repeat(first|apply Ng|apply Nh|apply Nc));exact yk.out) hb);have yi:=Na (Nq (by(with_reducible repeat(first|apply Ng|apply Nh|apply Nc));exact yr.out) hb);have yn:=Na (No (g:=qh) (o:=.cells #[.int .i64 a0_0,.int .i64 a0_1,.slice A0_2 l0_2.length c0_2] 24 (0,0)) (by(with_reducible repeat(first|refine Nf ?_ _|refine Nb ?_|refine Ne ?_ _));exact qa.out) hb);have yo:=Na (No (g:=qk) (o:=.cells #[.int .i64 a1_0,.int .i64 a1_1,.slice A1_2 l1_2.length c1_2] 24 (0,0)) (by(with_reducible repeat(first|refine Nf ?_ _|refine Nb ?_|refine Ne ?_ _));exact qd.out) hb);have yp:=Na (Nw (by repeat(first|(with_reducible first|exact HB.out|apply Nl|apply Nj|apply Nk|refine Nd ?_ ql.out|refine Nd ?_ qo.out)|exact HB.out)) hb);have yu:=Na (hbox);have yv:=Na ((by rw [hg];exact(Nv (by repeat(first|(with_reducible first|exact HB.out|apply Nl|apply Nj|apply Nk|refine Nd ?_ ql.out|refine Nd ?_ qo.out)|exact HB.out))):w.heap.size≤qm));have zk:=Na ((by rw [hg];exact(Nv (by repeat(first|(with_reducible first|exact HB.out|apply Nl|apply Nj|apply Nk|refine Nd ?_ ql.out|refine Nd ?_ qo.out)|exact HB.out))):w.heap.size≤qm));have yt:=Na ((by rw [hg];exact Nat.ne_of_lt (blk_lt (g:=qh) (o:=.cells #[.int .i64 a0_0,.int .i64 a0_1,.slice A0_2 l0_2.length c0_2] 24 (0,0)) (by(with_reducible repeat(first|refine Nf ?_ _|refine Nb ?_|refine Ne ?_ _));exact qa.out)):qh≠qm));have n11_:=Na ((by rw [hg];exact Nat.ne_of_gt (blk_lt (g:=qh) (o:=.cells #[.int .i64 a0_0,.int .i64 a0_1,.slice A0_2 l0_2.length c0_2] 24 (0,0)) (by(with_reducible repeat(first|refine Nf ?_ _|refine Nb ?_|refine Ne ?_ _));exact qa.out)):qm≠qh));have n12_:=Na ((by rw [hg];exact Nat.ne_of_lt (blk_lt (g:=qk) (o:=.cells #[.int .i64 a1_0,.int .i64 a1_1,.slice A1_2 l1_2.length c1_2] 24 (0,0)) (by(with_reducible repeat(first|refine Nf ?_ _|refine Nb ?_|refine Ne ?_ _));exact qd.out)):qk≠qm));have n13_:=Na ((by rw [hg];exact Nat.ne_of_gt (blk_lt (g:=qk) (o:=.cells #[.int .i64 a1_0,.int .i64 a1_1,.slice A1_2 l1_2.length c1_2] 24 (0,0)) (by(with_reducible repeat(first|refine Nf ?_ _|refine Nb ?_|refine Ne ?_ _));exact qd.out)):qm≠qk));clear yh;clear yl;clear yk;clear yr;clear qa;clear qd;clear HB;have yh:=qz;have yl:=ya;have yk:=yb;have yr:=yi;have qa:=yn;have qd:=yo;have HB:=yp;have qe:=yu;have GW382:=yv;have yc:=zk;have zc:=yt;have vg:=n11_;have zf:=n12_;have vh:=n13_;clear qz ya yb yi yn yo yp yu yv zk yt n11_ n12_ n13_;clear hb hbox hg;have hnb43:=vg.out;have hnc43:=zc.out;have hnb44:=vh.out;have hnc44:=zf.out;have hcz45_0:w42.cell? ⟨qm,0,none⟩=some (.int .i64 0):=(Ni qe.out 0).trans rfl;have hcz45_1:w42.cell? ⟨qm,1,none⟩=some (.int .i64 0):=(Ni qe.out 1).trans rfl;have hcz45_2:w42.cell? ⟨qm,2,none⟩=some (.slice none 0 0):=(Ni qe.out 2).trans rfl;have hfz45_0:=Ns qe.out 0;have hfz45_1:=Ns qe.out 1;have hfz45_2:=Ns qe.out 2;obtain⟨ye,yd,eo46⟩:=Nx yr.out;subst eo46;have hcz47_0:w42.cell? ⟨qk,0,none⟩=some (.int .i64 a1_0):=(Ni qd.out 0).trans rfl;have hcz47_1:w42.cell? ⟨qk,1,none⟩=some (.int .i64 a1_1):=(Ni qd.out 1).trans rfl;have hcz47_2:w42.cell? ⟨qk,2,none⟩=some (.slice A1_2 l1_2.length c1_2):=(Ni qd.out 2).trans rfl;have hfz47_0:=Ns qd.out 0;have hfz47_1:=Ns qd.out 1;have hfz47_2:=Ns qd.out 2)|((with_reducible refine Nz (f:=16) rfl ?_);refine goesL_ (some 41) rfl rfl Try.func16 (by kernel_rfl) rfl #[.agg #[.int .i64 a1_0,.int .i64 a1_1,.slice A1_2 l1_2.length c1_2]] rfl (by(try simp only [List.map_toArray,List.map_cons,List.map_nil]);first|done|rfl|(simp only [List.length_drop,List.length_take];rfl)) ?_;(with_reducible refine(laws_toPicture.calls k a1_0 a1_1 _ _ l1_2 qx qy qu _ ?side1 ?side2 A24.out).mono ?_);(case side1=>exact Kd.C_below vf.out (by repeat(first|(with_reducible first|exact HB.out|apply Nl|apply Nj|apply Nk|refine Nd ?_ ql.out|refine Nd ?_ qo.out|refine Nd ?_ yc.out)|exact HB.out)));(case side2=>exact vc.out);rintro e w48 ⟨v386,rfl,yx,hb⟩;refine⟨_,rfl,?_⟩;have qz:=Na (Ny (by(with_reducible repeat(first|apply Ng|apply Nh|apply Nc));exact(Np (Nr (p:=⟨qm,2,none⟩) (Nr (p:=⟨qm,1,none⟩) (Nr (p:=⟨qm,0,none⟩) (Kd.R_types yh.out qe.out (by decide)) (fun _ hk=>hk.2) (.int .i64 qv)) (fun _ hk=>hk.2) (.int .i64 qw)) (fun _ hk=>hk.2) (.slice ye qt.length yd)) (fun _ h_=>h_.1))) (Kd.R_base yx) hb);have ya:=Na (Ny (by(with_reducible repeat(first|apply Ng|apply Nh|apply Nc));exact(Np (Nr (p:=⟨qm,2,none⟩) (Nr (p:=⟨qm,1,none⟩) (Nr (p:=⟨qm,0,none⟩) (Kd.R_types yl.out qe.out (by decide)) (fun _ hk=>hk.2) (.int .i64 qv)) (fun _ hk=>hk.2) (.int .i64 qw)) (fun _ hk=>hk.2) (.slice ye qt.length yd)) (fun _ h_=>h_.1))) (Kd.R_base yx) hb);have yb:=Na (Nq (by(with_reducible repeat(first|apply Ng|apply Nh|apply Nc));exact(Np (Nr (p:=⟨qm,2,none⟩) (Nr (p:=⟨qm,1,none⟩) (Nr (p:=⟨qm,0,none⟩) (Kd.R_types yk.out qe.out (by decide)) (fun _ hk=>hk.2) (.int .i64 qv)) (fun _ hk=>hk.2) (.int .i64 qw)) (fun _ hk=>hk.2) (.slice ye qt.length yd)) (fun _ h_=>h_.1))) hb);have yi:=Na (Ny (by(with_reducible repeat(first|apply Ng|apply Nh|apply Nc));exact(Np (Nr (p:=⟨qm,2,none⟩) (Nr (p:=⟨qm,1,none⟩) (Nr (p:=⟨qm,0,none⟩) (Kd.R_types yr.out qe.out (by decide)) (fun _ hk=>hk.2) (.int .i64 qv)) (fun _ hk=>hk.2) (.int .i64 qw)) (fun _ hk=>hk.2) (.slice ye qt.length yd)) (fun _ h_=>h_.1))) (Kd.R_base yx) hb);have yn:=Na (Kd.R_lower (Kd.R_new' (Kd.R_new' (Kd.R_new' yx (Kd.R_lt (by(with_reducible repeat(first|apply Ng|apply Nh|apply Nc));exact(Np (Nr (p:=⟨qm,2,none⟩) (Nr (p:=⟨qm,1,none⟩) (Nr (p:=⟨qm,0,none⟩) (Kd.R_types yh.out qe.out (by decide)) (fun _ hk=>hk.2) (.int .i64 qv)) (fun _ hk=>hk.2) (.int .i64 qw)) (fun _ hk=>hk.2) (.slice ye qt.length yd)) (fun _ h_=>h_.1))))) (Kd.R_lt (by(with_reducible repeat(first|apply Ng|apply Nh|apply Nc));exact(Np (Nr (p:=⟨qm,2,none⟩) (Nr (p:=⟨qm,1,none⟩) (Nr (p:=⟨qm,0,none⟩) (Kd.R_types yl.out qe.out (by decide)) (fun _ hk=>hk.2) (.int .i64 qv)) (fun _ hk=>hk.2) (.int .i64 qw)) (fun _ hk=>hk.2) (.slice ye qt.length yd)) (fun _ h_=>h_.1))))) (Kd.R_lt (by(with_reducible repeat(first|apply Ng|apply Nh|apply Nc));exact(Np (Nr (p:=⟨qm,2,none⟩) (Nr (p:=⟨qm,1,none⟩) (Nr (p:=⟨qm,0,none⟩) (Kd.R_types yr.out qe.out (by decide)) (fun _ hk=>hk.2) (.int .i64 qv)) (fun _ hk=>hk.2) (.int .i64 qw)) (fun _ hk=>hk.2) (.slice ye qt.length yd)) (fun _ h_=>h_.1))))) (Nv (by repeat(first|(with_reducible first|exact HB.out|apply Nl|apply Nj|apply Nk|refine Nd ?_ ql.out|refine Nd ?_ qo.out|refine Nd ?_ yc.out)|exact HB.out))));have yo:=Na (No (g:=qh) (o:=.cells #[.int .i64 a0_0,.int .i64 a0_1,.slice A0_2 l0_2.length c0_2] 24 (0,0)) (by(with_reducible repeat(first|refine Nf ?_ _|refine Nb ?_|refine Ne ?_ _));refine blk_far ?_ zc.out _;(with_reducible repeat(first|refine Nf ?_ _|refine Nb ?_|refine Ne ?_ _));refine blk_far ?_ zc.out _;(with_reducible repeat(first|refine Nf ?_ _|refine Nb ?_|refine Ne ?_ _));refine blk_far ?_ zc.out _;(with_reducible repeat(first|refine Nf ?_ _|refine Nb ?_|refine Ne ?_ _));exact qa.out) hb);have yp:=Na (No (g:=qk) (o:=.cells #[.int .i64 a1_0,.int .i64 a1_1,.slice A1_2 l1_2.length c1_2] 24 (0,0)) (by(with_reducible repeat(first|refine Nf ?_ _|refine Nb ?_|refine Ne ?_ _));refine blk_far ?_ zf.out _;(with_reducible repeat(first|refine Nf ?_ _|refine Nb ?_|refine Ne ?_ _));refine blk_far ?_ zf.out _;(with_reducible repeat(first|refine Nf ?_ _|refine Nb ?_|refine Ne ?_ _));refine blk_far ?_ zf.out _;(with_reducible repeat(first|refine Nf ?_ _|refine Nb ?_|refine Ne ?_ _));exact qd.out) hb);have yu:=Na (No (g:=qm) (o:=.cells #[.int .i64 qv,.int .i64 qw,.slice ye qt.length yd] 27 (0,0)) (by(with_reducible repeat(first|refine Nf ?_ _|refine Nb ?_|refine Ne ?_ _));refine blk_put (cs:=#[.int .i64 qv,.int .i64 qw,.slice none 0 0]) ?_ 2 _ rfl;(with_reducible repeat(first|refine Nf ?_ _|refine Nb ?_|refine Ne ?_ _));refine blk_put (cs:=#[.int .i64 qv,.int .i64 0,.slice none 0 0]) ?_ 1 _ rfl;(with_reducible repeat(first|refine Nf ?_ _|refine Nb ?_|refine Ne ?_ _));refine blk_put (cs:=#[.int .i64 0,.int .i64 0,.slice none 0 0]) ?_ 0 _ rfl;(with_reducible repeat(first|refine Nf ?_ _|refine Nb ?_|refine Ne ?_ _));exact qe.out) hb);have yv:=Na (Nw (by repeat(first|(with_reducible first|exact HB.out|apply Nl|apply Nj|apply Nk|refine Nd ?_ ql.out|refine Nd ?_ qo.out|refine Nd ?_ yc.out)|exact HB.out)) hb);clear yh;clear yl;clear yk;clear yr;clear qa;clear qd;clear qe;clear HB;have yh:=qz;have yl:=ya;have yk:=yb;have yr:=yi;have zm:=yn;have qa:=yo;have qd:=yp;have qe:=yu;have HB:=yv;clear qz ya yb yi yn yo yp yu yv;(try clear hb);(try clear hb2);(try clear hk);(try clear hi);(try clear yx))|((with_reducible refine gate_dst (N:=11) rfl ?_);refine box_event ?hg (N:=11) ?hd (cs:=#[.int .i64 0,.int .i64 0,.slice none 0 0]) (t:=27) ?hr ?_;(case hd=>rfl);(case hg=>rfl);(case hr=>first|(go_simp;done)|(go_simp;rfl));intro qn hg w49 hbox hb;have qz:=Na (Nq (by(with_reducible repeat(first|apply Ng|apply Nh|apply Nc));exact yh.out) hb);have ya:=Na (Nq (by(with_reducible repeat(first|apply Ng|apply Nh|apply Nc));exact yl.out) hb);have yb:=Na (Nq (by(with_reducible repeat(first|apply Ng|apply Nh|apply Nc));exact yk.out) hb);have yi:=Na (Nq (by(with_reducible repeat(first|apply Ng|apply Nh|apply Nc));exact yr.out) hb);have yn:=Na (Nq (by(with_reducible repeat(first|apply Ng|apply Nh|apply Nc));exact zm.out) hb);have yo:=Na (No (g:=qh) (o:=.cells #[.int .i64 a0_0,.int .i64 a0_1,.slice A0_2 l0_2.length c0_2] 24 (0,0)) (by(with_reducible repeat(first|refine Nf ?_ _|refine Nb ?_|refine Ne ?_ _));exact qa.out) hb);have yp:=Na (No (g:=qk) (o:=.cells #[.int .i64 a1_0,.int .i64 a1_1,.slice A1_2 l1_2.length c1_2] 24 (0,0)) (by(with_reducible repeat(first|refine Nf ?_ _|refine Nb ?_|refine Ne ?_ _));exact qd.out) hb);have yu:=Na (No (g:=qm) (o:=.cells #[.int .i64 qv,.int .i64 qw,.slice ye qt.length yd] 27 (0,0)) (by(with_reducible repeat(first|refine Nf ?_ _|refine Nb ?_|refine Ne ?_ _));exact qe.out) hb);have yv:=Na (Nw (by repeat(first|(with_reducible first|exact HB.out|apply Nl|apply Nj|apply Nk|refine Nd ?_ ql.out|refine Nd ?_ qo.out|refine Nd ?_ yc.out)|exact HB.out)) hb);have zk:=Na (hbox);have yt:=Na ((by rw [hg];exact(Nv (by repeat(first|(with_reducible first|exact HB.out|apply Nl|apply Nj|apply Nk|refine Nd ?_ ql.out|refine Nd ?_ qo.out|refine Nd ?_ yc.out)|exact HB.out))):w.heap.size≤qn));have n11_:=Na ((by rw [hg];exact(Nv (by repeat(first|(with_reducible first|exact HB.out|apply Nl|apply Nj|apply Nk|refine Nd ?_ ql.out|refine Nd ?_ qo.out|refine Nd ?_ yc.out)|exact HB.out))):w.heap.size≤qn));have n12_:=Na ((by rw [hg];exact Nat.ne_of_lt (blk_lt (g:=qh) (o:=.cells #[.int .i64 a0_0,.int .i64 a0_1,.slice A0_2 l0_2.length c0_2] 24 (0,0)) (by(with_reducible repeat(first|refine Nf ?_ _|refine Nb ?_|refine Ne ?_ _));exact qa.out)):qh≠qn));have n13_:=Na ((by rw [hg];exact Nat.ne_of_gt (blk_lt (g:=qh) (o:=.cells #[.int .i64 a0_0,.int .i64 a0_1,.slice A0_2 l0_2.length c0_2] 24 (0,0)) (by(with_reducible repeat(first|refine Nf ?_ _|refine Nb ?_|refine Ne ?_ _));exact qa.out)):qn≠qh));have n14_:=Na ((by rw [hg];exact Nat.ne_of_lt (blk_lt (g:=qk) (o:=.cells #[.int .i64 a1_0,.int .i64 a1_1,.slice A1_2 l1_2.length c1_2] 24 (0,0)) (by(with_reducible repeat(first|refine Nf ?_ _|refine Nb ?_|refine Ne ?_ _));exact qd.out)):qk≠qn));have n15_:=Na ((by rw [hg];exact Nat.ne_of_gt (blk_lt (g:=qk) (o:=.cells #[.int .i64 a1_0,.int .i64 a1_1,.slice A1_2 l1_2.length c1_2] 24 (0,0)) (by(with_reducible repeat(first|refine Nf ?_ _|refine Nb ?_|refine Ne ?_ _));exact qd.out)):qn≠qk));have n16_:=Na ((by rw [hg];exact Nat.ne_of_lt (blk_lt (g:=qm) (o:=.cells #[.int .i64 qv,.int .i64 qw,.slice ye qt.length yd] 27 (0,0)) (by(with_reducible repeat(first|refine Nf ?_ _|refine Nb ?_|refine Ne ?_ _));exact qe.out)):qm≠qn));have n17_:=Na ((by rw [hg];exact Nat.ne_of_gt (blk_lt (g:=qm) (o:=.cells #[.int .i64 qv,.int .i64 qw,.slice ye qt.length yd] 27 (0,0)) (by(with_reducible repeat(first|refine Nf ?_ _|refine Nb ?_|refine Ne ?_ _));exact qe.out)):qn≠qm));clear yh;clear yl;clear yk;clear yr;clear zm;clear qa;clear qd;clear qe;clear HB;have yh:=qz;have yl:=ya;have yk:=yb;have yr:=yi;have zm:=yn;have qa:=yo;have qd:=yp;have qe:=yu;have HB:=yv;have qf:=zk;have GW388:=yt;have yj:=n11_;have zd:=n12_;have vi:=n13_;have zg:=n14_;have vj:=n15_;have zh:=n16_;have vk:=n17_;clear qz ya yb yi yn yo yp yu yv zk yt n11_ n12_ n13_ n14_ n15_ n16_ n17_;clear hb hbox hg;have hnb50:=vi.out;have hnc50:=zd.out;have hnb51:=vj.out;have hnc51:=zg.out;have hnb52:=vk.out;have hnc52:=zh.out;have hcz53_0:w49.cell? ⟨qn,0,none⟩=some (.int .i64 0):=(Ni qf.out 0).trans rfl;have hcz53_1:w49.cell? ⟨qn,1,none⟩=some (.int .i64 0):=(Ni qf.out 1).trans rfl;have hcz53_2:w49.cell? ⟨qn,2,none⟩=some (.slice none 0 0):=(Ni qf.out 2).trans rfl;have hfz53_0:=Ns qf.out 0;have hfz53_1:=Ns qf.out 1;have hfz53_2:=Ns qf.out 2;obtain⟨yg,yf,eo54⟩:=Nx zm.out;subst eo54;have hcz55_0:w49.cell? ⟨qm,0,none⟩=some (.int .i64 qv):=(Ni qe.out 0).trans rfl;have hcz55_1:w49.cell? ⟨qm,1,none⟩=some (.int .i64 qw):=(Ni qe.out 1).trans rfl;have hcz55_2:w49.cell? ⟨qm,2,none⟩=some (.slice ye qt.length yd):=(Ni qe.out 2).trans rfl;have hfz55_0:=Ns qe.out 0;have hfz55_1:=Ns qe.out 1;have hfz55_2:=Ns qe.out 2)|((with_reducible refine Nz (f:=42) rfl ?_);refine goesL_ (some 46) rfl rfl Try.func42 (by kernel_rfl) rfl #[.agg #[.int .i64 qv,.int .i64 qw,.slice ye qt.length yd],.agg #[.int .i64 qx,.int .i64 qy,.slice yg qu.length yf],.int .i64 a2] rfl (by(try simp only [List.map_toArray,List.map_cons,List.map_nil]);first|done|rfl|(simp only [List.length_drop,List.length_take];rfl)) ?_;(with_reducible refine(impl_Encode.calls k qv qw _ _ qt qx qy _ _ qu a2 qr yy _ ?side1 ?side2 ?side3 ?side4 A25.out).mono ?_);(case side1=>refine(Nn (e:=2) (base:=w.heap.size) (ok:=fun k_=>(((True∧some k_≠(.slice Ao37 t365.length co37:Value).ownBlock)∧some k_≠(.slice Ao38 t370.length co38:Value).ownBlock)∧some k_≠(.slice yg qu.length yf:Value).ownBlock)) (n:=qt.length) (c:=yd) ?_).2.2;exact(by(with_reducible repeat(first|apply Ng|apply Nh|apply Nc));exact(Np (Nr (p:=⟨qn,2,none⟩) (Nr (p:=⟨qn,1,none⟩) (Nr (p:=⟨qn,0,none⟩) (Kd.R_types yr.out qf.out (by decide)) (fun _ hk=>hk.2) (.int .i64 qx)) (fun _ hk=>hk.2) (.int .i64 qy)) (fun _ hk=>hk.2) (.slice yg qu.length yf)) (fun _ h_=>h_.1))));(case side2=>exact(Nn yr.out).2.1);(case side3=>refine(Nn (e:=2) (base:=w.heap.size) (ok:=fun k_=>(((True∧some k_≠(.slice Ao37 t365.length co37:Value).ownBlock)∧some k_≠(.slice Ao38 t370.length co38:Value).ownBlock)∧some k_≠(.slice ye qt.length yd:Value).ownBlock)) (n:=qu.length) (c:=yf) ?_).2.2;exact(by(with_reducible repeat(first|apply Ng|apply Nh|apply Nc));exact(Np (Nr (p:=⟨qn,2,none⟩) (Nr (p:=⟨qn,1,none⟩) (Nr (p:=⟨qn,0,none⟩) (Kd.R_types zm.out qf.out (by decide)) (fun _ hk=>hk.2) (.int .i64 qx)) (fun _ hk=>hk.2) (.int .i64 qy)) (fun _ hk=>hk.2) (.slice yg qu.length yf)) (fun _ h_=>h_.1))));(case side4=>exact(Nn zm.out).2.1);rintro e w56 ⟨v390,rfl,yx,hb⟩;refine⟨_,rfl,?_⟩;have qz:=Na (Nq (by(with_reducible repeat(first|apply Ng|apply Nh|apply Nc));exact(Np (Nr (p:=⟨qn,2,none⟩) (Nr (p:=⟨qn,1,none⟩) (Nr (p:=⟨qn,0,none⟩) (Kd.R_types yh.out qf.out (by decide)) (fun _ hk=>hk.2) (.int .i64 qx)) (fun _ hk=>hk.2) (.int .i64 qy)) (fun _ hk=>hk.2) (.slice yg qu.length yf)) (fun _ h_=>h_.1))) hb);have ya:=Na (Nq (by(with_reducible repeat(first|apply Ng|apply Nh|apply Nc));exact(Np (Nr (p:=⟨qn,2,none⟩) (Nr (p:=⟨qn,1,none⟩) (Nr (p:=⟨qn,0,none⟩) (Kd.R_types yl.out qf.out (by decide)) (fun _ hk=>hk.2) (.int .i64 qx)) (fun _ hk=>hk.2) (.int .i64 qy)) (fun _ hk=>hk.2) (.slice yg qu.length yf)) (fun _ h_=>h_.1))) hb);have yb:=Na (Ny (by(with_reducible repeat(first|apply Ng|apply Nh|apply Nc));exact(Np (Nr (p:=⟨qn,2,none⟩) (Nr (p:=⟨qn,1,none⟩) (Nr (p:=⟨qn,0,none⟩) (Kd.R_types yk.out qf.out (by decide)) (fun _ hk=>hk.2) (.int .i64 qx)) (fun _ hk=>hk.2) (.int .i64 qy)) (fun _ hk=>hk.2) (.slice yg qu.length yf)) (fun _ h_=>h_.1))) (Kd.R_base yx) hb);have yi:=Na (Nq (by(with_reducible repeat(first|apply Ng|apply Nh|apply Nc));exact(Np (Nr (p:=⟨qn,2,none⟩) (Nr (p:=⟨qn,1,none⟩) (Nr (p:=⟨qn,0,none⟩) (Kd.R_types yr.out qf.out (by decide)) (fun _ hk=>hk.2) (.int .i64 qx)) (fun _ hk=>hk.2) (.int .i64 qy)) (fun _ hk=>hk.2) (.slice yg qu.length yf)) (fun _ h_=>h_.1))) hb);have yn:=Na (Nq (by(with_reducible repeat(first|apply Ng|apply Nh|apply Nc));exact(Np (Nr (p:=⟨qn,2,none⟩) (Nr (p:=⟨qn,1,none⟩) (Nr (p:=⟨qn,0,none⟩) (Kd.R_types zm.out qf.out (by decide)) (fun _ hk=>hk.2) (.int .i64 qx)) (fun _ hk=>hk.2) (.int .i64 qy)) (fun _ hk=>hk.2) (.slice yg qu.length yf)) (fun _ h_=>h_.1))) hb);have yo:=Na (Kd.R_lower (Kd.R_new' yx (Kd.R_lt (by(with_reducible repeat(first|apply Ng|apply Nh|apply Nc));exact(Np (Nr (p:=⟨qn,2,none⟩) (Nr (p:=⟨qn,1,none⟩) (Nr (p:=⟨qn,0,none⟩) (Kd.R_types yk.out qf.out (by decide)) (fun _ hk=>hk.2) (.int .i64 qx)) (fun _ hk=>hk.2) (.int .i64 qy)) (fun _ hk=>hk.2) (.slice yg qu.length yf)) (fun _ h_=>h_.1))))) (Nv (by repeat(first|(with_reducible first|exact HB.out|apply Nl|apply Nj|apply Nk|refine Nd ?_ ql.out|refine Nd ?_ qo.out|refine Nd ?_ yc.out|refine Nd ?_ yj.out)|exact HB.out))));have yp:=Na (No (g:=qh) (o:=.cells #[.int .i64 a0_0,.int .i64 a0_1,.slice A0_2 l0_2.length c0_2] 24 (0,0)) (by(with_reducible repeat(first|refine Nf ?_ _|refine Nb ?_|refine Ne ?_ _));refine blk_far ?_ zd.out _;(with_reducible repeat(first|refine Nf ?_ _|refine Nb ?_|refine Ne ?_ _));refine blk_far ?_ zd.out _;(with_reducible repeat(first|refine Nf ?_ _|refine Nb ?_|refine Ne ?_ _));refine blk_far ?_ zd.out _;(with_reducible repeat(first|refine Nf ?_ _|refine Nb ?_|refine Ne ?_ _));exact qa.out) hb);have yu:=Na (No (g:=qk) (o:=.cells #[.int .i64 a1_0,.int .i64 a1_1,.slice A1_2 l1_2.length c1_2] 24 (0,0)) (by(with_reducible repeat(first|refine Nf ?_ _|refine Nb ?_|refine Ne ?_ _));refine blk_far ?_ zg.out _;(with_reducible repeat(first|refine Nf ?_ _|refine Nb ?_|refine Ne ?_ _));refine blk_far ?_ zg.out _;(with_reducible repeat(first|refine Nf ?_ _|refine Nb ?_|refine Ne ?_ _));refine blk_far ?_ zg.out _;(with_reducible repeat(first|refine Nf ?_ _|refine Nb ?_|refine Ne ?_ _));exact qd.out) hb);have yv:=Na (No (g:=qm) (o:=.cells #[.int .i64 qv,.int .i64 qw,.slice ye qt.length yd] 27 (0,0)) (by(with_reducible repeat(first|refine Nf ?_ _|refine Nb ?_|refine Ne ?_ _));refine blk_far ?_ zh.out _;(with_reducible repeat(first|refine Nf ?_ _|refine Nb ?_|refine Ne ?_ _));refine blk_far ?_ zh.out _;(with_reducible repeat(first|refine Nf ?_ _|refine Nb ?_|refine Ne ?_ _));refine blk_far ?_ zh.out _;(with_reducible repeat(first|refine Nf ?_ _|refine Nb ?_|refine Ne ?_ _));exact qe.out) hb);have zk:=Na (No (g:=qn) (o:=.cells #[.int .i64 qx,.int .i64 qy,.slice yg qu.length yf] 27 (0,0)) (by(with_reducible repeat(first|refine Nf ?_ _|refine Nb ?_|refine Ne ?_ _));refine blk_put (cs:=#[.int .i64 qx,.int .i64 qy,.slice none 0 0]) ?_ 2 _ rfl;(with_reducible repeat(first|refine Nf ?_ _|refine Nb ?_|refine Ne ?_ _));refine blk_put (cs:=#[.int .i64 qx,.int .i64 0,.slice none 0 0]) ?_ 1 _ rfl;(with_reducible repeat(first|refine Nf ?_ _|refine Nb ?_|refine Ne ?_ _));refine blk_put (cs:=#[.int .i64 0,.int .i64 0,.slice none 0 0]) ?_ 0 _ rfl;(with_reducible repeat(first|refine Nf ?_ _|refine Nb ?_|refine Ne ?_ _));exact qf.out) hb);have yt:=Na (Nw (by repeat(first|(with_reducible first|exact HB.out|apply Nl|apply Nj|apply Nk|refine Nd ?_ ql.out|refine Nd ?_ qo.out|refine Nd ?_ yc.out|refine Nd ?_ yj.out)|exact HB.out)) hb);clear yh;clear yl;clear yk;clear yr;clear zm;clear qa;clear qd;clear qe;clear qf;clear HB;have yh:=qz;have yl:=ya;have yk:=yb;have yr:=yi;have zm:=yn;have zx:=yo;have qa:=yp;have qd:=yu;have qe:=yv;have qf:=zk;have HB:=yt;clear qz ya yb yi yn yo yp yu yv zk yt;(try clear hb);(try clear hb2);(try clear hk);(try clear hi);(try clear yx)))
   (try simp only [Act.put,List.setIfInBounds_toArray,List.set_cons_zero,List.set_cons_succ])
   go_cut [57] (fun v57 wc=>∃ (kq:Nat) (x57_25:Bool),v57=.bool x57_25∧Aside0 (laws_FnExactEncode.j0 kq a2 qp qq qr yy x57_25 a0_0 a0_1 l0_2 a1_0 a1_1 l1_2 qv qw qt qx qy qu=some true)∧Aside0 (kq≤k)∧Aside0 (Kd.R (Kd.int .u8) 5 wc w.heap.size (fun k_=>some k_≠(v390:Value).ownBlock) v374 qp)∧Aside0 (Kd.R (Kd.int .u8) 5 wc w.heap.size (fun k_=>some k_≠(v374:Value).ownBlock) v390 qr)∧Aside0 (Kd.R (Kd.int .i64) 2 wc w.heap.size (fun k_=>some k_≠((.slice yg qu.length yf):Value).ownBlock) (.slice ye qt.length yd) qt)∧Aside0 (Kd.R (Kd.int .i64) 2 wc w.heap.size (fun k_=>some k_≠((.slice ye qt.length yd):Value).ownBlock) (.slice yg qu.length yf) qu)∧Aside0 (wc.heap[qh]? = some (.cells #[.int .i64 a0_0,.int .i64 a0_1,(.slice A0_2 l0_2.length c0_2)] 24 (0,0)))∧Aside0 (wc.heap[qk]? = some (.cells #[.int .i64 a1_0,.int .i64 a1_1,(.slice A1_2 l1_2.length c1_2)] 24 (0,0)))∧Aside0 (wc.heap[qm]? = some (.cells #[.int .i64 qv,.int .i64 qw,(.slice ye qt.length yd)] 27 (0,0)))∧Aside0 (wc.heap[qn]? = some (.cells #[.int .i64 qx,.int .i64 qy,(.slice yg qu.length yf)] 27 (0,0)))∧Aside0 (Below w.heap.size w wc))
   case first=>
    have H:=HC26.out
    clear HC26
    replace H:=Option.bind_eq_some_iff.mp H
    obtain⟨yz,A570,H⟩:=H
    replace H:(if yz=true then (laws_FnExactEncode.j0 k a2 qp qq qr yy (yy != qq) a0_0 a0_1 l0_2 a1_0 a1_1 l1_2 qv qw qt qx qy qu) else (laws_FnExactEncode.j0 k a2 qp qq qr yy true a0_0 a0_1 l0_2 a1_0 a1_1 l1_2 qv qw qt qx qy qu))=some true:=H
    have A57:=Na A570
    clear A570
    by_cases c58:yz=true
    ·subst c58
     have H1:(laws_FnExactEncode.j0 k a2 qp qq qr yy (yy != qq) a0_0 a0_1 l0_2 a1_0 a1_1 l1_2 qv qw qt qx qy qu)=some true:=by rw [if_pos rfl] at H;exact H
     clear H
     have H:=H1
     clear H1
     have H':=Na H
     clear H
     obtain⟨Ao59,co59,eo59⟩:=Nx zx.out
     subst eo59
     obtain⟨Ao60,co60,eo60⟩:=Nx yk.out
     subst eo60
     go_wp2_with (first|((with_reducible refine Nz (f:=37) rfl ?_);refine goesL_ (some 51) rfl rfl Try.func37 (by kernel_rfl) rfl #[.slice Ao59 qr.length co59,.slice Ao60 qp.length co60] rfl (by(try simp only [List.map_toArray,List.map_cons,List.map_nil]);first|done|rfl|(simp only [List.length_drop,List.length_take];rfl)) ?_;(with_reducible refine(laws_eqByteS.calls k _ _ qr _ _ qp true _ ?side1 ?side2 ?side3 ?side4 A57.out).mono ?_);(case side1=>repeat(first|exact(Nn zx.out).2.2|(with_reducible refine Nt ?_ _)|(with_reducible refine Nu ?_ _)|(with_reducible refine Nm ?_)));(case side2=>exact(Nn zx.out).2.1);(case side3=>repeat(first|exact(Nn yk.out).2.2|(with_reducible refine Nt ?_ _)|(with_reducible refine Nu ?_ _)|(with_reducible refine Nm ?_)));(case side4=>exact(Nn yk.out).2.1);rintro e w' ⟨rfl,⟨nd,rfl⟩⟩;refine⟨_,rfl,?_⟩))
     go_meet
     case rel=>exact⟨_,((yy != qq)),(by first|rfl|(simp;done)|(simp [*];done)),H',⟨by first|omega|exact Nat.le_refl _⟩,⟨by(with_reducible repeat(first|apply Ng|apply Nh|apply Nc));exact Np yk.out (fun _ hk=>hk.2)⟩,⟨by(with_reducible repeat(first|apply Ng|apply Nh|apply Nc));exact Np zx.out (fun _ hk=>hk.2)⟩,⟨by(with_reducible repeat(first|apply Ng|apply Nh|apply Nc));exact Np yr.out (fun _ hk=>hk.2)⟩,⟨by(with_reducible repeat(first|apply Ng|apply Nh|apply Nc));exact Np zm.out (fun _ hk=>hk.2)⟩,⟨by(with_reducible repeat(first|refine Nf ?_ _|refine Nb ?_|refine Ne ?_ _));exact qa.out⟩,⟨by(with_reducible repeat(first|refine Nf ?_ _|refine Nb ?_|refine Ne ?_ _));exact qd.out⟩,⟨by(with_reducible repeat(first|refine Nf ?_ _|refine Nb ?_|refine Ne ?_ _));exact qe.out⟩,⟨by(with_reducible repeat(first|refine Nf ?_ _|refine Nb ?_|refine Ne ?_ _));exact qf.out⟩,⟨by repeat(first|(with_reducible first|exact HB.out|apply Nl|apply Nj|apply Nk|refine Nd ?_ ql.out|refine Nd ?_ qo.out|refine Nd ?_ yc.out|refine Nd ?_ yj.out)|exact HB.out)⟩⟩
    ·replace c58:=Bool.eq_false_iff.mpr c58
     subst c58
     have H1:(laws_FnExactEncode.j0 k a2 qp qq qr yy true a0_0 a0_1 l0_2 a1_0 a1_1 l1_2 qv qw qt qx qy qu)=some true:=by rw [if_neg (show ¬ (false=true) by decide)] at H;exact H
     clear H
     have H:=H1
     clear H1
     have H':=Na H
     clear H
     obtain⟨Ao61,co61,eo61⟩:=Nx zx.out
     subst eo61
     obtain⟨Ao62,co62,eo62⟩:=Nx yk.out
     subst eo62
     go_wp2_with (first|((with_reducible refine Nz (f:=37) rfl ?_);refine goesL_ (some 51) rfl rfl Try.func37 (by kernel_rfl) rfl #[.slice Ao61 qr.length co61,.slice Ao62 qp.length co62] rfl (by(try simp only [List.map_toArray,List.map_cons,List.map_nil]);first|done|rfl|(simp only [List.length_drop,List.length_take];rfl)) ?_;(with_reducible refine(laws_eqByteS.calls k _ _ qr _ _ qp false _ ?side1 ?side2 ?side3 ?side4 A57.out).mono ?_);(case side1=>repeat(first|exact(Nn zx.out).2.2|(with_reducible refine Nt ?_ _)|(with_reducible refine Nu ?_ _)|(with_reducible refine Nm ?_)));(case side2=>exact(Nn zx.out).2.1);(case side3=>repeat(first|exact(Nn yk.out).2.2|(with_reducible refine Nt ?_ _)|(with_reducible refine Nu ?_ _)|(with_reducible refine Nm ?_)));(case side4=>exact(Nn yk.out).2.1);rintro e w' ⟨rfl,⟨nd,rfl⟩⟩;refine⟨_,rfl,?_⟩))
     go_meet
     case rel=>exact⟨_,(true),(by first|rfl|(simp;done)|(simp [*];done)),H',⟨by first|omega|exact Nat.le_refl _⟩,⟨by(with_reducible repeat(first|apply Ng|apply Nh|apply Nc));exact Np yk.out (fun _ hk=>hk.2)⟩,⟨by(with_reducible repeat(first|apply Ng|apply Nh|apply Nc));exact Np zx.out (fun _ hk=>hk.2)⟩,⟨by(with_reducible repeat(first|apply Ng|apply Nh|apply Nc));exact Np yr.out (fun _ hk=>hk.2)⟩,⟨by(with_reducible repeat(first|apply Ng|apply Nh|apply Nc));exact Np zm.out (fun _ hk=>hk.2)⟩,⟨by(with_reducible repeat(first|refine Nf ?_ _|refine Nb ?_|refine Ne ?_ _));exact qa.out⟩,⟨by(with_reducible repeat(first|refine Nf ?_ _|refine Nb ?_|refine Ne ?_ _));exact qd.out⟩,⟨by(with_reducible repeat(first|refine Nf ?_ _|refine Nb ?_|refine Ne ?_ _));exact qe.out⟩,⟨by(with_reducible repeat(first|refine Nf ?_ _|refine Nb ?_|refine Ne ?_ _));exact qf.out⟩,⟨by repeat(first|(with_reducible first|exact HB.out|apply Nl|apply Nj|apply Nk|refine Nd ?_ ql.out|refine Nd ?_ qo.out|refine Nd ?_ yc.out|refine Nd ?_ yj.out)|exact HB.out)⟩⟩
   case rest=>
    clear HC26
    try clear c1
    try clear c2
    try clear p2
    try clear c3
    try clear c4
    try clear c5
    try clear c5b0
    try clear c8
    try clear c11
    try clear c12
    try clear c12b0
    try clear c14
    try clear c15
    try clear c16
    try clear c29
    try clear c37
    try clear c41
    try clear c42
    try clear c43
    try clear c44
    try clear c50
    try clear c51
    try clear c52
    try clear c58
    try clear hcz16_0
    try clear hcz16_1
    try clear hcz16_2
    try clear hcz18_0
    try clear hcz18_1
    try clear hcz18_2
    try clear hcz30_0
    try clear hcz30_1
    try clear hcz30_2
    try clear hcz32_0
    try clear hcz32_1
    try clear hcz32_2
    try clear hcz40_0
    try clear hcz40_1
    try clear hcz40_2
    try clear hcz45_0
    try clear hcz45_1
    try clear hcz45_2
    try clear hcz47_0
    try clear hcz47_1
    try clear hcz47_2
    try clear hcz53_0
    try clear hcz53_1
    try clear hcz53_2
    try clear hcz55_0
    try clear hcz55_1
    try clear hcz55_2
    try clear hcz9_0
    try clear hcz9_1
    try clear hcz9_2
    try clear hfz16_0
    try clear hfz16_1
    try clear hfz16_2
    try clear hfz18_0
    try clear hfz18_1
    try clear hfz18_2
    try clear hfz30_0
    try clear hfz30_1
    try clear hfz30_2
    try clear hfz32_0
    try clear hfz32_1
    try clear hfz32_2
    try clear hfz40_0
    try clear hfz40_1
    try clear hfz40_2
    try clear hfz45_0
    try clear hfz45_1
    try clear hfz45_2
    try clear hfz47_0
    try clear hfz47_1
    try clear hfz47_2
    try clear hfz53_0
    try clear hfz53_1
    try clear hfz53_2
    try clear hfz55_0
    try clear hfz55_1
    try clear hfz55_2
    try clear hfz9_0
    try clear hfz9_1
    try clear hfz9_2
    obtain⟨kq,x57_25,rfl,HA,HJ25,qs,qg,qb,qc,qa,qd,qe,qf,HB⟩:=hcut
    cases kq with
    | zero => exact absurd HA.out (by simp [laws_FnExactEncode.j0])
    | succ kj25 =>
     have H:=HA.out
     clear HA
     simp only [laws_FnExactEncode.j0] at H
     by_cases c63:x57_25=true
     ·subst c63
      have H1:(some false)=some true:=by rw [if_pos rfl] at H;exact H
      clear H
      have H:=H1
      clear H1
      exact absurd (Option.some.inj H) Bool.false_ne_true
     ·replace c63:=Bool.eq_false_iff.mpr c63
      subst c63
      have H1:((laws_toPicture.f kj25 a0_0 a0_1 l0_2).bind fun bt394=>((laws_eqPicture.f kj25 qv qw qt bt394.1 bt394.2.1 bt394.2.2).bind fun t399=>(if t399=true then ((laws_toPicture.f kj25 a1_0 a1_1 l1_2).bind fun bt400=>((laws_eqPicture.f kj25 qx qy qu bt400.1 bt400.2.1 bt400.2.2).bind fun zs=>(if zs=true then ((laws_markPicture.f kj25 qv qw qt 1).bind fun bt406=>((laws_markPicture.f kj25 qx qy qu bt406.1).bind fun bt408=>(if bt408.1 < 0 then (laws_FnExactEncode.j1 kj25 a2 qp qq qr true a0_0 a0_1 l0_2 a1_0 a1_1 l1_2) else ((laws_eqByteS.f kj25 qr qp).bind fun za=>(if za=true then (laws_FnExactEncode.j1 kj25 a2 qp qq qr (yy != qq) a0_0 a0_1 l0_2 a1_0 a1_1 l1_2) else (laws_FnExactEncode.j1 kj25 a2 qp qq qr true a0_0 a0_1 l0_2 a1_0 a1_1 l1_2)))))) else (some false)))) else (some false))))=some true:=by rw [if_neg (show ¬ (false=true) by decide)] at H;exact H
      clear H
      have H:=H1
      clear H1
      replace H:=Option.bind_eq_some_iff.mp H
      obtain⟨⟨t394,t395,t396⟩,A640,H⟩:=H
      replace H:((laws_eqPicture.f kj25 qv qw qt t394 t395 t396).bind fun t399=>(if t399=true then ((laws_toPicture.f kj25 a1_0 a1_1 l1_2).bind fun bt400=>((laws_eqPicture.f kj25 qx qy qu bt400.1 bt400.2.1 bt400.2.2).bind fun zs=>(if zs=true then ((laws_markPicture.f kj25 qv qw qt 1).bind fun bt406=>((laws_markPicture.f kj25 qx qy qu bt406.1).bind fun bt408=>(if bt408.1 < 0 then (laws_FnExactEncode.j1 kj25 a2 qp qq qr true a0_0 a0_1 l0_2 a1_0 a1_1 l1_2) else ((laws_eqByteS.f kj25 qr qp).bind fun za=>(if za=true then (laws_FnExactEncode.j1 kj25 a2 qp qq qr (yy != qq) a0_0 a0_1 l0_2 a1_0 a1_1 l1_2) else (laws_FnExactEncode.j1 kj25 a2 qp qq qr true a0_0 a0_1 l0_2 a1_0 a1_1 l1_2)))))) else (some false)))) else (some false)))=some true:=H
      have A64:=Na A640
      clear A640
      replace H:=Option.bind_eq_some_iff.mp H
      obtain⟨t399,A650,H⟩:=H
      replace H:(if t399=true then ((laws_toPicture.f kj25 a1_0 a1_1 l1_2).bind fun bt400=>((laws_eqPicture.f kj25 qx qy qu bt400.1 bt400.2.1 bt400.2.2).bind fun zs=>(if zs=true then ((laws_markPicture.f kj25 qv qw qt 1).bind fun bt406=>((laws_markPicture.f kj25 qx qy qu bt406.1).bind fun bt408=>(if bt408.1 < 0 then (laws_FnExactEncode.j1 kj25 a2 qp qq qr true a0_0 a0_1 l0_2 a1_0 a1_1 l1_2) else ((laws_eqByteS.f kj25 qr qp).bind fun za=>(if za=true then (laws_FnExactEncode.j1 kj25 a2 qp qq qr (yy != qq) a0_0 a0_1 l0_2 a1_0 a1_1 l1_2) else (laws_FnExactEncode.j1 kj25 a2 qp qq qr true a0_0 a0_1 l0_2 a1_0 a1_1 l1_2)))))) else (some false)))) else (some false))=some true:=H
      have A65:=Na A650
      clear A650
      by_cases c66:t399=true
      ·subst c66
       have H1:((laws_toPicture.f kj25 a1_0 a1_1 l1_2).bind fun bt400=>((laws_eqPicture.f kj25 qx qy qu bt400.1 bt400.2.1 bt400.2.2).bind fun zs=>(if zs=true then ((laws_markPicture.f kj25 qv qw qt 1).bind fun bt406=>((laws_markPicture.f kj25 qx qy qu bt406.1).bind fun bt408=>(if bt408.1 < 0 then (laws_FnExactEncode.j1 kj25 a2 qp qq qr true a0_0 a0_1 l0_2 a1_0 a1_1 l1_2) else ((laws_eqByteS.f kj25 qr qp).bind fun za=>(if za=true then (laws_FnExactEncode.j1 kj25 a2 qp qq qr (yy != qq) a0_0 a0_1 l0_2 a1_0 a1_1 l1_2) else (laws_FnExactEncode.j1 kj25 a2 qp qq qr true a0_0 a0_1 l0_2 a1_0 a1_1 l1_2)))))) else (some false))))=some true:=by rw [if_pos rfl] at H;exact H
       clear H
       have H:=H1
       clear H1
       replace H:=Option.bind_eq_some_iff.mp H
       obtain⟨⟨t400,t401,t402⟩,A670,H⟩:=H
       replace H:((laws_eqPicture.f kj25 qx qy qu t400 t401 t402).bind fun zs=>(if zs=true then ((laws_markPicture.f kj25 qv qw qt 1).bind fun bt406=>((laws_markPicture.f kj25 qx qy qu bt406.1).bind fun bt408=>(if bt408.1 < 0 then (laws_FnExactEncode.j1 kj25 a2 qp qq qr true a0_0 a0_1 l0_2 a1_0 a1_1 l1_2) else ((laws_eqByteS.f kj25 qr qp).bind fun za=>(if za=true then (laws_FnExactEncode.j1 kj25 a2 qp qq qr (yy != qq) a0_0 a0_1 l0_2 a1_0 a1_1 l1_2) else (laws_FnExactEncode.j1 kj25 a2 qp qq qr true a0_0 a0_1 l0_2 a1_0 a1_1 l1_2)))))) else (some false)))=some true:=H
       have A67:=Na A670
       clear A670
       replace H:=Option.bind_eq_some_iff.mp H
       obtain⟨zs,A680,H⟩:=H
       replace H:(if zs=true then ((laws_markPicture.f kj25 qv qw qt 1).bind fun bt406=>((laws_markPicture.f kj25 qx qy qu bt406.1).bind fun bt408=>(if bt408.1 < 0 then (laws_FnExactEncode.j1 kj25 a2 qp qq qr true a0_0 a0_1 l0_2 a1_0 a1_1 l1_2) else ((laws_eqByteS.f kj25 qr qp).bind fun za=>(if za=true then (laws_FnExactEncode.j1 kj25 a2 qp qq qr (yy != qq) a0_0 a0_1 l0_2 a1_0 a1_1 l1_2) else (laws_FnExactEncode.j1 kj25 a2 qp qq qr true a0_0 a0_1 l0_2 a1_0 a1_1 l1_2)))))) else (some false))=some true:=H
       have A68:=Na A680
       clear A680
       by_cases c69:zs=true
       ·subst c69
        have H1:((laws_markPicture.f kj25 qv qw qt 1).bind fun bt406=>((laws_markPicture.f kj25 qx qy qu bt406.1).bind fun bt408=>(if bt408.1 < 0 then (laws_FnExactEncode.j1 kj25 a2 qp qq qr true a0_0 a0_1 l0_2 a1_0 a1_1 l1_2) else ((laws_eqByteS.f kj25 qr qp).bind fun za=>(if za=true then (laws_FnExactEncode.j1 kj25 a2 qp qq qr (yy != qq) a0_0 a0_1 l0_2 a1_0 a1_1 l1_2) else (laws_FnExactEncode.j1 kj25 a2 qp qq qr true a0_0 a0_1 l0_2 a1_0 a1_1 l1_2))))))=some true:=by rw [if_pos rfl] at H;exact H
        clear H
        have H:=H1
        clear H1
        replace H:=Option.bind_eq_some_iff.mp H
        obtain⟨⟨t406,zt⟩,A700,H⟩:=H
        replace H:((laws_markPicture.f kj25 qx qy qu t406).bind fun bt408=>(if bt408.1 < 0 then (laws_FnExactEncode.j1 kj25 a2 qp qq qr true a0_0 a0_1 l0_2 a1_0 a1_1 l1_2) else ((laws_eqByteS.f kj25 qr qp).bind fun za=>(if za=true then (laws_FnExactEncode.j1 kj25 a2 qp qq qr (yy != qq) a0_0 a0_1 l0_2 a1_0 a1_1 l1_2) else (laws_FnExactEncode.j1 kj25 a2 qp qq qr true a0_0 a0_1 l0_2 a1_0 a1_1 l1_2)))))=some true:=H
        have A70:=Na A700
        clear A700
        replace H:=Option.bind_eq_some_iff.mp H
        obtain⟨⟨t408,zu⟩,A710,H⟩:=H
        replace H:(if t408 < 0 then (laws_FnExactEncode.j1 kj25 a2 qp qq qr true a0_0 a0_1 l0_2 a1_0 a1_1 l1_2) else ((laws_eqByteS.f kj25 qr qp).bind fun za=>(if za=true then (laws_FnExactEncode.j1 kj25 a2 qp qq qr (yy != qq) a0_0 a0_1 l0_2 a1_0 a1_1 l1_2) else (laws_FnExactEncode.j1 kj25 a2 qp qq qr true a0_0 a0_1 l0_2 a1_0 a1_1 l1_2))))=some true:=H
        have A71:=Na A710
        clear A710
        have HC72:=Na H
        clear H
        try go_wp2
        have qz:=Na (Nc qs.out)
        have ya:=Na (Nc qg.out)
        have yb:=Na (Nc qb.out)
        have yi:=Na (Nc qc.out)
        have yn:=Na (Nb qa.out)
        have yo:=Na (Nb qd.out)
        have yp:=Na (Nb qe.out)
        have yu:=Na (Nb qf.out)
        have yv:=Na (Nk HB.out)
        clear qs
        clear qg
        clear qb
        clear qc
        clear qa
        clear qd
        clear qe
        clear qf
        clear HB
        have qs:=qz
        have qg:=ya
        have qb:=yb
        have qc:=yi
        have qa:=yn
        have qd:=yo
        have qe:=yp
        have qf:=yu
        have HB:=yv
        clear qz ya yb yi yn yo yp yu yv
        refine start_ (n:=5) (S:=fun w'=>w'.cell? ⟨qm,0,none⟩=some (.int .i64 qv)∧w'.cell? ⟨qm,1,none⟩=some (.int .i64 qw)∧w'.cell? ⟨qm,2,none⟩=some (.slice ye qt.length yd)∧w'.cell? ⟨qh,0,none⟩=some (.int .i64 a0_0)∧w'.cell? ⟨qh,1,none⟩=some (.int .i64 a0_1)∧w'.cell? ⟨qh,2,none⟩=some (.slice A0_2 l0_2.length c0_2)) (ds:=[]) #[false,false,false,false,false] (by kernel_rfl) rfl rfl ⟨(Ni qe.out 0).trans rfl,(Ni qe.out 1).trans rfl,(Ni qe.out 2).trans rfl,(Ni qa.out 0).trans rfl,(Ni qa.out 1).trans rfl,(Ni qa.out 2).trans rfl⟩ (fun hHeld=>?_)
        generalize wc.drew=w73 at qs qg qb qc qa qd qe qf HB hHeld ⊢
        refine take_ (i:=0) (N:=some 58) (v:=?_) (a':=?_) #[true,false,false,false,false] rfl rfl (by kernel_rfl) (fun _ _ _ h=>h) (Or.inl ⟨by rfl,?_⟩) hHeld ?_ ?_
        rotate_left
        ·rintro w' ⟨s0,s1,s2,s3,s4,s5⟩
         go_simp
         with_reducible rfl
        rotate_left
        ·simp only [Act.put,List.setIfInBounds_toArray,List.set_cons_zero,List.set_cons_succ,i64_w,i32_w]
         rfl
        refine take_ (i:=1) (N:=some 59) (v:=?_) (a':=?_) #[true,true,false,false,false] rfl rfl (by kernel_rfl) (fun _ _ _ h=>h) (Or.inl ⟨by rfl,?_⟩) hHeld ?_ ?_
        rotate_left
        ·rintro w' ⟨s0,s1,s2,s3,s4,s5⟩
         go_simp
         with_reducible rfl
        rotate_left
        ·simp only [Act.put,List.setIfInBounds_toArray,List.set_cons_zero,List.set_cons_succ,i64_w,i32_w]
         rfl
        refine one_ (i:=2) (N:=some 60) #[true,true,true,false,false] rfl rfl (by kernel_rfl) (by decide) (fun K hK=>?_)
        refine goes_ Try.func16 (by kernel_rfl) rfl #[.agg #[.int .i64 a0_0,.int .i64 a0_1,.slice A0_2 l0_2.length c0_2]] (by rfl) rfl rfl (by(try simp only [List.map_toArray,List.map_cons,List.map_nil]);first|done|rfl|(simp only [List.length_drop,List.length_take];rfl)) ?_
        with_reducible refine(laws_toPicture.calls kj25 a0_0 a0_1 _ _ l0_2 t394 t395 t396 _ ?side1 ?side2 A64.out).mono ?_
        (case side1=>repeat(first|exact(Kd.C_below va.out HB.out)|(with_reducible refine Nt ?_ _)|(with_reducible refine Nu ?_ _)|(with_reducible refine Nm ?_)))
        (case side2=>exact zz.out)
        rintro e w74 ⟨v397,rfl,yx,hb⟩
        refine⟨_,rfl,?_⟩
        have qz:=Na (Nq (by(with_reducible repeat(first|apply Ng|apply Nh|apply Nc));exact qs.out) hb)
        have ya:=Na (Nq (by(with_reducible repeat(first|apply Ng|apply Nh|apply Nc));exact qg.out) hb)
        have yb:=Na (Ny (by(with_reducible repeat(first|apply Ng|apply Nh|apply Nc));exact qb.out) (Kd.R_base yx) hb)
        have yi:=Na (Ny (by(with_reducible repeat(first|apply Ng|apply Nh|apply Nc));exact qc.out) (Kd.R_base yx) hb)
        have yn:=Na (Kd.R_lower (Kd.R_new' (Kd.R_new' yx (Kd.R_lt (by(with_reducible repeat(first|apply Ng|apply Nh|apply Nc));exact qb.out))) (Kd.R_lt (by(with_reducible repeat(first|apply Ng|apply Nh|apply Nc));exact qc.out))) (Nv (by repeat(first|(with_reducible first|exact HB.out|apply Nl|apply Nj|apply Nk|refine Nd ?_ ql.out|refine Nd ?_ qo.out|refine Nd ?_ yc.out|refine Nd ?_ yj.out)|exact HB.out))))
        have yo:=Na (No (g:=qh) (o:=.cells #[.int .i64 a0_0,.int .i64 a0_1,.slice A0_2 l0_2.length c0_2] 24 (0,0)) (by(with_reducible repeat(first|refine Nf ?_ _|refine Nb ?_|refine Ne ?_ _));exact qa.out) hb)
        have yp:=Na (No (g:=qk) (o:=.cells #[.int .i64 a1_0,.int .i64 a1_1,.slice A1_2 l1_2.length c1_2] 24 (0,0)) (by(with_reducible repeat(first|refine Nf ?_ _|refine Nb ?_|refine Ne ?_ _));exact qd.out) hb)
        have yu:=Na (No (g:=qm) (o:=.cells #[.int .i64 qv,.int .i64 qw,.slice ye qt.length yd] 27 (0,0)) (by(with_reducible repeat(first|refine Nf ?_ _|refine Nb ?_|refine Ne ?_ _));exact qe.out) hb)
        have yv:=Na (No (g:=qn) (o:=.cells #[.int .i64 qx,.int .i64 qy,.slice yg qu.length yf] 27 (0,0)) (by(with_reducible repeat(first|refine Nf ?_ _|refine Nb ?_|refine Ne ?_ _));exact qf.out) hb)
        have zk:=Na (Nw (by repeat(first|(with_reducible first|exact HB.out|apply Nl|apply Nj|apply Nk|refine Nd ?_ ql.out|refine Nd ?_ qo.out|refine Nd ?_ yc.out|refine Nd ?_ yj.out)|exact HB.out)) hb)
        clear qs
        clear qg
        clear qb
        clear qc
        clear qa
        clear qd
        clear qe
        clear qf
        clear HB
        have qs:=qz
        have qg:=ya
        have qb:=yb
        have qc:=yi
        have ym:=yn
        have qa:=yo
        have qd:=yp
        have qe:=yu
        have qf:=yv
        have HB:=zk
        clear qz ya yb yi yn yo yp yu yv zk
        (try clear hb)
        (try clear hb2)
        (try clear hk)
        (try clear hi)
        (try clear yx)
        obtain⟨Ao75,co75,eo75⟩:=Nx ym.out
        (first|subst eo75|(injection eo75 with f1_ f2_ f3_;have f4_:=f1_.symm;have f5_:=f3_.symm;clear f1_ f2_ f3_;subst f4_;subst f5_))
        refine hK.out _ _ ⟨(Ni qe.out 0).trans rfl,(Ni qe.out 1).trans rfl,(Ni qe.out 2).trans rfl,(Ni qa.out 0).trans rfl,(Ni qa.out 1).trans rfl,(Ni qa.out 2).trans rfl⟩ (fun hHeld=>?_)
        clear hK K
        refine norm_ (a':=?_) ?_ ?_
        rotate_left
        ·show Act.put _ (some 60) _=_
         simp only [Act.put,List.setIfInBounds_toArray,List.set_cons_zero,List.set_cons_succ,i64_w,i32_w]
         rfl
        refine one_ (i:=3) (N:=some 61) #[true,true,true,true,false] rfl rfl (by kernel_rfl) (by decide) (fun K hK=>?_)
        refine goes_ Try.func18 (by kernel_rfl) rfl #[.agg #[.int .i64 qv,.int .i64 qw,.slice ye qt.length yd],.agg #[.int .i64 t394,.int .i64 t395,.slice Ao75 t396.length co75]] (by rfl) rfl rfl (by(try simp only [List.map_toArray,List.map_cons,List.map_nil]);first|done|rfl|(simp only [List.length_drop,List.length_take];rfl)) ?_
        with_reducible refine(laws_eqPicture.calls kj25 qv qw _ _ qt t394 t395 _ _ t396 true _ ?side1 ?side2 ?side3 ?side4 A65.out).mono ?_
        (case side1=>repeat(first|exact(Nn qb.out).2.2|(with_reducible refine Nt ?_ _)|(with_reducible refine Nu ?_ _)|(with_reducible refine Nm ?_)))
        (case side2=>exact(Nn qb.out).2.1)
        (case side3=>repeat(first|exact(Nn ym.out).2.2|(with_reducible refine Nt ?_ _)|(with_reducible refine Nu ?_ _)|(with_reducible refine Nm ?_)))
        (case side4=>exact(Nn ym.out).2.1)
        rintro e w76 ⟨rfl,hb⟩
        refine⟨_,rfl,?_⟩
        have qz:=Na (Nq (by(with_reducible repeat(first|apply Ng|apply Nh|apply Nc));exact qs.out) hb)
        have ya:=Na (Nq (by(with_reducible repeat(first|apply Ng|apply Nh|apply Nc));exact qg.out) hb)
        have yb:=Na (Nq (by(with_reducible repeat(first|apply Ng|apply Nh|apply Nc));exact qb.out) hb)
        have yi:=Na (Nq (by(with_reducible repeat(first|apply Ng|apply Nh|apply Nc));exact qc.out) hb)
        have yn:=Na (Nq (by(with_reducible repeat(first|apply Ng|apply Nh|apply Nc));exact ym.out) hb)
        have yo:=Na (No (g:=qh) (o:=.cells #[.int .i64 a0_0,.int .i64 a0_1,.slice A0_2 l0_2.length c0_2] 24 (0,0)) (by(with_reducible repeat(first|refine Nf ?_ _|refine Nb ?_|refine Ne ?_ _));exact qa.out) hb)
        have yp:=Na (No (g:=qk) (o:=.cells #[.int .i64 a1_0,.int .i64 a1_1,.slice A1_2 l1_2.length c1_2] 24 (0,0)) (by(with_reducible repeat(first|refine Nf ?_ _|refine Nb ?_|refine Ne ?_ _));exact qd.out) hb)
        have yu:=Na (No (g:=qm) (o:=.cells #[.int .i64 qv,.int .i64 qw,.slice ye qt.length yd] 27 (0,0)) (by(with_reducible repeat(first|refine Nf ?_ _|refine Nb ?_|refine Ne ?_ _));exact qe.out) hb)
        have yv:=Na (No (g:=qn) (o:=.cells #[.int .i64 qx,.int .i64 qy,.slice yg qu.length yf] 27 (0,0)) (by(with_reducible repeat(first|refine Nf ?_ _|refine Nb ?_|refine Ne ?_ _));exact qf.out) hb)
        have zk:=Na (Nw (by repeat(first|(with_reducible first|exact HB.out|apply Nl|apply Nj|apply Nk|refine Nd ?_ ql.out|refine Nd ?_ qo.out|refine Nd ?_ yc.out|refine Nd ?_ yj.out)|exact HB.out)) hb)
        clear qs
        clear qg
        clear qb
        clear qc
        clear ym
        clear qa
        clear qd
        clear qe
        clear qf
        clear HB
        have qs:=qz
        have qg:=ya
        have qb:=yb
        have qc:=yi
        have ym:=yn
        have qa:=yo
        have qd:=yp
        have qe:=yu
        have qf:=yv
        have HB:=zk
        clear qz ya yb yi yn yo yp yu yv zk
        (try clear hb)
        (try clear hb2)
        (try clear hk)
        (try clear hi)
        refine hK.out _ _ ⟨(Ni qe.out 0).trans rfl,(Ni qe.out 1).trans rfl,(Ni qe.out 2).trans rfl,(Ni qa.out 0).trans rfl,(Ni qa.out 1).trans rfl,(Ni qa.out 2).trans rfl⟩ (fun hHeld=>?_)
        clear hK K
        refine norm_ (a':=?_) ?_ ?_
        rotate_left
        ·show Act.put _ (some 61) _=_
         simp only [Act.put,List.setIfInBounds_toArray,List.set_cons_zero,List.set_cons_succ,i64_w,i32_w]
         rfl
        refine pure_ (i:=4) (N:=some 62) (v:=?_) (a':=?_) #[true,true,true,true,true] rfl rfl (by kernel_rfl) (fun _ _ _ h=>h) (Or.inl ⟨by rfl,?_⟩) ?_ ?_
        rotate_left
        ·intro w'
         go_simp
         with_reducible rfl
        rotate_left
        ·simp only [Act.put,List.setIfInBounds_toArray,List.set_cons_zero,List.set_cons_succ,i64_w,i32_w]
         rfl
        refine done_ (by kernel_rfl) ?_
        try go_wp2
        have qz:=Na (Nc qs.out)
        have ya:=Na (Nc qg.out)
        have yb:=Na (Nc qb.out)
        have yi:=Na (Nc qc.out)
        have yn:=Na (Nc ym.out)
        have yo:=Na (Nb qa.out)
        have yp:=Na (Nb qd.out)
        have yu:=Na (Nb qe.out)
        have yv:=Na (Nb qf.out)
        have zk:=Na (Nk HB.out)
        clear qs
        clear qg
        clear qb
        clear qc
        clear ym
        clear qa
        clear qd
        clear qe
        clear qf
        clear HB
        have qs:=qz
        have qg:=ya
        have qb:=yb
        have qc:=yi
        have ym:=yn
        have qa:=yo
        have qd:=yp
        have qe:=yu
        have qf:=yv
        have HB:=zk
        clear qz ya yb yi yn yo yp yu yv zk
        refine start_ (n:=5) (S:=fun w'=>w'.cell? ⟨qn,0,none⟩=some (.int .i64 qx)∧w'.cell? ⟨qn,1,none⟩=some (.int .i64 qy)∧w'.cell? ⟨qn,2,none⟩=some (.slice yg qu.length yf)∧w'.cell? ⟨qk,0,none⟩=some (.int .i64 a1_0)∧w'.cell? ⟨qk,1,none⟩=some (.int .i64 a1_1)∧w'.cell? ⟨qk,2,none⟩=some (.slice A1_2 l1_2.length c1_2)) (ds:=[]) #[false,false,false,false,false] (by kernel_rfl) rfl rfl ⟨(Ni qf.out 0).trans rfl,(Ni qf.out 1).trans rfl,(Ni qf.out 2).trans rfl,(Ni qd.out 0).trans rfl,(Ni qd.out 1).trans rfl,(Ni qd.out 2).trans rfl⟩ (fun hHeld=>?_)
        generalize w76.drew=w77 at qs qg qb qc ym qa qd qe qf HB hHeld ⊢
        refine take_ (i:=0) (N:=some 63) (v:=?_) (a':=?_) #[true,false,false,false,false] rfl rfl (by kernel_rfl) (fun _ _ _ h=>h) (Or.inl ⟨by rfl,?_⟩) hHeld ?_ ?_
        rotate_left
        ·rintro w' ⟨s0,s1,s2,s3,s4,s5⟩
         go_simp
         with_reducible rfl
        rotate_left
        ·simp only [Act.put,List.setIfInBounds_toArray,List.set_cons_zero,List.set_cons_succ,i64_w,i32_w]
         rfl
        refine take_ (i:=1) (N:=some 64) (v:=?_) (a':=?_) #[true,true,false,false,false] rfl rfl (by kernel_rfl) (fun _ _ _ h=>h) (Or.inl ⟨by rfl,?_⟩) hHeld ?_ ?_
        rotate_left
        ·rintro w' ⟨s0,s1,s2,s3,s4,s5⟩
         go_simp
         with_reducible rfl
        rotate_left
        ·simp only [Act.put,List.setIfInBounds_toArray,List.set_cons_zero,List.set_cons_succ,i64_w,i32_w]
         rfl
        refine one_ (i:=2) (N:=some 65) #[true,true,true,false,false] rfl rfl (by kernel_rfl) (by decide) (fun K hK=>?_)
        refine goes_ Try.func16 (by kernel_rfl) rfl #[.agg #[.int .i64 a1_0,.int .i64 a1_1,.slice A1_2 l1_2.length c1_2]] (by rfl) rfl rfl (by(try simp only [List.map_toArray,List.map_cons,List.map_nil]);first|done|rfl|(simp only [List.length_drop,List.length_take];rfl)) ?_
        with_reducible refine(laws_toPicture.calls kj25 a1_0 a1_1 _ _ l1_2 t400 t401 t402 _ ?side1 ?side2 A67.out).mono ?_
        (case side1=>repeat(first|exact(Kd.C_below vf.out HB.out)|(with_reducible refine Nt ?_ _)|(with_reducible refine Nu ?_ _)|(with_reducible refine Nm ?_)))
        (case side2=>exact vc.out)
        rintro e w78 ⟨v403,rfl,yx,hb⟩
        refine⟨_,rfl,?_⟩
        have qz:=Na (Nq (by(with_reducible repeat(first|apply Ng|apply Nh|apply Nc));exact qs.out) hb)
        have ya:=Na (Nq (by(with_reducible repeat(first|apply Ng|apply Nh|apply Nc));exact qg.out) hb)
        have yb:=Na (Ny (by(with_reducible repeat(first|apply Ng|apply Nh|apply Nc));exact qb.out) (Kd.R_base yx) hb)
        have yi:=Na (Ny (by(with_reducible repeat(first|apply Ng|apply Nh|apply Nc));exact qc.out) (Kd.R_base yx) hb)
        have yn:=Na (Ny (by(with_reducible repeat(first|apply Ng|apply Nh|apply Nc));exact ym.out) (Kd.R_base yx) hb)
        have yo:=Na (Kd.R_lower (Kd.R_new' (Kd.R_new' (Kd.R_new' yx (Kd.R_lt (by(with_reducible repeat(first|apply Ng|apply Nh|apply Nc));exact qb.out))) (Kd.R_lt (by(with_reducible repeat(first|apply Ng|apply Nh|apply Nc));exact qc.out))) (Kd.R_lt (by(with_reducible repeat(first|apply Ng|apply Nh|apply Nc));exact ym.out))) (Nv (by repeat(first|(with_reducible first|exact HB.out|apply Nl|apply Nj|apply Nk|refine Nd ?_ ql.out|refine Nd ?_ qo.out|refine Nd ?_ yc.out|refine Nd ?_ yj.out)|exact HB.out))))
        have yp:=Na (No (g:=qh) (o:=.cells #[.int .i64 a0_0,.int .i64 a0_1,.slice A0_2 l0_2.length c0_2] 24 (0,0)) (by(with_reducible repeat(first|refine Nf ?_ _|refine Nb ?_|refine Ne ?_ _));exact qa.out) hb)
        have yu:=Na (No (g:=qk) (o:=.cells #[.int .i64 a1_0,.int .i64 a1_1,.slice A1_2 l1_2.length c1_2] 24 (0,0)) (by(with_reducible repeat(first|refine Nf ?_ _|refine Nb ?_|refine Ne ?_ _));exact qd.out) hb)
        have yv:=Na (No (g:=qm) (o:=.cells #[.int .i64 qv,.int .i64 qw,.slice ye qt.length yd] 27 (0,0)) (by(with_reducible repeat(first|refine Nf ?_ _|refine Nb ?_|refine Ne ?_ _));exact qe.out) hb)
        have zk:=Na (No (g:=qn) (o:=.cells #[.int .i64 qx,.int .i64 qy,.slice yg qu.length yf] 27 (0,0)) (by(with_reducible repeat(first|refine Nf ?_ _|refine Nb ?_|refine Ne ?_ _));exact qf.out) hb)
        have yt:=Na (Nw (by repeat(first|(with_reducible first|exact HB.out|apply Nl|apply Nj|apply Nk|refine Nd ?_ ql.out|refine Nd ?_ qo.out|refine Nd ?_ yc.out|refine Nd ?_ yj.out)|exact HB.out)) hb)
        clear qs
        clear qg
        clear qb
        clear qc
        clear ym
        clear qa
        clear qd
        clear qe
        clear qf
        clear HB
        have qs:=qz
        have qg:=ya
        have qb:=yb
        have qc:=yi
        have ym:=yn
        have zj:=yo
        have qa:=yp
        have qd:=yu
        have qe:=yv
        have qf:=zk
        have HB:=yt
        clear qz ya yb yi yn yo yp yu yv zk yt
        (try clear hb)
        (try clear hb2)
        (try clear hk)
        (try clear hi)
        (try clear yx)
        obtain⟨Ao79,co79,eo79⟩:=Nx zj.out
        (first|subst eo79|(injection eo79 with f1_ f2_ f3_;have f4_:=f1_.symm;have f5_:=f3_.symm;clear f1_ f2_ f3_;subst f4_;subst f5_))
        refine hK.out _ _ ⟨(Ni qf.out 0).trans rfl,(Ni qf.out 1).trans rfl,(Ni qf.out 2).trans rfl,(Ni qd.out 0).trans rfl,(Ni qd.out 1).trans rfl,(Ni qd.out 2).trans rfl⟩ (fun hHeld=>?_)
        clear hK K
        refine norm_ (a':=?_) ?_ ?_
        rotate_left
        ·show Act.put _ (some 65) _=_
         simp only [Act.put,List.setIfInBounds_toArray,List.set_cons_zero,List.set_cons_succ,i64_w,i32_w]
         rfl
        refine one_ (i:=3) (N:=some 66) #[true,true,true,true,false] rfl rfl (by kernel_rfl) (by decide) (fun K hK=>?_)
        refine goes_ Try.func18 (by kernel_rfl) rfl #[.agg #[.int .i64 qx,.int .i64 qy,.slice yg qu.length yf],.agg #[.int .i64 t400,.int .i64 t401,.slice Ao79 t402.length co79]] (by rfl) rfl rfl (by(try simp only [List.map_toArray,List.map_cons,List.map_nil]);first|done|rfl|(simp only [List.length_drop,List.length_take];rfl)) ?_
        with_reducible refine(laws_eqPicture.calls kj25 qx qy _ _ qu t400 t401 _ _ t402 true _ ?side1 ?side2 ?side3 ?side4 A68.out).mono ?_
        (case side1=>repeat(first|exact(Nn qc.out).2.2|(with_reducible refine Nt ?_ _)|(with_reducible refine Nu ?_ _)|(with_reducible refine Nm ?_)))
        (case side2=>exact(Nn qc.out).2.1)
        (case side3=>repeat(first|exact(Nn zj.out).2.2|(with_reducible refine Nt ?_ _)|(with_reducible refine Nu ?_ _)|(with_reducible refine Nm ?_)))
        (case side4=>exact(Nn zj.out).2.1)
        rintro e w80 ⟨rfl,hb⟩
        refine⟨_,rfl,?_⟩
        have qz:=Na (Nq (by(with_reducible repeat(first|apply Ng|apply Nh|apply Nc));exact qs.out) hb)
        have ya:=Na (Nq (by(with_reducible repeat(first|apply Ng|apply Nh|apply Nc));exact qg.out) hb)
        have yb:=Na (Nq (by(with_reducible repeat(first|apply Ng|apply Nh|apply Nc));exact qb.out) hb)
        have yi:=Na (Nq (by(with_reducible repeat(first|apply Ng|apply Nh|apply Nc));exact qc.out) hb)
        have yn:=Na (Nq (by(with_reducible repeat(first|apply Ng|apply Nh|apply Nc));exact ym.out) hb)
        have yo:=Na (Nq (by(with_reducible repeat(first|apply Ng|apply Nh|apply Nc));exact zj.out) hb)
        have yp:=Na (No (g:=qh) (o:=.cells #[.int .i64 a0_0,.int .i64 a0_1,.slice A0_2 l0_2.length c0_2] 24 (0,0)) (by(with_reducible repeat(first|refine Nf ?_ _|refine Nb ?_|refine Ne ?_ _));exact qa.out) hb)
        have yu:=Na (No (g:=qk) (o:=.cells #[.int .i64 a1_0,.int .i64 a1_1,.slice A1_2 l1_2.length c1_2] 24 (0,0)) (by(with_reducible repeat(first|refine Nf ?_ _|refine Nb ?_|refine Ne ?_ _));exact qd.out) hb)
        have yv:=Na (No (g:=qm) (o:=.cells #[.int .i64 qv,.int .i64 qw,.slice ye qt.length yd] 27 (0,0)) (by(with_reducible repeat(first|refine Nf ?_ _|refine Nb ?_|refine Ne ?_ _));exact qe.out) hb)
        have zk:=Na (No (g:=qn) (o:=.cells #[.int .i64 qx,.int .i64 qy,.slice yg qu.length yf] 27 (0,0)) (by(with_reducible repeat(first|refine Nf ?_ _|refine Nb ?_|refine Ne ?_ _));exact qf.out) hb)
        have yt:=Na (Nw (by repeat(first|(with_reducible first|exact HB.out|apply Nl|apply Nj|apply Nk|refine Nd ?_ ql.out|refine Nd ?_ qo.out|refine Nd ?_ yc.out|refine Nd ?_ yj.out)|exact HB.out)) hb)
        clear qs
        clear qg
        clear qb
        clear qc
        clear ym
        clear zj
        clear qa
        clear qd
        clear qe
        clear qf
        clear HB
        have qs:=qz
        have qg:=ya
        have qb:=yb
        have qc:=yi
        have ym:=yn
        have zj:=yo
        have qa:=yp
        have qd:=yu
        have qe:=yv
        have qf:=zk
        have HB:=yt
        clear qz ya yb yi yn yo yp yu yv zk yt
        (try clear hb)
        (try clear hb2)
        (try clear hk)
        (try clear hi)
        refine hK.out _ _ ⟨(Ni qf.out 0).trans rfl,(Ni qf.out 1).trans rfl,(Ni qf.out 2).trans rfl,(Ni qd.out 0).trans rfl,(Ni qd.out 1).trans rfl,(Ni qd.out 2).trans rfl⟩ (fun hHeld=>?_)
        clear hK K
        refine norm_ (a':=?_) ?_ ?_
        rotate_left
        ·show Act.put _ (some 66) _=_
         simp only [Act.put,List.setIfInBounds_toArray,List.set_cons_zero,List.set_cons_succ,i64_w,i32_w]
         rfl
        refine pure_ (i:=4) (N:=some 67) (v:=?_) (a':=?_) #[true,true,true,true,true] rfl rfl (by kernel_rfl) (fun _ _ _ h=>h) (Or.inl ⟨by rfl,?_⟩) ?_ ?_
        rotate_left
        ·intro w'
         go_simp
         with_reducible rfl
        rotate_left
        ·simp only [Act.put,List.setIfInBounds_toArray,List.set_cons_zero,List.set_cons_succ,i64_w,i32_w]
         rfl
        refine done_ (by kernel_rfl) ?_
        have hnb81:=vg.out
        have hnc81:=zc.out
        have hnb82:=vh.out
        have hnc82:=zf.out
        have hnb83:=zh.out
        have hnc83:=vk.out
        have hcz84_0:w80.cell? ⟨qm,0,none⟩=some (.int .i64 qv):=(Ni qe.out 0).trans rfl
        have hcz84_1:w80.cell? ⟨qm,1,none⟩=some (.int .i64 qw):=(Ni qe.out 1).trans rfl
        have hcz84_2:w80.cell? ⟨qm,2,none⟩=some (.slice ye qt.length yd):=(Ni qe.out 2).trans rfl
        have hfz84_0:=Ns qe.out 0
        have hfz84_1:=Ns qe.out 1
        have hfz84_2:=Ns qe.out 2
        go_upto_region 21 with (first|((with_reducible refine Nz (f:=38) rfl ?_);refine goesL_ (some 70) rfl rfl Try.func38 (by kernel_rfl) rfl #[.agg #[.int .i64 qv,.int .i64 qw,.slice ye qt.length yd],.int .i64 1] rfl (by(try simp only [List.map_toArray,List.map_cons,List.map_nil]);first|done|rfl|(simp only [List.length_drop,List.length_take];rfl)) ?_;(with_reducible refine(laws_markPicture.calls kj25 qv qw (fun k_=>some k_=(.slice ye qt.length yd:Value).ownBlock) (.slice ye qt.length yd) qt 1 t406 zt w _ ?side1 ?side2 A70.out).mono ?_);(case side1=>repeat(first|(with_reducible first|exact HB.out|apply Nl|apply Nj|apply Nk|refine Nd ?_ ql.out|refine Nd ?_ qo.out|refine Nd ?_ yc.out|refine Nd ?_ yj.out)|exact HB.out));(case side2=>exact Kd.R_tight rfl qb.out);rintro e w85 ⟨rfl,hy0,hb,hkp⟩;refine⟨_,rfl,?_⟩;have qz:=Na (Np (ok':=fun k_=>some k_≠(v390:Value).ownBlock) (Kd.R_keptB ((Kd.R_apart' qs.out (Kd.R_typed qb.out) (by decide))) hkp (fun k_ hk_ hs_=>(hk_.2) hs_)) (fun k_ hk_=>hk_.1.1));have ya:=Na (Np (ok':=fun k_=>some k_≠(v374:Value).ownBlock) (Kd.R_keptB ((Kd.R_apart' qg.out (Kd.R_typed qb.out) (by decide))) hkp (fun k_ hk_ hs_=>(hk_.2) hs_)) (fun k_ hk_=>hk_.1.1));have yb:=Na (Kd.R_reok rfl hy0 (fun k_ e_=>qb.out.1 k_ e_));have yi:=Na (Np (ok':=fun k_=>some k_≠(.slice ye qt.length yd:Value).ownBlock∧some k_≠(.slice Ao75 t396.length co75:Value).ownBlock∧some k_≠(.slice Ao79 t402.length co79:Value).ownBlock) (Kd.R_keptB (qc.out) hkp (fun k_ hk_ hs_=>(hk_.1.1) hs_)) (fun k_ hk_=>⟨hk_.1.1.1,hk_.1.1.2,hk_.1.2⟩));have yn:=Na (blk_kept (by(with_reducible repeat(first|refine Nf ?_ _|refine Nb ?_|refine Ne ?_ _));exact qa.out) hkp (fun hs_=>(fun e_=>(Kd.R_ne qb.out qa.out (by decide)) e_) hs_));have yo:=Na (blk_kept (by(with_reducible repeat(first|refine Nf ?_ _|refine Nb ?_|refine Ne ?_ _));exact qd.out) hkp (fun hs_=>(fun e_=>(Kd.R_ne qb.out qd.out (by decide)) e_) hs_));have yp:=Na (blk_kept (by(with_reducible repeat(first|refine Nf ?_ _|refine Nb ?_|refine Ne ?_ _));exact qe.out) hkp (fun hs_=>(fun e_=>(Kd.R_ne qb.out qe.out (by decide)) e_) hs_));have yu:=Na (blk_kept (by(with_reducible repeat(first|refine Nf ?_ _|refine Nb ?_|refine Ne ?_ _));exact qf.out) hkp (fun hs_=>(fun e_=>(Kd.R_ne qb.out qf.out (by decide)) e_) hs_));have yv:=Na (Np (ok':=fun k_=>some k_≠(.slice ye qt.length yd:Value).ownBlock∧some k_≠(.slice yg qu.length yf:Value).ownBlock∧some k_≠(.slice Ao79 t402.length co79:Value).ownBlock) (Kd.R_keptB (ym.out) hkp (fun k_ hk_ hs_=>(hk_.1.1.2) hs_)) (fun k_ hk_=>⟨hk_.1.1.1.2,hk_.1.1.2,hk_.1.2⟩));have zk:=Na (Np (ok':=fun k_=>some k_≠(.slice ye qt.length yd:Value).ownBlock∧some k_≠(.slice yg qu.length yf:Value).ownBlock∧some k_≠(.slice Ao75 t396.length co75:Value).ownBlock) (Kd.R_keptB (zj.out) hkp (fun k_ hk_ hs_=>(hk_.1.1.2) hs_)) (fun k_ hk_=>⟨hk_.1.1.1.2,hk_.1.1.2,hk_.1.2⟩));have yt:=Na (hb);clear qs;clear qg;clear qb;clear qc;clear qa;clear qd;clear qe;clear qf;clear ym;clear zj;clear HB;have qs:=qz;have qg:=ya;have qb:=yb;have qc:=yi;have qa:=yn;have qd:=yo;have qe:=yp;have qf:=yu;have ym:=yv;have zj:=zk;have HB:=yt;clear qz ya yb yi yn yo yp yu yv zk yt;(try clear hb);(try clear hkp);(try clear hy0);have hnb86:=vi.out;have hnc86:=zd.out;have hnb87:=vj.out;have hnc87:=zg.out;have hcz88_0:w85.cell? ⟨qn,0,none⟩=some (.int .i64 qx):=(Ni qf.out 0).trans rfl;have hcz88_1:w85.cell? ⟨qn,1,none⟩=some (.int .i64 qy):=(Ni qf.out 1).trans rfl;have hcz88_2:w85.cell? ⟨qn,2,none⟩=some (.slice yg qu.length yf):=(Ni qf.out 2).trans rfl;have hfz88_0:=Ns qf.out 0;have hfz88_1:=Ns qf.out 1;have hfz88_2:=Ns qf.out 2)|((with_reducible refine Nz (f:=38) rfl ?_);refine goesL_ (some 73) rfl rfl Try.func38 (by kernel_rfl) rfl #[.agg #[.int .i64 qx,.int .i64 qy,.slice yg qu.length yf],.int .i64 t406] rfl (by(try simp only [List.map_toArray,List.map_cons,List.map_nil]);first|done|rfl|(simp only [List.length_drop,List.length_take];rfl)) ?_;(with_reducible refine(laws_markPicture.calls kj25 qx qy (fun k_=>some k_=(.slice yg qu.length yf:Value).ownBlock) (.slice yg qu.length yf) qu t406 t408 zu w _ ?side1 ?side2 A71.out).mono ?_);(case side1=>repeat(first|(with_reducible first|exact HB.out|apply Nl|apply Nj|apply Nk|refine Nd ?_ ql.out|refine Nd ?_ qo.out|refine Nd ?_ yc.out|refine Nd ?_ yj.out)|exact HB.out));(case side2=>exact Kd.R_tight rfl qc.out);rintro e w89 ⟨rfl,hy0,hb,hkp⟩;refine⟨_,rfl,?_⟩;have qz:=Na (Np (ok':=fun k_=>some k_≠(v390:Value).ownBlock) (Kd.R_keptB ((Kd.R_apart' qs.out (Kd.R_typed qc.out) (by decide))) hkp (fun k_ hk_ hs_=>(hk_.2) hs_)) (fun k_ hk_=>hk_.1.1));have ya:=Na (Np (ok':=fun k_=>some k_≠(v374:Value).ownBlock) (Kd.R_keptB ((Kd.R_apart' qg.out (Kd.R_typed qc.out) (by decide))) hkp (fun k_ hk_ hs_=>(hk_.2) hs_)) (fun k_ hk_=>hk_.1.1));have yb:=Na (Np (ok':=fun k_=>some k_≠(.slice yg qu.length yf:Value).ownBlock∧some k_≠(.slice Ao75 t396.length co75:Value).ownBlock∧some k_≠(.slice Ao79 t402.length co79:Value).ownBlock) (Kd.R_keptB (qb.out) hkp (fun k_ hk_ hs_=>(hk_.1.1) hs_)) (fun k_ hk_=>⟨hk_.1.1.1,hk_.1.1.2,hk_.1.2⟩));have yi:=Na (Kd.R_reok rfl hy0 (fun k_ e_=>qc.out.1 k_ e_));have yn:=Na (blk_kept (by(with_reducible repeat(first|refine Nf ?_ _|refine Nb ?_|refine Ne ?_ _));exact qa.out) hkp (fun hs_=>(fun e_=>(Kd.R_ne qc.out qa.out (by decide)) e_) hs_));have yo:=Na (blk_kept (by(with_reducible repeat(first|refine Nf ?_ _|refine Nb ?_|refine Ne ?_ _));exact qd.out) hkp (fun hs_=>(fun e_=>(Kd.R_ne qc.out qd.out (by decide)) e_) hs_));have yp:=Na (blk_kept (by(with_reducible repeat(first|refine Nf ?_ _|refine Nb ?_|refine Ne ?_ _));exact qe.out) hkp (fun hs_=>(fun e_=>(Kd.R_ne qc.out qe.out (by decide)) e_) hs_));have yu:=Na (blk_kept (by(with_reducible repeat(first|refine Nf ?_ _|refine Nb ?_|refine Ne ?_ _));exact qf.out) hkp (fun hs_=>(fun e_=>(Kd.R_ne qc.out qf.out (by decide)) e_) hs_));have yv:=Na (Np (ok':=fun k_=>some k_≠(.slice ye qt.length yd:Value).ownBlock∧some k_≠(.slice yg qu.length yf:Value).ownBlock∧some k_≠(.slice Ao79 t402.length co79:Value).ownBlock) (Kd.R_keptB (ym.out) hkp (fun k_ hk_ hs_=>(hk_.2.1) hs_)) (fun k_ hk_=>⟨hk_.1.1,hk_.1.2.1,hk_.1.2.2⟩));have zk:=Na (Np (ok':=fun k_=>some k_≠(.slice ye qt.length yd:Value).ownBlock∧some k_≠(.slice yg qu.length yf:Value).ownBlock∧some k_≠(.slice Ao75 t396.length co75:Value).ownBlock) (Kd.R_keptB (zj.out) hkp (fun k_ hk_ hs_=>(hk_.2.1) hs_)) (fun k_ hk_=>⟨hk_.1.1,hk_.1.2.1,hk_.1.2.2⟩));have yt:=Na (hb);clear qs;clear qg;clear qb;clear qc;clear qa;clear qd;clear qe;clear qf;clear ym;clear zj;clear HB;have qs:=qz;have qg:=ya;have qb:=yb;have qc:=yi;have qa:=yn;have qd:=yo;have qe:=yp;have qf:=yu;have ym:=yv;have zj:=zk;have HB:=yt;clear qz ya yb yi yn yo yp yu yv zk yt;(try clear hb);(try clear hkp);(try clear hy0)))
        (try simp only [Act.put,List.setIfInBounds_toArray,List.set_cons_zero,List.set_cons_succ])
        go_cut [86] (fun v86 wc=>∃ (kq:Nat) (x86_71:Bool),v86=.bool x86_71∧Aside0 (laws_FnExactEncode.j1 kq a2 qp qq qr x86_71 a0_0 a0_1 l0_2 a1_0 a1_1 l1_2=some true)∧Aside0 (kq≤kj25)∧Aside0 (Kd.R (Kd.int .u8) 5 wc w.heap.size (fun k_=>some k_≠(v390:Value).ownBlock) v374 qp)∧Aside0 (Kd.R (Kd.int .u8) 5 wc w.heap.size (fun k_=>some k_≠(v374:Value).ownBlock) v390 qr)∧Aside0 (Kd.R (Kd.int .i64) 2 wc w.heap.size (fun k_=>some k_≠((.slice yg qu.length yf):Value).ownBlock) (.slice ye qt.length yd) zt)∧Aside0 (Kd.R (Kd.int .i64) 2 wc w.heap.size (fun k_=>some k_≠((.slice ye qt.length yd):Value).ownBlock) (.slice yg qu.length yf) zu)∧Aside0 (wc.heap[qh]? = some (.cells #[.int .i64 a0_0,.int .i64 a0_1,(.slice A0_2 l0_2.length c0_2)] 24 (0,0)))∧Aside0 (wc.heap[qk]? = some (.cells #[.int .i64 a1_0,.int .i64 a1_1,(.slice A1_2 l1_2.length c1_2)] 24 (0,0)))∧Aside0 (wc.heap[qm]? = some (.cells #[.int .i64 qv,.int .i64 qw,(.slice ye qt.length yd)] 27 (0,0)))∧Aside0 (wc.heap[qn]? = some (.cells #[.int .i64 qx,.int .i64 qy,(.slice yg qu.length yf)] 27 (0,0)))∧Aside0 (Below w.heap.size w wc))
        case first=>
         have H:=HC72.out
         clear HC72
         by_cases c90:t408 < 0
         ·rw [if_pos c90] at H
          have vb:decide (t408 < 0)=true:=decide_eq_true c90
          clear c90
          (first|rw [vb]|(simp only [i64_w,i32_w];rw [vb])|skip)
          have H':=Na H
          clear H
          go_wp2
          go_meet
          case rel=>exact⟨_,(true),(by first|rfl|(simp;done)|(simp [*];done)),H',⟨by have:=HJ25.out;first|omega|exact Nat.le_refl _⟩,⟨by(with_reducible repeat(first|apply Ng|apply Nh|apply Nc));exact qs.out⟩,⟨by(with_reducible repeat(first|apply Ng|apply Nh|apply Nc));exact qg.out⟩,⟨by(with_reducible repeat(first|apply Ng|apply Nh|apply Nc));exact Np qb.out (fun _ hk=>hk.1)⟩,⟨by(with_reducible repeat(first|apply Ng|apply Nh|apply Nc));exact Np qc.out (fun _ hk=>hk.1)⟩,⟨by(with_reducible repeat(first|refine Nf ?_ _|refine Nb ?_|refine Ne ?_ _));exact qa.out⟩,⟨by(with_reducible repeat(first|refine Nf ?_ _|refine Nb ?_|refine Ne ?_ _));exact qd.out⟩,⟨by(with_reducible repeat(first|refine Nf ?_ _|refine Nb ?_|refine Ne ?_ _));exact qe.out⟩,⟨by(with_reducible repeat(first|refine Nf ?_ _|refine Nb ?_|refine Ne ?_ _));exact qf.out⟩,⟨by repeat(first|(with_reducible first|exact HB.out|apply Nl|apply Nj|apply Nk|refine Nd ?_ ql.out|refine Nd ?_ qo.out|refine Nd ?_ yc.out|refine Nd ?_ yj.out)|exact HB.out)⟩⟩
         ·rw [if_neg c90] at H
          have vb:decide (t408 < 0)=false:=decide_eq_false c90
          clear c90
          (first|rw [vb]|(simp only [i64_w,i32_w];rw [vb])|skip)
          replace H:=Option.bind_eq_some_iff.mp H
          obtain⟨za,A910,H⟩:=H
          replace H:(if za=true then (laws_FnExactEncode.j1 kj25 a2 qp qq qr (yy != qq) a0_0 a0_1 l0_2 a1_0 a1_1 l1_2) else (laws_FnExactEncode.j1 kj25 a2 qp qq qr true a0_0 a0_1 l0_2 a1_0 a1_1 l1_2))=some true:=H
          have A91:=Na A910
          clear A910
          by_cases c92:za=true
          ·subst c92
           have H1:(laws_FnExactEncode.j1 kj25 a2 qp qq qr (yy != qq) a0_0 a0_1 l0_2 a1_0 a1_1 l1_2)=some true:=by rw [if_pos rfl] at H;exact H
           clear H
           have H:=H1
           clear H1
           have H':=Na H
           clear H
           obtain⟨Ao93,co93,eo93⟩:=Nx qg.out
           subst eo93
           obtain⟨Ao94,co94,eo94⟩:=Nx qs.out
           subst eo94
           go_wp2_with (first|(go_at_call 37;(with_reducible refine(laws_eqByteS.calls kj25 _ _ qr _ _ qp true _ ?side1 ?side2 ?side3 ?side4 A91.out).mono ?_);(case side1=>repeat(first|exact(Nn qg.out).2.2|(with_reducible refine Nt ?_ _)|(with_reducible refine Nu ?_ _)|(with_reducible refine Nm ?_)));(case side2=>exact(Nn qg.out).2.1);(case side3=>repeat(first|exact(Nn qs.out).2.2|(with_reducible refine Nt ?_ _)|(with_reducible refine Nu ?_ _)|(with_reducible refine Nm ?_)));(case side4=>exact(Nn qs.out).2.1);rintro e w' ⟨rfl,⟨nd,rfl⟩⟩))
           go_meet
           case rel=>exact⟨_,((yy != qq)),(by first|rfl|(simp;done)|(simp [*];done)),H',⟨by have:=HJ25.out;first|omega|exact Nat.le_refl _⟩,⟨by(with_reducible repeat(first|apply Ng|apply Nh|apply Nc));exact qs.out⟩,⟨by(with_reducible repeat(first|apply Ng|apply Nh|apply Nc));exact qg.out⟩,⟨by(with_reducible repeat(first|apply Ng|apply Nh|apply Nc));exact Np qb.out (fun _ hk=>hk.1)⟩,⟨by(with_reducible repeat(first|apply Ng|apply Nh|apply Nc));exact Np qc.out (fun _ hk=>hk.1)⟩,⟨by(with_reducible repeat(first|refine Nf ?_ _|refine Nb ?_|refine Ne ?_ _));exact qa.out⟩,⟨by(with_reducible repeat(first|refine Nf ?_ _|refine Nb ?_|refine Ne ?_ _));exact qd.out⟩,⟨by(with_reducible repeat(first|refine Nf ?_ _|refine Nb ?_|refine Ne ?_ _));exact qe.out⟩,⟨by(with_reducible repeat(first|refine Nf ?_ _|refine Nb ?_|refine Ne ?_ _));exact qf.out⟩,⟨by repeat(first|(with_reducible first|exact HB.out|apply Nl|apply Nj|apply Nk|refine Nd ?_ ql.out|refine Nd ?_ qo.out|refine Nd ?_ yc.out|refine Nd ?_ yj.out)|exact HB.out)⟩⟩
          ·replace c92:=Bool.eq_false_iff.mpr c92
           subst c92
           have H1:(laws_FnExactEncode.j1 kj25 a2 qp qq qr true a0_0 a0_1 l0_2 a1_0 a1_1 l1_2)=some true:=by rw [if_neg (show ¬ (false=true) by decide)] at H;exact H
           clear H
           have H:=H1
           clear H1
           have H':=Na H
           clear H
           obtain⟨Ao95,co95,eo95⟩:=Nx qg.out
           subst eo95
           obtain⟨Ao96,co96,eo96⟩:=Nx qs.out
           subst eo96
           go_wp2_with (first|(go_at_call 37;(with_reducible refine(laws_eqByteS.calls kj25 _ _ qr _ _ qp false _ ?side1 ?side2 ?side3 ?side4 A91.out).mono ?_);(case side1=>repeat(first|exact(Nn qg.out).2.2|(with_reducible refine Nt ?_ _)|(with_reducible refine Nu ?_ _)|(with_reducible refine Nm ?_)));(case side2=>exact(Nn qg.out).2.1);(case side3=>repeat(first|exact(Nn qs.out).2.2|(with_reducible refine Nt ?_ _)|(with_reducible refine Nu ?_ _)|(with_reducible refine Nm ?_)));(case side4=>exact(Nn qs.out).2.1);rintro e w' ⟨rfl,⟨nd,rfl⟩⟩))
           go_meet
           case rel=>exact⟨_,(true),(by first|rfl|(simp;done)|(simp [*];done)),H',⟨by have:=HJ25.out;first|omega|exact Nat.le_refl _⟩,⟨by(with_reducible repeat(first|apply Ng|apply Nh|apply Nc));exact qs.out⟩,⟨by(with_reducible repeat(first|apply Ng|apply Nh|apply Nc));exact qg.out⟩,⟨by(with_reducible repeat(first|apply Ng|apply Nh|apply Nc));exact Np qb.out (fun _ hk=>hk.1)⟩,⟨by(with_reducible repeat(first|apply Ng|apply Nh|apply Nc));exact Np qc.out (fun _ hk=>hk.1)⟩,⟨by(with_reducible repeat(first|refine Nf ?_ _|refine Nb ?_|refine Ne ?_ _));exact qa.out⟩,⟨by(with_reducible repeat(first|refine Nf ?_ _|refine Nb ?_|refine Ne ?_ _));exact qd.out⟩,⟨by(with_reducible repeat(first|refine Nf ?_ _|refine Nb ?_|refine Ne ?_ _));exact qe.out⟩,⟨by(with_reducible repeat(first|refine Nf ?_ _|refine Nb ?_|refine Ne ?_ _));exact qf.out⟩,⟨by repeat(first|(with_reducible first|exact HB.out|apply Nl|apply Nj|apply Nk|refine Nd ?_ ql.out|refine Nd ?_ qo.out|refine Nd ?_ yc.out|refine Nd ?_ yj.out)|exact HB.out)⟩⟩
        case rest=>
         clear HC72
         try clear c1
         try clear c2
         try clear p2
         try clear c3
         try clear c4
         try clear c5
         try clear c5b0
         try clear c6
         try clear c8
         try clear c9
         try clear c11
         try clear c12
         try clear c12b0
         try clear c14
         try clear c15
         try clear c16
         try clear c18
         try clear c29
         try clear c37
         try clear c38
         try clear c41
         try clear c42
         try clear c43
         try clear c44
         try clear c50
         try clear c51
         try clear c52
         try clear c58
         try clear c63
         try clear c66
         try clear c69
         try clear c81
         try clear c82
         try clear c83
         try clear c86
         try clear c87
         try clear c90
         try clear vb
         try clear c92
         try clear hcz16_0
         try clear hcz16_1
         try clear hcz16_2
         try clear hcz18_0
         try clear hcz18_1
         try clear hcz18_2
         try clear hcz30_0
         try clear hcz30_1
         try clear hcz30_2
         try clear hcz32_0
         try clear hcz32_1
         try clear hcz32_2
         try clear hcz40_0
         try clear hcz40_1
         try clear hcz40_2
         try clear hcz45_0
         try clear hcz45_1
         try clear hcz45_2
         try clear hcz47_0
         try clear hcz47_1
         try clear hcz47_2
         try clear hcz53_0
         try clear hcz53_1
         try clear hcz53_2
         try clear hcz55_0
         try clear hcz55_1
         try clear hcz55_2
         try clear hcz84_0
         try clear hcz84_1
         try clear hcz84_2
         try clear hcz88_0
         try clear hcz88_1
         try clear hcz88_2
         try clear hcz9_0
         try clear hcz9_1
         try clear hcz9_2
         try clear hfz16_0
         try clear hfz16_1
         try clear hfz16_2
         try clear hfz18_0
         try clear hfz18_1
         try clear hfz18_2
         try clear hfz30_0
         try clear hfz30_1
         try clear hfz30_2
         try clear hfz32_0
         try clear hfz32_1
         try clear hfz32_2
         try clear hfz40_0
         try clear hfz40_1
         try clear hfz40_2
         try clear hfz45_0
         try clear hfz45_1
         try clear hfz45_2
         try clear hfz47_0
         try clear hfz47_1
         try clear hfz47_2
         try clear hfz53_0
         try clear hfz53_1
         try clear hfz53_2
         try clear hfz55_0
         try clear hfz55_1
         try clear hfz55_2
         try clear hfz84_0
         try clear hfz84_1
         try clear hfz84_2
         try clear hfz88_0
         try clear hfz88_1
         try clear hfz88_2
         try clear hfz9_0
         try clear hfz9_1
         try clear hfz9_2
         try clear p2
         obtain⟨kq,x86_71,rfl,HA,HJ71,qs,qg,qb,qc,qa,qd,qe,qf,HB⟩:=hcut
         have qi:=(Nn qb.out).1
         rw [qi] at qb
         (try simp only [qi])
         (try simp only [qi] at qa)
         (try simp only [qi] at qd)
         (try simp only [qi] at qe)
         (try simp only [qi] at qf)
         (try simp only [qi] at qs)
         (try simp only [qi] at qg)
         (try simp only [qi] at qc)
         have qj:=(Nn qc.out).1
         rw [qj] at qc
         (try simp only [qj])
         (try simp only [qj] at qa)
         (try simp only [qj] at qd)
         (try simp only [qj] at qe)
         (try simp only [qj] at qf)
         (try simp only [qj] at qs)
         (try simp only [qj] at qg)
         (try simp only [qj] at qb)
         cases kq with
         | zero => exact absurd HA.out (by simp [laws_FnExactEncode.j1])
         | succ kj71 =>
          have H:=HA.out
          clear HA
          simp only [laws_FnExactEncode.j1] at H
          by_cases c97:x86_71=true
          ·subst c97
           have H1:(some false)=some true:=by rw [if_pos rfl] at H;exact H
           clear H
           have H:=H1
           clear H1
           exact absurd (Option.some.inj H) Bool.false_ne_true
          ·replace c97:=Bool.eq_false_iff.mpr c97
           subst c97
           have H1:((laws_markByteS.f kj71 qr 1).bind fun bt411=>((laws_heldByteS.f kj71 bt411.2 1).bind fun zi=>(if zi < 0 then (some false) else (if zi=bt411.1 then ((laws_toPicture.f kj71 a0_0 a0_1 l0_2).bind fun bt414=>((laws_toPicture.f kj71 a1_0 a1_1 l1_2).bind fun bt419=>((impl_Encode.f kj71 bt414.1 bt414.2.1 bt414.2.2 bt419.1 bt419.2.1 bt419.2.2 a2).bind fun bt424=>((laws_eqByteS.f kj71 bt424.1 qp).bind fun zo=>(if zo=true then (laws_FnExactEncode.j2 kj71 bt411.2 bt411.1 (bt424.2 != qq)) else (laws_FnExactEncode.j2 kj71 bt411.2 bt411.1 true)))))) else (some false)))))=some true:=by rw [if_neg (show ¬ (false=true) by decide)] at H;exact H
           clear H
           have H:=H1
           clear H1
           replace H:=Option.bind_eq_some_iff.mp H
           obtain⟨⟨yq,yw⟩,A980,H⟩:=H
           replace H:((laws_heldByteS.f kj71 yw 1).bind fun zi=>(if zi < 0 then (some false) else (if zi=yq then ((laws_toPicture.f kj71 a0_0 a0_1 l0_2).bind fun bt414=>((laws_toPicture.f kj71 a1_0 a1_1 l1_2).bind fun bt419=>((impl_Encode.f kj71 bt414.1 bt414.2.1 bt414.2.2 bt419.1 bt419.2.1 bt419.2.2 a2).bind fun bt424=>((laws_eqByteS.f kj71 bt424.1 qp).bind fun zo=>(if zo=true then (laws_FnExactEncode.j2 kj71 yw yq (bt424.2 != qq)) else (laws_FnExactEncode.j2 kj71 yw yq true)))))) else (some false))))=some true:=H
           have A98:=Na A980
           clear A980
           replace H:=Option.bind_eq_some_iff.mp H
           obtain⟨zi,A990,H⟩:=H
           replace H:(if zi < 0 then (some false) else (if zi=yq then ((laws_toPicture.f kj71 a0_0 a0_1 l0_2).bind fun bt414=>((laws_toPicture.f kj71 a1_0 a1_1 l1_2).bind fun bt419=>((impl_Encode.f kj71 bt414.1 bt414.2.1 bt414.2.2 bt419.1 bt419.2.1 bt419.2.2 a2).bind fun bt424=>((laws_eqByteS.f kj71 bt424.1 qp).bind fun zo=>(if zo=true then (laws_FnExactEncode.j2 kj71 yw yq (bt424.2 != qq)) else (laws_FnExactEncode.j2 kj71 yw yq true)))))) else (some false)))=some true:=H
           have A99:=Na A990
           clear A990
           by_cases c100:zi < 0
           ·rw [if_pos c100] at H
            have c100b0:decide (zi < 0)=true:=decide_eq_true c100
            clear c100
            exact absurd (Option.some.inj H) Bool.false_ne_true
           ·rw [if_neg c100] at H
            have c100b0:decide (zi < 0)=false:=decide_eq_false c100
            clear c100
            by_cases c103:zi=yq
            ·rw [if_pos c103] at H
             have c103b0:(zi == yq)=true:=beq_iff_eq.mpr c103
             have c103b1:(zi != yq)=false:=bne_eq_false_iff_eq.mpr c103
             clear c103
             replace H:=Option.bind_eq_some_iff.mp H
             obtain⟨⟨t414,t415,t416⟩,A1040,H⟩:=H
             replace H:((laws_toPicture.f kj71 a1_0 a1_1 l1_2).bind fun bt419=>((impl_Encode.f kj71 t414 t415 t416 bt419.1 bt419.2.1 bt419.2.2 a2).bind fun bt424=>((laws_eqByteS.f kj71 bt424.1 qp).bind fun zo=>(if zo=true then (laws_FnExactEncode.j2 kj71 yw yq (bt424.2 != qq)) else (laws_FnExactEncode.j2 kj71 yw yq true)))))=some true:=H
             have A104:=Na A1040
             clear A1040
             replace H:=Option.bind_eq_some_iff.mp H
             obtain⟨⟨t419,t420,t421⟩,A1050,H⟩:=H
             replace H:((impl_Encode.f kj71 t414 t415 t416 t419 t420 t421 a2).bind fun bt424=>((laws_eqByteS.f kj71 bt424.1 qp).bind fun zo=>(if zo=true then (laws_FnExactEncode.j2 kj71 yw yq (bt424.2 != qq)) else (laws_FnExactEncode.j2 kj71 yw yq true))))=some true:=H
             have A105:=Na A1050
             clear A1050
             replace H:=Option.bind_eq_some_iff.mp H
             obtain⟨⟨t424,t427⟩,A1060,H⟩:=H
             replace H:((laws_eqByteS.f kj71 t424 qp).bind fun zo=>(if zo=true then (laws_FnExactEncode.j2 kj71 yw yq (t427 != qq)) else (laws_FnExactEncode.j2 kj71 yw yq true)))=some true:=H
             have A106:=Na A1060
             clear A1060
             have HC107:=Na H
             clear H
             obtain⟨zq,zr,eo108⟩:=Nx qg.out
             subst eo108
             try go_wp2_with (first|((with_reducible refine Nz (f:=39) rfl ?_);refine goesL_ (some 89) rfl rfl Try.func39 (by kernel_rfl) rfl #[.slice zq qr.length zr,.int .i64 1] rfl (by(try simp only [List.map_toArray,List.map_cons,List.map_nil]);first|done|rfl|(simp only [List.length_drop,List.length_take];rfl)) ?_;(with_reducible refine(laws_markByteS.calls kj71 (fun k_=>some k_=(.slice zq qr.length zr:Value).ownBlock) (.slice zq qr.length zr) qr 1 yq yw w _ ?side1 ?side2 A98.out).mono ?_);(case side1=>repeat(first|(with_reducible first|exact HB.out|apply Nl|apply Nj|apply Nk|refine Nd ?_ ql.out|refine Nd ?_ qo.out|refine Nd ?_ yc.out|refine Nd ?_ yj.out)|exact HB.out));(case side2=>exact Kd.R_tight rfl qg.out);rintro e zw ⟨rfl,hy0,hb,hkp⟩;refine⟨_,rfl,?_⟩;have qz:=Na (Np (ok':=fun k_=>some k_≠(.slice zq qr.length zr:Value).ownBlock) (Kd.R_keptB (qs.out) hkp (fun k_ hk_ hs_=>(hk_) hs_)) (fun k_ hk_=>hk_.1));have ya:=Na (Kd.R_reok rfl hy0 (fun k_ e_=>qg.out.1 k_ e_));have yb:=Na (Np (ok':=fun k_=>some k_≠(.slice yg zu.length yf:Value).ownBlock) (Kd.R_keptB ((Kd.R_apart' qb.out (Kd.R_typed qg.out) (by decide))) hkp (fun k_ hk_ hs_=>(hk_.2) hs_)) (fun k_ hk_=>hk_.1.1));have yi:=Na (Np (ok':=fun k_=>some k_≠(.slice ye zt.length yd:Value).ownBlock) (Kd.R_keptB ((Kd.R_apart' qc.out (Kd.R_typed qg.out) (by decide))) hkp (fun k_ hk_ hs_=>(hk_.2) hs_)) (fun k_ hk_=>hk_.1.1));have yn:=Na (blk_kept (by(with_reducible repeat(first|refine Nf ?_ _|refine Nb ?_|refine Ne ?_ _));exact qa.out) hkp (fun hs_=>(fun e_=>(Kd.R_ne qg.out qa.out (by decide)) e_) hs_));have yo:=Na (blk_kept (by(with_reducible repeat(first|refine Nf ?_ _|refine Nb ?_|refine Ne ?_ _));exact qd.out) hkp (fun hs_=>(fun e_=>(Kd.R_ne qg.out qd.out (by decide)) e_) hs_));have yp:=Na (blk_kept (by(with_reducible repeat(first|refine Nf ?_ _|refine Nb ?_|refine Ne ?_ _));exact qe.out) hkp (fun hs_=>(fun e_=>(Kd.R_ne qg.out qe.out (by decide)) e_) hs_));have yu:=Na (blk_kept (by(with_reducible repeat(first|refine Nf ?_ _|refine Nb ?_|refine Ne ?_ _));exact qf.out) hkp (fun hs_=>(fun e_=>(Kd.R_ne qg.out qf.out (by decide)) e_) hs_));have yv:=Na (hb);clear qs;clear qg;clear qb;clear qc;clear qa;clear qd;clear qe;clear qf;clear HB;have qs:=qz;have qg:=ya;have qb:=yb;have qc:=yi;have qa:=yn;have qd:=yo;have qe:=yp;have qf:=yu;have HB:=yv;clear qz ya yb yi yn yo yp yu yv;(try clear hb);(try clear hkp);(try clear hy0))|((with_reducible refine Nz (f:=43) rfl ?_);refine goesL_ (some 92) rfl rfl Try.func43 (by kernel_rfl) rfl #[.slice zq yw.length zr,.int .i64 1] rfl (by(try simp only [List.map_toArray,List.map_cons,List.map_nil]);first|done|(rw [show yw.length=qr.length from(Nn qg.out).1.symm] <;> rfl)|rfl|(simp only [List.length_drop,List.length_take];rfl)) ?_;(with_reducible refine(laws_heldByteS.calls kj71 _ _ yw 1 zi _ ?side1 ?side2 A99.out).mono ?_);(case side1=>repeat(first|exact(Nn qg.out).2.2|(with_reducible refine Nt ?_ _)|(with_reducible refine Nu ?_ _)|(with_reducible refine Nm ?_)));(case side2=>rw [show yw.length=qr.length from(Nn qg.out).1.symm];exact(Nn qg.out).2.1);rintro e w' ⟨rfl,⟨nd,rfl⟩⟩;refine⟨_,rfl,?_⟩))
             (try(rw [drewN_self zw];generalize hq_:World.drewN zw _=zw;have qz:Aside0 (Kd.R (Kd.int .u8) 5 zw w.heap.size (fun k_=>some k_≠(v374:Value).ownBlock) (.slice zq qr.length zr) yw):=⟨by rw [← hq_];exact(by(with_reducible repeat(first|apply Ng|apply Nh|apply Nc));exact qg.out)⟩;have ya:Aside0 (Kd.R (Kd.int .i64) 2 zw w.heap.size (fun k_=>some k_≠(.slice yg zu.length yf:Value).ownBlock) (.slice ye zt.length yd) zt):=⟨by rw [← hq_];exact(by(with_reducible repeat(first|apply Ng|apply Nh|apply Nc));exact qb.out)⟩;have yb:Aside0 (Kd.R (Kd.int .i64) 2 zw w.heap.size (fun k_=>some k_≠(.slice ye zt.length yd:Value).ownBlock) (.slice yg zu.length yf) zu):=⟨by rw [← hq_];exact(by(with_reducible repeat(first|apply Ng|apply Nh|apply Nc));exact qc.out)⟩;have yi:Aside0 (Kd.R (Kd.int .u8) 5 zw w.heap.size (fun k_=>some k_≠(.slice zq qr.length zr:Value).ownBlock) v374 qp):=⟨by rw [← hq_];exact(by(with_reducible repeat(first|apply Ng|apply Nh|apply Nc));exact qs.out)⟩;have yn:Aside0 (zw.heap[qh]? = some (.cells #[.int .i64 a0_0,.int .i64 a0_1,.slice A0_2 l0_2.length c0_2] 24 (0,0))):=⟨by rw [← hq_];exact(by(with_reducible repeat(first|refine Nf ?_ _|refine Nb ?_|refine Ne ?_ _));exact qa.out)⟩;have yo:Aside0 (zw.heap[qk]? = some (.cells #[.int .i64 a1_0,.int .i64 a1_1,.slice A1_2 l1_2.length c1_2] 24 (0,0))):=⟨by rw [← hq_];exact(by(with_reducible repeat(first|refine Nf ?_ _|refine Nb ?_|refine Ne ?_ _));exact qd.out)⟩;have yp:Aside0 (zw.heap[qm]? = some (.cells #[.int .i64 qv,.int .i64 qw,.slice ye zt.length yd] 27 (0,0))):=⟨by rw [← hq_];exact(by(with_reducible repeat(first|refine Nf ?_ _|refine Nb ?_|refine Ne ?_ _));exact qe.out)⟩;have yu:Aside0 (zw.heap[qn]? = some (.cells #[.int .i64 qx,.int .i64 qy,.slice yg zu.length yf] 27 (0,0))):=⟨by rw [← hq_];exact(by(with_reducible repeat(first|refine Nf ?_ _|refine Nb ?_|refine Ne ?_ _));exact qf.out)⟩;have yv:Aside0 (Below w.heap.size w zw):=⟨by rw [← hq_];exact(by repeat(first|(with_reducible first|exact HB.out|apply Nl|apply Nj|apply Nk|refine Nd ?_ ql.out|refine Nd ?_ qo.out|refine Nd ?_ yc.out|refine Nd ?_ yj.out)|exact HB.out))⟩;clear qg qb qc qs qa qd qe qf HB hq_;have qg:=qz;have qb:=ya;have qc:=yb;have qs:=yi;have qa:=yn;have qd:=yo;have qe:=yp;have qf:=yu;have HB:=yv;clear qz ya yb yi yn yo yp yu yv))
             have qz:=Na (Nc qs.out)
             have ya:=Na (Nc qg.out)
             have yb:=Na (Nc qb.out)
             have yi:=Na (Nc qc.out)
             have yn:=Na (Nb qa.out)
             have yo:=Na (Nb qd.out)
             have yp:=Na (Nb qe.out)
             have yu:=Na (Nb qf.out)
             have yv:=Na (Nk HB.out)
             clear qs
             clear qg
             clear qb
             clear qc
             clear qa
             clear qd
             clear qe
             clear qf
             clear HB
             have qs:=qz
             have qg:=ya
             have qb:=yb
             have qc:=yi
             have qa:=yn
             have qd:=yo
             have qe:=yp
             have qf:=yu
             have HB:=yv
             clear qz ya yb yi yn yo yp yu yv
             refine start_ (n:=11) (S:=fun w'=>w'.cell? ⟨qh,0,none⟩=some (.int .i64 a0_0)∧w'.cell? ⟨qh,1,none⟩=some (.int .i64 a0_1)∧w'.cell? ⟨qh,2,none⟩=some (.slice A0_2 l0_2.length c0_2)∧w'.cell? ⟨qk,0,none⟩=some (.int .i64 a1_0)∧w'.cell? ⟨qk,1,none⟩=some (.int .i64 a1_1)∧w'.cell? ⟨qk,2,none⟩=some (.slice A1_2 l1_2.length c1_2)) (ds:=[]) #[false,false,false,false,false,false,false,false,false,false,false] (by kernel_rfl) rfl rfl ⟨(Ni qa.out 0).trans rfl,(Ni qa.out 1).trans rfl,(Ni qa.out 2).trans rfl,(Ni qd.out 0).trans rfl,(Ni qd.out 1).trans rfl,(Ni qd.out 2).trans rfl⟩ (fun hHeld=>?_);refine with_tabW laws_FnExactEncode.tab31 laws_FnExactEncode.bits31 (fun HT_ HW_=>?_)
             generalize zw.drew=w110 at qs qg qb qc qa qd qe qf HB hHeld ⊢
             refine pure_ (i:=4) (N:=some 103) (v:=?_) (a':=?_) #[false,false,false,false,true,false,false,false,false,false,false] rfl rfl (any_of HT_.out (by kernel_rfl)) (fun _ _ _ h=>h) (Or.inl ⟨by rfl,?_⟩) ?_ ?_
             rotate_left
             ·intro w'
              go_simp
              with_reducible rfl
             rotate_left
             ·simp only [Act.put,List.setIfInBounds_toArray,List.set_cons_zero,List.set_cons_succ,i64_w,i32_w]
              rfl
             refine take_ (i:=0) (N:=some 99) (v:=?_) (a':=?_) #[true,false,false,false,true,false,false,false,false,false,false] rfl rfl (take_ofW HT_.out HW_.out (by kernel_rfl)) (fun _ _ _ h=>h) (Or.inl ⟨by rfl,?_⟩) hHeld ?_ ?_
             rotate_left
             ·rintro w' ⟨s0,s1,s2,s3,s4,s5⟩
              go_simp
              with_reducible rfl
             rotate_left
             ·simp only [Act.put,List.setIfInBounds_toArray,List.set_cons_zero,List.set_cons_succ,i64_w,i32_w]
              rfl
             refine take_ (i:=2) (N:=some 101) (v:=?_) (a':=?_) #[true,false,true,false,true,false,false,false,false,false,false] rfl rfl (take_ofW HT_.out HW_.out (by kernel_rfl)) (fun _ _ _ h=>h) (Or.inl ⟨by rfl,?_⟩) hHeld ?_ ?_
             rotate_left
             ·rintro w' ⟨s0,s1,s2,s3,s4,s5⟩
              go_simp
              with_reducible rfl
             rotate_left
             ·simp only [Act.put,List.setIfInBounds_toArray,List.set_cons_zero,List.set_cons_succ,i64_w,i32_w]
              rfl
             refine one_ (i:=1) (N:=some 100) #[true,true,true,false,true,false,false,false,false,false,false] rfl rfl (one_of HT_.out (by kernel_rfl)) (by decide) (fun K hK=>?_)
             refine goes_ Try.func16 (by kernel_rfl) rfl #[.agg #[.int .i64 a0_0,.int .i64 a0_1,.slice A0_2 l0_2.length c0_2]] (by rfl) rfl rfl (by(try simp only [List.map_toArray,List.map_cons,List.map_nil]);first|done|rfl|(simp only [List.length_drop,List.length_take];rfl)) ?_
             with_reducible refine(laws_toPicture.calls kj71 a0_0 a0_1 _ _ l0_2 t414 t415 t416 _ ?side1 ?side2 A104.out).mono ?_
             (case side1=>repeat(first|exact(Kd.C_below va.out HB.out)|(with_reducible refine Nt ?_ _)|(with_reducible refine Nu ?_ _)|(with_reducible refine Nm ?_)))
             (case side2=>exact zz.out)
             rintro e w111 ⟨v417,rfl,yx,hb⟩
             refine⟨_,rfl,?_⟩
             have qz:=Na (Nq (by(with_reducible repeat(first|apply Ng|apply Nh|apply Nc));exact qs.out) hb)
             have ya:=Na (Nq (by(with_reducible repeat(first|apply Ng|apply Nh|apply Nc));exact qg.out) hb)
             have yb:=Na (Ny (by(with_reducible repeat(first|apply Ng|apply Nh|apply Nc));exact qb.out) (Kd.R_base yx) hb)
             have yi:=Na (Ny (by(with_reducible repeat(first|apply Ng|apply Nh|apply Nc));exact qc.out) (Kd.R_base yx) hb)
             have yn:=Na (Kd.R_lower (Kd.R_new' (Kd.R_new' yx (Kd.R_lt (by(with_reducible repeat(first|apply Ng|apply Nh|apply Nc));exact qb.out))) (Kd.R_lt (by(with_reducible repeat(first|apply Ng|apply Nh|apply Nc));exact qc.out))) (Nv (by repeat(first|(with_reducible first|exact HB.out|apply Nl|apply Nj|apply Nk|refine Nd ?_ ql.out|refine Nd ?_ qo.out|refine Nd ?_ yc.out|refine Nd ?_ yj.out)|exact HB.out))))
             have yo:=Na (No (g:=qh) (o:=.cells #[.int .i64 a0_0,.int .i64 a0_1,.slice A0_2 l0_2.length c0_2] 24 (0,0)) (by(with_reducible repeat(first|refine Nf ?_ _|refine Nb ?_|refine Ne ?_ _));exact qa.out) hb)
             have yp:=Na (No (g:=qk) (o:=.cells #[.int .i64 a1_0,.int .i64 a1_1,.slice A1_2 l1_2.length c1_2] 24 (0,0)) (by(with_reducible repeat(first|refine Nf ?_ _|refine Nb ?_|refine Ne ?_ _));exact qd.out) hb)
             have yu:=Na (No (g:=qm) (o:=.cells #[.int .i64 qv,.int .i64 qw,.slice ye zt.length yd] 27 (0,0)) (by(with_reducible repeat(first|refine Nf ?_ _|refine Nb ?_|refine Ne ?_ _));exact qe.out) hb)
             have yv:=Na (No (g:=qn) (o:=.cells #[.int .i64 qx,.int .i64 qy,.slice yg zu.length yf] 27 (0,0)) (by(with_reducible repeat(first|refine Nf ?_ _|refine Nb ?_|refine Ne ?_ _));exact qf.out) hb)
             have zk:=Na (Nw (by repeat(first|(with_reducible first|exact HB.out|apply Nl|apply Nj|apply Nk|refine Nd ?_ ql.out|refine Nd ?_ qo.out|refine Nd ?_ yc.out|refine Nd ?_ yj.out)|exact HB.out)) hb)
             clear qs
             clear qg
             clear qb
             clear qc
             clear qa
             clear qd
             clear qe
             clear qf
             clear HB
             have qs:=qz
             have qg:=ya
             have qb:=yb
             have qc:=yi
             have zp:=yn
             have qa:=yo
             have qd:=yp
             have qe:=yu
             have qf:=yv
             have HB:=zk
             clear qz ya yb yi yn yo yp yu yv zk
             (try clear hb)
             (try clear hb2)
             (try clear hk)
             (try clear hi)
             (try clear yx)
             refine hK.out _ _ ⟨(Ni qa.out 0).trans rfl,(Ni qa.out 1).trans rfl,(Ni qa.out 2).trans rfl,(Ni qd.out 0).trans rfl,(Ni qd.out 1).trans rfl,(Ni qd.out 2).trans rfl⟩ (fun hHeld=>?_)
             clear hK K
             refine norm_ (a':=?_) ?_ ?_
             rotate_left
             ·show Act.put _ (some 100) _=_
              simp only [Act.put,List.setIfInBounds_toArray,List.set_cons_zero,List.set_cons_succ,i64_w,i32_w]
              rfl
             refine one_ (i:=3) (N:=some 102) #[true,true,true,true,true,false,false,false,false,false,false] rfl rfl (one_of HT_.out (by kernel_rfl)) (by decide) (fun K hK=>?_)
             refine goes_ Try.func16 (by kernel_rfl) rfl #[.agg #[.int .i64 a1_0,.int .i64 a1_1,.slice A1_2 l1_2.length c1_2]] (by rfl) rfl rfl (by(try simp only [List.map_toArray,List.map_cons,List.map_nil]);first|done|rfl|(simp only [List.length_drop,List.length_take];rfl)) ?_
             with_reducible refine(laws_toPicture.calls kj71 a1_0 a1_1 _ _ l1_2 t419 t420 t421 _ ?side1 ?side2 A105.out).mono ?_
             (case side1=>repeat(first|exact(Kd.C_below vf.out HB.out)|(with_reducible refine Nt ?_ _)|(with_reducible refine Nu ?_ _)|(with_reducible refine Nm ?_)))
             (case side2=>exact vc.out)
             rintro e w112 ⟨v422,rfl,yx,hb⟩
             refine⟨_,rfl,?_⟩
             have qz:=Na (Nq (by(with_reducible repeat(first|apply Ng|apply Nh|apply Nc));exact qs.out) hb)
             have ya:=Na (Nq (by(with_reducible repeat(first|apply Ng|apply Nh|apply Nc));exact qg.out) hb)
             have yb:=Na (Ny (by(with_reducible repeat(first|apply Ng|apply Nh|apply Nc));exact qb.out) (Kd.R_base yx) hb)
             have yi:=Na (Ny (by(with_reducible repeat(first|apply Ng|apply Nh|apply Nc));exact qc.out) (Kd.R_base yx) hb)
             have yn:=Na (Ny (by(with_reducible repeat(first|apply Ng|apply Nh|apply Nc));exact zp.out) (Kd.R_base yx) hb)
             have yo:=Na (Kd.R_lower (Kd.R_new' (Kd.R_new' (Kd.R_new' yx (Kd.R_lt (by(with_reducible repeat(first|apply Ng|apply Nh|apply Nc));exact qb.out))) (Kd.R_lt (by(with_reducible repeat(first|apply Ng|apply Nh|apply Nc));exact qc.out))) (Kd.R_lt (by(with_reducible repeat(first|apply Ng|apply Nh|apply Nc));exact zp.out))) (Nv (by repeat(first|(with_reducible first|exact HB.out|apply Nl|apply Nj|apply Nk|refine Nd ?_ ql.out|refine Nd ?_ qo.out|refine Nd ?_ yc.out|refine Nd ?_ yj.out)|exact HB.out))))
             have yp:=Na (No (g:=qh) (o:=.cells #[.int .i64 a0_0,.int .i64 a0_1,.slice A0_2 l0_2.length c0_2] 24 (0,0)) (by(with_reducible repeat(first|refine Nf ?_ _|refine Nb ?_|refine Ne ?_ _));exact qa.out) hb)
             have yu:=Na (No (g:=qk) (o:=.cells #[.int .i64 a1_0,.int .i64 a1_1,.slice A1_2 l1_2.length c1_2] 24 (0,0)) (by(with_reducible repeat(first|refine Nf ?_ _|refine Nb ?_|refine Ne ?_ _));exact qd.out) hb)
             have yv:=Na (No (g:=qm) (o:=.cells #[.int .i64 qv,.int .i64 qw,.slice ye zt.length yd] 27 (0,0)) (by(with_reducible repeat(first|refine Nf ?_ _|refine Nb ?_|refine Ne ?_ _));exact qe.out) hb)
             have zk:=Na (No (g:=qn) (o:=.cells #[.int .i64 qx,.int .i64 qy,.slice yg zu.length yf] 27 (0,0)) (by(with_reducible repeat(first|refine Nf ?_ _|refine Nb ?_|refine Ne ?_ _));exact qf.out) hb)
             have yt:=Na (Nw (by repeat(first|(with_reducible first|exact HB.out|apply Nl|apply Nj|apply Nk|refine Nd ?_ ql.out|refine Nd ?_ qo.out|refine Nd ?_ yc.out|refine Nd ?_ yj.out)|exact HB.out)) hb)
             clear qs
             clear qg
             clear qb
             clear qc
             clear zp
             clear qa
             clear qd
             clear qe
             clear qf
             clear HB
             have qs:=qz
             have qg:=ya
             have qb:=yb
             have qc:=yi
             have zp:=yn
             have vd:=yo
             have qa:=yp
             have qd:=yu
             have qe:=yv
             have qf:=zk
             have HB:=yt
             clear qz ya yb yi yn yo yp yu yv zk yt
             (try clear hb)
             (try clear hb2)
             (try clear hk)
             (try clear hi)
             (try clear yx)
             obtain⟨Ao113,co113,eo113⟩:=Nx zp.out
             (first|subst eo113|(injection eo113 with f1_ f2_ f3_;have f4_:=f1_.symm;have f5_:=f3_.symm;clear f1_ f2_ f3_;subst f4_;subst f5_))
             obtain⟨Ao114,co114,eo114⟩:=Nx vd.out
             (first|subst eo114|(injection eo114 with f1_ f2_ f3_;have f4_:=f1_.symm;have f5_:=f3_.symm;clear f1_ f2_ f3_;subst f4_;subst f5_))
             refine hK.out _ _ ⟨(Ni qa.out 0).trans rfl,(Ni qa.out 1).trans rfl,(Ni qa.out 2).trans rfl,(Ni qd.out 0).trans rfl,(Ni qd.out 1).trans rfl,(Ni qd.out 2).trans rfl⟩ (fun hHeld=>?_)
             clear hK K
             refine norm_ (a':=?_) ?_ ?_
             rotate_left
             ·show Act.put _ (some 102) _=_
              simp only [Act.put,List.setIfInBounds_toArray,List.set_cons_zero,List.set_cons_succ,i64_w,i32_w]
              rfl
             refine one_ (i:=5) (N:=some 104) #[true,true,true,true,true,true,false,false,false,false,false] rfl rfl (one_of HT_.out (by kernel_rfl)) (by decide) (fun K hK=>?_)
             refine goes_ Try.func42 (by kernel_rfl) rfl #[.agg #[.int .i64 t414,.int .i64 t415,.slice Ao113 t416.length co113],.agg #[.int .i64 t419,.int .i64 t420,.slice Ao114 t421.length co114],.int .i64 a2] (by rfl) rfl rfl (by(try simp only [List.map_toArray,List.map_cons,List.map_nil]);first|done|rfl|(simp only [List.length_drop,List.length_take];rfl)) ?_
             with_reducible refine(impl_Encode.calls kj71 t414 t415 _ _ t416 t419 t420 _ _ t421 a2 t424 t427 _ ?side1 ?side2 ?side3 ?side4 A106.out).mono ?_
             (case side1=>repeat(first|exact(Nn zp.out).2.2|(with_reducible refine Nt ?_ _)|(with_reducible refine Nu ?_ _)|(with_reducible refine Nm ?_)))
             (case side2=>exact(Nn zp.out).2.1)
             (case side3=>repeat(first|exact(Nn vd.out).2.2|(with_reducible refine Nt ?_ _)|(with_reducible refine Nu ?_ _)|(with_reducible refine Nm ?_)))
             (case side4=>exact(Nn vd.out).2.1)
             rintro e w115 ⟨v425,rfl,yx,hb⟩
             refine⟨_,rfl,?_⟩
             have qz:=Na (Ny (by(with_reducible repeat(first|apply Ng|apply Nh|apply Nc));exact qs.out) (Kd.R_base yx) hb)
             have ya:=Na (Ny (by(with_reducible repeat(first|apply Ng|apply Nh|apply Nc));exact qg.out) (Kd.R_base yx) hb)
             have yb:=Na (Nq (by(with_reducible repeat(first|apply Ng|apply Nh|apply Nc));exact qb.out) hb)
             have yi:=Na (Nq (by(with_reducible repeat(first|apply Ng|apply Nh|apply Nc));exact qc.out) hb)
             have yn:=Na (Nq (by(with_reducible repeat(first|apply Ng|apply Nh|apply Nc));exact zp.out) hb)
             have yo:=Na (Nq (by(with_reducible repeat(first|apply Ng|apply Nh|apply Nc));exact vd.out) hb)
             have yp:=Na (Kd.R_lower (Kd.R_new' (Kd.R_new' yx (Kd.R_lt (by(with_reducible repeat(first|apply Ng|apply Nh|apply Nc));exact qs.out))) (Kd.R_lt (by(with_reducible repeat(first|apply Ng|apply Nh|apply Nc));exact qg.out))) (Nv (by repeat(first|(with_reducible first|exact HB.out|apply Nl|apply Nj|apply Nk|refine Nd ?_ ql.out|refine Nd ?_ qo.out|refine Nd ?_ yc.out|refine Nd ?_ yj.out)|exact HB.out))))
             have yu:=Na (No (g:=qh) (o:=.cells #[.int .i64 a0_0,.int .i64 a0_1,.slice A0_2 l0_2.length c0_2] 24 (0,0)) (by(with_reducible repeat(first|refine Nf ?_ _|refine Nb ?_|refine Ne ?_ _));exact qa.out) hb)
             have yv:=Na (No (g:=qk) (o:=.cells #[.int .i64 a1_0,.int .i64 a1_1,.slice A1_2 l1_2.length c1_2] 24 (0,0)) (by(with_reducible repeat(first|refine Nf ?_ _|refine Nb ?_|refine Ne ?_ _));exact qd.out) hb)
             have zk:=Na (No (g:=qm) (o:=.cells #[.int .i64 qv,.int .i64 qw,.slice ye zt.length yd] 27 (0,0)) (by(with_reducible repeat(first|refine Nf ?_ _|refine Nb ?_|refine Ne ?_ _));exact qe.out) hb)
             have yt:=Na (No (g:=qn) (o:=.cells #[.int .i64 qx,.int .i64 qy,.slice yg zu.length yf] 27 (0,0)) (by(with_reducible repeat(first|refine Nf ?_ _|refine Nb ?_|refine Ne ?_ _));exact qf.out) hb)
             have n11_:=Na (Nw (by repeat(first|(with_reducible first|exact HB.out|apply Nl|apply Nj|apply Nk|refine Nd ?_ ql.out|refine Nd ?_ qo.out|refine Nd ?_ yc.out|refine Nd ?_ yj.out)|exact HB.out)) hb)
             clear qs
             clear qg
             clear qb
             clear qc
             clear zp
             clear vd
             clear qa
             clear qd
             clear qe
             clear qf
             clear HB
             have qs:=qz
             have qg:=ya
             have qb:=yb
             have qc:=yi
             have zp:=yn
             have vd:=yo
             have ve:=yp
             have qa:=yu
             have qd:=yv
             have qe:=zk
             have qf:=yt
             have HB:=n11_
             clear qz ya yb yi yn yo yp yu yv zk yt n11_
             (try clear hb)
             (try clear hb2)
             (try clear hk)
             (try clear hi)
             (try clear yx)
             refine hK.out _ _ ⟨(Ni qa.out 0).trans rfl,(Ni qa.out 1).trans rfl,(Ni qa.out 2).trans rfl,(Ni qd.out 0).trans rfl,(Ni qd.out 1).trans rfl,(Ni qd.out 2).trans rfl⟩ (fun hHeld=>?_)
             clear hK K
             refine norm_ (a':=?_) ?_ ?_
             rotate_left
             ·show Act.put _ (some 104) _=_
              simp only [Act.put,List.setIfInBounds_toArray,List.set_cons_zero,List.set_cons_succ,i64_w,i32_w]
              rfl
             refine pure_ (i:=6) (N:=some 98) (v:=?_) (a':=?_) #[true,true,true,true,true,true,true,false,false,false,false] rfl rfl (any_of HT_.out (by kernel_rfl)) (fun _ _ _ h=>h) (Or.inl ⟨by rfl,?_⟩) ?_ ?_
             rotate_left
             ·intro w'
              go_simp
              with_reducible rfl
             rotate_left
             ·simp only [Act.put,List.setIfInBounds_toArray,List.set_cons_zero,List.set_cons_succ,i64_w,i32_w]
              rfl
             refine pure_ (i:=7) (N:=some 105) (v:=?_) (a':=?_) #[true,true,true,true,true,true,true,true,false,false,false] rfl rfl (any_of HT_.out (by kernel_rfl)) (fun _ _ _ h=>h) (Or.inl ⟨by rfl,?_⟩) ?_ ?_
             rotate_left
             ·intro w'
              go_simp
              with_reducible rfl
             rotate_left
             ·simp only [Act.put,List.setIfInBounds_toArray,List.set_cons_zero,List.set_cons_succ,i64_w,i32_w]
              rfl
             refine pure_ (i:=8) (N:=some 106) (v:=?_) (a':=?_) #[true,true,true,true,true,true,true,true,true,false,false] rfl rfl (any_of HT_.out (by kernel_rfl)) (fun _ _ _ h=>h) (Or.inl ⟨by rfl,?_⟩) ?_ ?_
             rotate_left
             ·intro w'
              go_simp
              with_reducible rfl
             rotate_left
             ·simp only [Act.put,List.setIfInBounds_toArray,List.set_cons_zero,List.set_cons_succ,i64_w,i32_w]
              rfl
             refine pure_ (i:=9) (N:=some 17) (v:=?_) (a':=?_) #[true,true,true,true,true,true,true,true,true,true,false] rfl rfl (any_of HT_.out (by kernel_rfl)) (fun _ _ _ h=>h) (Or.inl ⟨by rfl,?_⟩) ?_ ?_
             rotate_left
             ·intro w'
              go_simp
              with_reducible rfl
             rotate_left
             ·simp only [Act.put,List.setIfInBounds_toArray,List.set_cons_zero,List.set_cons_succ,i64_w,i32_w]
              rfl
             refine pure_ (i:=10) (N:=some 18) (v:=?_) (a':=?_) #[true,true,true,true,true,true,true,true,true,true,true] rfl rfl (any_of HT_.out (by kernel_rfl)) (fun _ _ _ h=>h) (Or.inl ⟨by rfl,?_⟩) ?_ ?_
             rotate_left
             ·intro w'
              go_simp
              with_reducible rfl
             rotate_left
             ·simp only [Act.put,List.setIfInBounds_toArray,List.set_cons_zero,List.set_cons_succ,i64_w,i32_w]
              rfl
             refine done_ (done_of HT_.out (by kernel_rfl)) ?_
             go_upto_region 32 with (fail)
             go_cut [115] (fun v115 wc=>∃ (kq:Nat) (zv:Bool),v115=.bool zv∧Aside0 (laws_FnExactEncode.j2 kq yw yq zv=some true)∧Aside0 (kq≤kj71)∧Aside0 (Kd.R (Kd.int .u8) 5 wc w.heap.size (fun _=>True) (.slice zq qr.length zr) yw)∧Aside0 (Kd.R (Kd.int .i64) 2 wc w.heap.size (fun k_=>some k_≠((.slice yg zu.length yf):Value).ownBlock) (.slice ye zt.length yd) zt)∧Aside0 (Kd.R (Kd.int .i64) 2 wc w.heap.size (fun k_=>some k_≠((.slice ye zt.length yd):Value).ownBlock) (.slice yg zu.length yf) zu)∧Aside0 (wc.heap[qh]? = some (.cells #[.int .i64 a0_0,.int .i64 a0_1,(.slice A0_2 l0_2.length c0_2)] 24 (0,0)))∧Aside0 (wc.heap[qk]? = some (.cells #[.int .i64 a1_0,.int .i64 a1_1,(.slice A1_2 l1_2.length c1_2)] 24 (0,0)))∧Aside0 (wc.heap[qm]? = some (.cells #[.int .i64 qv,.int .i64 qw,(.slice ye zt.length yd)] 27 (0,0)))∧Aside0 (wc.heap[qn]? = some (.cells #[.int .i64 qx,.int .i64 qy,(.slice yg zu.length yf)] 27 (0,0)))∧Aside0 (Below w.heap.size w wc))
             case first=>
              have H:=HC107.out
              clear HC107
              replace H:=Option.bind_eq_some_iff.mp H
              obtain⟨zo,A1160,H⟩:=H
              replace H:(if zo=true then (laws_FnExactEncode.j2 kj71 yw yq (t427 != qq)) else (laws_FnExactEncode.j2 kj71 yw yq true))=some true:=H
              have A116:=Na A1160
              clear A1160
              by_cases c117:zo=true
              ·subst c117
               have H1:(laws_FnExactEncode.j2 kj71 yw yq (t427 != qq))=some true:=by rw [if_pos rfl] at H;exact H
               clear H
               have H:=H1
               clear H1
               have H':=Na H
               clear H
               obtain⟨Ao118,co118,eo118⟩:=Nx ve.out
               subst eo118
               obtain⟨Ao119,co119,eo119⟩:=Nx qs.out
               subst eo119
               go_wp2_with (first|((with_reducible refine Nz (f:=37) rfl ?_);refine goesL_ (some 109) rfl rfl Try.func37 (by kernel_rfl) rfl #[.slice Ao118 t424.length co118,.slice Ao119 qp.length co119] rfl (by(try simp only [List.map_toArray,List.map_cons,List.map_nil]);first|done|rfl|(simp only [List.length_drop,List.length_take];rfl)) ?_;(with_reducible refine(laws_eqByteS.calls kj71 _ _ t424 _ _ qp true _ ?side1 ?side2 ?side3 ?side4 A116.out).mono ?_);(case side1=>repeat(first|exact(Nn ve.out).2.2|(with_reducible refine Nt ?_ _)|(with_reducible refine Nu ?_ _)|(with_reducible refine Nm ?_)));(case side2=>exact(Nn ve.out).2.1);(case side3=>repeat(first|exact(Nn qs.out).2.2|(with_reducible refine Nt ?_ _)|(with_reducible refine Nu ?_ _)|(with_reducible refine Nm ?_)));(case side4=>exact(Nn qs.out).2.1);rintro e w' ⟨rfl,⟨nd,rfl⟩⟩;refine⟨_,rfl,?_⟩))
               go_meet
               case rel=>exact⟨_,((t427 != qq)),(by first|rfl|(simp;done)|(simp [*];done)),H',⟨by have:=HJ25.out;have:=HJ71.out;first|omega|exact Nat.le_refl _⟩,⟨by(try simp only [qi]);(try simp only [qj]);(with_reducible repeat(first|apply Ng|apply Nh|apply Nc));exact Np qg.out (fun _ hk=>trivial)⟩,⟨by(try simp only [qi]);(try simp only [qj]);(with_reducible repeat(first|apply Ng|apply Nh|apply Nc));exact Np qb.out (fun _ hk=>hk.1.1)⟩,⟨by(try simp only [qi]);(try simp only [qj]);(with_reducible repeat(first|apply Ng|apply Nh|apply Nc));exact Np qc.out (fun _ hk=>hk.1.1)⟩,⟨by(try simp only [qi]);(try simp only [qj]);(with_reducible repeat(first|refine Nf ?_ _|refine Nb ?_|refine Ne ?_ _));exact qa.out⟩,⟨by(try simp only [qi]);(try simp only [qj]);(with_reducible repeat(first|refine Nf ?_ _|refine Nb ?_|refine Ne ?_ _));exact qd.out⟩,⟨by(try simp only [qi]);(try simp only [qj]);(with_reducible repeat(first|refine Nf ?_ _|refine Nb ?_|refine Ne ?_ _));exact qe.out⟩,⟨by(try simp only [qi]);(try simp only [qj]);(with_reducible repeat(first|refine Nf ?_ _|refine Nb ?_|refine Ne ?_ _));exact qf.out⟩,⟨by repeat(first|(with_reducible first|exact HB.out|apply Nl|apply Nj|apply Nk|refine Nd ?_ ql.out|refine Nd ?_ qo.out|refine Nd ?_ yc.out|refine Nd ?_ yj.out)|exact HB.out)⟩⟩
              ·replace c117:=Bool.eq_false_iff.mpr c117
               subst c117
               have H1:(laws_FnExactEncode.j2 kj71 yw yq true)=some true:=by rw [if_neg (show ¬ (false=true) by decide)] at H;exact H
               clear H
               have H:=H1
               clear H1
               have H':=Na H
               clear H
               obtain⟨Ao120,co120,eo120⟩:=Nx ve.out
               subst eo120
               obtain⟨Ao121,co121,eo121⟩:=Nx qs.out
               subst eo121
               go_wp2_with (first|((with_reducible refine Nz (f:=37) rfl ?_);refine goesL_ (some 109) rfl rfl Try.func37 (by kernel_rfl) rfl #[.slice Ao120 t424.length co120,.slice Ao121 qp.length co121] rfl (by(try simp only [List.map_toArray,List.map_cons,List.map_nil]);first|done|rfl|(simp only [List.length_drop,List.length_take];rfl)) ?_;(with_reducible refine(laws_eqByteS.calls kj71 _ _ t424 _ _ qp false _ ?side1 ?side2 ?side3 ?side4 A116.out).mono ?_);(case side1=>repeat(first|exact(Nn ve.out).2.2|(with_reducible refine Nt ?_ _)|(with_reducible refine Nu ?_ _)|(with_reducible refine Nm ?_)));(case side2=>exact(Nn ve.out).2.1);(case side3=>repeat(first|exact(Nn qs.out).2.2|(with_reducible refine Nt ?_ _)|(with_reducible refine Nu ?_ _)|(with_reducible refine Nm ?_)));(case side4=>exact(Nn qs.out).2.1);rintro e w' ⟨rfl,⟨nd,rfl⟩⟩;refine⟨_,rfl,?_⟩))
               go_meet
               case rel=>exact⟨_,(true),(by first|rfl|(simp;done)|(simp [*];done)),H',⟨by have:=HJ25.out;have:=HJ71.out;first|omega|exact Nat.le_refl _⟩,⟨by(try simp only [qi]);(try simp only [qj]);(with_reducible repeat(first|apply Ng|apply Nh|apply Nc));exact Np qg.out (fun _ hk=>trivial)⟩,⟨by(try simp only [qi]);(try simp only [qj]);(with_reducible repeat(first|apply Ng|apply Nh|apply Nc));exact Np qb.out (fun _ hk=>hk.1.1)⟩,⟨by(try simp only [qi]);(try simp only [qj]);(with_reducible repeat(first|apply Ng|apply Nh|apply Nc));exact Np qc.out (fun _ hk=>hk.1.1)⟩,⟨by(try simp only [qi]);(try simp only [qj]);(with_reducible repeat(first|refine Nf ?_ _|refine Nb ?_|refine Ne ?_ _));exact qa.out⟩,⟨by(try simp only [qi]);(try simp only [qj]);(with_reducible repeat(first|refine Nf ?_ _|refine Nb ?_|refine Ne ?_ _));exact qd.out⟩,⟨by(try simp only [qi]);(try simp only [qj]);(with_reducible repeat(first|refine Nf ?_ _|refine Nb ?_|refine Ne ?_ _));exact qe.out⟩,⟨by(try simp only [qi]);(try simp only [qj]);(with_reducible repeat(first|refine Nf ?_ _|refine Nb ?_|refine Ne ?_ _));exact qf.out⟩,⟨by repeat(first|(with_reducible first|exact HB.out|apply Nl|apply Nj|apply Nk|refine Nd ?_ ql.out|refine Nd ?_ qo.out|refine Nd ?_ yc.out|refine Nd ?_ yj.out)|exact HB.out)⟩⟩
             case rest=>
              clear HC107
              try clear c1
              try clear c2
              try clear p2
              try clear c3
              try clear c4
              try clear c5
              try clear c5b0
              try clear c6
              try clear c8
              try clear c9
              try clear c10
              try clear c11
              try clear c12
              try clear c12b0
              try clear c14
              try clear c15
              try clear c16
              try clear c18
              try clear c29
              try clear c37
              try clear c38
              try clear c39
              try clear c41
              try clear c42
              try clear c43
              try clear c44
              try clear c50
              try clear c51
              try clear c52
              try clear c58
              try clear c63
              try clear c66
              try clear c69
              try clear c81
              try clear c82
              try clear c83
              try clear c86
              try clear c87
              try clear c90
              try clear vb
              try clear c92
              try clear c97
              try clear c100
              try clear c100b0
              try clear c103
              try clear c103b0
              try clear c103b1
              try clear c117
              try clear hcz16_0
              try clear hcz16_1
              try clear hcz16_2
              try clear hcz18_0
              try clear hcz18_1
              try clear hcz18_2
              try clear hcz30_0
              try clear hcz30_1
              try clear hcz30_2
              try clear hcz32_0
              try clear hcz32_1
              try clear hcz32_2
              try clear hcz40_0
              try clear hcz40_1
              try clear hcz40_2
              try clear hcz45_0
              try clear hcz45_1
              try clear hcz45_2
              try clear hcz47_0
              try clear hcz47_1
              try clear hcz47_2
              try clear hcz53_0
              try clear hcz53_1
              try clear hcz53_2
              try clear hcz55_0
              try clear hcz55_1
              try clear hcz55_2
              try clear hcz84_0
              try clear hcz84_1
              try clear hcz84_2
              try clear hcz88_0
              try clear hcz88_1
              try clear hcz88_2
              try clear hcz9_0
              try clear hcz9_1
              try clear hcz9_2
              try clear hfz16_0
              try clear hfz16_1
              try clear hfz16_2
              try clear hfz18_0
              try clear hfz18_1
              try clear hfz18_2
              try clear hfz30_0
              try clear hfz30_1
              try clear hfz30_2
              try clear hfz32_0
              try clear hfz32_1
              try clear hfz32_2
              try clear hfz40_0
              try clear hfz40_1
              try clear hfz40_2
              try clear hfz45_0
              try clear hfz45_1
              try clear hfz45_2
              try clear hfz47_0
              try clear hfz47_1
              try clear hfz47_2
              try clear hfz53_0
              try clear hfz53_1
              try clear hfz53_2
              try clear hfz55_0
              try clear hfz55_1
              try clear hfz55_2
              try clear hfz84_0
              try clear hfz84_1
              try clear hfz84_2
              try clear hfz88_0
              try clear hfz88_1
              try clear hfz88_2
              try clear hfz9_0
              try clear hfz9_1
              try clear hfz9_2
              try clear p2
              obtain⟨kq,zv,rfl,HA,HJ106,qg,qb,qc,qa,qd,qe,qf,HB⟩:=hcut
              have ys:=(Nn qg.out).1
              rw [ys] at qg
              (try simp only [ys])
              (try simp only [ys] at qa)
              (try simp only [ys] at qd)
              (try simp only [ys] at qe)
              (try simp only [ys] at qf)
              (try simp only [ys] at qb)
              (try simp only [ys] at qc)
              cases kq with
              | zero => exact absurd HA.out (by simp [laws_FnExactEncode.j2])
              | succ kj106 =>
               have H:=HA.out
               clear HA
               simp only [laws_FnExactEncode.j2] at H
               by_cases c122:zv=true
               ·subst c122
                have H1:(some false)=some true:=by rw [if_pos rfl] at H;exact H
                clear H
                have H:=H1
                clear H1
                exact absurd (Option.some.inj H) Bool.false_ne_true
               ·replace c122:=Bool.eq_false_iff.mpr c122
                subst c122
                have H1:((laws_heldByteS.f kj106 yw 1).bind fun zn=>(if zn < 0 then (some false) else (if zn=yq then (some true) else (some false))))=some true:=by rw [if_neg (show ¬ (false=true) by decide)] at H;exact H
                clear H
                have H:=H1
                clear H1
                replace H:=Option.bind_eq_some_iff.mp H
                obtain⟨zn,A1230,H⟩:=H
                replace H:(if zn < 0 then (some false) else (if zn=yq then (some true) else (some false)))=some true:=H
                have A123:=Na A1230
                clear A1230
                by_cases c124:zn < 0
                ·rw [if_pos c124] at H
                 have c124b0:decide (zn < 0)=true:=decide_eq_true c124
                 clear c124
                 exact absurd (Option.some.inj H) Bool.false_ne_true
                ·rw [if_neg c124] at H
                 have c124b0:decide (zn < 0)=false:=decide_eq_false c124
                 clear c124
                 by_cases c125:zn=yq
                 ·rw [if_pos c125] at H
                  have c125b0:(zn == yq)=true:=beq_iff_eq.mpr c125
                  have c125b1:(zn != yq)=false:=bne_eq_false_iff_eq.mpr c125
                  clear c125
                  clear H
                  go_wp2_with (first|((with_reducible refine Nz (f:=43) rfl ?_);refine goesL_ (some 118) rfl rfl Try.func43 (by kernel_rfl) rfl #[.slice zq yw.length zr,.int .i64 1] rfl (by(try simp only [List.map_toArray,List.map_cons,List.map_nil]);first|done|rfl|(simp only [List.length_drop,List.length_take];rfl)) ?_;(with_reducible refine(laws_heldByteS.calls kj106 _ _ yw 1 zn _ ?side1 ?side2 A123.out).mono ?_);(case side1=>repeat(first|exact(Nn qg.out).2.2|(with_reducible refine Nt ?_ _)|(with_reducible refine Nu ?_ _)|(with_reducible refine Nm ?_)));(case side2=>exact(Nn qg.out).2.1);rintro e w' ⟨rfl,⟨nd,rfl⟩⟩;refine⟨_,rfl,?_⟩))
                  go_ret
                  exact⟨by first|rfl|(simp [errW_none,errW_some] <;> rfl)|(simp [*,errW_none,errW_some] <;> rfl),by repeat(first|(with_reducible first|exact HB.out|apply Nl|apply Nj|apply Nk|refine Nd ?_ ql.out|refine Nd ?_ qo.out|refine Nd ?_ yc.out|refine Nd ?_ yj.out)|exact HB.out)⟩
                 ·rw [if_neg c125] at H
                  have c125b0:(zn == yq)=false:=beq_eq_false_iff_ne.mpr c125
                  have c125b1:(zn != yq)=true:=bne_iff_ne.mpr c125
                  exact absurd (Option.some.inj H) Bool.false_ne_true
            ·rw [if_neg c103] at H
             have c103b0:(zi == yq)=false:=beq_eq_false_iff_ne.mpr c103
             have c103b1:(zi != yq)=true:=bne_iff_ne.mpr c103
             exact absurd (Option.some.inj H) Bool.false_ne_true
       ·replace c69:=Bool.eq_false_iff.mpr c69
        subst c69
        have H1:(some false)=some true:=by rw [if_neg (show ¬ (false=true) by decide)] at H;exact H
        clear H
        have H:=H1
        clear H1
        exact absurd (Option.some.inj H) Bool.false_ne_true
      ·replace c66:=Bool.eq_false_iff.mpr c66
       subst c66
       have H1:(some false)=some true:=by rw [if_neg (show ¬ (false=true) by decide)] at H;exact H
       clear H
       have H:=H1
       clear H1
       exact absurd (Option.some.inj H) Bool.false_ne_true
end Go.Proofs.Ytbdnpfjjaokdbaa.HFnExactEncode
