-- Laid by myprint.py, a program of this repo, out of the kit's printer and this repo's own texts (wip/hand).
import Derived.Test.YtbdnpfjjaokdbaaHFnExactDecodex0
import Derived.Test.YtbdnpfjjaokdbaaHFnExactDecodex1
import Derived.Test.YtbdnpfjjaokdbaaHFnExactDecodex4
import Derived.Test.YtbdnpfjjaokdbaaHFnExactDecodex5
import Derived.Test.YtbdnpfjjaokdbaaHFnExactDecodex7
import Derived.Test.YtbdnpfjjaokdbaaHFnExactDecodex8
namespace Go.Proofs.Ytbdnpfjjaokdbaa.HFnExactDecode
open Go.RowKit Go.Proofs.YtbdnpfjjaokdbaaW.PrintWords Go.Proofs.YtbdnpfjjaokdbaaW.PrintLast Go.Proofs.YtbdnpfjjaokdbaaW.PrintMore
attribute [local go_sem] max2_int min2_int max_two min_two max_three min_three max_four min_four   -- for this text's walks alone
set_option linter.unusedVariables false
set_option linter.unusedSimpArgs false
theorem Ja : type_of% @Aside0.mk := @Aside0.mk
theorem Jb : type_of% @blk_drew := @blk_drew
theorem Jc : type_of% @Kd.R_drew := @Kd.R_drew
theorem Jd : type_of% @blk_alloc := @blk_alloc
theorem Je : type_of% @blk_drewN := @blk_drewN
theorem Jf : type_of% @below_set := @below_set
theorem Jg : type_of% @Kd.R_alloc := @Kd.R_alloc
theorem Jh : type_of% @Kd.R_drewN := @Kd.R_drewN
theorem Ji : type_of% @pw_below_drewN := @pw_below_drewN
theorem Jj : type_of% @Kd.R_far := @Kd.R_far
theorem Jk : type_of% @Kd.R_below := @Kd.R_below
theorem Jl : type_of% @blk_frozen := @blk_frozen
theorem Jm : type_of% @blk_cell := @blk_cell
theorem Jn : type_of% @blk_below := @blk_below
theorem Jo : type_of% @below_drew1 := @below_drew1
theorem Jp : type_of% @below_alloc := @below_alloc
theorem Jq : type_of% @Kd.R_mono := @Kd.R_mono
theorem Jr : type_of% @Kd.R_reads' := @Kd.R_reads'
theorem Js : type_of% @Kd.C_drew := @Kd.C_drew
theorem Jt : type_of% @Kd.R_types := @Kd.R_types
theorem Ju : type_of% @blk_far := @blk_far
theorem Jv : type_of% @below_step := @below_step
theorem Jw : type_of% @gate_callee := @gate_callee
theorem Jx : type_of% @Kd.C_alloc := @Kd.C_alloc
theorem Jy : type_of% @Kd.C_drewN := @Kd.C_drewN
theorem Jz : type_of% @below_size := @below_size
theorem JA : type_of% @Kd.R_elder' := @Kd.R_elder'

/-! ### laws_FnExactDecode: function 10 -/
mutual
def laws_FnExactDecode.j0 : Nat → List Int → Int → Bool → List Int → Bool → Bool → Int → Int → List Int → Int → Int → List Int → Int → Int → List Int → Int → Int → List Int → Option (Bool)
 | 0, _, _, _, _, _, _, _, _, _, _, _, _, _, _, _, _, _, _ => none
 | k + 1, x1, x2, x9, x11, x13, x55, x236000, x236001, x236002, x252000, x252001, x252002, x258000, x258001, x258002, x268000, x268001, x268002 => if x55 = true then (some false) else ((laws_toPicture.f k x236000 x236001 x236002).bind fun bt269 => ((laws_eqPicture.f k x258000 x258001 x258002 bt269.1 bt269.2.1 bt269.2.2).bind fun t274 => (if t274 = true then ((laws_toByteS.f k x1).bind fun vo => ((laws_eqByteS.f k x11 vo).bind fun vq => (if vq = true then ((laws_markPicture.f k x258000 x258001 x258002 1).bind fun bt279 => ((laws_markByteS.f k x11 bt279.1).bind fun bt281 => (if bt281.1 < 0 then (laws_FnExactDecode.j1 k x1 x2 x9 true x236000 x236001 x236002 x252000 x252001 x252002 x268000 x268001 x268002) else ((laws_eqPicture.f k x268000 x268001 x268002 x252000 x252001 x252002).bind fun vi => (if vi = true then (laws_FnExactDecode.j1 k x1 x2 x9 (x13 != x9) x236000 x236001 x236002 x252000 x252001 x252002 x268000 x268001 x268002) else (laws_FnExactDecode.j1 k x1 x2 x9 true x236000 x236001 x236002 x252000 x252001 x252002 x268000 x268001 x268002)))))) else (some false)))) else (some false))))
def laws_FnExactDecode.j1 : Nat → List Int → Int → Bool → Bool → Int → Int → List Int → Int → Int → List Int → Int → Int → List Int → Option (Bool)
 | 0, _, _, _, _, _, _, _, _, _, _, _, _, _ => none
 | k + 1, x1, x2, x9, x84, x236000, x236001, x236002, x252000, x252001, x252002, x268000, x268001, x268002 => if x84 = true then (some false) else ((laws_markPicture.f k x268000 x268001 x268002 1).bind fun bt284 => ((laws_heldPicture.f k x268000 x268001 bt284.2 1).bind fun vj => (if vj < 0 then (some false) else (if vj = bt284.1 then ((laws_toPicture.f k x236000 x236001 x236002).bind fun bt287 => ((laws_toByteS.f k x1).bind fun vr => ((impl_Decode.f k bt287.1 bt287.2.1 bt287.2.2 vr x2).bind fun bt295 => ((laws_eqPicture.f k bt295.1 bt295.2.1 bt295.2.2.1 x252000 x252001 x252002).bind fun vm => (if vm = true then (laws_FnExactDecode.j2 k bt284.1 (bt295.2.2.2 != x9) x268000 x268001 bt284.2) else (laws_FnExactDecode.j2 k bt284.1 true x268000 x268001 bt284.2)))))) else (some false)))))
def laws_FnExactDecode.j2 : Nat → Int → Bool → Int → Int → List Int → Option (Bool)
 | 0, _, _, _, _, _ => none
 | k + 1, x15, x113, x268000, x268001, x268002 => if x113 = true then (some false) else ((laws_heldPicture.f k x268000 x268001 x268002 1).bind fun vl => (if vl < 0 then (some false) else (if vl = x15 then (some true) else (some false))))
end
def laws_FnExactDecode.f (k : Nat) (a0_0 : Int) (a0_1 : Int) (l0_2 : List Int) (l1 : List Int) (a2 : Int) : Option (Bool) := if (l1.length : Int) > 1048576 then (some true) else ((laws_szPicture.f a0_0 a0_1 l0_2 1048576).bind fun vz => (if vz < 0 then (some true) else ((laws_toPicture.f k a0_0 a0_1 l0_2).bind fun bt237 => ((laws_toByteS.f k l1).bind fun vx => ((spec_Decode.f k bt237.1 bt237.2.1 bt237.2.2 vx a2).bind fun bt245 => ((laws_toPicture.f k a0_0 a0_1 l0_2).bind fun bt252 => ((laws_toByteS.f k l1).bind fun yk => ((impl_Decode.f k bt252.1 bt252.2.1 bt252.2.2 yk a2).bind fun bt261 => ((laws_eqPicture.f k bt261.1 bt261.2.1 bt261.2.2.1 bt245.1 bt245.2.1 bt245.2.2.1).bind fun vk => (if vk = true then (laws_FnExactDecode.j0 k l1 a2 bt245.2.2.2 yk bt261.2.2.2 (bt261.2.2.2 != bt245.2.2.2) a0_0 a0_1 l0_2 bt245.1 bt245.2.1 bt245.2.2.1 bt252.1 bt252.2.1 bt252.2.2 bt261.1 bt261.2.1 bt261.2.2.1) else (laws_FnExactDecode.j0 k l1 a2 bt245.2.2.2 yk bt261.2.2.2 true a0_0 a0_1 l0_2 bt245.1 bt245.2.1 bt245.2.2.1 bt252.1 bt252.2.1 bt252.2.2 bt261.1 bt261.2.1 bt261.2.2.1)))))))))))
theorem laws_FnExactDecode.mono_l : ∀ k, (∀ y0 y1 y2 y3 y4 y5 y6 y7 y8 y9 y10 y11 y12 y13 y14 y15 y16 y17, LeO (laws_FnExactDecode.j0 k y0 y1 y2 y3 y4 y5 y6 y7 y8 y9 y10 y11 y12 y13 y14 y15 y16 y17) (laws_FnExactDecode.j0 (k + 1) y0 y1 y2 y3 y4 y5 y6 y7 y8 y9 y10 y11 y12 y13 y14 y15 y16 y17)) ∧ (∀ y0 y1 y2 y3 y4 y5 y6 y7 y8 y9 y10 y11 y12, LeO (laws_FnExactDecode.j1 k y0 y1 y2 y3 y4 y5 y6 y7 y8 y9 y10 y11 y12) (laws_FnExactDecode.j1 (k + 1) y0 y1 y2 y3 y4 y5 y6 y7 y8 y9 y10 y11 y12)) ∧ (∀ y0 y1 y2 y3 y4, LeO (laws_FnExactDecode.j2 k y0 y1 y2 y3 y4) (laws_FnExactDecode.j2 (k + 1) y0 y1 y2 y3 y4))
 | 0 => ⟨fun _ _ _ _ _ _ _ _ _ _ _ _ _ _ _ _ _ _ r h => by simp [laws_FnExactDecode.j0] at h, fun _ _ _ _ _ _ _ _ _ _ _ _ _ r h => by simp [laws_FnExactDecode.j1] at h, fun _ _ _ _ _ r h => by simp [laws_FnExactDecode.j2] at h⟩
 | k + 1 => by
  obtain⟨ih0,ih1,ih2⟩:=laws_FnExactDecode.mono_l k
  refine⟨?_,?_,?_⟩
  ·intro y0 y1 y2 y3 y4 y5 y6 y7 y8 y9 y10 y11 y12 y13 y14 y15 y16 y17
   unfold laws_FnExactDecode.j0
   repeat' first
   | (with_reducible exact ih0 _ _ _ _ _ _ _ _ _ _ _ _ _ _ _ _ _ _)
   | (with_reducible exact ih1 _ _ _ _ _ _ _ _ _ _ _ _ _)
   | (with_reducible exact ih2 _ _ _ _ _)
   | (with_reducible exact impl_Decode.mono _ _ _ _ _ _)
   | (with_reducible exact laws_eqByteS.mono _ _ _)
   | (with_reducible exact laws_eqPicture.mono _ _ _ _ _ _ _)
   | (with_reducible exact laws_heldPicture.mono _ _ _ _ _)
   | (with_reducible exact laws_markByteS.mono _ _ _)
   | (with_reducible exact laws_markPicture.mono _ _ _ _ _)
   | (with_reducible exact laws_toByteS.mono _ _)
   | (with_reducible exact laws_toPicture.mono _ _ _ _)
   | (with_reducible exact spec_Decode.mono _ _ _ _ _ _)
   | (with_reducible exact LeO.refl _)
   | (with_reducible exact LeO.none _)
   | (with_reducible refine LeO.ite ?_ ?_)
   | (with_reducible refine LeO.bind ?_ (fun _ => ?_))
   | exact ih0 _ _ _ _ _ _ _ _ _ _ _ _ _ _ _ _ _ _
   | exact ih1 _ _ _ _ _ _ _ _ _ _ _ _ _
   | exact ih2 _ _ _ _ _
   | exact impl_Decode.mono _ _ _ _ _ _
   | exact laws_eqByteS.mono _ _ _
   | exact laws_eqPicture.mono _ _ _ _ _ _ _
   | exact laws_heldPicture.mono _ _ _ _ _
   | exact laws_markByteS.mono _ _ _
   | exact laws_markPicture.mono _ _ _ _ _
   | exact laws_toByteS.mono _ _
   | exact laws_toPicture.mono _ _ _ _
   | exact spec_Decode.mono _ _ _ _ _ _
   | exact LeO.none _
   | refine LeO.ite ?_ ?_
   | refine LeO.bind ?_ (fun _ => ?_)
  ·intro y0 y1 y2 y3 y4 y5 y6 y7 y8 y9 y10 y11 y12
   unfold laws_FnExactDecode.j1
   repeat' first
   | (with_reducible exact ih0 _ _ _ _ _ _ _ _ _ _ _ _ _ _ _ _ _ _)
   | (with_reducible exact ih1 _ _ _ _ _ _ _ _ _ _ _ _ _)
   | (with_reducible exact ih2 _ _ _ _ _)
   | (with_reducible exact impl_Decode.mono _ _ _ _ _ _)
   | (with_reducible exact laws_eqByteS.mono _ _ _)
   | (with_reducible exact laws_eqPicture.mono _ _ _ _ _ _ _)
   | (with_reducible exact laws_heldPicture.mono _ _ _ _ _)
   | (with_reducible exact laws_markByteS.mono _ _ _)
   | (with_reducible exact laws_markPicture.mono _ _ _ _ _)
   | (with_reducible exact laws_toByteS.mono _ _)
   | (with_reducible exact laws_toPicture.mono _ _ _ _)
   | (with_reducible exact spec_Decode.mono _ _ _ _ _ _)
   | (with_reducible exact LeO.refl _)
   | (with_reducible exact LeO.none _)
   | (with_reducible refine LeO.ite ?_ ?_)
   | (with_reducible refine LeO.bind ?_ (fun _ => ?_))
   | exact ih0 _ _ _ _ _ _ _ _ _ _ _ _ _ _ _ _ _ _
   | exact ih1 _ _ _ _ _ _ _ _ _ _ _ _ _
   | exact ih2 _ _ _ _ _
   | exact impl_Decode.mono _ _ _ _ _ _
   | exact laws_eqByteS.mono _ _ _
   | exact laws_eqPicture.mono _ _ _ _ _ _ _
   | exact laws_heldPicture.mono _ _ _ _ _
   | exact laws_markByteS.mono _ _ _
   | exact laws_markPicture.mono _ _ _ _ _
   | exact laws_toByteS.mono _ _
   | exact laws_toPicture.mono _ _ _ _
   | exact spec_Decode.mono _ _ _ _ _ _
   | exact LeO.none _
   | refine LeO.ite ?_ ?_
   | refine LeO.bind ?_ (fun _ => ?_)
  ·intro y0 y1 y2 y3 y4
   unfold laws_FnExactDecode.j2
   repeat' first
   | (with_reducible exact ih0 _ _ _ _ _ _ _ _ _ _ _ _ _ _ _ _ _ _)
   | (with_reducible exact ih1 _ _ _ _ _ _ _ _ _ _ _ _ _)
   | (with_reducible exact ih2 _ _ _ _ _)
   | (with_reducible exact impl_Decode.mono _ _ _ _ _ _)
   | (with_reducible exact laws_eqByteS.mono _ _ _)
   | (with_reducible exact laws_eqPicture.mono _ _ _ _ _ _ _)
   | (with_reducible exact laws_heldPicture.mono _ _ _ _ _)
   | (with_reducible exact laws_markByteS.mono _ _ _)
   | (with_reducible exact laws_markPicture.mono _ _ _ _ _)
   | (with_reducible exact laws_toByteS.mono _ _)
   | (with_reducible exact laws_toPicture.mono _ _ _ _)
   | (with_reducible exact spec_Decode.mono _ _ _ _ _ _)
   | (with_reducible exact LeO.refl _)
   | (with_reducible exact LeO.none _)
   | (with_reducible refine LeO.ite ?_ ?_)
   | (with_reducible refine LeO.bind ?_ (fun _ => ?_))
   | exact ih0 _ _ _ _ _ _ _ _ _ _ _ _ _ _ _ _ _ _
   | exact ih1 _ _ _ _ _ _ _ _ _ _ _ _ _
   | exact ih2 _ _ _ _ _
   | exact impl_Decode.mono _ _ _ _ _ _
   | exact laws_eqByteS.mono _ _ _
   | exact laws_eqPicture.mono _ _ _ _ _ _ _
   | exact laws_heldPicture.mono _ _ _ _ _
   | exact laws_markByteS.mono _ _ _
   | exact laws_markPicture.mono _ _ _ _ _
   | exact laws_toByteS.mono _ _
   | exact laws_toPicture.mono _ _ _ _
   | exact spec_Decode.mono _ _ _ _ _ _
   | exact LeO.none _
   | refine LeO.ite ?_ ?_
   | refine LeO.bind ?_ (fun _ => ?_)
theorem laws_FnExactDecode.mono : ∀ a0 a1 a2 a3 a4 k, LeO (laws_FnExactDecode.f k a0 a1 a2 a3 a4) (laws_FnExactDecode.f (k + 1) a0 a1 a2 a3 a4) := by
 intro a0 a1 a2 a3 a4 k
 obtain⟨ih0,ih1,ih2⟩:=laws_FnExactDecode.mono_l k
 unfold laws_FnExactDecode.f
 repeat' first
   | (with_reducible exact ih0 _ _ _ _ _ _ _ _ _ _ _ _ _ _ _ _ _ _)
   | (with_reducible exact ih1 _ _ _ _ _ _ _ _ _ _ _ _ _)
   | (with_reducible exact ih2 _ _ _ _ _)
   | (with_reducible exact impl_Decode.mono _ _ _ _ _ _)
   | (with_reducible exact laws_eqByteS.mono _ _ _)
   | (with_reducible exact laws_eqPicture.mono _ _ _ _ _ _ _)
   | (with_reducible exact laws_heldPicture.mono _ _ _ _ _)
   | (with_reducible exact laws_markByteS.mono _ _ _)
   | (with_reducible exact laws_markPicture.mono _ _ _ _ _)
   | (with_reducible exact laws_toByteS.mono _ _)
   | (with_reducible exact laws_toPicture.mono _ _ _ _)
   | (with_reducible exact spec_Decode.mono _ _ _ _ _ _)
   | (with_reducible exact LeO.refl _)
   | (with_reducible exact LeO.none _)
   | (with_reducible refine LeO.ite ?_ ?_)
   | (with_reducible refine LeO.bind ?_ (fun _ => ?_))
   | exact ih0 _ _ _ _ _ _ _ _ _ _ _ _ _ _ _ _ _ _
   | exact ih1 _ _ _ _ _ _ _ _ _ _ _ _ _
   | exact ih2 _ _ _ _ _
   | exact impl_Decode.mono _ _ _ _ _ _
   | exact laws_eqByteS.mono _ _ _
   | exact laws_eqPicture.mono _ _ _ _ _ _ _
   | exact laws_heldPicture.mono _ _ _ _ _
   | exact laws_markByteS.mono _ _ _
   | exact laws_markPicture.mono _ _ _ _ _
   | exact laws_toByteS.mono _ _
   | exact laws_toPicture.mono _ _ _ _
   | exact spec_Decode.mono _ _ _ _ _ _
   | exact LeO.none _
   | refine LeO.ite ?_ ?_
   | refine LeO.bind ?_ (fun _ => ?_)
set_option maxHeartbeats 8000000 in
set_option maxRecDepth 100000 in
theorem laws_FnExactDecode.calls (k : Nat) (a0_0 : Int) (a0_1 : Int) (A0_2 : Option Addr) (c0_2 : Nat) (l0_2 : List Int) (A1 : Option Addr) (c1 : Nat) (l1 : List Int) (a2 : Int) (r : Bool) (w : World) (hr0_2 : Kd.C (Kd.int .i64) w A0_2 l0_2.length l0_2) (hc0_2 : l0_2.length ≤ c0_2) (hr1 : Kd.C (Kd.int .u8) w A1 l1.length l1) (hc1 : l1.length ≤ c1) (h : laws_FnExactDecode.f k a0_0 a0_1 l0_2 l1 a2 = some true) :
  Calls Try.prog 10 #[.agg #[.int .i64 a0_0,.int .i64 a0_1,.slice A0_2 l0_2.length c0_2],.slice A1 l1.length c1,.int .i64 a2] w fun e w'=>e=.returned (.bool true)∧Below w.heap.size w w':=by
 have hu24:=Try.underlying24
 have hu27:=Try.underlying27
 have xb:=Ja hr0_2
 have xa:=Ja hc0_2
 clear hr0_2 hc0_2
 have HR1:=Ja hr1
 have HC1:=Ja hc1
 clear hr1 hc1
 have HB:=Ja (Below.refl w.heap.size w)
 have H:(if (l1.length:Int) > 1048576 then (some true) else ((laws_szPicture.f a0_0 a0_1 l0_2 1048576).bind fun vz=>(if vz < 0 then (some true) else ((laws_toPicture.f k a0_0 a0_1 l0_2).bind fun bt237=>((laws_toByteS.f k l1).bind fun vx=>((spec_Decode.f k bt237.1 bt237.2.1 bt237.2.2 vx a2).bind fun bt245=>((laws_toPicture.f k a0_0 a0_1 l0_2).bind fun bt252=>((laws_toByteS.f k l1).bind fun yk=>((impl_Decode.f k bt252.1 bt252.2.1 bt252.2.2 yk a2).bind fun bt261=>((laws_eqPicture.f k bt261.1 bt261.2.1 bt261.2.2.1 bt245.1 bt245.2.1 bt245.2.2.1).bind fun vk=>(if vk=true then (laws_FnExactDecode.j0 k l1 a2 bt245.2.2.2 yk bt261.2.2.2 (bt261.2.2.2 != bt245.2.2.2) a0_0 a0_1 l0_2 bt245.1 bt245.2.1 bt245.2.2.1 bt252.1 bt252.2.1 bt252.2.2 bt261.1 bt261.2.1 bt261.2.2.1) else (laws_FnExactDecode.j0 k l1 a2 bt245.2.2.2 yk bt261.2.2.2 true a0_0 a0_1 l0_2 bt245.1 bt245.2.1 bt245.2.2.1 bt252.1 bt252.2.1 bt252.2.2 bt261.1 bt261.2.1 bt261.2.2.1))))))))))))=some true:=h
 clear h
 by_cases c4:(l1.length:Int) > 1048576
 ·rw [if_pos c4] at H
  have c4b0:decide (1048576 < (l1.length:Int))=true:=decide_eq_true c4
  have c4b1:decide (1048576 < l1.length)=true:=decide_eq_true (by omega)
  clear c4
  have HR_:=Option.some.inj H
  go_enter Try.func10,Try.ntmps10
  go_wp2_with (first|((with_reducible refine gate_dst (N:=3) rfl ?_);refine box_event ?hg (N:=3) ?hd (cs:=#[.int .i64 a0_0,.int .i64 a0_1,.slice A0_2 l0_2.length c0_2]) (t:=24) ?hr ?_;(case hd=>rfl);(case hg=>rfl);(case hr=>first|(go_simp;done)|(go_simp;rfl));intro qq hg w5 hbox hb;have ym:=Ja (Jv (by repeat(first|(with_reducible first|exact HB.out|apply Jp|apply Ji|apply Jo)|exact HB.out)) hb);have yn:=Ja (hbox);have yq:=Ja ((by rw [hg];exact(Jz (by repeat(first|(with_reducible first|exact HB.out|apply Jp|apply Ji|apply Jo)|exact HB.out))):w.heap.size≤qq));have ys:=Ja ((by rw [hg];exact(Jz (by repeat(first|(with_reducible first|exact HB.out|apply Jp|apply Ji|apply Jo)|exact HB.out))):w.heap.size≤qq));clear HB;have HB:=ym;have qe:=yn;have GW235:=yq;have qs:=ys;clear ym yn yq ys;clear hb hbox hg))
  go_ret
  exact⟨by first|rfl|(simp [errW_none,errW_some] <;> rfl)|(simp [*,errW_none,errW_some] <;> rfl),by repeat(first|(with_reducible first|exact HB.out|apply Jp|apply Ji|apply Jo|refine Jf ?_ qs.out)|exact HB.out)⟩
 ·rw [if_neg c4] at H
  have c4b0:decide (1048576 < (l1.length:Int))=false:=decide_eq_false c4
  have c4b1:decide (1048576 < l1.length)=false:=decide_eq_false (by omega)
  clear c4
  replace H:=Option.bind_eq_some_iff.mp H
  obtain⟨vz,A60,H⟩:=H
  replace H:(if vz < 0 then (some true) else ((laws_toPicture.f k a0_0 a0_1 l0_2).bind fun bt237=>((laws_toByteS.f k l1).bind fun vx=>((spec_Decode.f k bt237.1 bt237.2.1 bt237.2.2 vx a2).bind fun bt245=>((laws_toPicture.f k a0_0 a0_1 l0_2).bind fun bt252=>((laws_toByteS.f k l1).bind fun yk=>((impl_Decode.f k bt252.1 bt252.2.1 bt252.2.2 yk a2).bind fun bt261=>((laws_eqPicture.f k bt261.1 bt261.2.1 bt261.2.2.1 bt245.1 bt245.2.1 bt245.2.2.1).bind fun vk=>(if vk=true then (laws_FnExactDecode.j0 k l1 a2 bt245.2.2.2 yk bt261.2.2.2 (bt261.2.2.2 != bt245.2.2.2) a0_0 a0_1 l0_2 bt245.1 bt245.2.1 bt245.2.2.1 bt252.1 bt252.2.1 bt252.2.2 bt261.1 bt261.2.1 bt261.2.2.1) else (laws_FnExactDecode.j0 k l1 a2 bt245.2.2.2 yk bt261.2.2.2 true a0_0 a0_1 l0_2 bt245.1 bt245.2.1 bt245.2.2.1 bt252.1 bt252.2.1 bt252.2.2 bt261.1 bt261.2.1 bt261.2.2.1))))))))))=some true:=H
  have A6:=Ja A60
  clear A60
  by_cases c7:vz < 0
  ·rw [if_pos c7] at H
   have c7b0:decide (vz < 0)=true:=decide_eq_true c7
   clear c7
   have HR_:=Option.some.inj H
   go_enter Try.func10,Try.ntmps10
   go_wp2_with (first|((with_reducible refine gate_dst (N:=3) rfl ?_);refine box_event ?hg (N:=3) ?hd (cs:=#[.int .i64 a0_0,.int .i64 a0_1,.slice A0_2 l0_2.length c0_2]) (t:=24) ?hr ?_;(case hd=>rfl);(case hg=>rfl);(case hr=>first|(go_simp;done)|(go_simp;rfl));intro qq hg w8 hbox hb;have ym:=Ja (Jv (by repeat(first|(with_reducible first|exact HB.out|apply Jp|apply Ji|apply Jo)|exact HB.out)) hb);have yn:=Ja (hbox);have yq:=Ja ((by rw [hg];exact(Jz (by repeat(first|(with_reducible first|exact HB.out|apply Jp|apply Ji|apply Jo)|exact HB.out))):w.heap.size≤qq));have ys:=Ja ((by rw [hg];exact(Jz (by repeat(first|(with_reducible first|exact HB.out|apply Jp|apply Ji|apply Jo)|exact HB.out))):w.heap.size≤qq));clear HB;have HB:=ym;have qe:=yn;have GW235:=yq;have qs:=ys;clear ym yn yq ys;clear hb hbox hg;have hcz9_0:w8.cell? ⟨qq,0,none⟩=some (.int .i64 a0_0):=(Jm qe.out 0).trans rfl;have hcz9_1:w8.cell? ⟨qq,1,none⟩=some (.int .i64 a0_1):=(Jm qe.out 1).trans rfl;have hcz9_2:w8.cell? ⟨qq,2,none⟩=some (.slice A0_2 l0_2.length c0_2):=(Jm qe.out 2).trans rfl;have hfz9_0:=Jl qe.out 0;have hfz9_1:=Jl qe.out 1;have hfz9_2:=Jl qe.out 2)|((with_reducible refine Jw (f:=14) rfl ?_);refine goesL_ (some 24) rfl rfl Try.func14 (by kernel_rfl) rfl #[.agg #[.int .i64 a0_0,.int .i64 a0_1,.slice A0_2 l0_2.length c0_2],.int .i64 1048576] rfl (by(try simp only [List.map_toArray,List.map_cons,List.map_nil]);first|done|rfl|(simp only [List.length_drop,List.length_take];rfl)) ?_;(with_reducible refine(laws_szPicture.calls a0_0 a0_1 _ _ l0_2 1048576 vz _ ?side1 ?side2 A6.out).mono ?_);(case side1=>repeat(first|exact(Kd.C_below xb.out HB.out)|(with_reducible refine Jx ?_ _)|(with_reducible refine Jy ?_ _)|(with_reducible refine Js ?_)));(case side2=>exact xa.out);rintro e w10 ⟨rfl,hb⟩;refine⟨_,rfl,?_⟩;have ym:=Ja (Jn (g:=qq) (o:=.cells #[.int .i64 a0_0,.int .i64 a0_1,.slice A0_2 l0_2.length c0_2] 24 (0,0)) (by(with_reducible repeat(first|refine Je ?_ _|refine Jb ?_|refine Jd ?_ _));exact qe.out) hb);have yn:=Ja (Jv (by repeat(first|(with_reducible first|exact HB.out|apply Jp|apply Ji|apply Jo|refine Jf ?_ qs.out)|exact HB.out)) hb);clear qe;clear HB;have qe:=ym;have HB:=yn;clear ym yn;(try clear hb);(try clear hb2);(try clear hk);(try clear hi)))
   go_ret
   exact⟨by first|rfl|(simp [errW_none,errW_some] <;> rfl)|(simp [*,errW_none,errW_some] <;> rfl),by repeat(first|(with_reducible first|exact HB.out|apply Jp|apply Ji|apply Jo|refine Jf ?_ qs.out)|exact HB.out)⟩
  ·rw [if_neg c7] at H
   have c7b0:decide (vz < 0)=false:=decide_eq_false c7
   clear c7
   replace H:=Option.bind_eq_some_iff.mp H
   obtain⟨⟨t237,t238,t239⟩,A110,H⟩:=H
   replace H:((laws_toByteS.f k l1).bind fun vx=>((spec_Decode.f k t237 t238 t239 vx a2).bind fun bt245=>((laws_toPicture.f k a0_0 a0_1 l0_2).bind fun bt252=>((laws_toByteS.f k l1).bind fun yk=>((impl_Decode.f k bt252.1 bt252.2.1 bt252.2.2 yk a2).bind fun bt261=>((laws_eqPicture.f k bt261.1 bt261.2.1 bt261.2.2.1 bt245.1 bt245.2.1 bt245.2.2.1).bind fun vk=>(if vk=true then (laws_FnExactDecode.j0 k l1 a2 bt245.2.2.2 yk bt261.2.2.2 (bt261.2.2.2 != bt245.2.2.2) a0_0 a0_1 l0_2 bt245.1 bt245.2.1 bt245.2.2.1 bt252.1 bt252.2.1 bt252.2.2 bt261.1 bt261.2.1 bt261.2.2.1) else (laws_FnExactDecode.j0 k l1 a2 bt245.2.2.2 yk bt261.2.2.2 true a0_0 a0_1 l0_2 bt245.1 bt245.2.1 bt245.2.2.1 bt252.1 bt252.2.1 bt252.2.2 bt261.1 bt261.2.1 bt261.2.2.1))))))))=some true:=H
   have A11:=Ja A110
   clear A110
   replace H:=Option.bind_eq_some_iff.mp H
   obtain⟨vx,A120,H⟩:=H
   replace H:((spec_Decode.f k t237 t238 t239 vx a2).bind fun bt245=>((laws_toPicture.f k a0_0 a0_1 l0_2).bind fun bt252=>((laws_toByteS.f k l1).bind fun yk=>((impl_Decode.f k bt252.1 bt252.2.1 bt252.2.2 yk a2).bind fun bt261=>((laws_eqPicture.f k bt261.1 bt261.2.1 bt261.2.2.1 bt245.1 bt245.2.1 bt245.2.2.1).bind fun vk=>(if vk=true then (laws_FnExactDecode.j0 k l1 a2 bt245.2.2.2 yk bt261.2.2.2 (bt261.2.2.2 != bt245.2.2.2) a0_0 a0_1 l0_2 bt245.1 bt245.2.1 bt245.2.2.1 bt252.1 bt252.2.1 bt252.2.2 bt261.1 bt261.2.1 bt261.2.2.1) else (laws_FnExactDecode.j0 k l1 a2 bt245.2.2.2 yk bt261.2.2.2 true a0_0 a0_1 l0_2 bt245.1 bt245.2.1 bt245.2.2.1 bt252.1 bt252.2.1 bt252.2.2 bt261.1 bt261.2.1 bt261.2.2.1)))))))=some true:=H
   have A12:=Ja A120
   clear A120
   replace H:=Option.bind_eq_some_iff.mp H
   obtain⟨⟨qm,qo,qk,ya⟩,A130,H⟩:=H
   replace H:((laws_toPicture.f k a0_0 a0_1 l0_2).bind fun bt252=>((laws_toByteS.f k l1).bind fun yk=>((impl_Decode.f k bt252.1 bt252.2.1 bt252.2.2 yk a2).bind fun bt261=>((laws_eqPicture.f k bt261.1 bt261.2.1 bt261.2.2.1 qm qo qk).bind fun vk=>(if vk=true then (laws_FnExactDecode.j0 k l1 a2 ya yk bt261.2.2.2 (bt261.2.2.2 != ya) a0_0 a0_1 l0_2 qm qo qk bt252.1 bt252.2.1 bt252.2.2 bt261.1 bt261.2.1 bt261.2.2.1) else (laws_FnExactDecode.j0 k l1 a2 ya yk bt261.2.2.2 true a0_0 a0_1 l0_2 qm qo qk bt252.1 bt252.2.1 bt252.2.2 bt261.1 bt261.2.1 bt261.2.2.1))))))=some true:=H
   have A13:=Ja A130
   clear A130
   replace H:=Option.bind_eq_some_iff.mp H
   obtain⟨⟨yg,yh,yc⟩,A140,H⟩:=H
   replace H:((laws_toByteS.f k l1).bind fun yk=>((impl_Decode.f k yg yh yc yk a2).bind fun bt261=>((laws_eqPicture.f k bt261.1 bt261.2.1 bt261.2.2.1 qm qo qk).bind fun vk=>(if vk=true then (laws_FnExactDecode.j0 k l1 a2 ya yk bt261.2.2.2 (bt261.2.2.2 != ya) a0_0 a0_1 l0_2 qm qo qk yg yh yc bt261.1 bt261.2.1 bt261.2.2.1) else (laws_FnExactDecode.j0 k l1 a2 ya yk bt261.2.2.2 true a0_0 a0_1 l0_2 qm qo qk yg yh yc bt261.1 bt261.2.1 bt261.2.2.1)))))=some true:=H
   have A14:=Ja A140
   clear A140
   replace H:=Option.bind_eq_some_iff.mp H
   obtain⟨yk,A150,H⟩:=H
   replace H:((impl_Decode.f k yg yh yc yk a2).bind fun bt261=>((laws_eqPicture.f k bt261.1 bt261.2.1 bt261.2.2.1 qm qo qk).bind fun vk=>(if vk=true then (laws_FnExactDecode.j0 k l1 a2 ya yk bt261.2.2.2 (bt261.2.2.2 != ya) a0_0 a0_1 l0_2 qm qo qk yg yh yc bt261.1 bt261.2.1 bt261.2.2.1) else (laws_FnExactDecode.j0 k l1 a2 ya yk bt261.2.2.2 true a0_0 a0_1 l0_2 qm qo qk yg yh yc bt261.1 bt261.2.1 bt261.2.2.1))))=some true:=H
   have A15:=Ja A150
   clear A150
   replace H:=Option.bind_eq_some_iff.mp H
   obtain⟨⟨qj,ql,qi,vd⟩,A160,H⟩:=H
   replace H:((laws_eqPicture.f k qj ql qi qm qo qk).bind fun vk=>(if vk=true then (laws_FnExactDecode.j0 k l1 a2 ya yk vd (vd != ya) a0_0 a0_1 l0_2 qm qo qk yg yh yc qj ql qi) else (laws_FnExactDecode.j0 k l1 a2 ya yk vd true a0_0 a0_1 l0_2 qm qo qk yg yh yc qj ql qi)))=some true:=H
   have A16:=Ja A160
   clear A160
   have HC17:=Ja H
   clear H
   go_enter Try.func10,Try.ntmps10
   go_upto_region 11 with (first|((with_reducible refine gate_dst (N:=3) rfl ?_);refine box_event ?hg (N:=3) ?hd (cs:=#[.int .i64 a0_0,.int .i64 a0_1,.slice A0_2 l0_2.length c0_2]) (t:=24) ?hr ?_;(case hd=>rfl);(case hg=>rfl);(case hr=>first|(go_simp;done)|(go_simp;rfl));intro qq hg w18 hbox hb;have ym:=Ja (Jv (by repeat(first|(with_reducible first|exact HB.out|apply Jp|apply Ji|apply Jo)|exact HB.out)) hb);have yn:=Ja (hbox);have yq:=Ja ((by rw [hg];exact(Jz (by repeat(first|(with_reducible first|exact HB.out|apply Jp|apply Ji|apply Jo)|exact HB.out))):w.heap.size≤qq));have ys:=Ja ((by rw [hg];exact(Jz (by repeat(first|(with_reducible first|exact HB.out|apply Jp|apply Ji|apply Jo)|exact HB.out))):w.heap.size≤qq));clear HB;have HB:=ym;have qe:=yn;have GW235:=yq;have qs:=ys;clear ym yn yq ys;clear hb hbox hg;have hcz19_0:w18.cell? ⟨qq,0,none⟩=some (.int .i64 a0_0):=(Jm qe.out 0).trans rfl;have hcz19_1:w18.cell? ⟨qq,1,none⟩=some (.int .i64 a0_1):=(Jm qe.out 1).trans rfl;have hcz19_2:w18.cell? ⟨qq,2,none⟩=some (.slice A0_2 l0_2.length c0_2):=(Jm qe.out 2).trans rfl;have hfz19_0:=Jl qe.out 0;have hfz19_1:=Jl qe.out 1;have hfz19_2:=Jl qe.out 2)|((with_reducible refine Jw (f:=14) rfl ?_);refine goesL_ (some 24) rfl rfl Try.func14 (by kernel_rfl) rfl #[.agg #[.int .i64 a0_0,.int .i64 a0_1,.slice A0_2 l0_2.length c0_2],.int .i64 1048576] rfl (by(try simp only [List.map_toArray,List.map_cons,List.map_nil]);first|done|rfl|(simp only [List.length_drop,List.length_take];rfl)) ?_;(with_reducible refine(laws_szPicture.calls a0_0 a0_1 _ _ l0_2 1048576 vz _ ?side1 ?side2 A6.out).mono ?_);(case side1=>repeat(first|exact(Kd.C_below xb.out HB.out)|(with_reducible refine Jx ?_ _)|(with_reducible refine Jy ?_ _)|(with_reducible refine Js ?_)));(case side2=>exact xa.out);rintro e w20 ⟨rfl,hb⟩;refine⟨_,rfl,?_⟩;have ym:=Ja (Jn (g:=qq) (o:=.cells #[.int .i64 a0_0,.int .i64 a0_1,.slice A0_2 l0_2.length c0_2] 24 (0,0)) (by(with_reducible repeat(first|refine Je ?_ _|refine Jb ?_|refine Jd ?_ _));exact qe.out) hb);have yn:=Ja (Jv (by repeat(first|(with_reducible first|exact HB.out|apply Jp|apply Ji|apply Jo|refine Jf ?_ qs.out)|exact HB.out)) hb);clear qe;clear HB;have qe:=ym;have HB:=yn;clear ym yn;(try clear hb);(try clear hb2);(try clear hk);(try clear hi);have hcz21_0:w20.cell? ⟨qq,0,none⟩=some (.int .i64 a0_0):=(Jm qe.out 0).trans rfl;have hcz21_1:w20.cell? ⟨qq,1,none⟩=some (.int .i64 a0_1):=(Jm qe.out 1).trans rfl;have hcz21_2:w20.cell? ⟨qq,2,none⟩=some (.slice A0_2 l0_2.length c0_2):=(Jm qe.out 2).trans rfl;have hfz21_0:=Jl qe.out 0;have hfz21_1:=Jl qe.out 1;have hfz21_2:=Jl qe.out 2)|((with_reducible refine Jw (f:=16) rfl ?_);refine goesL_ (some 29) rfl rfl Try.func16 (by kernel_rfl) rfl #[.agg #[.int .i64 a0_0,.int .i64 a0_1,.slice A0_2 l0_2.length c0_2]] rfl (by(try simp only [List.map_toArray,List.map_cons,List.map_nil]);first|done|rfl|(simp only [List.length_drop,List.length_take];rfl)) ?_;(with_reducible refine(laws_toPicture.calls k a0_0 a0_1 _ _ l0_2 t237 t238 t239 _ ?side1 ?side2 A11.out).mono ?_);(case side1=>repeat(first|exact(Kd.C_below xb.out HB.out)|(with_reducible refine Jx ?_ _)|(with_reducible refine Jy ?_ _)|(with_reducible refine Js ?_)));(case side2=>exact xa.out);rintro e w22 ⟨v240,rfl,vc,hb⟩;refine⟨_,rfl,?_⟩;have ym:=Ja (Kd.R_lower vc (Jz (by repeat(first|(with_reducible first|exact HB.out|apply Jp|apply Ji|apply Jo|refine Jf ?_ qs.out)|exact HB.out))));have yn:=Ja (Jn (g:=qq) (o:=.cells #[.int .i64 a0_0,.int .i64 a0_1,.slice A0_2 l0_2.length c0_2] 24 (0,0)) (by(with_reducible repeat(first|refine Je ?_ _|refine Jb ?_|refine Jd ?_ _));exact qe.out) hb);have yq:=Ja (Jv (by repeat(first|(with_reducible first|exact HB.out|apply Jp|apply Ji|apply Jo|refine Jf ?_ qs.out)|exact HB.out)) hb);clear qe;clear HB;have yp:=ym;have qe:=yn;have HB:=yq;clear ym yn yq;(try clear hb);(try clear hb2);(try clear hk);(try clear hi);(try clear vc))|((with_reducible refine Jw (f:=35) rfl ?_);refine goesL_ (some 31) rfl rfl Try.func35 (by kernel_rfl) rfl #[.slice A1 l1.length c1] rfl (by(try simp only [List.map_toArray,List.map_cons,List.map_nil]);first|done|rfl|(simp only [List.length_drop,List.length_take];rfl)) ?_;(with_reducible refine(laws_toByteS.calls k _ _ l1 vx _ ?side1 ?side2 A12.out).mono ?_);(case side1=>repeat(first|exact(Kd.C_below HR1.out HB.out)|(with_reducible refine Jx ?_ _)|(with_reducible refine Jy ?_ _)|(with_reducible refine Js ?_)));(case side2=>exact HC1.out);rintro e w23 ⟨v243,rfl,vc,hb⟩;refine⟨_,rfl,?_⟩;have ym:=Ja (Jk (by(with_reducible repeat(first|apply Jg|apply Jh|apply Jc));exact yp.out) hb);have yn:=Ja (Kd.R_lower vc (Jz (by repeat(first|(with_reducible first|exact HB.out|apply Jp|apply Ji|apply Jo|refine Jf ?_ qs.out)|exact HB.out))));have yq:=Ja (Jn (g:=qq) (o:=.cells #[.int .i64 a0_0,.int .i64 a0_1,.slice A0_2 l0_2.length c0_2] 24 (0,0)) (by(with_reducible repeat(first|refine Je ?_ _|refine Jb ?_|refine Jd ?_ _));exact qe.out) hb);have ys:=Ja (Jv (by repeat(first|(with_reducible first|exact HB.out|apply Jp|apply Ji|apply Jo|refine Jf ?_ qs.out)|exact HB.out)) hb);clear yp;clear qe;clear HB;have yp:=ym;have yw:=yn;have qe:=yq;have HB:=ys;clear ym yn yq ys;(try clear hb);(try clear hb2);(try clear hk);(try clear hi);(try clear vc);obtain⟨Ao24,co24,eo24⟩:=Kd.R_slice yp.out;subst eo24;obtain⟨Ao25,co25,eo25⟩:=Kd.R_slice yw.out;subst eo25)|((with_reducible refine Jw (f:=34) rfl ?_);refine goesL_ (some 33) rfl rfl Try.func34 (by kernel_rfl) rfl #[.agg #[.int .i64 t237,.int .i64 t238,.slice Ao24 t239.length co24],.slice Ao25 vx.length co25,.int .i64 a2] rfl (by(try simp only [List.map_toArray,List.map_cons,List.map_nil]);first|done|rfl|(simp only [List.length_drop,List.length_take];rfl)) ?_;(with_reducible refine(spec_Decode.calls k t237 t238 _ _ t239 _ _ vx a2 qm qo qk ya _ ?side1 ?side2 ?side3 ?side4 A13.out).mono ?_);(case side1=>repeat(first|exact(Jr yp.out).2.2|(with_reducible refine Jx ?_ _)|(with_reducible refine Jy ?_ _)|(with_reducible refine Js ?_)));(case side2=>exact(Jr yp.out).2.1);(case side3=>repeat(first|exact(Jr yw.out).2.2|(with_reducible refine Jx ?_ _)|(with_reducible refine Jy ?_ _)|(with_reducible refine Js ?_)));(case side4=>exact(Jr yw.out).2.1);rintro e w26 ⟨v248,rfl,vc,hb⟩;refine⟨_,rfl,?_⟩;have ym:=Ja (JA (by(with_reducible repeat(first|apply Jg|apply Jh|apply Jc));exact yp.out) (Kd.R_base vc) hb);have yn:=Ja (Jk (by(with_reducible repeat(first|apply Jg|apply Jh|apply Jc));exact yw.out) hb);have yq:=Ja (Kd.R_lower (Kd.R_new' vc (Kd.R_lt (by(with_reducible repeat(first|apply Jg|apply Jh|apply Jc));exact yp.out))) (Jz (by repeat(first|(with_reducible first|exact HB.out|apply Jp|apply Ji|apply Jo|refine Jf ?_ qs.out)|exact HB.out))));have ys:=Ja (Jn (g:=qq) (o:=.cells #[.int .i64 a0_0,.int .i64 a0_1,.slice A0_2 l0_2.length c0_2] 24 (0,0)) (by(with_reducible repeat(first|refine Je ?_ _|refine Jb ?_|refine Jd ?_ _));exact qe.out) hb);have yx:=Ja (Jv (by repeat(first|(with_reducible first|exact HB.out|apply Jp|apply Ji|apply Jo|refine Jf ?_ qs.out)|exact HB.out)) hb);clear yp;clear yw;clear qe;clear HB;have yp:=ym;have yw:=yn;have yt:=yq;have qe:=ys;have HB:=yx;clear ym yn yq ys yx;(try clear hb);(try clear hb2);(try clear hk);(try clear hi);(try clear vc))|((with_reducible refine gate_dst (N:=8) rfl ?_);refine box_event ?hg (N:=8) ?hd (cs:=#[.int .i64 0,.int .i64 0,.slice none 0 0]) (t:=27) ?hr ?_;(case hd=>rfl);(case hg=>rfl);(case hr=>first|(go_simp;done)|(go_simp;rfl));intro qp hg w27 hbox hb;have ym:=Ja (Jk (by(with_reducible repeat(first|apply Jg|apply Jh|apply Jc));exact yp.out) hb);have yn:=Ja (Jk (by(with_reducible repeat(first|apply Jg|apply Jh|apply Jc));exact yw.out) hb);have yq:=Ja (Jk (by(with_reducible repeat(first|apply Jg|apply Jh|apply Jc));exact yt.out) hb);have ys:=Ja (Jn (g:=qq) (o:=.cells #[.int .i64 a0_0,.int .i64 a0_1,.slice A0_2 l0_2.length c0_2] 24 (0,0)) (by(with_reducible repeat(first|refine Je ?_ _|refine Jb ?_|refine Jd ?_ _));exact qe.out) hb);have yx:=Ja (Jv (by repeat(first|(with_reducible first|exact HB.out|apply Jp|apply Ji|apply Jo|refine Jf ?_ qs.out)|exact HB.out)) hb);have yz:=Ja (hbox);have za:=Ja ((by rw [hg];exact(Jz (by repeat(first|(with_reducible first|exact HB.out|apply Jp|apply Ji|apply Jo|refine Jf ?_ qs.out)|exact HB.out))):w.heap.size≤qp));have ze:=Ja ((by rw [hg];exact(Jz (by repeat(first|(with_reducible first|exact HB.out|apply Jp|apply Ji|apply Jo|refine Jf ?_ qs.out)|exact HB.out))):w.heap.size≤qp));have zm:=Ja ((by rw [hg];exact Nat.ne_of_lt (blk_lt (g:=qq) (o:=.cells #[.int .i64 a0_0,.int .i64 a0_1,.slice A0_2 l0_2.length c0_2] 24 (0,0)) (by(with_reducible repeat(first|refine Je ?_ _|refine Jb ?_|refine Jd ?_ _));exact qe.out)):qq≠qp));have zv:=Ja ((by rw [hg];exact Nat.ne_of_gt (blk_lt (g:=qq) (o:=.cells #[.int .i64 a0_0,.int .i64 a0_1,.slice A0_2 l0_2.length c0_2] 24 (0,0)) (by(with_reducible repeat(first|refine Je ?_ _|refine Jb ?_|refine Jd ?_ _));exact qe.out)):qp≠qq));clear yp;clear yw;clear yt;clear qe;clear HB;have yp:=ym;have yw:=yn;have yt:=yq;have qe:=ys;have HB:=yx;have qf:=yz;have GW251:=za;have qw:=ze;have zf:=zm;have zt:=zv;clear ym yn yq ys yx yz za ze zm zv;clear hb hbox hg;have hnb28:=zt.out;have hnc28:=zf.out;have hcz29_0:w27.cell? ⟨qp,0,none⟩=some (.int .i64 0):=(Jm qf.out 0).trans rfl;have hcz29_1:w27.cell? ⟨qp,1,none⟩=some (.int .i64 0):=(Jm qf.out 1).trans rfl;have hcz29_2:w27.cell? ⟨qp,2,none⟩=some (.slice none 0 0):=(Jm qf.out 2).trans rfl;have hfz29_0:=Jl qf.out 0;have hfz29_1:=Jl qf.out 1;have hfz29_2:=Jl qf.out 2;obtain⟨yb,qz,eo30⟩:=Kd.R_slice yt.out;subst eo30;have hcz31_0:w27.cell? ⟨qq,0,none⟩=some (.int .i64 a0_0):=(Jm qe.out 0).trans rfl;have hcz31_1:w27.cell? ⟨qq,1,none⟩=some (.int .i64 a0_1):=(Jm qe.out 1).trans rfl;have hcz31_2:w27.cell? ⟨qq,2,none⟩=some (.slice A0_2 l0_2.length c0_2):=(Jm qe.out 2).trans rfl;have hfz31_0:=Jl qe.out 0;have hfz31_1:=Jl qe.out 1;have hfz31_2:=Jl qe.out 2)|((with_reducible refine Jw (f:=16) rfl ?_);refine goesL_ (some 37) rfl rfl Try.func16 (by kernel_rfl) rfl #[.agg #[.int .i64 a0_0,.int .i64 a0_1,.slice A0_2 l0_2.length c0_2]] rfl (by(try simp only [List.map_toArray,List.map_cons,List.map_nil]);first|done|rfl|(simp only [List.length_drop,List.length_take];rfl)) ?_;(with_reducible refine(laws_toPicture.calls k a0_0 a0_1 _ _ l0_2 yg yh yc _ ?side1 ?side2 A14.out).mono ?_);(case side1=>exact Kd.C_below xb.out (by repeat(first|(with_reducible first|exact HB.out|apply Jp|apply Ji|apply Jo|refine Jf ?_ qs.out|refine Jf ?_ qw.out)|exact HB.out)));(case side2=>exact xa.out);rintro e w32 ⟨v255,rfl,vc,hb⟩;refine⟨_,rfl,?_⟩;have ym:=Ja (JA (by(with_reducible repeat(first|apply Jg|apply Jh|apply Jc));exact(Jq (Jj (p:=⟨qp,2,none⟩) (Jj (p:=⟨qp,1,none⟩) (Jj (p:=⟨qp,0,none⟩) (Jt yp.out qf.out (by decide)) (fun _ hk=>hk.2) (.int .i64 qm)) (fun _ hk=>hk.2) (.int .i64 qo)) (fun _ hk=>hk.2) (.slice yb qk.length qz)) (fun _ h_=>h_.1))) (Kd.R_base vc) hb);have yn:=Ja (Jk (by(with_reducible repeat(first|apply Jg|apply Jh|apply Jc));exact(Jq (Jj (p:=⟨qp,2,none⟩) (Jj (p:=⟨qp,1,none⟩) (Jj (p:=⟨qp,0,none⟩) (Jt yw.out qf.out (by decide)) (fun _ hk=>hk.2) (.int .i64 qm)) (fun _ hk=>hk.2) (.int .i64 qo)) (fun _ hk=>hk.2) (.slice yb qk.length qz)) (fun _ h_=>h_.1))) hb);have yq:=Ja (JA (by(with_reducible repeat(first|apply Jg|apply Jh|apply Jc));exact(Jq (Jj (p:=⟨qp,2,none⟩) (Jj (p:=⟨qp,1,none⟩) (Jj (p:=⟨qp,0,none⟩) (Jt yt.out qf.out (by decide)) (fun _ hk=>hk.2) (.int .i64 qm)) (fun _ hk=>hk.2) (.int .i64 qo)) (fun _ hk=>hk.2) (.slice yb qk.length qz)) (fun _ h_=>h_.1))) (Kd.R_base vc) hb);have ys:=Ja (Kd.R_lower (Kd.R_new' (Kd.R_new' vc (Kd.R_lt (by(with_reducible repeat(first|apply Jg|apply Jh|apply Jc));exact(Jq (Jj (p:=⟨qp,2,none⟩) (Jj (p:=⟨qp,1,none⟩) (Jj (p:=⟨qp,0,none⟩) (Jt yp.out qf.out (by decide)) (fun _ hk=>hk.2) (.int .i64 qm)) (fun _ hk=>hk.2) (.int .i64 qo)) (fun _ hk=>hk.2) (.slice yb qk.length qz)) (fun _ h_=>h_.1))))) (Kd.R_lt (by(with_reducible repeat(first|apply Jg|apply Jh|apply Jc));exact(Jq (Jj (p:=⟨qp,2,none⟩) (Jj (p:=⟨qp,1,none⟩) (Jj (p:=⟨qp,0,none⟩) (Jt yt.out qf.out (by decide)) (fun _ hk=>hk.2) (.int .i64 qm)) (fun _ hk=>hk.2) (.int .i64 qo)) (fun _ hk=>hk.2) (.slice yb qk.length qz)) (fun _ h_=>h_.1))))) (Jz (by repeat(first|(with_reducible first|exact HB.out|apply Jp|apply Ji|apply Jo|refine Jf ?_ qs.out|refine Jf ?_ qw.out)|exact HB.out))));have yx:=Ja (Jn (g:=qq) (o:=.cells #[.int .i64 a0_0,.int .i64 a0_1,.slice A0_2 l0_2.length c0_2] 24 (0,0)) (by(with_reducible repeat(first|refine Je ?_ _|refine Jb ?_|refine Jd ?_ _));refine Ju ?_ zf.out _;(with_reducible repeat(first|refine Je ?_ _|refine Jb ?_|refine Jd ?_ _));refine Ju ?_ zf.out _;(with_reducible repeat(first|refine Je ?_ _|refine Jb ?_|refine Jd ?_ _));refine Ju ?_ zf.out _;(with_reducible repeat(first|refine Je ?_ _|refine Jb ?_|refine Jd ?_ _));exact qe.out) hb);have yz:=Ja (Jn (g:=qp) (o:=.cells #[.int .i64 qm,.int .i64 qo,.slice yb qk.length qz] 27 (0,0)) (by(with_reducible repeat(first|refine Je ?_ _|refine Jb ?_|refine Jd ?_ _));refine blk_put (cs:=#[.int .i64 qm,.int .i64 qo,.slice none 0 0]) ?_ 2 _ rfl;(with_reducible repeat(first|refine Je ?_ _|refine Jb ?_|refine Jd ?_ _));refine blk_put (cs:=#[.int .i64 qm,.int .i64 0,.slice none 0 0]) ?_ 1 _ rfl;(with_reducible repeat(first|refine Je ?_ _|refine Jb ?_|refine Jd ?_ _));refine blk_put (cs:=#[.int .i64 0,.int .i64 0,.slice none 0 0]) ?_ 0 _ rfl;(with_reducible repeat(first|refine Je ?_ _|refine Jb ?_|refine Jd ?_ _));exact qf.out) hb);have za:=Ja (Jv (by repeat(first|(with_reducible first|exact HB.out|apply Jp|apply Ji|apply Jo|refine Jf ?_ qs.out|refine Jf ?_ qw.out)|exact HB.out)) hb);clear yp;clear yw;clear yt;clear qe;clear qf;clear HB;have yp:=ym;have yw:=yn;have yt:=yq;have zl:=ys;have qe:=yx;have qf:=yz;have HB:=za;clear ym yn yq ys yx yz za;(try clear hb);(try clear hb2);(try clear hk);(try clear hi);(try clear vc))|((with_reducible refine gate_dst (N:=10) rfl ?_);refine box_event ?hg (N:=10) ?hd (cs:=#[.int .i64 0,.int .i64 0,.slice none 0 0]) (t:=27) ?hr ?_;(case hd=>rfl);(case hg=>rfl);(case hr=>first|(go_simp;done)|(go_simp;rfl));intro qt hg w33 hbox hb;have ym:=Ja (Jk (by(with_reducible repeat(first|apply Jg|apply Jh|apply Jc));exact yp.out) hb);have yn:=Ja (Jk (by(with_reducible repeat(first|apply Jg|apply Jh|apply Jc));exact yw.out) hb);have yq:=Ja (Jk (by(with_reducible repeat(first|apply Jg|apply Jh|apply Jc));exact yt.out) hb);have ys:=Ja (Jk (by(with_reducible repeat(first|apply Jg|apply Jh|apply Jc));exact zl.out) hb);have yx:=Ja (Jn (g:=qq) (o:=.cells #[.int .i64 a0_0,.int .i64 a0_1,.slice A0_2 l0_2.length c0_2] 24 (0,0)) (by(with_reducible repeat(first|refine Je ?_ _|refine Jb ?_|refine Jd ?_ _));exact qe.out) hb);have yz:=Ja (Jn (g:=qp) (o:=.cells #[.int .i64 qm,.int .i64 qo,.slice yb qk.length qz] 27 (0,0)) (by(with_reducible repeat(first|refine Je ?_ _|refine Jb ?_|refine Jd ?_ _));exact qf.out) hb);have za:=Ja (Jv (by repeat(first|(with_reducible first|exact HB.out|apply Jp|apply Ji|apply Jo|refine Jf ?_ qs.out|refine Jf ?_ qw.out)|exact HB.out)) hb);have ze:=Ja (hbox);have zm:=Ja ((by rw [hg];exact(Jz (by repeat(first|(with_reducible first|exact HB.out|apply Jp|apply Ji|apply Jo|refine Jf ?_ qs.out|refine Jf ?_ qw.out)|exact HB.out))):w.heap.size≤qt));have zv:=Ja ((by rw [hg];exact(Jz (by repeat(first|(with_reducible first|exact HB.out|apply Jp|apply Ji|apply Jo|refine Jf ?_ qs.out|refine Jf ?_ qw.out)|exact HB.out))):w.heap.size≤qt));have zi:=Ja ((by rw [hg];exact Nat.ne_of_lt (blk_lt (g:=qq) (o:=.cells #[.int .i64 a0_0,.int .i64 a0_1,.slice A0_2 l0_2.length c0_2] 24 (0,0)) (by(with_reducible repeat(first|refine Je ?_ _|refine Jb ?_|refine Jd ?_ _));exact qe.out)):qq≠qt));have vp:=Ja ((by rw [hg];exact Nat.ne_of_gt (blk_lt (g:=qq) (o:=.cells #[.int .i64 a0_0,.int .i64 a0_1,.slice A0_2 l0_2.length c0_2] 24 (0,0)) (by(with_reducible repeat(first|refine Je ?_ _|refine Jb ?_|refine Jd ?_ _));exact qe.out)):qt≠qq));have n12_:=Ja ((by rw [hg];exact Nat.ne_of_lt (blk_lt (g:=qp) (o:=.cells #[.int .i64 qm,.int .i64 qo,.slice yb qk.length qz] 27 (0,0)) (by(with_reducible repeat(first|refine Je ?_ _|refine Jb ?_|refine Jd ?_ _));exact qf.out)):qp≠qt));have n13_:=Ja ((by rw [hg];exact Nat.ne_of_gt (blk_lt (g:=qp) (o:=.cells #[.int .i64 qm,.int .i64 qo,.slice yb qk.length qz] 27 (0,0)) (by(with_reducible repeat(first|refine Je ?_ _|refine Jb ?_|refine Jd ?_ _));exact qf.out)):qt≠qp));clear yp;clear yw;clear yt;clear zl;clear qe;clear qf;clear HB;have yp:=ym;have yw:=yn;have yt:=yq;have zl:=ys;have qe:=yx;have qf:=yz;have HB:=za;have qg:=ze;have GW257:=zm;have qy:=zv;have ve:=zi;have vt:=vp;have zg:=n12_;have zu:=n13_;clear ym yn yq ys yx yz za ze zm zv zi vp n12_ n13_;clear hb hbox hg;have hnb34:=vt.out;have hnc34:=ve.out;have hnb35:=zu.out;have hnc35:=zg.out;have hcz36_0:w33.cell? ⟨qt,0,none⟩=some (.int .i64 0):=(Jm qg.out 0).trans rfl;have hcz36_1:w33.cell? ⟨qt,1,none⟩=some (.int .i64 0):=(Jm qg.out 1).trans rfl;have hcz36_2:w33.cell? ⟨qt,2,none⟩=some (.slice none 0 0):=(Jm qg.out 2).trans rfl;have hfz36_0:=Jl qg.out 0;have hfz36_1:=Jl qg.out 1;have hfz36_2:=Jl qg.out 2;obtain⟨yd,yf,eo37⟩:=Kd.R_slice zl.out;subst eo37)|((with_reducible refine Jw (f:=35) rfl ?_);refine goesL_ (some 39) rfl rfl Try.func35 (by kernel_rfl) rfl #[.slice A1 l1.length c1] rfl (by(try simp only [List.map_toArray,List.map_cons,List.map_nil]);first|done|rfl|(simp only [List.length_drop,List.length_take];rfl)) ?_;(with_reducible refine(laws_toByteS.calls k _ _ l1 yk _ ?side1 ?side2 A15.out).mono ?_);(case side1=>exact Kd.C_below HR1.out (by repeat(first|(with_reducible first|exact HB.out|apply Jp|apply Ji|apply Jo|refine Jf ?_ qs.out|refine Jf ?_ qw.out|refine Jf ?_ qy.out)|exact HB.out)));(case side2=>exact HC1.out);rintro e w38 ⟨v259,rfl,vc,hb⟩;refine⟨_,rfl,?_⟩;have ym:=Ja (Jk (by(with_reducible repeat(first|apply Jg|apply Jh|apply Jc));exact(Jq (Jj (p:=⟨qt,2,none⟩) (Jj (p:=⟨qt,1,none⟩) (Jj (p:=⟨qt,0,none⟩) (Jt yp.out qg.out (by decide)) (fun _ hk=>hk.2) (.int .i64 yg)) (fun _ hk=>hk.2) (.int .i64 yh)) (fun _ hk=>hk.2) (.slice yd yc.length yf)) (fun _ h_=>h_.1))) hb);have yn:=Ja (JA (by(with_reducible repeat(first|apply Jg|apply Jh|apply Jc));exact(Jq (Jj (p:=⟨qt,2,none⟩) (Jj (p:=⟨qt,1,none⟩) (Jj (p:=⟨qt,0,none⟩) (Jt yw.out qg.out (by decide)) (fun _ hk=>hk.2) (.int .i64 yg)) (fun _ hk=>hk.2) (.int .i64 yh)) (fun _ hk=>hk.2) (.slice yd yc.length yf)) (fun _ h_=>h_.1))) (Kd.R_base vc) hb);have yq:=Ja (Jk (by(with_reducible repeat(first|apply Jg|apply Jh|apply Jc));exact(Jq (Jj (p:=⟨qt,2,none⟩) (Jj (p:=⟨qt,1,none⟩) (Jj (p:=⟨qt,0,none⟩) (Jt yt.out qg.out (by decide)) (fun _ hk=>hk.2) (.int .i64 yg)) (fun _ hk=>hk.2) (.int .i64 yh)) (fun _ hk=>hk.2) (.slice yd yc.length yf)) (fun _ h_=>h_.1))) hb);have ys:=Ja (Jk (by(with_reducible repeat(first|apply Jg|apply Jh|apply Jc));exact(Jq (Jj (p:=⟨qt,2,none⟩) (Jj (p:=⟨qt,1,none⟩) (Jj (p:=⟨qt,0,none⟩) (Jt zl.out qg.out (by decide)) (fun _ hk=>hk.2) (.int .i64 yg)) (fun _ hk=>hk.2) (.int .i64 yh)) (fun _ hk=>hk.2) (.slice yd yc.length yf)) (fun _ h_=>h_.1))) hb);have yx:=Ja (Kd.R_lower (Kd.R_new' vc (Kd.R_lt (by(with_reducible repeat(first|apply Jg|apply Jh|apply Jc));exact(Jq (Jj (p:=⟨qt,2,none⟩) (Jj (p:=⟨qt,1,none⟩) (Jj (p:=⟨qt,0,none⟩) (Jt yw.out qg.out (by decide)) (fun _ hk=>hk.2) (.int .i64 yg)) (fun _ hk=>hk.2) (.int .i64 yh)) (fun _ hk=>hk.2) (.slice yd yc.length yf)) (fun _ h_=>h_.1))))) (Jz (by repeat(first|(with_reducible first|exact HB.out|apply Jp|apply Ji|apply Jo|refine Jf ?_ qs.out|refine Jf ?_ qw.out|refine Jf ?_ qy.out)|exact HB.out))));have yz:=Ja (Jn (g:=qq) (o:=.cells #[.int .i64 a0_0,.int .i64 a0_1,.slice A0_2 l0_2.length c0_2] 24 (0,0)) (by(with_reducible repeat(first|refine Je ?_ _|refine Jb ?_|refine Jd ?_ _));refine Ju ?_ ve.out _;(with_reducible repeat(first|refine Je ?_ _|refine Jb ?_|refine Jd ?_ _));refine Ju ?_ ve.out _;(with_reducible repeat(first|refine Je ?_ _|refine Jb ?_|refine Jd ?_ _));refine Ju ?_ ve.out _;(with_reducible repeat(first|refine Je ?_ _|refine Jb ?_|refine Jd ?_ _));exact qe.out) hb);have za:=Ja (Jn (g:=qp) (o:=.cells #[.int .i64 qm,.int .i64 qo,.slice yb qk.length qz] 27 (0,0)) (by(with_reducible repeat(first|refine Je ?_ _|refine Jb ?_|refine Jd ?_ _));refine Ju ?_ zg.out _;(with_reducible repeat(first|refine Je ?_ _|refine Jb ?_|refine Jd ?_ _));refine Ju ?_ zg.out _;(with_reducible repeat(first|refine Je ?_ _|refine Jb ?_|refine Jd ?_ _));refine Ju ?_ zg.out _;(with_reducible repeat(first|refine Je ?_ _|refine Jb ?_|refine Jd ?_ _));exact qf.out) hb);have ze:=Ja (Jn (g:=qt) (o:=.cells #[.int .i64 yg,.int .i64 yh,.slice yd yc.length yf] 27 (0,0)) (by(with_reducible repeat(first|refine Je ?_ _|refine Jb ?_|refine Jd ?_ _));refine blk_put (cs:=#[.int .i64 yg,.int .i64 yh,.slice none 0 0]) ?_ 2 _ rfl;(with_reducible repeat(first|refine Je ?_ _|refine Jb ?_|refine Jd ?_ _));refine blk_put (cs:=#[.int .i64 yg,.int .i64 0,.slice none 0 0]) ?_ 1 _ rfl;(with_reducible repeat(first|refine Je ?_ _|refine Jb ?_|refine Jd ?_ _));refine blk_put (cs:=#[.int .i64 0,.int .i64 0,.slice none 0 0]) ?_ 0 _ rfl;(with_reducible repeat(first|refine Je ?_ _|refine Jb ?_|refine Jd ?_ _));exact qg.out) hb);have zm:=Ja (Jv (by repeat(first|(with_reducible first|exact HB.out|apply Jp|apply Ji|apply Jo|refine Jf ?_ qs.out|refine Jf ?_ qw.out|refine Jf ?_ qy.out)|exact HB.out)) hb);clear yp;clear yw;clear yt;clear zl;clear qe;clear qf;clear qg;clear HB;have yp:=ym;have yw:=yn;have yt:=yq;have zl:=ys;have zz:=yx;have qe:=yz;have qf:=za;have qg:=ze;have HB:=zm;clear ym yn yq ys yx yz za ze zm;(try clear hb);(try clear hb2);(try clear hk);(try clear hi);(try clear vc);have hcz39_0:w38.cell? ⟨qt,0,none⟩=some (.int .i64 yg):=(Jm qg.out 0).trans rfl;have hcz39_1:w38.cell? ⟨qt,1,none⟩=some (.int .i64 yh):=(Jm qg.out 1).trans rfl;have hcz39_2:w38.cell? ⟨qt,2,none⟩=some (.slice yd yc.length yf):=(Jm qg.out 2).trans rfl;have hfz39_0:=Jl qg.out 0;have hfz39_1:=Jl qg.out 1;have hfz39_2:=Jl qg.out 2;obtain⟨Ao40,co40,eo40⟩:=Kd.R_slice zz.out;subst eo40)|((with_reducible refine Jw (f:=36) rfl ?_);refine goesL_ (some 44) rfl rfl Try.func36 (by kernel_rfl) rfl #[.agg #[.int .i64 yg,.int .i64 yh,.slice yd yc.length yf],.slice Ao40 yk.length co40,.int .i64 a2] rfl (by(try simp only [List.map_toArray,List.map_cons,List.map_nil]);first|done|rfl|(simp only [List.length_drop,List.length_take];rfl)) ?_;(with_reducible refine(impl_Decode.calls k yg yh _ _ yc _ _ yk a2 qj ql qi vd _ ?side1 ?side2 ?side3 ?side4 A16.out).mono ?_);(case side1=>repeat(first|exact(Jr zl.out).2.2|(with_reducible refine Jx ?_ _)|(with_reducible refine Jy ?_ _)|(with_reducible refine Js ?_)));(case side2=>exact(Jr zl.out).2.1);(case side3=>repeat(first|exact(Jr zz.out).2.2|(with_reducible refine Jx ?_ _)|(with_reducible refine Jy ?_ _)|(with_reducible refine Js ?_)));(case side4=>exact(Jr zz.out).2.1);rintro e w41 ⟨v264,rfl,vc,hb⟩;refine⟨_,rfl,?_⟩;have ym:=Ja (JA (by(with_reducible repeat(first|apply Jg|apply Jh|apply Jc));exact yp.out) (Kd.R_base vc) hb);have yn:=Ja (Jk (by(with_reducible repeat(first|apply Jg|apply Jh|apply Jc));exact yw.out) hb);have yq:=Ja (JA (by(with_reducible repeat(first|apply Jg|apply Jh|apply Jc));exact yt.out) (Kd.R_base vc) hb);have ys:=Ja (JA (by(with_reducible repeat(first|apply Jg|apply Jh|apply Jc));exact zl.out) (Kd.R_base vc) hb);have yx:=Ja (Jk (by(with_reducible repeat(first|apply Jg|apply Jh|apply Jc));exact zz.out) hb);have yz:=Ja (Kd.R_lower (Kd.R_new' (Kd.R_new' (Kd.R_new' vc (Kd.R_lt (by(with_reducible repeat(first|apply Jg|apply Jh|apply Jc));exact yp.out))) (Kd.R_lt (by(with_reducible repeat(first|apply Jg|apply Jh|apply Jc));exact yt.out))) (Kd.R_lt (by(with_reducible repeat(first|apply Jg|apply Jh|apply Jc));exact zl.out))) (Jz (by repeat(first|(with_reducible first|exact HB.out|apply Jp|apply Ji|apply Jo|refine Jf ?_ qs.out|refine Jf ?_ qw.out|refine Jf ?_ qy.out)|exact HB.out))));have za:=Ja (Jn (g:=qq) (o:=.cells #[.int .i64 a0_0,.int .i64 a0_1,.slice A0_2 l0_2.length c0_2] 24 (0,0)) (by(with_reducible repeat(first|refine Je ?_ _|refine Jb ?_|refine Jd ?_ _));exact qe.out) hb);have ze:=Ja (Jn (g:=qp) (o:=.cells #[.int .i64 qm,.int .i64 qo,.slice yb qk.length qz] 27 (0,0)) (by(with_reducible repeat(first|refine Je ?_ _|refine Jb ?_|refine Jd ?_ _));exact qf.out) hb);have zm:=Ja (Jn (g:=qt) (o:=.cells #[.int .i64 yg,.int .i64 yh,.slice yd yc.length yf] 27 (0,0)) (by(with_reducible repeat(first|refine Je ?_ _|refine Jb ?_|refine Jd ?_ _));exact qg.out) hb);have zv:=Ja (Jv (by repeat(first|(with_reducible first|exact HB.out|apply Jp|apply Ji|apply Jo|refine Jf ?_ qs.out|refine Jf ?_ qw.out|refine Jf ?_ qy.out)|exact HB.out)) hb);clear yp;clear yw;clear yt;clear zl;clear zz;clear qe;clear qf;clear qg;clear HB;have yp:=ym;have yw:=yn;have yt:=yq;have zl:=ys;have zz:=yx;have va:=yz;have qe:=za;have qf:=ze;have qg:=zm;have HB:=zv;clear ym yn yq ys yx yz za ze zm zv;(try clear hb);(try clear hb2);(try clear hk);(try clear hi);(try clear vc))|((with_reducible refine gate_dst (N:=12) rfl ?_);refine box_event ?hg (N:=12) ?hd (cs:=#[.int .i64 0,.int .i64 0,.slice none 0 0]) (t:=27) ?hr ?_;(case hd=>rfl);(case hg=>rfl);(case hr=>first|(go_simp;done)|(go_simp;rfl));intro qh hg w42 hbox hb;have ym:=Ja (Jk (by(with_reducible repeat(first|apply Jg|apply Jh|apply Jc));exact yp.out) hb);have yn:=Ja (Jk (by(with_reducible repeat(first|apply Jg|apply Jh|apply Jc));exact yw.out) hb);have yq:=Ja (Jk (by(with_reducible repeat(first|apply Jg|apply Jh|apply Jc));exact yt.out) hb);have ys:=Ja (Jk (by(with_reducible repeat(first|apply Jg|apply Jh|apply Jc));exact zl.out) hb);have yx:=Ja (Jk (by(with_reducible repeat(first|apply Jg|apply Jh|apply Jc));exact zz.out) hb);have yz:=Ja (Jk (by(with_reducible repeat(first|apply Jg|apply Jh|apply Jc));exact va.out) hb);have za:=Ja (Jn (g:=qq) (o:=.cells #[.int .i64 a0_0,.int .i64 a0_1,.slice A0_2 l0_2.length c0_2] 24 (0,0)) (by(with_reducible repeat(first|refine Je ?_ _|refine Jb ?_|refine Jd ?_ _));exact qe.out) hb);have ze:=Ja (Jn (g:=qp) (o:=.cells #[.int .i64 qm,.int .i64 qo,.slice yb qk.length qz] 27 (0,0)) (by(with_reducible repeat(first|refine Je ?_ _|refine Jb ?_|refine Jd ?_ _));exact qf.out) hb);have zm:=Ja (Jn (g:=qt) (o:=.cells #[.int .i64 yg,.int .i64 yh,.slice yd yc.length yf] 27 (0,0)) (by(with_reducible repeat(first|refine Je ?_ _|refine Jb ?_|refine Jd ?_ _));exact qg.out) hb);have zv:=Ja (Jv (by repeat(first|(with_reducible first|exact HB.out|apply Jp|apply Ji|apply Jo|refine Jf ?_ qs.out|refine Jf ?_ qw.out|refine Jf ?_ qy.out)|exact HB.out)) hb);have zi:=Ja (hbox);have vp:=Ja ((by rw [hg];exact(Jz (by repeat(first|(with_reducible first|exact HB.out|apply Jp|apply Ji|apply Jo|refine Jf ?_ qs.out|refine Jf ?_ qw.out|refine Jf ?_ qy.out)|exact HB.out))):w.heap.size≤qh));have n12_:=Ja ((by rw [hg];exact(Jz (by repeat(first|(with_reducible first|exact HB.out|apply Jp|apply Ji|apply Jo|refine Jf ?_ qs.out|refine Jf ?_ qw.out|refine Jf ?_ qy.out)|exact HB.out))):w.heap.size≤qh));have n13_:=Ja ((by rw [hg];exact Nat.ne_of_lt (blk_lt (g:=qq) (o:=.cells #[.int .i64 a0_0,.int .i64 a0_1,.slice A0_2 l0_2.length c0_2] 24 (0,0)) (by(with_reducible repeat(first|refine Je ?_ _|refine Jb ?_|refine Jd ?_ _));exact qe.out)):qq≠qh));have n14_:=Ja ((by rw [hg];exact Nat.ne_of_gt (blk_lt (g:=qq) (o:=.cells #[.int .i64 a0_0,.int .i64 a0_1,.slice A0_2 l0_2.length c0_2] 24 (0,0)) (by(with_reducible repeat(first|refine Je ?_ _|refine Jb ?_|refine Jd ?_ _));exact qe.out)):qh≠qq));have n15_:=Ja ((by rw [hg];exact Nat.ne_of_lt (blk_lt (g:=qp) (o:=.cells #[.int .i64 qm,.int .i64 qo,.slice yb qk.length qz] 27 (0,0)) (by(with_reducible repeat(first|refine Je ?_ _|refine Jb ?_|refine Jd ?_ _));exact qf.out)):qp≠qh));have n16_:=Ja ((by rw [hg];exact Nat.ne_of_gt (blk_lt (g:=qp) (o:=.cells #[.int .i64 qm,.int .i64 qo,.slice yb qk.length qz] 27 (0,0)) (by(with_reducible repeat(first|refine Je ?_ _|refine Jb ?_|refine Jd ?_ _));exact qf.out)):qh≠qp));have n17_:=Ja ((by rw [hg];exact Nat.ne_of_lt (blk_lt (g:=qt) (o:=.cells #[.int .i64 yg,.int .i64 yh,.slice yd yc.length yf] 27 (0,0)) (by(with_reducible repeat(first|refine Je ?_ _|refine Jb ?_|refine Jd ?_ _));exact qg.out)):qt≠qh));have n18_:=Ja ((by rw [hg];exact Nat.ne_of_gt (blk_lt (g:=qt) (o:=.cells #[.int .i64 yg,.int .i64 yh,.slice yd yc.length yf] 27 (0,0)) (by(with_reducible repeat(first|refine Je ?_ _|refine Jb ?_|refine Jd ?_ _));exact qg.out)):qh≠qt));clear yp;clear yw;clear yt;clear zl;clear zz;clear va;clear qe;clear qf;clear qg;clear HB;have yp:=ym;have yw:=yn;have yt:=yq;have zl:=ys;have zz:=yx;have va:=yz;have qe:=za;have qf:=ze;have qg:=zm;have HB:=zv;have qd:=zi;have GW267:=vp;have yj:=n12_;have yl:=n13_;have zh:=n14_;have ye:=n15_;have yv:=n16_;have yi:=n17_;have zc:=n18_;clear ym yn yq ys yx yz za ze zm zv zi vp n12_ n13_ n14_ n15_ n16_ n17_ n18_;clear hb hbox hg;have hnb43:=zh.out;have hnc43:=yl.out;have hnb44:=yv.out;have hnc44:=ye.out;have hnb45:=zc.out;have hnc45:=yi.out;have hcz46_0:w42.cell? ⟨qh,0,none⟩=some (.int .i64 0):=(Jm qd.out 0).trans rfl;have hcz46_1:w42.cell? ⟨qh,1,none⟩=some (.int .i64 0):=(Jm qd.out 1).trans rfl;have hcz46_2:w42.cell? ⟨qh,2,none⟩=some (.slice none 0 0):=(Jm qd.out 2).trans rfl;have hfz46_0:=Jl qd.out 0;have hfz46_1:=Jl qd.out 1;have hfz46_2:=Jl qd.out 2;obtain⟨qv,qu,eo47⟩:=Kd.R_slice va.out;subst eo47))
   (try simp only [Act.put,List.setIfInBounds_toArray,List.set_cons_zero,List.set_cons_succ])
   go_cut [55] (fun v55 wc=>∃ (kq:Nat) (x55_16:Bool),v55=.bool x55_16∧Aside0 (laws_FnExactDecode.j0 kq l1 a2 ya yk vd x55_16 a0_0 a0_1 l0_2 qm qo qk yg yh yc qj ql qi=some true)∧Aside0 (kq≤k)∧Aside0 (Kd.R (Kd.int .u8) 5 wc w.heap.size (fun _=>True) (.slice Ao40 yk.length co40) yk)∧Aside0 (Kd.R (Kd.int .i64) 2 wc w.heap.size (fun k_=>some k_≠((.slice yd yc.length yf):Value).ownBlock∧some k_≠((.slice qv qi.length qu):Value).ownBlock) (.slice yb qk.length qz) qk)∧Aside0 (Kd.R (Kd.int .i64) 2 wc w.heap.size (fun k_=>some k_≠((.slice yb qk.length qz):Value).ownBlock∧some k_≠((.slice qv qi.length qu):Value).ownBlock) (.slice yd yc.length yf) yc)∧Aside0 (Kd.R (Kd.int .i64) 2 wc w.heap.size (fun k_=>some k_≠((.slice yb qk.length qz):Value).ownBlock∧some k_≠((.slice yd yc.length yf):Value).ownBlock) (.slice qv qi.length qu) qi)∧Aside0 (wc.heap[qq]? = some (.cells #[.int .i64 a0_0,.int .i64 a0_1,(.slice A0_2 l0_2.length c0_2)] 24 (0,0)))∧Aside0 (wc.heap[qp]? = some (.cells #[.int .i64 qm,.int .i64 qo,(.slice yb qk.length qz)] 27 (0,0)))∧Aside0 (wc.heap[qt]? = some (.cells #[.int .i64 yg,.int .i64 yh,(.slice yd yc.length yf)] 27 (0,0)))∧Aside0 (wc.heap[qh]? = some (.cells #[.int .i64 qj,.int .i64 ql,(.slice qv qi.length qu)] 27 (0,0)))∧Aside0 (Below w.heap.size w wc))
   case first=>
    have H:=HC17.out
    clear HC17
    replace H:=Option.bind_eq_some_iff.mp H
    obtain⟨vk,A480,H⟩:=H
    replace H:(if vk=true then (laws_FnExactDecode.j0 k l1 a2 ya yk vd (vd != ya) a0_0 a0_1 l0_2 qm qo qk yg yh yc qj ql qi) else (laws_FnExactDecode.j0 k l1 a2 ya yk vd true a0_0 a0_1 l0_2 qm qo qk yg yh yc qj ql qi))=some true:=H
    have A48:=Ja A480
    clear A480
    by_cases c49:vk=true
    ·subst c49
     have H1:(laws_FnExactDecode.j0 k l1 a2 ya yk vd (vd != ya) a0_0 a0_1 l0_2 qm qo qk yg yh yc qj ql qi)=some true:=by rw [if_pos rfl] at H;exact H
     clear H
     have H:=H1
     clear H1
     have H':=Ja H
     clear H
     have hnb50:=zh.out
     have hnc50:=yl.out
     have hnb51:=yv.out
     have hnc51:=ye.out
     have hnb52:=zc.out
     have hnc52:=yi.out
     have hcz53_0:w42.cell? ⟨qh,0,none⟩=some (.int .i64 0):=(Jm qd.out 0).trans rfl
     have hcz53_1:w42.cell? ⟨qh,1,none⟩=some (.int .i64 0):=(Jm qd.out 1).trans rfl
     have hcz53_2:w42.cell? ⟨qh,2,none⟩=some (.slice none 0 0):=(Jm qd.out 2).trans rfl
     have hfz53_0:=Jl qd.out 0
     have hfz53_1:=Jl qd.out 1
     have hfz53_2:=Jl qd.out 2
     have hnb54:=zt.out
     have hnc54:=zf.out
     have hnb55:=zg.out
     have hnc55:=zu.out
     have hcz56_0:w42.cell? ⟨qp,0,none⟩=some (.int .i64 qm):=(Jm qf.out 0).trans rfl
     have hcz56_1:w42.cell? ⟨qp,1,none⟩=some (.int .i64 qo):=(Jm qf.out 1).trans rfl
     have hcz56_2:w42.cell? ⟨qp,2,none⟩=some (.slice yb qk.length qz):=(Jm qf.out 2).trans rfl
     have hfz56_0:=Jl qf.out 0
     have hfz56_1:=Jl qf.out 1
     have hfz56_2:=Jl qf.out 2
     go_wp2_with (first|((with_reducible refine Jw (f:=18) rfl ?_);refine goesL_ (some 49) rfl rfl Try.func18 (by kernel_rfl) rfl #[.agg #[.int .i64 qj,.int .i64 ql,.slice qv qi.length qu],.agg #[.int .i64 qm,.int .i64 qo,.slice yb qk.length qz]] rfl (by(try simp only [List.map_toArray,List.map_cons,List.map_nil]);first|done|rfl|(simp only [List.length_drop,List.length_take];rfl)) ?_;(with_reducible refine(laws_eqPicture.calls k qj ql _ _ qi qm qo _ _ qk true _ ?side1 ?side2 ?side3 ?side4 A48.out).mono ?_);(case side1=>refine(Jr (e:=2) (base:=w.heap.size) (ok:=fun k_=>(((True∧some k_≠(.slice Ao24 t239.length co24:Value).ownBlock)∧some k_≠(.slice yb qk.length qz:Value).ownBlock)∧some k_≠(.slice yd yc.length yf:Value).ownBlock)) (n:=qi.length) (c:=qu) ?_).2.2;exact(by(with_reducible repeat(first|apply Jg|apply Jh|apply Jc));exact(Jq (Jj (p:=⟨qh,2,none⟩) (Jj (p:=⟨qh,1,none⟩) (Jj (p:=⟨qh,0,none⟩) (Jt va.out qd.out (by decide)) (fun _ hk=>hk.2) (.int .i64 qj)) (fun _ hk=>hk.2) (.int .i64 ql)) (fun _ hk=>hk.2) (.slice qv qi.length qu)) (fun _ h_=>h_.1))));(case side2=>exact(Jr va.out).2.1);(case side3=>refine(Jr (e:=2) (base:=w.heap.size) (ok:=fun k_=>(((True∧some k_≠(.slice Ao24 t239.length co24:Value).ownBlock)∧some k_≠(.slice yd yc.length yf:Value).ownBlock)∧some k_≠(.slice qv qi.length qu:Value).ownBlock)) (n:=qk.length) (c:=qz) ?_).2.2;exact(by(with_reducible repeat(first|apply Jg|apply Jh|apply Jc));exact(Jq (Jj (p:=⟨qh,2,none⟩) (Jj (p:=⟨qh,1,none⟩) (Jj (p:=⟨qh,0,none⟩) (Jt yt.out qd.out (by decide)) (fun _ hk=>hk.2) (.int .i64 qj)) (fun _ hk=>hk.2) (.int .i64 ql)) (fun _ hk=>hk.2) (.slice qv qi.length qu)) (fun _ h_=>h_.1))));(case side4=>exact(Jr yt.out).2.1);rintro e w57 ⟨rfl,hb⟩;refine⟨_,rfl,?_⟩;have ym:=Ja (Jk (by(with_reducible repeat(first|apply Jg|apply Jh|apply Jc));exact(Jq (Jj (p:=⟨qh,2,none⟩) (Jj (p:=⟨qh,1,none⟩) (Jj (p:=⟨qh,0,none⟩) (Jt yp.out qd.out (by decide)) (fun _ hk=>hk.2) (.int .i64 qj)) (fun _ hk=>hk.2) (.int .i64 ql)) (fun _ hk=>hk.2) (.slice qv qi.length qu)) (fun _ h_=>h_.1))) hb);have yn:=Ja (Jk (by(with_reducible repeat(first|apply Jg|apply Jh|apply Jc));exact(Jq (Jj (p:=⟨qh,2,none⟩) (Jj (p:=⟨qh,1,none⟩) (Jj (p:=⟨qh,0,none⟩) (Jt yw.out qd.out (by decide)) (fun _ hk=>hk.2) (.int .i64 qj)) (fun _ hk=>hk.2) (.int .i64 ql)) (fun _ hk=>hk.2) (.slice qv qi.length qu)) (fun _ h_=>h_.1))) hb);have yq:=Ja (Jk (by(with_reducible repeat(first|apply Jg|apply Jh|apply Jc));exact(Jq (Jj (p:=⟨qh,2,none⟩) (Jj (p:=⟨qh,1,none⟩) (Jj (p:=⟨qh,0,none⟩) (Jt yt.out qd.out (by decide)) (fun _ hk=>hk.2) (.int .i64 qj)) (fun _ hk=>hk.2) (.int .i64 ql)) (fun _ hk=>hk.2) (.slice qv qi.length qu)) (fun _ h_=>h_.1))) hb);have ys:=Ja (Jk (by(with_reducible repeat(first|apply Jg|apply Jh|apply Jc));exact(Jq (Jj (p:=⟨qh,2,none⟩) (Jj (p:=⟨qh,1,none⟩) (Jj (p:=⟨qh,0,none⟩) (Jt zl.out qd.out (by decide)) (fun _ hk=>hk.2) (.int .i64 qj)) (fun _ hk=>hk.2) (.int .i64 ql)) (fun _ hk=>hk.2) (.slice qv qi.length qu)) (fun _ h_=>h_.1))) hb);have yx:=Ja (Jk (by(with_reducible repeat(first|apply Jg|apply Jh|apply Jc));exact(Jq (Jj (p:=⟨qh,2,none⟩) (Jj (p:=⟨qh,1,none⟩) (Jj (p:=⟨qh,0,none⟩) (Jt zz.out qd.out (by decide)) (fun _ hk=>hk.2) (.int .i64 qj)) (fun _ hk=>hk.2) (.int .i64 ql)) (fun _ hk=>hk.2) (.slice qv qi.length qu)) (fun _ h_=>h_.1))) hb);have yz:=Ja (Jk (by(with_reducible repeat(first|apply Jg|apply Jh|apply Jc));exact(Jq (Jj (p:=⟨qh,2,none⟩) (Jj (p:=⟨qh,1,none⟩) (Jj (p:=⟨qh,0,none⟩) (Jt va.out qd.out (by decide)) (fun _ hk=>hk.2) (.int .i64 qj)) (fun _ hk=>hk.2) (.int .i64 ql)) (fun _ hk=>hk.2) (.slice qv qi.length qu)) (fun _ h_=>h_.1))) hb);have za:=Ja (Jn (g:=qq) (o:=.cells #[.int .i64 a0_0,.int .i64 a0_1,.slice A0_2 l0_2.length c0_2] 24 (0,0)) (by(with_reducible repeat(first|refine Je ?_ _|refine Jb ?_|refine Jd ?_ _));refine Ju ?_ yl.out _;(with_reducible repeat(first|refine Je ?_ _|refine Jb ?_|refine Jd ?_ _));refine Ju ?_ yl.out _;(with_reducible repeat(first|refine Je ?_ _|refine Jb ?_|refine Jd ?_ _));refine Ju ?_ yl.out _;(with_reducible repeat(first|refine Je ?_ _|refine Jb ?_|refine Jd ?_ _));exact qe.out) hb);have ze:=Ja (Jn (g:=qp) (o:=.cells #[.int .i64 qm,.int .i64 qo,.slice yb qk.length qz] 27 (0,0)) (by(with_reducible repeat(first|refine Je ?_ _|refine Jb ?_|refine Jd ?_ _));refine Ju ?_ ye.out _;(with_reducible repeat(first|refine Je ?_ _|refine Jb ?_|refine Jd ?_ _));refine Ju ?_ ye.out _;(with_reducible repeat(first|refine Je ?_ _|refine Jb ?_|refine Jd ?_ _));refine Ju ?_ ye.out _;(with_reducible repeat(first|refine Je ?_ _|refine Jb ?_|refine Jd ?_ _));exact qf.out) hb);have zm:=Ja (Jn (g:=qt) (o:=.cells #[.int .i64 yg,.int .i64 yh,.slice yd yc.length yf] 27 (0,0)) (by(with_reducible repeat(first|refine Je ?_ _|refine Jb ?_|refine Jd ?_ _));refine Ju ?_ yi.out _;(with_reducible repeat(first|refine Je ?_ _|refine Jb ?_|refine Jd ?_ _));refine Ju ?_ yi.out _;(with_reducible repeat(first|refine Je ?_ _|refine Jb ?_|refine Jd ?_ _));refine Ju ?_ yi.out _;(with_reducible repeat(first|refine Je ?_ _|refine Jb ?_|refine Jd ?_ _));exact qg.out) hb);have zv:=Ja (Jn (g:=qh) (o:=.cells #[.int .i64 qj,.int .i64 ql,.slice qv qi.length qu] 27 (0,0)) (by(with_reducible repeat(first|refine Je ?_ _|refine Jb ?_|refine Jd ?_ _));refine blk_put (cs:=#[.int .i64 qj,.int .i64 ql,.slice none 0 0]) ?_ 2 _ rfl;(with_reducible repeat(first|refine Je ?_ _|refine Jb ?_|refine Jd ?_ _));refine blk_put (cs:=#[.int .i64 qj,.int .i64 0,.slice none 0 0]) ?_ 1 _ rfl;(with_reducible repeat(first|refine Je ?_ _|refine Jb ?_|refine Jd ?_ _));refine blk_put (cs:=#[.int .i64 0,.int .i64 0,.slice none 0 0]) ?_ 0 _ rfl;(with_reducible repeat(first|refine Je ?_ _|refine Jb ?_|refine Jd ?_ _));exact qd.out) hb);have zi:=Ja (Jv (by repeat(first|(with_reducible first|exact HB.out|apply Jp|apply Ji|apply Jo|refine Jf ?_ qs.out|refine Jf ?_ qw.out|refine Jf ?_ qy.out|refine Jf ?_ yj.out)|exact HB.out)) hb);clear yp;clear yw;clear yt;clear zl;clear zz;clear va;clear qe;clear qf;clear qg;clear qd;clear HB;have yp:=ym;have yw:=yn;have yt:=yq;have zl:=ys;have zz:=yx;have va:=yz;have qe:=za;have qf:=ze;have qg:=zm;have qd:=zv;have HB:=zi;clear ym yn yq ys yx yz za ze zm zv zi;(try clear hb);(try clear hb2);(try clear hk);(try clear hi)))
     go_meet
     case rel=>exact⟨_,((vd != ya)),(by first|rfl|(simp;done)|(simp [*];done)),H',⟨by first|omega|exact Nat.le_refl _⟩,⟨by(with_reducible repeat(first|apply Jg|apply Jh|apply Jc));exact Jq zz.out (fun _ hk=>trivial)⟩,⟨by(with_reducible repeat(first|apply Jg|apply Jh|apply Jc));exact Jq yt.out (fun _ hk=>⟨hk.1.2,hk.2⟩)⟩,⟨by(with_reducible repeat(first|apply Jg|apply Jh|apply Jc));exact Jq zl.out (fun _ hk=>⟨hk.1.2,hk.2⟩)⟩,⟨by(with_reducible repeat(first|apply Jg|apply Jh|apply Jc));exact Jq va.out (fun _ hk=>⟨hk.1.2,hk.2⟩)⟩,⟨by(with_reducible repeat(first|refine Je ?_ _|refine Jb ?_|refine Jd ?_ _));exact qe.out⟩,⟨by(with_reducible repeat(first|refine Je ?_ _|refine Jb ?_|refine Jd ?_ _));exact qf.out⟩,⟨by(with_reducible repeat(first|refine Je ?_ _|refine Jb ?_|refine Jd ?_ _));exact qg.out⟩,⟨by(with_reducible repeat(first|refine Je ?_ _|refine Jb ?_|refine Jd ?_ _));exact qd.out⟩,⟨by repeat(first|(with_reducible first|exact HB.out|apply Jp|apply Ji|apply Jo|refine Jf ?_ qs.out|refine Jf ?_ qw.out|refine Jf ?_ qy.out|refine Jf ?_ yj.out)|exact HB.out)⟩⟩
    ·replace c49:=Bool.eq_false_iff.mpr c49
     subst c49
     have H1:(laws_FnExactDecode.j0 k l1 a2 ya yk vd true a0_0 a0_1 l0_2 qm qo qk yg yh yc qj ql qi)=some true:=by rw [if_neg (show ¬ (false=true) by decide)] at H;exact H
     clear H
     have H:=H1
     clear H1
     have H':=Ja H
     clear H
     have hnb58:=zh.out
     have hnc58:=yl.out
     have hnb59:=yv.out
     have hnc59:=ye.out
     have hnb60:=zc.out
     have hnc60:=yi.out
     have hcz61_0:w42.cell? ⟨qh,0,none⟩=some (.int .i64 0):=(Jm qd.out 0).trans rfl
     have hcz61_1:w42.cell? ⟨qh,1,none⟩=some (.int .i64 0):=(Jm qd.out 1).trans rfl
     have hcz61_2:w42.cell? ⟨qh,2,none⟩=some (.slice none 0 0):=(Jm qd.out 2).trans rfl
     have hfz61_0:=Jl qd.out 0
     have hfz61_1:=Jl qd.out 1
     have hfz61_2:=Jl qd.out 2
     have hnb62:=zt.out
     have hnc62:=zf.out
     have hnb63:=zg.out
     have hnc63:=zu.out
     have hcz64_0:w42.cell? ⟨qp,0,none⟩=some (.int .i64 qm):=(Jm qf.out 0).trans rfl
     have hcz64_1:w42.cell? ⟨qp,1,none⟩=some (.int .i64 qo):=(Jm qf.out 1).trans rfl
     have hcz64_2:w42.cell? ⟨qp,2,none⟩=some (.slice yb qk.length qz):=(Jm qf.out 2).trans rfl
     have hfz64_0:=Jl qf.out 0
     have hfz64_1:=Jl qf.out 1
     have hfz64_2:=Jl qf.out 2
     go_wp2_with (first|((with_reducible refine Jw (f:=18) rfl ?_);refine goesL_ (some 49) rfl rfl Try.func18 (by kernel_rfl) rfl #[.agg #[.int .i64 qj,.int .i64 ql,.slice qv qi.length qu],.agg #[.int .i64 qm,.int .i64 qo,.slice yb qk.length qz]] rfl (by(try simp only [List.map_toArray,List.map_cons,List.map_nil]);first|done|rfl|(simp only [List.length_drop,List.length_take];rfl)) ?_;(with_reducible refine(laws_eqPicture.calls k qj ql _ _ qi qm qo _ _ qk false _ ?side1 ?side2 ?side3 ?side4 A48.out).mono ?_);(case side1=>refine(Jr (e:=2) (base:=w.heap.size) (ok:=fun k_=>(((True∧some k_≠(.slice Ao24 t239.length co24:Value).ownBlock)∧some k_≠(.slice yb qk.length qz:Value).ownBlock)∧some k_≠(.slice yd yc.length yf:Value).ownBlock)) (n:=qi.length) (c:=qu) ?_).2.2;exact(by(with_reducible repeat(first|apply Jg|apply Jh|apply Jc));exact(Jq (Jj (p:=⟨qh,2,none⟩) (Jj (p:=⟨qh,1,none⟩) (Jj (p:=⟨qh,0,none⟩) (Jt va.out qd.out (by decide)) (fun _ hk=>hk.2) (.int .i64 qj)) (fun _ hk=>hk.2) (.int .i64 ql)) (fun _ hk=>hk.2) (.slice qv qi.length qu)) (fun _ h_=>h_.1))));(case side2=>exact(Jr va.out).2.1);(case side3=>refine(Jr (e:=2) (base:=w.heap.size) (ok:=fun k_=>(((True∧some k_≠(.slice Ao24 t239.length co24:Value).ownBlock)∧some k_≠(.slice yd yc.length yf:Value).ownBlock)∧some k_≠(.slice qv qi.length qu:Value).ownBlock)) (n:=qk.length) (c:=qz) ?_).2.2;exact(by(with_reducible repeat(first|apply Jg|apply Jh|apply Jc));exact(Jq (Jj (p:=⟨qh,2,none⟩) (Jj (p:=⟨qh,1,none⟩) (Jj (p:=⟨qh,0,none⟩) (Jt yt.out qd.out (by decide)) (fun _ hk=>hk.2) (.int .i64 qj)) (fun _ hk=>hk.2) (.int .i64 ql)) (fun _ hk=>hk.2) (.slice qv qi.length qu)) (fun _ h_=>h_.1))));(case side4=>exact(Jr yt.out).2.1);rintro e w65 ⟨rfl,hb⟩;refine⟨_,rfl,?_⟩;have ym:=Ja (Jk (by(with_reducible repeat(first|apply Jg|apply Jh|apply Jc));exact(Jq (Jj (p:=⟨qh,2,none⟩) (Jj (p:=⟨qh,1,none⟩) (Jj (p:=⟨qh,0,none⟩) (Jt yp.out qd.out (by decide)) (fun _ hk=>hk.2) (.int .i64 qj)) (fun _ hk=>hk.2) (.int .i64 ql)) (fun _ hk=>hk.2) (.slice qv qi.length qu)) (fun _ h_=>h_.1))) hb);have yn:=Ja (Jk (by(with_reducible repeat(first|apply Jg|apply Jh|apply Jc));exact(Jq (Jj (p:=⟨qh,2,none⟩) (Jj (p:=⟨qh,1,none⟩) (Jj (p:=⟨qh,0,none⟩) (Jt yw.out qd.out (by decide)) (fun _ hk=>hk.2) (.int .i64 qj)) (fun _ hk=>hk.2) (.int .i64 ql)) (fun _ hk=>hk.2) (.slice qv qi.length qu)) (fun _ h_=>h_.1))) hb);have yq:=Ja (Jk (by(with_reducible repeat(first|apply Jg|apply Jh|apply Jc));exact(Jq (Jj (p:=⟨qh,2,none⟩) (Jj (p:=⟨qh,1,none⟩) (Jj (p:=⟨qh,0,none⟩) (Jt yt.out qd.out (by decide)) (fun _ hk=>hk.2) (.int .i64 qj)) (fun _ hk=>hk.2) (.int .i64 ql)) (fun _ hk=>hk.2) (.slice qv qi.length qu)) (fun _ h_=>h_.1))) hb);have ys:=Ja (Jk (by(with_reducible repeat(first|apply Jg|apply Jh|apply Jc));exact(Jq (Jj (p:=⟨qh,2,none⟩) (Jj (p:=⟨qh,1,none⟩) (Jj (p:=⟨qh,0,none⟩) (Jt zl.out qd.out (by decide)) (fun _ hk=>hk.2) (.int .i64 qj)) (fun _ hk=>hk.2) (.int .i64 ql)) (fun _ hk=>hk.2) (.slice qv qi.length qu)) (fun _ h_=>h_.1))) hb);have yx:=Ja (Jk (by(with_reducible repeat(first|apply Jg|apply Jh|apply Jc));exact(Jq (Jj (p:=⟨qh,2,none⟩) (Jj (p:=⟨qh,1,none⟩) (Jj (p:=⟨qh,0,none⟩) (Jt zz.out qd.out (by decide)) (fun _ hk=>hk.2) (.int .i64 qj)) (fun _ hk=>hk.2) (.int .i64 ql)) (fun _ hk=>hk.2) (.slice qv qi.length qu)) (fun _ h_=>h_.1))) hb);have yz:=Ja (Jk (by(with_reducible repeat(first|apply Jg|apply Jh|apply Jc));exact(Jq (Jj (p:=⟨qh,2,none⟩) (Jj (p:=⟨qh,1,none⟩) (Jj (p:=⟨qh,0,none⟩) (Jt va.out qd.out (by decide)) (fun _ hk=>hk.2) (.int .i64 qj)) (fun _ hk=>hk.2) (.int .i64 ql)) (fun _ hk=>hk.2) (.slice qv qi.length qu)) (fun _ h_=>h_.1))) hb);have za:=Ja (Jn (g:=qq) (o:=.cells #[.int .i64 a0_0,.int .i64 a0_1,.slice A0_2 l0_2.length c0_2] 24 (0,0)) (by(with_reducible repeat(first|refine Je ?_ _|refine Jb ?_|refine Jd ?_ _));refine Ju ?_ yl.out _;(with_reducible repeat(first|refine Je ?_ _|refine Jb ?_|refine Jd ?_ _));refine Ju ?_ yl.out _;(with_reducible repeat(first|refine Je ?_ _|refine Jb ?_|refine Jd ?_ _));refine Ju ?_ yl.out _;(with_reducible repeat(first|refine Je ?_ _|refine Jb ?_|refine Jd ?_ _));exact qe.out) hb);have ze:=Ja (Jn (g:=qp) (o:=.cells #[.int .i64 qm,.int .i64 qo,.slice yb qk.length qz] 27 (0,0)) (by(with_reducible repeat(first|refine Je ?_ _|refine Jb ?_|refine Jd ?_ _));refine Ju ?_ ye.out _;(with_reducible repeat(first|refine Je ?_ _|refine Jb ?_|refine Jd ?_ _));refine Ju ?_ ye.out _;(with_reducible repeat(first|refine Je ?_ _|refine Jb ?_|refine Jd ?_ _));refine Ju ?_ ye.out _;(with_reducible repeat(first|refine Je ?_ _|refine Jb ?_|refine Jd ?_ _));exact qf.out) hb);have zm:=Ja (Jn (g:=qt) (o:=.cells #[.int .i64 yg,.int .i64 yh,.slice yd yc.length yf] 27 (0,0)) (by(with_reducible repeat(first|refine Je ?_ _|refine Jb ?_|refine Jd ?_ _));refine Ju ?_ yi.out _;(with_reducible repeat(first|refine Je ?_ _|refine Jb ?_|refine Jd ?_ _));refine Ju ?_ yi.out _;(with_reducible repeat(first|refine Je ?_ _|refine Jb ?_|refine Jd ?_ _));refine Ju ?_ yi.out _;(with_reducible repeat(first|refine Je ?_ _|refine Jb ?_|refine Jd ?_ _));exact qg.out) hb);have zv:=Ja (Jn (g:=qh) (o:=.cells #[.int .i64 qj,.int .i64 ql,.slice qv qi.length qu] 27 (0,0)) (by(with_reducible repeat(first|refine Je ?_ _|refine Jb ?_|refine Jd ?_ _));refine blk_put (cs:=#[.int .i64 qj,.int .i64 ql,.slice none 0 0]) ?_ 2 _ rfl;(with_reducible repeat(first|refine Je ?_ _|refine Jb ?_|refine Jd ?_ _));refine blk_put (cs:=#[.int .i64 qj,.int .i64 0,.slice none 0 0]) ?_ 1 _ rfl;(with_reducible repeat(first|refine Je ?_ _|refine Jb ?_|refine Jd ?_ _));refine blk_put (cs:=#[.int .i64 0,.int .i64 0,.slice none 0 0]) ?_ 0 _ rfl;(with_reducible repeat(first|refine Je ?_ _|refine Jb ?_|refine Jd ?_ _));exact qd.out) hb);have zi:=Ja (Jv (by repeat(first|(with_reducible first|exact HB.out|apply Jp|apply Ji|apply Jo|refine Jf ?_ qs.out|refine Jf ?_ qw.out|refine Jf ?_ qy.out|refine Jf ?_ yj.out)|exact HB.out)) hb);clear yp;clear yw;clear yt;clear zl;clear zz;clear va;clear qe;clear qf;clear qg;clear qd;clear HB;have yp:=ym;have yw:=yn;have yt:=yq;have zl:=ys;have zz:=yx;have va:=yz;have qe:=za;have qf:=ze;have qg:=zm;have qd:=zv;have HB:=zi;clear ym yn yq ys yx yz za ze zm zv zi;(try clear hb);(try clear hb2);(try clear hk);(try clear hi)))
     go_meet
     case rel=>exact⟨_,(true),(by first|rfl|(simp;done)|(simp [*];done)),H',⟨by first|omega|exact Nat.le_refl _⟩,⟨by(with_reducible repeat(first|apply Jg|apply Jh|apply Jc));exact Jq zz.out (fun _ hk=>trivial)⟩,⟨by(with_reducible repeat(first|apply Jg|apply Jh|apply Jc));exact Jq yt.out (fun _ hk=>⟨hk.1.2,hk.2⟩)⟩,⟨by(with_reducible repeat(first|apply Jg|apply Jh|apply Jc));exact Jq zl.out (fun _ hk=>⟨hk.1.2,hk.2⟩)⟩,⟨by(with_reducible repeat(first|apply Jg|apply Jh|apply Jc));exact Jq va.out (fun _ hk=>⟨hk.1.2,hk.2⟩)⟩,⟨by(with_reducible repeat(first|refine Je ?_ _|refine Jb ?_|refine Jd ?_ _));exact qe.out⟩,⟨by(with_reducible repeat(first|refine Je ?_ _|refine Jb ?_|refine Jd ?_ _));exact qf.out⟩,⟨by(with_reducible repeat(first|refine Je ?_ _|refine Jb ?_|refine Jd ?_ _));exact qg.out⟩,⟨by(with_reducible repeat(first|refine Je ?_ _|refine Jb ?_|refine Jd ?_ _));exact qd.out⟩,⟨by repeat(first|(with_reducible first|exact HB.out|apply Jp|apply Ji|apply Jo|refine Jf ?_ qs.out|refine Jf ?_ qw.out|refine Jf ?_ qy.out|refine Jf ?_ yj.out)|exact HB.out)⟩⟩
   case rest=>
    clear HC17
    try clear c1
    try clear c2
    try clear p2
    try clear c3
    try clear c4
    try clear c4b0
    try clear c4b1
    try clear c5
    try clear c6
    try clear c7
    try clear c7b0
    try clear c10
    try clear c14
    try clear c16
    try clear c18
    try clear c28
    try clear c34
    try clear c35
    try clear c36
    try clear c43
    try clear c44
    try clear c45
    try clear c49
    try clear c50
    try clear c51
    try clear c52
    try clear c54
    try clear c55
    try clear c58
    try clear c59
    try clear c60
    try clear c62
    try clear c63
    try clear hcz19_0
    try clear hcz19_1
    try clear hcz19_2
    try clear hcz21_0
    try clear hcz21_1
    try clear hcz21_2
    try clear hcz29_0
    try clear hcz29_1
    try clear hcz29_2
    try clear hcz31_0
    try clear hcz31_1
    try clear hcz31_2
    try clear hcz36_0
    try clear hcz36_1
    try clear hcz36_2
    try clear hcz39_0
    try clear hcz39_1
    try clear hcz39_2
    try clear hcz46_0
    try clear hcz46_1
    try clear hcz46_2
    try clear hcz53_0
    try clear hcz53_1
    try clear hcz53_2
    try clear hcz56_0
    try clear hcz56_1
    try clear hcz56_2
    try clear hcz61_0
    try clear hcz61_1
    try clear hcz61_2
    try clear hcz64_0
    try clear hcz64_1
    try clear hcz64_2
    try clear hcz9_0
    try clear hcz9_1
    try clear hcz9_2
    try clear hfz19_0
    try clear hfz19_1
    try clear hfz19_2
    try clear hfz21_0
    try clear hfz21_1
    try clear hfz21_2
    try clear hfz29_0
    try clear hfz29_1
    try clear hfz29_2
    try clear hfz31_0
    try clear hfz31_1
    try clear hfz31_2
    try clear hfz36_0
    try clear hfz36_1
    try clear hfz36_2
    try clear hfz39_0
    try clear hfz39_1
    try clear hfz39_2
    try clear hfz46_0
    try clear hfz46_1
    try clear hfz46_2
    try clear hfz53_0
    try clear hfz53_1
    try clear hfz53_2
    try clear hfz56_0
    try clear hfz56_1
    try clear hfz56_2
    try clear hfz61_0
    try clear hfz61_1
    try clear hfz61_2
    try clear hfz64_0
    try clear hfz64_1
    try clear hfz64_2
    try clear hfz9_0
    try clear hfz9_1
    try clear hfz9_2
    obtain⟨kq,x55_16,rfl,HA,HJ16,yo,qc,qb,qa,qe,qf,qg,qd,HB⟩:=hcut
    cases kq with
    | zero => exact absurd HA.out (by simp [laws_FnExactDecode.j0])
    | succ kj16 =>
     have H:=HA.out
     clear HA
     simp only [laws_FnExactDecode.j0] at H
     by_cases c66:x55_16=true
     ·subst c66
      have H1:(some false)=some true:=by rw [if_pos rfl] at H;exact H
      clear H
      have H:=H1
      clear H1
      exact absurd (Option.some.inj H) Bool.false_ne_true
     ·replace c66:=Bool.eq_false_iff.mpr c66
      subst c66
      have H1:((laws_toPicture.f kj16 a0_0 a0_1 l0_2).bind fun bt269=>((laws_eqPicture.f kj16 yg yh yc bt269.1 bt269.2.1 bt269.2.2).bind fun t274=>(if t274=true then ((laws_toByteS.f kj16 l1).bind fun vo=>((laws_eqByteS.f kj16 yk vo).bind fun vq=>(if vq=true then ((laws_markPicture.f kj16 yg yh yc 1).bind fun bt279=>((laws_markByteS.f kj16 yk bt279.1).bind fun bt281=>(if bt281.1 < 0 then (laws_FnExactDecode.j1 kj16 l1 a2 ya true a0_0 a0_1 l0_2 qm qo qk qj ql qi) else ((laws_eqPicture.f kj16 qj ql qi qm qo qk).bind fun vi=>(if vi=true then (laws_FnExactDecode.j1 kj16 l1 a2 ya (vd != ya) a0_0 a0_1 l0_2 qm qo qk qj ql qi) else (laws_FnExactDecode.j1 kj16 l1 a2 ya true a0_0 a0_1 l0_2 qm qo qk qj ql qi)))))) else (some false)))) else (some false))))=some true:=by rw [if_neg (show ¬ (false=true) by decide)] at H;exact H
      clear H
      have H:=H1
      clear H1
      replace H:=Option.bind_eq_some_iff.mp H
      obtain⟨⟨t269,t270,t271⟩,A670,H⟩:=H
      replace H:((laws_eqPicture.f kj16 yg yh yc t269 t270 t271).bind fun t274=>(if t274=true then ((laws_toByteS.f kj16 l1).bind fun vo=>((laws_eqByteS.f kj16 yk vo).bind fun vq=>(if vq=true then ((laws_markPicture.f kj16 yg yh yc 1).bind fun bt279=>((laws_markByteS.f kj16 yk bt279.1).bind fun bt281=>(if bt281.1 < 0 then (laws_FnExactDecode.j1 kj16 l1 a2 ya true a0_0 a0_1 l0_2 qm qo qk qj ql qi) else ((laws_eqPicture.f kj16 qj ql qi qm qo qk).bind fun vi=>(if vi=true then (laws_FnExactDecode.j1 kj16 l1 a2 ya (vd != ya) a0_0 a0_1 l0_2 qm qo qk qj ql qi) else (laws_FnExactDecode.j1 kj16 l1 a2 ya true a0_0 a0_1 l0_2 qm qo qk qj ql qi)))))) else (some false)))) else (some false)))=some true:=H
      have A67:=Ja A670
      clear A670
      replace H:=Option.bind_eq_some_iff.mp H
      obtain⟨t274,A680,H⟩:=H
      replace H:(if t274=true then ((laws_toByteS.f kj16 l1).bind fun vo=>((laws_eqByteS.f kj16 yk vo).bind fun vq=>(if vq=true then ((laws_markPicture.f kj16 yg yh yc 1).bind fun bt279=>((laws_markByteS.f kj16 yk bt279.1).bind fun bt281=>(if bt281.1 < 0 then (laws_FnExactDecode.j1 kj16 l1 a2 ya true a0_0 a0_1 l0_2 qm qo qk qj ql qi) else ((laws_eqPicture.f kj16 qj ql qi qm qo qk).bind fun vi=>(if vi=true then (laws_FnExactDecode.j1 kj16 l1 a2 ya (vd != ya) a0_0 a0_1 l0_2 qm qo qk qj ql qi) else (laws_FnExactDecode.j1 kj16 l1 a2 ya true a0_0 a0_1 l0_2 qm qo qk qj ql qi)))))) else (some false)))) else (some false))=some true:=H
      have A68:=Ja A680
      clear A680
      by_cases c69:t274=true
      ·subst c69
       have H1:((laws_toByteS.f kj16 l1).bind fun vo=>((laws_eqByteS.f kj16 yk vo).bind fun vq=>(if vq=true then ((laws_markPicture.f kj16 yg yh yc 1).bind fun bt279=>((laws_markByteS.f kj16 yk bt279.1).bind fun bt281=>(if bt281.1 < 0 then (laws_FnExactDecode.j1 kj16 l1 a2 ya true a0_0 a0_1 l0_2 qm qo qk qj ql qi) else ((laws_eqPicture.f kj16 qj ql qi qm qo qk).bind fun vi=>(if vi=true then (laws_FnExactDecode.j1 kj16 l1 a2 ya (vd != ya) a0_0 a0_1 l0_2 qm qo qk qj ql qi) else (laws_FnExactDecode.j1 kj16 l1 a2 ya true a0_0 a0_1 l0_2 qm qo qk qj ql qi)))))) else (some false))))=some true:=by rw [if_pos rfl] at H;exact H
       clear H
       have H:=H1
       clear H1
       replace H:=Option.bind_eq_some_iff.mp H
       obtain⟨vo,A700,H⟩:=H
       replace H:((laws_eqByteS.f kj16 yk vo).bind fun vq=>(if vq=true then ((laws_markPicture.f kj16 yg yh yc 1).bind fun bt279=>((laws_markByteS.f kj16 yk bt279.1).bind fun bt281=>(if bt281.1 < 0 then (laws_FnExactDecode.j1 kj16 l1 a2 ya true a0_0 a0_1 l0_2 qm qo qk qj ql qi) else ((laws_eqPicture.f kj16 qj ql qi qm qo qk).bind fun vi=>(if vi=true then (laws_FnExactDecode.j1 kj16 l1 a2 ya (vd != ya) a0_0 a0_1 l0_2 qm qo qk qj ql qi) else (laws_FnExactDecode.j1 kj16 l1 a2 ya true a0_0 a0_1 l0_2 qm qo qk qj ql qi)))))) else (some false)))=some true:=H
       have A70:=Ja A700
       clear A700
       replace H:=Option.bind_eq_some_iff.mp H
       obtain⟨vq,A710,H⟩:=H
       replace H:(if vq=true then ((laws_markPicture.f kj16 yg yh yc 1).bind fun bt279=>((laws_markByteS.f kj16 yk bt279.1).bind fun bt281=>(if bt281.1 < 0 then (laws_FnExactDecode.j1 kj16 l1 a2 ya true a0_0 a0_1 l0_2 qm qo qk qj ql qi) else ((laws_eqPicture.f kj16 qj ql qi qm qo qk).bind fun vi=>(if vi=true then (laws_FnExactDecode.j1 kj16 l1 a2 ya (vd != ya) a0_0 a0_1 l0_2 qm qo qk qj ql qi) else (laws_FnExactDecode.j1 kj16 l1 a2 ya true a0_0 a0_1 l0_2 qm qo qk qj ql qi)))))) else (some false))=some true:=H
       have A71:=Ja A710
       clear A710
       by_cases c72:vq=true
       ·subst c72
        have H1:((laws_markPicture.f kj16 yg yh yc 1).bind fun bt279=>((laws_markByteS.f kj16 yk bt279.1).bind fun bt281=>(if bt281.1 < 0 then (laws_FnExactDecode.j1 kj16 l1 a2 ya true a0_0 a0_1 l0_2 qm qo qk qj ql qi) else ((laws_eqPicture.f kj16 qj ql qi qm qo qk).bind fun vi=>(if vi=true then (laws_FnExactDecode.j1 kj16 l1 a2 ya (vd != ya) a0_0 a0_1 l0_2 qm qo qk qj ql qi) else (laws_FnExactDecode.j1 kj16 l1 a2 ya true a0_0 a0_1 l0_2 qm qo qk qj ql qi))))))=some true:=by rw [if_pos rfl] at H;exact H
        clear H
        have H:=H1
        clear H1
        replace H:=Option.bind_eq_some_iff.mp H
        obtain⟨⟨t279,zy⟩,A730,H⟩:=H
        replace H:((laws_markByteS.f kj16 yk t279).bind fun bt281=>(if bt281.1 < 0 then (laws_FnExactDecode.j1 kj16 l1 a2 ya true a0_0 a0_1 l0_2 qm qo qk qj ql qi) else ((laws_eqPicture.f kj16 qj ql qi qm qo qk).bind fun vi=>(if vi=true then (laws_FnExactDecode.j1 kj16 l1 a2 ya (vd != ya) a0_0 a0_1 l0_2 qm qo qk qj ql qi) else (laws_FnExactDecode.j1 kj16 l1 a2 ya true a0_0 a0_1 l0_2 qm qo qk qj ql qi)))))=some true:=H
        have A73:=Ja A730
        clear A730
        replace H:=Option.bind_eq_some_iff.mp H
        obtain⟨⟨t281,t282⟩,A740,H⟩:=H
        replace H:(if t281 < 0 then (laws_FnExactDecode.j1 kj16 l1 a2 ya true a0_0 a0_1 l0_2 qm qo qk qj ql qi) else ((laws_eqPicture.f kj16 qj ql qi qm qo qk).bind fun vi=>(if vi=true then (laws_FnExactDecode.j1 kj16 l1 a2 ya (vd != ya) a0_0 a0_1 l0_2 qm qo qk qj ql qi) else (laws_FnExactDecode.j1 kj16 l1 a2 ya true a0_0 a0_1 l0_2 qm qo qk qj ql qi))))=some true:=H
        have A74:=Ja A740
        clear A740
        have HC75:=Ja H
        clear H
        try go_wp2
        have ym:=Ja (Jc yo.out)
        have yn:=Ja (Jc qc.out)
        have yq:=Ja (Jc qb.out)
        have ys:=Ja (Jc qa.out)
        have yx:=Ja (Jb qe.out)
        have yz:=Ja (Jb qf.out)
        have za:=Ja (Jb qg.out)
        have ze:=Ja (Jb qd.out)
        have zm:=Ja (Jo HB.out)
        clear yo
        clear qc
        clear qb
        clear qa
        clear qe
        clear qf
        clear qg
        clear qd
        clear HB
        have yo:=ym
        have qc:=yn
        have qb:=yq
        have qa:=ys
        have qe:=yx
        have qf:=yz
        have qg:=za
        have qd:=ze
        have HB:=zm
        clear ym yn yq ys yx yz za ze zm
        refine start_ (n:=5) (S:=fun w'=>w'.cell? ⟨qt,0,none⟩=some (.int .i64 yg)∧w'.cell? ⟨qt,1,none⟩=some (.int .i64 yh)∧w'.cell? ⟨qt,2,none⟩=some (.slice yd yc.length yf)∧w'.cell? ⟨qq,0,none⟩=some (.int .i64 a0_0)∧w'.cell? ⟨qq,1,none⟩=some (.int .i64 a0_1)∧w'.cell? ⟨qq,2,none⟩=some (.slice A0_2 l0_2.length c0_2)) (ds:=[]) #[false,false,false,false,false] (by kernel_rfl) rfl rfl ⟨(Jm qg.out 0).trans rfl,(Jm qg.out 1).trans rfl,(Jm qg.out 2).trans rfl,(Jm qe.out 0).trans rfl,(Jm qe.out 1).trans rfl,(Jm qe.out 2).trans rfl⟩ (fun hHeld=>?_)
        generalize wc.drew=w76 at yo qc qb qa qe qf qg qd HB hHeld ⊢
        refine take_ (i:=0) (N:=some 56) (v:=?_) (a':=?_) #[true,false,false,false,false] rfl rfl (by kernel_rfl) (fun _ _ _ h=>h) (Or.inl ⟨by rfl,?_⟩) hHeld ?_ ?_
        rotate_left
        ·rintro w' ⟨s0,s1,s2,s3,s4,s5⟩
         go_simp
         with_reducible rfl
        rotate_left
        ·simp only [Act.put,List.setIfInBounds_toArray,List.set_cons_zero,List.set_cons_succ,i64_w,i32_w]
         rfl
        refine take_ (i:=1) (N:=some 57) (v:=?_) (a':=?_) #[true,true,false,false,false] rfl rfl (by kernel_rfl) (fun _ _ _ h=>h) (Or.inl ⟨by rfl,?_⟩) hHeld ?_ ?_
        rotate_left
        ·rintro w' ⟨s0,s1,s2,s3,s4,s5⟩
         go_simp
         with_reducible rfl
        rotate_left
        ·simp only [Act.put,List.setIfInBounds_toArray,List.set_cons_zero,List.set_cons_succ,i64_w,i32_w]
         rfl
        refine one_ (i:=2) (N:=some 58) #[true,true,true,false,false] rfl rfl (by kernel_rfl) (by decide) (fun K hK=>?_)
        refine goes_ Try.func16 (by kernel_rfl) rfl #[.agg #[.int .i64 a0_0,.int .i64 a0_1,.slice A0_2 l0_2.length c0_2]] (by rfl) rfl rfl (by(try simp only [List.map_toArray,List.map_cons,List.map_nil]);first|done|rfl|(simp only [List.length_drop,List.length_take];rfl)) ?_
        with_reducible refine(laws_toPicture.calls kj16 a0_0 a0_1 _ _ l0_2 t269 t270 t271 _ ?side1 ?side2 A67.out).mono ?_
        (case side1=>repeat(first|exact(Kd.C_below xb.out HB.out)|(with_reducible refine Jx ?_ _)|(with_reducible refine Jy ?_ _)|(with_reducible refine Js ?_)))
        (case side2=>exact xa.out)
        rintro e w77 ⟨v272,rfl,vc,hb⟩
        refine⟨_,rfl,?_⟩
        have ym:=Ja (Jk (by(with_reducible repeat(first|apply Jg|apply Jh|apply Jc));exact yo.out) hb)
        have yn:=Ja (JA (by(with_reducible repeat(first|apply Jg|apply Jh|apply Jc));exact qc.out) (Kd.R_base vc) hb)
        have yq:=Ja (JA (by(with_reducible repeat(first|apply Jg|apply Jh|apply Jc));exact qb.out) (Kd.R_base vc) hb)
        have ys:=Ja (JA (by(with_reducible repeat(first|apply Jg|apply Jh|apply Jc));exact qa.out) (Kd.R_base vc) hb)
        have yx:=Ja (Kd.R_lower (Kd.R_new' (Kd.R_new' (Kd.R_new' vc (Kd.R_lt (by(with_reducible repeat(first|apply Jg|apply Jh|apply Jc));exact qc.out))) (Kd.R_lt (by(with_reducible repeat(first|apply Jg|apply Jh|apply Jc));exact qb.out))) (Kd.R_lt (by(with_reducible repeat(first|apply Jg|apply Jh|apply Jc));exact qa.out))) (Jz (by repeat(first|(with_reducible first|exact HB.out|apply Jp|apply Ji|apply Jo|refine Jf ?_ qs.out|refine Jf ?_ qw.out|refine Jf ?_ qy.out|refine Jf ?_ yj.out)|exact HB.out))))
        have yz:=Ja (Jn (g:=qq) (o:=.cells #[.int .i64 a0_0,.int .i64 a0_1,.slice A0_2 l0_2.length c0_2] 24 (0,0)) (by(with_reducible repeat(first|refine Je ?_ _|refine Jb ?_|refine Jd ?_ _));exact qe.out) hb)
        have za:=Ja (Jn (g:=qp) (o:=.cells #[.int .i64 qm,.int .i64 qo,.slice yb qk.length qz] 27 (0,0)) (by(with_reducible repeat(first|refine Je ?_ _|refine Jb ?_|refine Jd ?_ _));exact qf.out) hb)
        have ze:=Ja (Jn (g:=qt) (o:=.cells #[.int .i64 yg,.int .i64 yh,.slice yd yc.length yf] 27 (0,0)) (by(with_reducible repeat(first|refine Je ?_ _|refine Jb ?_|refine Jd ?_ _));exact qg.out) hb)
        have zm:=Ja (Jn (g:=qh) (o:=.cells #[.int .i64 qj,.int .i64 ql,.slice qv qi.length qu] 27 (0,0)) (by(with_reducible repeat(first|refine Je ?_ _|refine Jb ?_|refine Jd ?_ _));exact qd.out) hb)
        have zv:=Ja (Jv (by repeat(first|(with_reducible first|exact HB.out|apply Jp|apply Ji|apply Jo|refine Jf ?_ qs.out|refine Jf ?_ qw.out|refine Jf ?_ qy.out|refine Jf ?_ yj.out)|exact HB.out)) hb)
        clear yo
        clear qc
        clear qb
        clear qa
        clear qe
        clear qf
        clear qg
        clear qd
        clear HB
        have yo:=ym
        have qc:=yn
        have qb:=yq
        have qa:=ys
        have zq:=yx
        have qe:=yz
        have qf:=za
        have qg:=ze
        have qd:=zm
        have HB:=zv
        clear ym yn yq ys yx yz za ze zm zv
        (try clear hb)
        (try clear hb2)
        (try clear hk)
        (try clear hi)
        (try clear vc)
        obtain⟨Ao78,co78,eo78⟩:=Kd.R_slice zq.out
        (first|subst eo78|(injection eo78 with f1_ f2_ f3_;have f4_:=f1_.symm;have f5_:=f3_.symm;clear f1_ f2_ f3_;subst f4_;subst f5_))
        refine hK.out _ _ ⟨(Jm qg.out 0).trans rfl,(Jm qg.out 1).trans rfl,(Jm qg.out 2).trans rfl,(Jm qe.out 0).trans rfl,(Jm qe.out 1).trans rfl,(Jm qe.out 2).trans rfl⟩ (fun hHeld=>?_)
        clear hK K
        refine norm_ (a':=?_) ?_ ?_
        rotate_left
        ·show Act.put _ (some 58) _=_
         simp only [Act.put,List.setIfInBounds_toArray,List.set_cons_zero,List.set_cons_succ,i64_w,i32_w]
         rfl
        refine one_ (i:=3) (N:=some 59) #[true,true,true,true,false] rfl rfl (by kernel_rfl) (by decide) (fun K hK=>?_)
        refine goes_ Try.func18 (by kernel_rfl) rfl #[.agg #[.int .i64 yg,.int .i64 yh,.slice yd yc.length yf],.agg #[.int .i64 t269,.int .i64 t270,.slice Ao78 t271.length co78]] (by rfl) rfl rfl (by(try simp only [List.map_toArray,List.map_cons,List.map_nil]);first|done|rfl|(simp only [List.length_drop,List.length_take];rfl)) ?_
        with_reducible refine(laws_eqPicture.calls kj16 yg yh _ _ yc t269 t270 _ _ t271 true _ ?side1 ?side2 ?side3 ?side4 A68.out).mono ?_
        (case side1=>repeat(first|exact(Jr qb.out).2.2|(with_reducible refine Jx ?_ _)|(with_reducible refine Jy ?_ _)|(with_reducible refine Js ?_)))
        (case side2=>exact(Jr qb.out).2.1)
        (case side3=>repeat(first|exact(Jr zq.out).2.2|(with_reducible refine Jx ?_ _)|(with_reducible refine Jy ?_ _)|(with_reducible refine Js ?_)))
        (case side4=>exact(Jr zq.out).2.1)
        rintro e w79 ⟨rfl,hb⟩
        refine⟨_,rfl,?_⟩
        have ym:=Ja (Jk (by(with_reducible repeat(first|apply Jg|apply Jh|apply Jc));exact yo.out) hb)
        have yn:=Ja (Jk (by(with_reducible repeat(first|apply Jg|apply Jh|apply Jc));exact qc.out) hb)
        have yq:=Ja (Jk (by(with_reducible repeat(first|apply Jg|apply Jh|apply Jc));exact qb.out) hb)
        have ys:=Ja (Jk (by(with_reducible repeat(first|apply Jg|apply Jh|apply Jc));exact qa.out) hb)
        have yx:=Ja (Jk (by(with_reducible repeat(first|apply Jg|apply Jh|apply Jc));exact zq.out) hb)
        have yz:=Ja (Jn (g:=qq) (o:=.cells #[.int .i64 a0_0,.int .i64 a0_1,.slice A0_2 l0_2.length c0_2] 24 (0,0)) (by(with_reducible repeat(first|refine Je ?_ _|refine Jb ?_|refine Jd ?_ _));exact qe.out) hb)
        have za:=Ja (Jn (g:=qp) (o:=.cells #[.int .i64 qm,.int .i64 qo,.slice yb qk.length qz] 27 (0,0)) (by(with_reducible repeat(first|refine Je ?_ _|refine Jb ?_|refine Jd ?_ _));exact qf.out) hb)
        have ze:=Ja (Jn (g:=qt) (o:=.cells #[.int .i64 yg,.int .i64 yh,.slice yd yc.length yf] 27 (0,0)) (by(with_reducible repeat(first|refine Je ?_ _|refine Jb ?_|refine Jd ?_ _));exact qg.out) hb)
        have zm:=Ja (Jn (g:=qh) (o:=.cells #[.int .i64 qj,.int .i64 ql,.slice qv qi.length qu] 27 (0,0)) (by(with_reducible repeat(first|refine Je ?_ _|refine Jb ?_|refine Jd ?_ _));exact qd.out) hb)
        have zv:=Ja (Jv (by repeat(first|(with_reducible first|exact HB.out|apply Jp|apply Ji|apply Jo|refine Jf ?_ qs.out|refine Jf ?_ qw.out|refine Jf ?_ qy.out|refine Jf ?_ yj.out)|exact HB.out)) hb)
        clear yo
        clear qc
        clear qb
        clear qa
        clear zq
        clear qe
        clear qf
        clear qg
        clear qd
        clear HB
        have yo:=ym
        have qc:=yn
        have qb:=yq
        have qa:=ys
        have zq:=yx
        have qe:=yz
        have qf:=za
        have qg:=ze
        have qd:=zm
        have HB:=zv
        clear ym yn yq ys yx yz za ze zm zv
        (try clear hb)
        (try clear hb2)
        (try clear hk)
        (try clear hi)
        refine hK.out _ _ ⟨(Jm qg.out 0).trans rfl,(Jm qg.out 1).trans rfl,(Jm qg.out 2).trans rfl,(Jm qe.out 0).trans rfl,(Jm qe.out 1).trans rfl,(Jm qe.out 2).trans rfl⟩ (fun hHeld=>?_)
        clear hK K
        refine norm_ (a':=?_) ?_ ?_
        rotate_left
        ·show Act.put _ (some 59) _=_
         simp only [Act.put,List.setIfInBounds_toArray,List.set_cons_zero,List.set_cons_succ,i64_w,i32_w]
         rfl
        refine pure_ (i:=4) (N:=some 60) (v:=?_) (a':=?_) #[true,true,true,true,true] rfl rfl (by kernel_rfl) (fun _ _ _ h=>h) (Or.inl ⟨by rfl,?_⟩) ?_ ?_
        rotate_left
        ·intro w'
         go_simp
         with_reducible rfl
        rotate_left
        ·simp only [Act.put,List.setIfInBounds_toArray,List.set_cons_zero,List.set_cons_succ,i64_w,i32_w]
         rfl
        refine done_ (by kernel_rfl) ?_
        go_upto_region 20 with (first|((with_reducible refine Jw (f:=35) rfl ?_);refine goesL_ (some 63) rfl rfl Try.func35 (by kernel_rfl) rfl #[.slice A1 l1.length c1] rfl (by(try simp only [List.map_toArray,List.map_cons,List.map_nil]);first|done|rfl|(simp only [List.length_drop,List.length_take];rfl)) ?_;(with_reducible refine(laws_toByteS.calls kj16 _ _ l1 vo _ ?side1 ?side2 A70.out).mono ?_);(case side1=>repeat(first|exact(Kd.C_below HR1.out HB.out)|(with_reducible refine Jx ?_ _)|(with_reducible refine Jy ?_ _)|(with_reducible refine Js ?_)));(case side2=>exact HC1.out);rintro e w80 ⟨v276,rfl,vc,hb⟩;refine⟨_,rfl,?_⟩;have ym:=Ja (JA (by(with_reducible repeat(first|apply Jg|apply Jh|apply Jc));exact yo.out) (Kd.R_base vc) hb);have yn:=Ja (Jk (by(with_reducible repeat(first|apply Jg|apply Jh|apply Jc));exact qc.out) hb);have yq:=Ja (Jk (by(with_reducible repeat(first|apply Jg|apply Jh|apply Jc));exact qb.out) hb);have ys:=Ja (Jk (by(with_reducible repeat(first|apply Jg|apply Jh|apply Jc));exact qa.out) hb);have yx:=Ja (Jk (by(with_reducible repeat(first|apply Jg|apply Jh|apply Jc));exact zq.out) hb);have yz:=Ja (Kd.R_lower (Kd.R_new' vc (Kd.R_lt (by(with_reducible repeat(first|apply Jg|apply Jh|apply Jc));exact yo.out))) (Jz (by repeat(first|(with_reducible first|exact HB.out|apply Jp|apply Ji|apply Jo|refine Jf ?_ qs.out|refine Jf ?_ qw.out|refine Jf ?_ qy.out|refine Jf ?_ yj.out)|exact HB.out))));have za:=Ja (Jn (g:=qq) (o:=.cells #[.int .i64 a0_0,.int .i64 a0_1,.slice A0_2 l0_2.length c0_2] 24 (0,0)) (by(with_reducible repeat(first|refine Je ?_ _|refine Jb ?_|refine Jd ?_ _));exact qe.out) hb);have ze:=Ja (Jn (g:=qp) (o:=.cells #[.int .i64 qm,.int .i64 qo,.slice yb qk.length qz] 27 (0,0)) (by(with_reducible repeat(first|refine Je ?_ _|refine Jb ?_|refine Jd ?_ _));exact qf.out) hb);have zm:=Ja (Jn (g:=qt) (o:=.cells #[.int .i64 yg,.int .i64 yh,.slice yd yc.length yf] 27 (0,0)) (by(with_reducible repeat(first|refine Je ?_ _|refine Jb ?_|refine Jd ?_ _));exact qg.out) hb);have zv:=Ja (Jn (g:=qh) (o:=.cells #[.int .i64 qj,.int .i64 ql,.slice qv qi.length qu] 27 (0,0)) (by(with_reducible repeat(first|refine Je ?_ _|refine Jb ?_|refine Jd ?_ _));exact qd.out) hb);have zi:=Ja (Jv (by repeat(first|(with_reducible first|exact HB.out|apply Jp|apply Ji|apply Jo|refine Jf ?_ qs.out|refine Jf ?_ qw.out|refine Jf ?_ qy.out|refine Jf ?_ yj.out)|exact HB.out)) hb);clear yo;clear qc;clear qb;clear qa;clear zq;clear qe;clear qf;clear qg;clear qd;clear HB;have yo:=ym;have qc:=yn;have qb:=yq;have qa:=ys;have zq:=yx;have vg:=yz;have qe:=za;have qf:=ze;have qg:=zm;have qd:=zv;have HB:=zi;clear ym yn yq ys yx yz za ze zm zv zi;(try clear hb);(try clear hb2);(try clear hk);(try clear hi);(try clear vc);obtain⟨Ao81,co81,eo81⟩:=Kd.R_slice vg.out;subst eo81)|((with_reducible refine Jw (f:=37) rfl ?_);refine goesL_ (some 64) rfl rfl Try.func37 (by kernel_rfl) rfl #[.slice Ao40 yk.length co40,.slice Ao81 vo.length co81] rfl (by(try simp only [List.map_toArray,List.map_cons,List.map_nil]);first|done|rfl|(simp only [List.length_drop,List.length_take];rfl)) ?_;(with_reducible refine(laws_eqByteS.calls kj16 _ _ yk _ _ vo true _ ?side1 ?side2 ?side3 ?side4 A71.out).mono ?_);(case side1=>repeat(first|exact(Jr yo.out).2.2|(with_reducible refine Jx ?_ _)|(with_reducible refine Jy ?_ _)|(with_reducible refine Js ?_)));(case side2=>exact(Jr yo.out).2.1);(case side3=>repeat(first|exact(Jr vg.out).2.2|(with_reducible refine Jx ?_ _)|(with_reducible refine Jy ?_ _)|(with_reducible refine Js ?_)));(case side4=>exact(Jr vg.out).2.1);rintro e w' ⟨rfl,⟨nd,rfl⟩⟩;refine⟨_,rfl,?_⟩;have hnb82:=vt.out;have hnc82:=ve.out;have hnb83:=zu.out;have hnc83:=zg.out;have hnb84:=yi.out;have hnc84:=zc.out;have hcz85_0:w80.cell? ⟨qt,0,none⟩=some (.int .i64 yg):=(Jm qg.out 0).trans rfl;have hcz85_1:w80.cell? ⟨qt,1,none⟩=some (.int .i64 yh):=(Jm qg.out 1).trans rfl;have hcz85_2:w80.cell? ⟨qt,2,none⟩=some (.slice yd yc.length yf):=(Jm qg.out 2).trans rfl;have hfz85_0:=Jl qg.out 0;have hfz85_1:=Jl qg.out 1;have hfz85_2:=Jl qg.out 2)|((with_reducible refine Jw (f:=38) rfl ?_);refine goesL_ (some 68) rfl rfl Try.func38 (by kernel_rfl) rfl #[.agg #[.int .i64 yg,.int .i64 yh,.slice yd yc.length yf],.int .i64 1] rfl (by(try simp only [List.map_toArray,List.map_cons,List.map_nil]);first|done|rfl|(simp only [List.length_drop,List.length_take];rfl)) ?_;(with_reducible refine(laws_markPicture.calls kj16 yg yh (fun k_=>some k_=(.slice yd yc.length yf:Value).ownBlock) (.slice yd yc.length yf) yc 1 t279 zy w _ ?side1 ?side2 A73.out).mono ?_);(case side1=>repeat(first|(with_reducible first|exact HB.out|apply Jp|apply Ji|apply Jo|refine Jf ?_ qs.out|refine Jf ?_ qw.out|refine Jf ?_ qy.out|refine Jf ?_ yj.out)|exact HB.out));(case side2=>exact Kd.R_tight rfl qb.out);rintro e w86 ⟨rfl,hy0,hb,hkp⟩;refine⟨_,rfl,?_⟩;have ym:=Ja (Jq (ok':=fun k_=>some k_≠(.slice Ao81 vo.length co81:Value).ownBlock) (Kd.R_keptB ((Kd.R_apart' yo.out (Kd.R_typed qb.out) (by decide))) hkp (fun k_ hk_ hs_=>(hk_.2) hs_)) (fun k_ hk_=>hk_.1.1.2));have yn:=Ja (Jq (ok':=fun k_=>some k_≠(.slice yd yc.length yf:Value).ownBlock∧some k_≠(.slice qv qi.length qu:Value).ownBlock∧some k_≠(.slice Ao78 t271.length co78:Value).ownBlock) (Kd.R_keptB (qc.out) hkp (fun k_ hk_ hs_=>(hk_.1.1) hs_)) (fun k_ hk_=>⟨hk_.1.1.1,hk_.1.1.2,hk_.1.2⟩));have yq:=Ja (Kd.R_reok rfl hy0 (fun k_ e_=>qb.out.1 k_ e_));have ys:=Ja (Jq (ok':=fun k_=>some k_≠(.slice yb qk.length qz:Value).ownBlock∧some k_≠(.slice yd yc.length yf:Value).ownBlock∧some k_≠(.slice Ao78 t271.length co78:Value).ownBlock) (Kd.R_keptB (qa.out) hkp (fun k_ hk_ hs_=>(hk_.1.2) hs_)) (fun k_ hk_=>⟨hk_.1.1.1,hk_.1.1.2,hk_.1.2⟩));have yx:=Ja (blk_kept (by(with_reducible repeat(first|refine Je ?_ _|refine Jb ?_|refine Jd ?_ _));exact qe.out) hkp (fun hs_=>(fun e_=>(Kd.R_ne qb.out qe.out (by decide)) e_) hs_));have yz:=Ja (blk_kept (by(with_reducible repeat(first|refine Je ?_ _|refine Jb ?_|refine Jd ?_ _));exact qf.out) hkp (fun hs_=>(fun e_=>(Kd.R_ne qb.out qf.out (by decide)) e_) hs_));have za:=Ja (blk_kept (by(with_reducible repeat(first|refine Je ?_ _|refine Jb ?_|refine Jd ?_ _));exact qg.out) hkp (fun hs_=>(fun e_=>(Kd.R_ne qb.out qg.out (by decide)) e_) hs_));have ze:=Ja (blk_kept (by(with_reducible repeat(first|refine Je ?_ _|refine Jb ?_|refine Jd ?_ _));exact qd.out) hkp (fun hs_=>(fun e_=>(Kd.R_ne qb.out qd.out (by decide)) e_) hs_));have zm:=Ja (Jq (ok':=fun k_=>some k_≠(.slice yb qk.length qz:Value).ownBlock∧some k_≠(.slice yd yc.length yf:Value).ownBlock∧some k_≠(.slice qv qi.length qu:Value).ownBlock) (Kd.R_keptB (zq.out) hkp (fun k_ hk_ hs_=>(hk_.1.2) hs_)) (fun k_ hk_=>⟨hk_.1.1.1.2,hk_.1.1.2,hk_.1.2⟩));have zv:=Ja (Jq (ok':=fun k_=>some k_≠(.slice Ao40 yk.length co40:Value).ownBlock) (Kd.R_keptB ((Kd.R_apart' vg.out (Kd.R_typed qb.out) (by decide))) hkp (fun k_ hk_ hs_=>(hk_.2) hs_)) (fun k_ hk_=>hk_.1.1.2));have zi:=Ja (hb);clear yo;clear qc;clear qb;clear qa;clear qe;clear qf;clear qg;clear qd;clear zq;clear vg;clear HB;have yo:=ym;have qc:=yn;have qb:=yq;have qa:=ys;have qe:=yx;have qf:=yz;have qg:=za;have qd:=ze;have zq:=zm;have vg:=zv;have HB:=zi;clear ym yn yq ys yx yz za ze zm zv zi;(try clear hb);(try clear hkp);(try clear hy0))|((with_reducible refine Jw (f:=39) rfl ?_);refine goesL_ (some 71) rfl rfl Try.func39 (by kernel_rfl) rfl #[.slice Ao40 yk.length co40,.int .i64 t279] rfl (by(try simp only [List.map_toArray,List.map_cons,List.map_nil]);first|done|rfl|(simp only [List.length_drop,List.length_take];rfl)) ?_;(with_reducible refine(laws_markByteS.calls kj16 (fun k_=>some k_=(.slice Ao40 yk.length co40:Value).ownBlock) (.slice Ao40 yk.length co40) yk t279 t281 t282 w _ ?side1 ?side2 A74.out).mono ?_);(case side1=>repeat(first|(with_reducible first|exact HB.out|apply Jp|apply Ji|apply Jo|refine Jf ?_ qs.out|refine Jf ?_ qw.out|refine Jf ?_ qy.out|refine Jf ?_ yj.out)|exact HB.out));(case side2=>exact Kd.R_tight rfl yo.out);rintro e w87 ⟨rfl,hy0,hb,hkp⟩;refine⟨_,rfl,?_⟩;have ym:=Ja (Kd.R_reok rfl hy0 (fun k_ e_=>yo.out.1 k_ e_));have yn:=Ja (Jq (ok':=fun k_=>some k_≠(.slice yd yc.length yf:Value).ownBlock∧some k_≠(.slice qv qi.length qu:Value).ownBlock∧some k_≠(.slice Ao78 t271.length co78:Value).ownBlock) (Kd.R_keptB ((Kd.R_apart' qc.out (Kd.R_typed yo.out) (by decide))) hkp (fun k_ hk_ hs_=>(hk_.2) hs_)) (fun k_ hk_=>⟨hk_.1.1.1,hk_.1.1.2.1,hk_.1.1.2.2⟩));have yq:=Ja (Jq (ok':=fun k_=>some k_≠(.slice yb qk.length qz:Value).ownBlock∧some k_≠(.slice qv qi.length qu:Value).ownBlock∧some k_≠(.slice Ao78 t271.length co78:Value).ownBlock) (Kd.R_keptB ((Kd.R_apart' qb.out (Kd.R_typed yo.out) (by decide))) hkp (fun k_ hk_ hs_=>(hk_.2) hs_)) (fun k_ hk_=>⟨hk_.1.1.1.1,hk_.1.1.1.2,hk_.1.1.2⟩));have ys:=Ja (Jq (ok':=fun k_=>some k_≠(.slice yb qk.length qz:Value).ownBlock∧some k_≠(.slice yd yc.length yf:Value).ownBlock∧some k_≠(.slice Ao78 t271.length co78:Value).ownBlock) (Kd.R_keptB ((Kd.R_apart' qa.out (Kd.R_typed yo.out) (by decide))) hkp (fun k_ hk_ hs_=>(hk_.2) hs_)) (fun k_ hk_=>⟨hk_.1.1.1,hk_.1.1.2.1,hk_.1.1.2.2⟩));have yx:=Ja (blk_kept (by(with_reducible repeat(first|refine Je ?_ _|refine Jb ?_|refine Jd ?_ _));exact qe.out) hkp (fun hs_=>(fun e_=>(Kd.R_ne yo.out qe.out (by decide)) e_) hs_));have yz:=Ja (blk_kept (by(with_reducible repeat(first|refine Je ?_ _|refine Jb ?_|refine Jd ?_ _));exact qf.out) hkp (fun hs_=>(fun e_=>(Kd.R_ne yo.out qf.out (by decide)) e_) hs_));have za:=Ja (blk_kept (by(with_reducible repeat(first|refine Je ?_ _|refine Jb ?_|refine Jd ?_ _));exact qg.out) hkp (fun hs_=>(fun e_=>(Kd.R_ne yo.out qg.out (by decide)) e_) hs_));have ze:=Ja (blk_kept (by(with_reducible repeat(first|refine Je ?_ _|refine Jb ?_|refine Jd ?_ _));exact qd.out) hkp (fun hs_=>(fun e_=>(Kd.R_ne yo.out qd.out (by decide)) e_) hs_));have zm:=Ja (Jq (ok':=fun k_=>some k_≠(.slice yb qk.length qz:Value).ownBlock∧some k_≠(.slice yd yc.length yf:Value).ownBlock∧some k_≠(.slice qv qi.length qu:Value).ownBlock) (Kd.R_keptB ((Kd.R_apart' zq.out (Kd.R_typed yo.out) (by decide))) hkp (fun k_ hk_ hs_=>(hk_.2) hs_)) (fun k_ hk_=>⟨hk_.1.1.1,hk_.1.1.2.1,hk_.1.1.2.2⟩));have zv:=Ja (Jq (ok':=fun k_=>some k_≠(.slice Ao40 yk.length co40:Value).ownBlock) (Kd.R_keptB (vg.out) hkp (fun k_ hk_ hs_=>(hk_) hs_)) (fun k_ hk_=>hk_.1));have zi:=Ja (hb);clear yo;clear qc;clear qb;clear qa;clear qe;clear qf;clear qg;clear qd;clear zq;clear vg;clear HB;have yo:=ym;have qc:=yn;have qb:=yq;have qa:=ys;have qe:=yx;have qf:=yz;have qg:=za;have qd:=ze;have zq:=zm;have vg:=zv;have HB:=zi;clear ym yn yq ys yx yz za ze zm zv zi;(try clear hb);(try clear hkp);(try clear hy0)))
        (try simp only [Act.put,List.setIfInBounds_toArray,List.set_cons_zero,List.set_cons_succ])
        go_cut [84] (fun v84 wc=>∃ (kq:Nat) (x84_74:Bool),v84=.bool x84_74∧Aside0 (laws_FnExactDecode.j1 kq l1 a2 ya x84_74 a0_0 a0_1 l0_2 qm qo qk qj ql qi=some true)∧Aside0 (kq≤kj16)∧Aside0 (Kd.R (Kd.int .i64) 2 wc w.heap.size (fun k_=>some k_≠((.slice yd yc.length yf):Value).ownBlock∧some k_≠((.slice qv qi.length qu):Value).ownBlock) (.slice yb qk.length qz) qk)∧Aside0 (Kd.R (Kd.int .i64) 2 wc w.heap.size (fun k_=>some k_≠((.slice yb qk.length qz):Value).ownBlock∧some k_≠((.slice qv qi.length qu):Value).ownBlock) (.slice yd yc.length yf) zy)∧Aside0 (Kd.R (Kd.int .i64) 2 wc w.heap.size (fun k_=>some k_≠((.slice yb qk.length qz):Value).ownBlock∧some k_≠((.slice yd yc.length yf):Value).ownBlock) (.slice qv qi.length qu) qi)∧Aside0 (wc.heap[qq]? = some (.cells #[.int .i64 a0_0,.int .i64 a0_1,(.slice A0_2 l0_2.length c0_2)] 24 (0,0)))∧Aside0 (wc.heap[qp]? = some (.cells #[.int .i64 qm,.int .i64 qo,(.slice yb qk.length qz)] 27 (0,0)))∧Aside0 (wc.heap[qt]? = some (.cells #[.int .i64 yg,.int .i64 yh,(.slice yd yc.length yf)] 27 (0,0)))∧Aside0 (wc.heap[qh]? = some (.cells #[.int .i64 qj,.int .i64 ql,(.slice qv qi.length qu)] 27 (0,0)))∧Aside0 (Below w.heap.size w wc))
        case first=>
         have H:=HC75.out
         clear HC75
         by_cases c88:t281 < 0
         ·rw [if_pos c88] at H
          have vy:decide (t281 < 0)=true:=decide_eq_true c88
          clear c88
          (first|rw [vy]|(simp only [i64_w,i32_w];rw [vy])|skip)
          have H':=Ja H
          clear H
          go_wp2
          go_meet
          case rel=>exact⟨_,(true),(by first|rfl|(simp;done)|(simp [*];done)),H',⟨by have:=HJ16.out;first|omega|exact Nat.le_refl _⟩,⟨by(with_reducible repeat(first|apply Jg|apply Jh|apply Jc));exact Jq qc.out (fun _ hk=>⟨hk.1,hk.2.1⟩)⟩,⟨by(with_reducible repeat(first|apply Jg|apply Jh|apply Jc));exact Jq qb.out (fun _ hk=>⟨hk.1,hk.2.1⟩)⟩,⟨by(with_reducible repeat(first|apply Jg|apply Jh|apply Jc));exact Jq qa.out (fun _ hk=>⟨hk.1,hk.2.1⟩)⟩,⟨by(with_reducible repeat(first|refine Je ?_ _|refine Jb ?_|refine Jd ?_ _));exact qe.out⟩,⟨by(with_reducible repeat(first|refine Je ?_ _|refine Jb ?_|refine Jd ?_ _));exact qf.out⟩,⟨by(with_reducible repeat(first|refine Je ?_ _|refine Jb ?_|refine Jd ?_ _));exact qg.out⟩,⟨by(with_reducible repeat(first|refine Je ?_ _|refine Jb ?_|refine Jd ?_ _));exact qd.out⟩,⟨by repeat(first|(with_reducible first|exact HB.out|apply Jp|apply Ji|apply Jo|refine Jf ?_ qs.out|refine Jf ?_ qw.out|refine Jf ?_ qy.out|refine Jf ?_ yj.out)|exact HB.out)⟩⟩
         ·rw [if_neg c88] at H
          have vy:decide (t281 < 0)=false:=decide_eq_false c88
          clear c88
          (first|rw [vy]|(simp only [i64_w,i32_w];rw [vy])|skip)
          replace H:=Option.bind_eq_some_iff.mp H
          obtain⟨vi,A890,H⟩:=H
          replace H:(if vi=true then (laws_FnExactDecode.j1 kj16 l1 a2 ya (vd != ya) a0_0 a0_1 l0_2 qm qo qk qj ql qi) else (laws_FnExactDecode.j1 kj16 l1 a2 ya true a0_0 a0_1 l0_2 qm qo qk qj ql qi))=some true:=H
          have A89:=Ja A890
          clear A890
          by_cases c90:vi=true
          ·subst c90
           have H1:(laws_FnExactDecode.j1 kj16 l1 a2 ya (vd != ya) a0_0 a0_1 l0_2 qm qo qk qj ql qi)=some true:=by rw [if_pos rfl] at H;exact H
           clear H
           have H:=H1
           clear H1
           have H':=Ja H
           clear H
           have hnb91:=zh.out
           have hnc91:=yl.out
           have hnb92:=yv.out
           have hnc92:=ye.out
           have hnb93:=zc.out
           have hnc93:=yi.out
           have hcz94_0:w87.cell? ⟨qh,0,none⟩=some (.int .i64 qj):=(Jm qd.out 0).trans rfl
           have hcz94_1:w87.cell? ⟨qh,1,none⟩=some (.int .i64 ql):=(Jm qd.out 1).trans rfl
           have hcz94_2:w87.cell? ⟨qh,2,none⟩=some (.slice qv qi.length qu):=(Jm qd.out 2).trans rfl
           have hfz94_0:=Jl qd.out 0
           have hfz94_1:=Jl qd.out 1
           have hfz94_2:=Jl qd.out 2
           have hnb95:=zt.out
           have hnc95:=zf.out
           have hnb96:=zg.out
           have hnc96:=zu.out
           have hcz97_0:w87.cell? ⟨qp,0,none⟩=some (.int .i64 qm):=(Jm qf.out 0).trans rfl
           have hcz97_1:w87.cell? ⟨qp,1,none⟩=some (.int .i64 qo):=(Jm qf.out 1).trans rfl
           have hcz97_2:w87.cell? ⟨qp,2,none⟩=some (.slice yb qk.length qz):=(Jm qf.out 2).trans rfl
           have hfz97_0:=Jl qf.out 0
           have hfz97_1:=Jl qf.out 1
           have hfz97_2:=Jl qf.out 2
           go_wp2_with (first|(go_at_call 18;(with_reducible refine(laws_eqPicture.calls kj16 qj ql _ _ qi qm qo _ _ qk true _ ?side1 ?side2 ?side3 ?side4 A89.out).mono ?_);(case side1=>repeat(first|exact(Jr qa.out).2.2|(with_reducible refine Jx ?_ _)|(with_reducible refine Jy ?_ _)|(with_reducible refine Js ?_)));(case side2=>exact(Jr qa.out).2.1);(case side3=>repeat(first|exact(Jr qc.out).2.2|(with_reducible refine Jx ?_ _)|(with_reducible refine Jy ?_ _)|(with_reducible refine Js ?_)));(case side4=>exact(Jr qc.out).2.1);rintro e w98 ⟨rfl,hb⟩;have ym:=Ja (Jk (by(with_reducible repeat(first|apply Jg|apply Jh|apply Jc));exact yo.out) hb);have yn:=Ja (Jk (by(with_reducible repeat(first|apply Jg|apply Jh|apply Jc));exact qc.out) hb);have yq:=Ja (Jk (by(with_reducible repeat(first|apply Jg|apply Jh|apply Jc));exact qb.out) hb);have ys:=Ja (Jk (by(with_reducible repeat(first|apply Jg|apply Jh|apply Jc));exact qa.out) hb);have yx:=Ja (Jk (by(with_reducible repeat(first|apply Jg|apply Jh|apply Jc));exact zq.out) hb);have yz:=Ja (Jk (by(with_reducible repeat(first|apply Jg|apply Jh|apply Jc));exact vg.out) hb);have za:=Ja (Jn (g:=qq) (o:=.cells #[.int .i64 a0_0,.int .i64 a0_1,.slice A0_2 l0_2.length c0_2] 24 (0,0)) (by(with_reducible repeat(first|refine Je ?_ _|refine Jb ?_|refine Jd ?_ _));exact qe.out) hb);have ze:=Ja (Jn (g:=qp) (o:=.cells #[.int .i64 qm,.int .i64 qo,.slice yb qk.length qz] 27 (0,0)) (by(with_reducible repeat(first|refine Je ?_ _|refine Jb ?_|refine Jd ?_ _));exact qf.out) hb);have zm:=Ja (Jn (g:=qt) (o:=.cells #[.int .i64 yg,.int .i64 yh,.slice yd yc.length yf] 27 (0,0)) (by(with_reducible repeat(first|refine Je ?_ _|refine Jb ?_|refine Jd ?_ _));exact qg.out) hb);have zv:=Ja (Jn (g:=qh) (o:=.cells #[.int .i64 qj,.int .i64 ql,.slice qv qi.length qu] 27 (0,0)) (by(with_reducible repeat(first|refine Je ?_ _|refine Jb ?_|refine Jd ?_ _));exact qd.out) hb);have zi:=Ja (Jv (by repeat(first|(with_reducible first|exact HB.out|apply Jp|apply Ji|apply Jo|refine Jf ?_ qs.out|refine Jf ?_ qw.out|refine Jf ?_ qy.out|refine Jf ?_ yj.out)|exact HB.out)) hb);clear yo;clear qc;clear qb;clear qa;clear zq;clear vg;clear qe;clear qf;clear qg;clear qd;clear HB;have yo:=ym;have qc:=yn;have qb:=yq;have qa:=ys;have zq:=yx;have vg:=yz;have qe:=za;have qf:=ze;have qg:=zm;have qd:=zv;have HB:=zi;clear ym yn yq ys yx yz za ze zm zv zi;(try clear hb);(try clear hb2);(try clear hk);(try clear hi)))
           go_meet
           case rel=>exact⟨_,((vd != ya)),(by first|rfl|(simp;done)|(simp [*];done)),H',⟨by have:=HJ16.out;first|omega|exact Nat.le_refl _⟩,⟨by(with_reducible repeat(first|apply Jg|apply Jh|apply Jc));exact Jq qc.out (fun _ hk=>⟨hk.1,hk.2.1⟩)⟩,⟨by(with_reducible repeat(first|apply Jg|apply Jh|apply Jc));exact Jq qb.out (fun _ hk=>⟨hk.1,hk.2.1⟩)⟩,⟨by(with_reducible repeat(first|apply Jg|apply Jh|apply Jc));exact Jq qa.out (fun _ hk=>⟨hk.1,hk.2.1⟩)⟩,⟨by(with_reducible repeat(first|refine Je ?_ _|refine Jb ?_|refine Jd ?_ _));exact qe.out⟩,⟨by(with_reducible repeat(first|refine Je ?_ _|refine Jb ?_|refine Jd ?_ _));exact qf.out⟩,⟨by(with_reducible repeat(first|refine Je ?_ _|refine Jb ?_|refine Jd ?_ _));exact qg.out⟩,⟨by(with_reducible repeat(first|refine Je ?_ _|refine Jb ?_|refine Jd ?_ _));exact qd.out⟩,⟨by repeat(first|(with_reducible first|exact HB.out|apply Jp|apply Ji|apply Jo|refine Jf ?_ qs.out|refine Jf ?_ qw.out|refine Jf ?_ qy.out|refine Jf ?_ yj.out)|exact HB.out)⟩⟩
          ·replace c90:=Bool.eq_false_iff.mpr c90
           subst c90
           have H1:(laws_FnExactDecode.j1 kj16 l1 a2 ya true a0_0 a0_1 l0_2 qm qo qk qj ql qi)=some true:=by rw [if_neg (show ¬ (false=true) by decide)] at H;exact H
           clear H
           have H:=H1
           clear H1
           have H':=Ja H
           clear H
           have hnb99:=zh.out
           have hnc99:=yl.out
           have hnb100:=yv.out
           have hnc100:=ye.out
           have hnb101:=zc.out
           have hnc101:=yi.out
           have hcz102_0:w87.cell? ⟨qh,0,none⟩=some (.int .i64 qj):=(Jm qd.out 0).trans rfl
           have hcz102_1:w87.cell? ⟨qh,1,none⟩=some (.int .i64 ql):=(Jm qd.out 1).trans rfl
           have hcz102_2:w87.cell? ⟨qh,2,none⟩=some (.slice qv qi.length qu):=(Jm qd.out 2).trans rfl
           have hfz102_0:=Jl qd.out 0
           have hfz102_1:=Jl qd.out 1
           have hfz102_2:=Jl qd.out 2
           have hnb103:=zt.out
           have hnc103:=zf.out
           have hnb104:=zg.out
           have hnc104:=zu.out
           have hcz105_0:w87.cell? ⟨qp,0,none⟩=some (.int .i64 qm):=(Jm qf.out 0).trans rfl
           have hcz105_1:w87.cell? ⟨qp,1,none⟩=some (.int .i64 qo):=(Jm qf.out 1).trans rfl
           have hcz105_2:w87.cell? ⟨qp,2,none⟩=some (.slice yb qk.length qz):=(Jm qf.out 2).trans rfl
           have hfz105_0:=Jl qf.out 0
           have hfz105_1:=Jl qf.out 1
           have hfz105_2:=Jl qf.out 2
           go_wp2_with (first|(go_at_call 18;(with_reducible refine(laws_eqPicture.calls kj16 qj ql _ _ qi qm qo _ _ qk false _ ?side1 ?side2 ?side3 ?side4 A89.out).mono ?_);(case side1=>repeat(first|exact(Jr qa.out).2.2|(with_reducible refine Jx ?_ _)|(with_reducible refine Jy ?_ _)|(with_reducible refine Js ?_)));(case side2=>exact(Jr qa.out).2.1);(case side3=>repeat(first|exact(Jr qc.out).2.2|(with_reducible refine Jx ?_ _)|(with_reducible refine Jy ?_ _)|(with_reducible refine Js ?_)));(case side4=>exact(Jr qc.out).2.1);rintro e w106 ⟨rfl,hb⟩;have ym:=Ja (Jk (by(with_reducible repeat(first|apply Jg|apply Jh|apply Jc));exact yo.out) hb);have yn:=Ja (Jk (by(with_reducible repeat(first|apply Jg|apply Jh|apply Jc));exact qc.out) hb);have yq:=Ja (Jk (by(with_reducible repeat(first|apply Jg|apply Jh|apply Jc));exact qb.out) hb);have ys:=Ja (Jk (by(with_reducible repeat(first|apply Jg|apply Jh|apply Jc));exact qa.out) hb);have yx:=Ja (Jk (by(with_reducible repeat(first|apply Jg|apply Jh|apply Jc));exact zq.out) hb);have yz:=Ja (Jk (by(with_reducible repeat(first|apply Jg|apply Jh|apply Jc));exact vg.out) hb);have za:=Ja (Jn (g:=qq) (o:=.cells #[.int .i64 a0_0,.int .i64 a0_1,.slice A0_2 l0_2.length c0_2] 24 (0,0)) (by(with_reducible repeat(first|refine Je ?_ _|refine Jb ?_|refine Jd ?_ _));exact qe.out) hb);have ze:=Ja (Jn (g:=qp) (o:=.cells #[.int .i64 qm,.int .i64 qo,.slice yb qk.length qz] 27 (0,0)) (by(with_reducible repeat(first|refine Je ?_ _|refine Jb ?_|refine Jd ?_ _));exact qf.out) hb);have zm:=Ja (Jn (g:=qt) (o:=.cells #[.int .i64 yg,.int .i64 yh,.slice yd yc.length yf] 27 (0,0)) (by(with_reducible repeat(first|refine Je ?_ _|refine Jb ?_|refine Jd ?_ _));exact qg.out) hb);have zv:=Ja (Jn (g:=qh) (o:=.cells #[.int .i64 qj,.int .i64 ql,.slice qv qi.length qu] 27 (0,0)) (by(with_reducible repeat(first|refine Je ?_ _|refine Jb ?_|refine Jd ?_ _));exact qd.out) hb);have zi:=Ja (Jv (by repeat(first|(with_reducible first|exact HB.out|apply Jp|apply Ji|apply Jo|refine Jf ?_ qs.out|refine Jf ?_ qw.out|refine Jf ?_ qy.out|refine Jf ?_ yj.out)|exact HB.out)) hb);clear yo;clear qc;clear qb;clear qa;clear zq;clear vg;clear qe;clear qf;clear qg;clear qd;clear HB;have yo:=ym;have qc:=yn;have qb:=yq;have qa:=ys;have zq:=yx;have vg:=yz;have qe:=za;have qf:=ze;have qg:=zm;have qd:=zv;have HB:=zi;clear ym yn yq ys yx yz za ze zm zv zi;(try clear hb);(try clear hb2);(try clear hk);(try clear hi)))
           go_meet
           case rel=>exact⟨_,(true),(by first|rfl|(simp;done)|(simp [*];done)),H',⟨by have:=HJ16.out;first|omega|exact Nat.le_refl _⟩,⟨by(with_reducible repeat(first|apply Jg|apply Jh|apply Jc));exact Jq qc.out (fun _ hk=>⟨hk.1,hk.2.1⟩)⟩,⟨by(with_reducible repeat(first|apply Jg|apply Jh|apply Jc));exact Jq qb.out (fun _ hk=>⟨hk.1,hk.2.1⟩)⟩,⟨by(with_reducible repeat(first|apply Jg|apply Jh|apply Jc));exact Jq qa.out (fun _ hk=>⟨hk.1,hk.2.1⟩)⟩,⟨by(with_reducible repeat(first|refine Je ?_ _|refine Jb ?_|refine Jd ?_ _));exact qe.out⟩,⟨by(with_reducible repeat(first|refine Je ?_ _|refine Jb ?_|refine Jd ?_ _));exact qf.out⟩,⟨by(with_reducible repeat(first|refine Je ?_ _|refine Jb ?_|refine Jd ?_ _));exact qg.out⟩,⟨by(with_reducible repeat(first|refine Je ?_ _|refine Jb ?_|refine Jd ?_ _));exact qd.out⟩,⟨by repeat(first|(with_reducible first|exact HB.out|apply Jp|apply Ji|apply Jo|refine Jf ?_ qs.out|refine Jf ?_ qw.out|refine Jf ?_ qy.out|refine Jf ?_ yj.out)|exact HB.out)⟩⟩
        case rest=>
         clear HC75
         try clear c1
         try clear c2
         try clear p2
         try clear c3
         try clear c4
         try clear c4b0
         try clear c4b1
         try clear c5
         try clear c6
         try clear c7
         try clear c7b0
         try clear c8
         try clear c9
         try clear c10
         try clear c14
         try clear c16
         try clear c18
         try clear c28
         try clear c34
         try clear c35
         try clear c36
         try clear c37
         try clear c38
         try clear c39
         try clear c43
         try clear c44
         try clear c45
         try clear c49
         try clear c50
         try clear c51
         try clear c52
         try clear c54
         try clear c55
         try clear c58
         try clear c59
         try clear c60
         try clear c62
         try clear c63
         try clear c66
         try clear c69
         try clear c72
         try clear c82
         try clear c83
         try clear c84
         try clear c88
         try clear vy
         try clear c90
         try clear c91
         try clear c92
         try clear c93
         try clear c95
         try clear c96
         try clear c99
         try clear c100
         try clear c101
         try clear c103
         try clear c104
         try clear hcz102_0
         try clear hcz102_1
         try clear hcz102_2
         try clear hcz105_0
         try clear hcz105_1
         try clear hcz105_2
         try clear hcz19_0
         try clear hcz19_1
         try clear hcz19_2
         try clear hcz21_0
         try clear hcz21_1
         try clear hcz21_2
         try clear hcz29_0
         try clear hcz29_1
         try clear hcz29_2
         try clear hcz31_0
         try clear hcz31_1
         try clear hcz31_2
         try clear hcz36_0
         try clear hcz36_1
         try clear hcz36_2
         try clear hcz39_0
         try clear hcz39_1
         try clear hcz39_2
         try clear hcz46_0
         try clear hcz46_1
         try clear hcz46_2
         try clear hcz53_0
         try clear hcz53_1
         try clear hcz53_2
         try clear hcz56_0
         try clear hcz56_1
         try clear hcz56_2
         try clear hcz61_0
         try clear hcz61_1
         try clear hcz61_2
         try clear hcz64_0
         try clear hcz64_1
         try clear hcz64_2
         try clear hcz85_0
         try clear hcz85_1
         try clear hcz85_2
         try clear hcz94_0
         try clear hcz94_1
         try clear hcz94_2
         try clear hcz97_0
         try clear hcz97_1
         try clear hcz97_2
         try clear hcz9_0
         try clear hcz9_1
         try clear hcz9_2
         try clear hfz102_0
         try clear hfz102_1
         try clear hfz102_2
         try clear hfz105_0
         try clear hfz105_1
         try clear hfz105_2
         try clear hfz19_0
         try clear hfz19_1
         try clear hfz19_2
         try clear hfz21_0
         try clear hfz21_1
         try clear hfz21_2
         try clear hfz29_0
         try clear hfz29_1
         try clear hfz29_2
         try clear hfz31_0
         try clear hfz31_1
         try clear hfz31_2
         try clear hfz36_0
         try clear hfz36_1
         try clear hfz36_2
         try clear hfz39_0
         try clear hfz39_1
         try clear hfz39_2
         try clear hfz46_0
         try clear hfz46_1
         try clear hfz46_2
         try clear hfz53_0
         try clear hfz53_1
         try clear hfz53_2
         try clear hfz56_0
         try clear hfz56_1
         try clear hfz56_2
         try clear hfz61_0
         try clear hfz61_1
         try clear hfz61_2
         try clear hfz64_0
         try clear hfz64_1
         try clear hfz64_2
         try clear hfz85_0
         try clear hfz85_1
         try clear hfz85_2
         try clear hfz94_0
         try clear hfz94_1
         try clear hfz94_2
         try clear hfz97_0
         try clear hfz97_1
         try clear hfz97_2
         try clear hfz9_0
         try clear hfz9_1
         try clear hfz9_2
         try clear p2
         obtain⟨kq,x84_74,rfl,HA,HJ74,qc,qb,qa,qe,qf,qg,qd,HB⟩:=hcut
         have qn:=(Jr qb.out).1
         rw [qn] at qb
         (try simp only [qn])
         (try simp only [qn] at qe)
         (try simp only [qn] at qf)
         (try simp only [qn] at qg)
         (try simp only [qn] at qd)
         (try simp only [qn] at qc)
         (try simp only [qn] at qa)
         cases kq with
         | zero => exact absurd HA.out (by simp [laws_FnExactDecode.j1])
         | succ kj74 =>
          have H:=HA.out
          clear HA
          simp only [laws_FnExactDecode.j1] at H
          by_cases c107:x84_74=true
          ·subst c107
           have H1:(some false)=some true:=by rw [if_pos rfl] at H;exact H
           clear H
           have H:=H1
           clear H1
           exact absurd (Option.some.inj H) Bool.false_ne_true
          ·replace c107:=Bool.eq_false_iff.mpr c107
           subst c107
           have H1:((laws_markPicture.f kj74 qj ql qi 1).bind fun bt284=>((laws_heldPicture.f kj74 qj ql bt284.2 1).bind fun vj=>(if vj < 0 then (some false) else (if vj=bt284.1 then ((laws_toPicture.f kj74 a0_0 a0_1 l0_2).bind fun bt287=>((laws_toByteS.f kj74 l1).bind fun vr=>((impl_Decode.f kj74 bt287.1 bt287.2.1 bt287.2.2 vr a2).bind fun bt295=>((laws_eqPicture.f kj74 bt295.1 bt295.2.1 bt295.2.2.1 qm qo qk).bind fun vm=>(if vm=true then (laws_FnExactDecode.j2 kj74 bt284.1 (bt295.2.2.2 != ya) qj ql bt284.2) else (laws_FnExactDecode.j2 kj74 bt284.1 true qj ql bt284.2)))))) else (some false)))))=some true:=by rw [if_neg (show ¬ (false=true) by decide)] at H;exact H
           clear H
           have H:=H1
           clear H1
           replace H:=Option.bind_eq_some_iff.mp H
           obtain⟨⟨zr,zb⟩,A1080,H⟩:=H
           replace H:((laws_heldPicture.f kj74 qj ql zb 1).bind fun vj=>(if vj < 0 then (some false) else (if vj=zr then ((laws_toPicture.f kj74 a0_0 a0_1 l0_2).bind fun bt287=>((laws_toByteS.f kj74 l1).bind fun vr=>((impl_Decode.f kj74 bt287.1 bt287.2.1 bt287.2.2 vr a2).bind fun bt295=>((laws_eqPicture.f kj74 bt295.1 bt295.2.1 bt295.2.2.1 qm qo qk).bind fun vm=>(if vm=true then (laws_FnExactDecode.j2 kj74 zr (bt295.2.2.2 != ya) qj ql zb) else (laws_FnExactDecode.j2 kj74 zr true qj ql zb)))))) else (some false))))=some true:=H
           have A108:=Ja A1080
           clear A1080
           replace H:=Option.bind_eq_some_iff.mp H
           obtain⟨vj,A1090,H⟩:=H
           replace H:(if vj < 0 then (some false) else (if vj=zr then ((laws_toPicture.f kj74 a0_0 a0_1 l0_2).bind fun bt287=>((laws_toByteS.f kj74 l1).bind fun vr=>((impl_Decode.f kj74 bt287.1 bt287.2.1 bt287.2.2 vr a2).bind fun bt295=>((laws_eqPicture.f kj74 bt295.1 bt295.2.1 bt295.2.2.1 qm qo qk).bind fun vm=>(if vm=true then (laws_FnExactDecode.j2 kj74 zr (bt295.2.2.2 != ya) qj ql zb) else (laws_FnExactDecode.j2 kj74 zr true qj ql zb)))))) else (some false)))=some true:=H
           have A109:=Ja A1090
           clear A1090
           by_cases c110:vj < 0
           ·rw [if_pos c110] at H
            have c110b0:decide (vj < 0)=true:=decide_eq_true c110
            clear c110
            have HR_:=Option.some.inj H
            have hnb111:=zh.out
            have hnc111:=yl.out
            have hnb112:=yv.out
            have hnc112:=ye.out
            have hnb113:=zc.out
            have hnc113:=yi.out
            have hcz114_0:wc.cell? ⟨qh,0,none⟩=some (.int .i64 qj):=(Jm qd.out 0).trans rfl
            have hcz114_1:wc.cell? ⟨qh,1,none⟩=some (.int .i64 ql):=(Jm qd.out 1).trans rfl
            have hcz114_2:wc.cell? ⟨qh,2,none⟩=some (.slice qv qi.length qu):=(Jm qd.out 2).trans rfl
            have hfz114_0:=Jl qd.out 0
            have hfz114_1:=Jl qd.out 1
            have hfz114_2:=Jl qd.out 2
            go_wp2_with (first|((with_reducible refine Jw (f:=38) rfl ?_);refine goesL_ (some 87) rfl rfl Try.func38 (by kernel_rfl) rfl #[.agg #[.int .i64 qj,.int .i64 ql,.slice qv qi.length qu],.int .i64 1] rfl (by(try simp only [List.map_toArray,List.map_cons,List.map_nil]);first|done|rfl|(simp only [List.length_drop,List.length_take];rfl)) ?_;(with_reducible refine(laws_markPicture.calls kj74 qj ql (fun k_=>some k_=(.slice qv qi.length qu:Value).ownBlock) (.slice qv qi.length qu) qi 1 zr zb w _ ?side1 ?side2 A108.out).mono ?_);(case side1=>repeat(first|(with_reducible first|exact HB.out|apply Jp|apply Ji|apply Jo|refine Jf ?_ qs.out|refine Jf ?_ qw.out|refine Jf ?_ qy.out|refine Jf ?_ yj.out)|exact HB.out));(case side2=>exact Kd.R_tight rfl qa.out);rintro e w115 ⟨rfl,hy0,hb,hkp⟩;refine⟨_,rfl,?_⟩;have ym:=Ja (Jq (ok':=fun k_=>some k_≠(.slice yd zy.length yf:Value).ownBlock∧some k_≠(.slice qv qi.length qu:Value).ownBlock) (Kd.R_keptB (qc.out) hkp (fun k_ hk_ hs_=>(hk_.2) hs_)) (fun k_ hk_=>⟨hk_.1.1,hk_.1.2⟩));have yn:=Ja (Jq (ok':=fun k_=>some k_≠(.slice yb qk.length qz:Value).ownBlock∧some k_≠(.slice qv qi.length qu:Value).ownBlock) (Kd.R_keptB (qb.out) hkp (fun k_ hk_ hs_=>(hk_.2) hs_)) (fun k_ hk_=>⟨hk_.1.1,hk_.1.2⟩));have yq:=Ja (Kd.R_reok rfl hy0 (fun k_ e_=>qa.out.1 k_ e_));have ys:=Ja (blk_kept (by(with_reducible repeat(first|refine Je ?_ _|refine Jb ?_|refine Jd ?_ _));exact qe.out) hkp (fun hs_=>(fun e_=>(Kd.R_ne qa.out qe.out (by decide)) e_) hs_));have yx:=Ja (blk_kept (by(with_reducible repeat(first|refine Je ?_ _|refine Jb ?_|refine Jd ?_ _));exact qf.out) hkp (fun hs_=>(fun e_=>(Kd.R_ne qa.out qf.out (by decide)) e_) hs_));have yz:=Ja (blk_kept (by(with_reducible repeat(first|refine Je ?_ _|refine Jb ?_|refine Jd ?_ _));exact qg.out) hkp (fun hs_=>(fun e_=>(Kd.R_ne qa.out qg.out (by decide)) e_) hs_));have za:=Ja (blk_kept (by(with_reducible repeat(first|refine Je ?_ _|refine Jb ?_|refine Jd ?_ _));exact qd.out) hkp (fun hs_=>(fun e_=>(Kd.R_ne qa.out qd.out (by decide)) e_) hs_));have ze:=Ja (hb);clear qc;clear qb;clear qa;clear qe;clear qf;clear qg;clear qd;clear HB;have qc:=ym;have qb:=yn;have qa:=yq;have qe:=ys;have qf:=yx;have qg:=yz;have qd:=za;have HB:=ze;clear ym yn yq ys yx yz za ze;(try clear hb);(try clear hkp);(try clear hy0);have hcz116_0:w115.cell? ⟨qh,0,none⟩=some (.int .i64 qj):=(Jm qd.out 0).trans rfl;have hcz116_1:w115.cell? ⟨qh,1,none⟩=some (.int .i64 ql):=(Jm qd.out 1).trans rfl;have hcz116_2:w115.cell? ⟨qh,2,none⟩=some (.slice qv qi.length qu):=(Jm qd.out 2).trans rfl;have hfz116_0:=Jl qd.out 0;have hfz116_1:=Jl qd.out 1;have hfz116_2:=Jl qd.out 2)|((with_reducible refine Jw (f:=40) rfl ?_);refine goesL_ (some 90) rfl rfl Try.func40 (by kernel_rfl) rfl #[.agg #[.int .i64 qj,.int .i64 ql,.slice qv zb.length qu],.int .i64 1] rfl (by(try simp only [List.map_toArray,List.map_cons,List.map_nil]);first|done|(rw [show zb.length=qi.length from(Jr qa.out).1.symm] <;> rfl)|rfl|(simp only [List.length_drop,List.length_take];rfl)) ?_;(with_reducible refine(laws_heldPicture.calls kj74 qj ql _ _ zb 1 vj _ ?side1 ?side2 A109.out).mono ?_);(case side1=>repeat(first|exact(Jr qa.out).2.2|(with_reducible refine Jx ?_ _)|(with_reducible refine Jy ?_ _)|(with_reducible refine Js ?_)));(case side2=>rw [show zb.length=qi.length from(Jr qa.out).1.symm];exact(Jr qa.out).2.1);rintro e w117 ⟨rfl,hb⟩;refine⟨_,rfl,?_⟩;have ym:=Ja (Jk (by(with_reducible repeat(first|apply Jg|apply Jh|apply Jc));exact qc.out) hb);have yn:=Ja (Jk (by(with_reducible repeat(first|apply Jg|apply Jh|apply Jc));exact qb.out) hb);have yq:=Ja (Jk (by(with_reducible repeat(first|apply Jg|apply Jh|apply Jc));exact qa.out) hb);have ys:=Ja (Jn (g:=qq) (o:=.cells #[.int .i64 a0_0,.int .i64 a0_1,.slice A0_2 l0_2.length c0_2] 24 (0,0)) (by(with_reducible repeat(first|refine Je ?_ _|refine Jb ?_|refine Jd ?_ _));exact qe.out) hb);have yx:=Ja (Jn (g:=qp) (o:=.cells #[.int .i64 qm,.int .i64 qo,.slice yb qk.length qz] 27 (0,0)) (by(with_reducible repeat(first|refine Je ?_ _|refine Jb ?_|refine Jd ?_ _));exact qf.out) hb);have yz:=Ja (Jn (g:=qt) (o:=.cells #[.int .i64 yg,.int .i64 yh,.slice yd zy.length yf] 27 (0,0)) (by(with_reducible repeat(first|refine Je ?_ _|refine Jb ?_|refine Jd ?_ _));exact qg.out) hb);have za:=Ja (Jn (g:=qh) (o:=.cells #[.int .i64 qj,.int .i64 ql,.slice qv qi.length qu] 27 (0,0)) (by(with_reducible repeat(first|refine Je ?_ _|refine Jb ?_|refine Jd ?_ _));exact qd.out) hb);have ze:=Ja (Jv (by repeat(first|(with_reducible first|exact HB.out|apply Jp|apply Ji|apply Jo|refine Jf ?_ qs.out|refine Jf ?_ qw.out|refine Jf ?_ qy.out|refine Jf ?_ yj.out)|exact HB.out)) hb);clear qc;clear qb;clear qa;clear qe;clear qf;clear qg;clear qd;clear HB;have qc:=ym;have qb:=yn;have qa:=yq;have qe:=ys;have qf:=yx;have qg:=yz;have qd:=za;have HB:=ze;clear ym yn yq ys yx yz za ze;(try clear hb);(try clear hb2);(try clear hk);(try clear hi)))
            go_ret
            exact⟨by first|rfl|(simp [errW_none,errW_some] <;> rfl)|(simp [*,errW_none,errW_some] <;> rfl),by repeat(first|(with_reducible first|exact HB.out|apply Jp|apply Ji|apply Jo|refine Jf ?_ qs.out|refine Jf ?_ qw.out|refine Jf ?_ qy.out|refine Jf ?_ yj.out)|exact HB.out)⟩
           ·rw [if_neg c110] at H
            have c110b0:decide (vj < 0)=false:=decide_eq_false c110
            clear c110
            by_cases c118:vj=zr
            ·rw [if_pos c118] at H
             have c118b0:(vj == zr)=true:=beq_iff_eq.mpr c118
             have c118b1:(vj != zr)=false:=bne_eq_false_iff_eq.mpr c118
             clear c118
             replace H:=Option.bind_eq_some_iff.mp H
             obtain⟨⟨t287,t288,t289⟩,A1190,H⟩:=H
             replace H:((laws_toByteS.f kj74 l1).bind fun vr=>((impl_Decode.f kj74 t287 t288 t289 vr a2).bind fun bt295=>((laws_eqPicture.f kj74 bt295.1 bt295.2.1 bt295.2.2.1 qm qo qk).bind fun vm=>(if vm=true then (laws_FnExactDecode.j2 kj74 zr (bt295.2.2.2 != ya) qj ql zb) else (laws_FnExactDecode.j2 kj74 zr true qj ql zb)))))=some true:=H
             have A119:=Ja A1190
             clear A1190
             replace H:=Option.bind_eq_some_iff.mp H
             obtain⟨vr,A1200,H⟩:=H
             replace H:((impl_Decode.f kj74 t287 t288 t289 vr a2).bind fun bt295=>((laws_eqPicture.f kj74 bt295.1 bt295.2.1 bt295.2.2.1 qm qo qk).bind fun vm=>(if vm=true then (laws_FnExactDecode.j2 kj74 zr (bt295.2.2.2 != ya) qj ql zb) else (laws_FnExactDecode.j2 kj74 zr true qj ql zb))))=some true:=H
             have A120:=Ja A1200
             clear A1200
             replace H:=Option.bind_eq_some_iff.mp H
             obtain⟨⟨zs,zw,zk,t300⟩,A1210,H⟩:=H
             replace H:((laws_eqPicture.f kj74 zs zw zk qm qo qk).bind fun vm=>(if vm=true then (laws_FnExactDecode.j2 kj74 zr (t300 != ya) qj ql zb) else (laws_FnExactDecode.j2 kj74 zr true qj ql zb)))=some true:=H
             have A121:=Ja A1210
             clear A1210
             have HC122:=Ja H
             clear H
             have hnb123:=zh.out
             have hnc123:=yl.out
             have hnb124:=yv.out
             have hnc124:=ye.out
             have hnb125:=zc.out
             have hnc125:=yi.out
             have hcz126_0:wc.cell? ⟨qh,0,none⟩=some (.int .i64 qj):=(Jm qd.out 0).trans rfl
             have hcz126_1:wc.cell? ⟨qh,1,none⟩=some (.int .i64 ql):=(Jm qd.out 1).trans rfl
             have hcz126_2:wc.cell? ⟨qh,2,none⟩=some (.slice qv qi.length qu):=(Jm qd.out 2).trans rfl
             have hfz126_0:=Jl qd.out 0
             have hfz126_1:=Jl qd.out 1
             have hfz126_2:=Jl qd.out 2
             go_upto_region 31 with (first|((with_reducible refine Jw (f:=38) rfl ?_);refine goesL_ (some 87) rfl rfl Try.func38 (by kernel_rfl) rfl #[.agg #[.int .i64 qj,.int .i64 ql,.slice qv qi.length qu],.int .i64 1] rfl (by(try simp only [List.map_toArray,List.map_cons,List.map_nil]);first|done|rfl|(simp only [List.length_drop,List.length_take];rfl)) ?_;(with_reducible refine(laws_markPicture.calls kj74 qj ql (fun k_=>some k_=(.slice qv qi.length qu:Value).ownBlock) (.slice qv qi.length qu) qi 1 zr zb w _ ?side1 ?side2 A108.out).mono ?_);(case side1=>repeat(first|(with_reducible first|exact HB.out|apply Jp|apply Ji|apply Jo|refine Jf ?_ qs.out|refine Jf ?_ qw.out|refine Jf ?_ qy.out|refine Jf ?_ yj.out)|exact HB.out));(case side2=>exact Kd.R_tight rfl qa.out);rintro e w127 ⟨rfl,hy0,hb,hkp⟩;refine⟨_,rfl,?_⟩;have ym:=Ja (Jq (ok':=fun k_=>some k_≠(.slice yd zy.length yf:Value).ownBlock∧some k_≠(.slice qv qi.length qu:Value).ownBlock) (Kd.R_keptB (qc.out) hkp (fun k_ hk_ hs_=>(hk_.2) hs_)) (fun k_ hk_=>⟨hk_.1.1,hk_.1.2⟩));have yn:=Ja (Jq (ok':=fun k_=>some k_≠(.slice yb qk.length qz:Value).ownBlock∧some k_≠(.slice qv qi.length qu:Value).ownBlock) (Kd.R_keptB (qb.out) hkp (fun k_ hk_ hs_=>(hk_.2) hs_)) (fun k_ hk_=>⟨hk_.1.1,hk_.1.2⟩));have yq:=Ja (Kd.R_reok rfl hy0 (fun k_ e_=>qa.out.1 k_ e_));have ys:=Ja (blk_kept (by(with_reducible repeat(first|refine Je ?_ _|refine Jb ?_|refine Jd ?_ _));exact qe.out) hkp (fun hs_=>(fun e_=>(Kd.R_ne qa.out qe.out (by decide)) e_) hs_));have yx:=Ja (blk_kept (by(with_reducible repeat(first|refine Je ?_ _|refine Jb ?_|refine Jd ?_ _));exact qf.out) hkp (fun hs_=>(fun e_=>(Kd.R_ne qa.out qf.out (by decide)) e_) hs_));have yz:=Ja (blk_kept (by(with_reducible repeat(first|refine Je ?_ _|refine Jb ?_|refine Jd ?_ _));exact qg.out) hkp (fun hs_=>(fun e_=>(Kd.R_ne qa.out qg.out (by decide)) e_) hs_));have za:=Ja (blk_kept (by(with_reducible repeat(first|refine Je ?_ _|refine Jb ?_|refine Jd ?_ _));exact qd.out) hkp (fun hs_=>(fun e_=>(Kd.R_ne qa.out qd.out (by decide)) e_) hs_));have ze:=Ja (hb);clear qc;clear qb;clear qa;clear qe;clear qf;clear qg;clear qd;clear HB;have qc:=ym;have qb:=yn;have qa:=yq;have qe:=ys;have qf:=yx;have qg:=yz;have qd:=za;have HB:=ze;clear ym yn yq ys yx yz za ze;(try clear hb);(try clear hkp);(try clear hy0);have hcz128_0:w127.cell? ⟨qh,0,none⟩=some (.int .i64 qj):=(Jm qd.out 0).trans rfl;have hcz128_1:w127.cell? ⟨qh,1,none⟩=some (.int .i64 ql):=(Jm qd.out 1).trans rfl;have hcz128_2:w127.cell? ⟨qh,2,none⟩=some (.slice qv qi.length qu):=(Jm qd.out 2).trans rfl;have hfz128_0:=Jl qd.out 0;have hfz128_1:=Jl qd.out 1;have hfz128_2:=Jl qd.out 2)|((with_reducible refine Jw (f:=40) rfl ?_);refine goesL_ (some 90) rfl rfl Try.func40 (by kernel_rfl) rfl #[.agg #[.int .i64 qj,.int .i64 ql,.slice qv zb.length qu],.int .i64 1] rfl (by(try simp only [List.map_toArray,List.map_cons,List.map_nil]);first|done|(rw [show zb.length=qi.length from(Jr qa.out).1.symm] <;> rfl)|rfl|(simp only [List.length_drop,List.length_take];rfl)) ?_;(with_reducible refine(laws_heldPicture.calls kj74 qj ql _ _ zb 1 vj _ ?side1 ?side2 A109.out).mono ?_);(case side1=>repeat(first|exact(Jr qa.out).2.2|(with_reducible refine Jx ?_ _)|(with_reducible refine Jy ?_ _)|(with_reducible refine Js ?_)));(case side2=>rw [show zb.length=qi.length from(Jr qa.out).1.symm];exact(Jr qa.out).2.1);rintro e w129 ⟨rfl,hb⟩;refine⟨_,rfl,?_⟩;have ym:=Ja (Jk (by(with_reducible repeat(first|apply Jg|apply Jh|apply Jc));exact qc.out) hb);have yn:=Ja (Jk (by(with_reducible repeat(first|apply Jg|apply Jh|apply Jc));exact qb.out) hb);have yq:=Ja (Jk (by(with_reducible repeat(first|apply Jg|apply Jh|apply Jc));exact qa.out) hb);have ys:=Ja (Jn (g:=qq) (o:=.cells #[.int .i64 a0_0,.int .i64 a0_1,.slice A0_2 l0_2.length c0_2] 24 (0,0)) (by(with_reducible repeat(first|refine Je ?_ _|refine Jb ?_|refine Jd ?_ _));exact qe.out) hb);have yx:=Ja (Jn (g:=qp) (o:=.cells #[.int .i64 qm,.int .i64 qo,.slice yb qk.length qz] 27 (0,0)) (by(with_reducible repeat(first|refine Je ?_ _|refine Jb ?_|refine Jd ?_ _));exact qf.out) hb);have yz:=Ja (Jn (g:=qt) (o:=.cells #[.int .i64 yg,.int .i64 yh,.slice yd zy.length yf] 27 (0,0)) (by(with_reducible repeat(first|refine Je ?_ _|refine Jb ?_|refine Jd ?_ _));exact qg.out) hb);have za:=Ja (Jn (g:=qh) (o:=.cells #[.int .i64 qj,.int .i64 ql,.slice qv qi.length qu] 27 (0,0)) (by(with_reducible repeat(first|refine Je ?_ _|refine Jb ?_|refine Jd ?_ _));exact qd.out) hb);have ze:=Ja (Jv (by repeat(first|(with_reducible first|exact HB.out|apply Jp|apply Ji|apply Jo|refine Jf ?_ qs.out|refine Jf ?_ qw.out|refine Jf ?_ qy.out|refine Jf ?_ yj.out)|exact HB.out)) hb);clear qc;clear qb;clear qa;clear qe;clear qf;clear qg;clear qd;clear HB;have qc:=ym;have qb:=yn;have qa:=yq;have qe:=ys;have qf:=yx;have qg:=yz;have qd:=za;have HB:=ze;clear ym yn yq ys yx yz za ze;(try clear hb);(try clear hb2);(try clear hk);(try clear hi);have hnb130:=zf.out;have hnc130:=zt.out;have hnb131:=ve.out;have hnc131:=vt.out;have hcz132_0:w129.cell? ⟨qq,0,none⟩=some (.int .i64 a0_0):=(Jm qe.out 0).trans rfl;have hcz132_1:w129.cell? ⟨qq,1,none⟩=some (.int .i64 a0_1):=(Jm qe.out 1).trans rfl;have hcz132_2:w129.cell? ⟨qq,2,none⟩=some (.slice A0_2 l0_2.length c0_2):=(Jm qe.out 2).trans rfl;have hfz132_0:=Jl qe.out 0;have hfz132_1:=Jl qe.out 1;have hfz132_2:=Jl qe.out 2)|((with_reducible refine Jw (f:=16) rfl ?_);refine goesL_ (some 98) rfl rfl Try.func16 (by kernel_rfl) rfl #[.agg #[.int .i64 a0_0,.int .i64 a0_1,.slice A0_2 l0_2.length c0_2]] rfl (by(try simp only [List.map_toArray,List.map_cons,List.map_nil]);first|done|rfl|(simp only [List.length_drop,List.length_take];rfl)) ?_;(with_reducible refine(laws_toPicture.calls kj74 a0_0 a0_1 _ _ l0_2 t287 t288 t289 _ ?side1 ?side2 A119.out).mono ?_);(case side1=>repeat(first|exact(Kd.C_below xb.out HB.out)|(with_reducible refine Jx ?_ _)|(with_reducible refine Jy ?_ _)|(with_reducible refine Js ?_)));(case side2=>exact xa.out);rintro e w133 ⟨v290,rfl,vc,hb⟩;refine⟨_,rfl,?_⟩;have ym:=Ja (JA (by(with_reducible repeat(first|apply Jg|apply Jh|apply Jc));exact qc.out) (Kd.R_base vc) hb);have yn:=Ja (JA (by(with_reducible repeat(first|apply Jg|apply Jh|apply Jc));exact qb.out) (Kd.R_base vc) hb);have yq:=Ja (JA (by(with_reducible repeat(first|apply Jg|apply Jh|apply Jc));exact qa.out) (Kd.R_base vc) hb);have ys:=Ja (Kd.R_lower (Kd.R_new' (Kd.R_new' (Kd.R_new' vc (Kd.R_lt (by(with_reducible repeat(first|apply Jg|apply Jh|apply Jc));exact qc.out))) (Kd.R_lt (by(with_reducible repeat(first|apply Jg|apply Jh|apply Jc));exact qb.out))) (Kd.R_lt (by(with_reducible repeat(first|apply Jg|apply Jh|apply Jc));exact qa.out))) (Jz (by repeat(first|(with_reducible first|exact HB.out|apply Jp|apply Ji|apply Jo|refine Jf ?_ qs.out|refine Jf ?_ qw.out|refine Jf ?_ qy.out|refine Jf ?_ yj.out)|exact HB.out))));have yx:=Ja (Jn (g:=qq) (o:=.cells #[.int .i64 a0_0,.int .i64 a0_1,.slice A0_2 l0_2.length c0_2] 24 (0,0)) (by(with_reducible repeat(first|refine Je ?_ _|refine Jb ?_|refine Jd ?_ _));exact qe.out) hb);have yz:=Ja (Jn (g:=qp) (o:=.cells #[.int .i64 qm,.int .i64 qo,.slice yb qk.length qz] 27 (0,0)) (by(with_reducible repeat(first|refine Je ?_ _|refine Jb ?_|refine Jd ?_ _));exact qf.out) hb);have za:=Ja (Jn (g:=qt) (o:=.cells #[.int .i64 yg,.int .i64 yh,.slice yd zy.length yf] 27 (0,0)) (by(with_reducible repeat(first|refine Je ?_ _|refine Jb ?_|refine Jd ?_ _));exact qg.out) hb);have ze:=Ja (Jn (g:=qh) (o:=.cells #[.int .i64 qj,.int .i64 ql,.slice qv qi.length qu] 27 (0,0)) (by(with_reducible repeat(first|refine Je ?_ _|refine Jb ?_|refine Jd ?_ _));exact qd.out) hb);have zm:=Ja (Jv (by repeat(first|(with_reducible first|exact HB.out|apply Jp|apply Ji|apply Jo|refine Jf ?_ qs.out|refine Jf ?_ qw.out|refine Jf ?_ qy.out|refine Jf ?_ yj.out)|exact HB.out)) hb);clear qc;clear qb;clear qa;clear qe;clear qf;clear qg;clear qd;clear HB;have qc:=ym;have qb:=yn;have qa:=yq;have zx:=ys;have qe:=yx;have qf:=yz;have qg:=za;have qd:=ze;have HB:=zm;clear ym yn yq ys yx yz za ze zm;(try clear hb);(try clear hb2);(try clear hk);(try clear hi);(try clear vc))|((with_reducible refine Jw (f:=35) rfl ?_);refine goesL_ (some 100) rfl rfl Try.func35 (by kernel_rfl) rfl #[.slice A1 l1.length c1] rfl (by(try simp only [List.map_toArray,List.map_cons,List.map_nil]);first|done|rfl|(simp only [List.length_drop,List.length_take];rfl)) ?_;(with_reducible refine(laws_toByteS.calls kj74 _ _ l1 vr _ ?side1 ?side2 A120.out).mono ?_);(case side1=>repeat(first|exact(Kd.C_below HR1.out HB.out)|(with_reducible refine Jx ?_ _)|(with_reducible refine Jy ?_ _)|(with_reducible refine Js ?_)));(case side2=>exact HC1.out);rintro e w134 ⟨v293,rfl,vc,hb⟩;refine⟨_,rfl,?_⟩;have ym:=Ja (Jk (by(with_reducible repeat(first|apply Jg|apply Jh|apply Jc));exact qc.out) hb);have yn:=Ja (Jk (by(with_reducible repeat(first|apply Jg|apply Jh|apply Jc));exact qb.out) hb);have yq:=Ja (Jk (by(with_reducible repeat(first|apply Jg|apply Jh|apply Jc));exact qa.out) hb);have ys:=Ja (Jk (by(with_reducible repeat(first|apply Jg|apply Jh|apply Jc));exact zx.out) hb);have yx:=Ja (Kd.R_lower vc (Jz (by repeat(first|(with_reducible first|exact HB.out|apply Jp|apply Ji|apply Jo|refine Jf ?_ qs.out|refine Jf ?_ qw.out|refine Jf ?_ qy.out|refine Jf ?_ yj.out)|exact HB.out))));have yz:=Ja (Jn (g:=qq) (o:=.cells #[.int .i64 a0_0,.int .i64 a0_1,.slice A0_2 l0_2.length c0_2] 24 (0,0)) (by(with_reducible repeat(first|refine Je ?_ _|refine Jb ?_|refine Jd ?_ _));exact qe.out) hb);have za:=Ja (Jn (g:=qp) (o:=.cells #[.int .i64 qm,.int .i64 qo,.slice yb qk.length qz] 27 (0,0)) (by(with_reducible repeat(first|refine Je ?_ _|refine Jb ?_|refine Jd ?_ _));exact qf.out) hb);have ze:=Ja (Jn (g:=qt) (o:=.cells #[.int .i64 yg,.int .i64 yh,.slice yd zy.length yf] 27 (0,0)) (by(with_reducible repeat(first|refine Je ?_ _|refine Jb ?_|refine Jd ?_ _));exact qg.out) hb);have zm:=Ja (Jn (g:=qh) (o:=.cells #[.int .i64 qj,.int .i64 ql,.slice qv qi.length qu] 27 (0,0)) (by(with_reducible repeat(first|refine Je ?_ _|refine Jb ?_|refine Jd ?_ _));exact qd.out) hb);have zv:=Ja (Jv (by repeat(first|(with_reducible first|exact HB.out|apply Jp|apply Ji|apply Jo|refine Jf ?_ qs.out|refine Jf ?_ qw.out|refine Jf ?_ qy.out|refine Jf ?_ yj.out)|exact HB.out)) hb);clear qc;clear qb;clear qa;clear zx;clear qe;clear qf;clear qg;clear qd;clear HB;have qc:=ym;have qb:=yn;have qa:=yq;have zx:=ys;have vh:=yx;have qe:=yz;have qf:=za;have qg:=ze;have qd:=zm;have HB:=zv;clear ym yn yq ys yx yz za ze zm zv;(try clear hb);(try clear hb2);(try clear hk);(try clear hi);(try clear vc);obtain⟨Ao135,co135,eo135⟩:=Kd.R_slice zx.out;subst eo135;obtain⟨Ao136,co136,eo136⟩:=Kd.R_slice vh.out;subst eo136)|((with_reducible refine Jw (f:=36) rfl ?_);refine goesL_ (some 102) rfl rfl Try.func36 (by kernel_rfl) rfl #[.agg #[.int .i64 t287,.int .i64 t288,.slice Ao135 t289.length co135],.slice Ao136 vr.length co136,.int .i64 a2] rfl (by(try simp only [List.map_toArray,List.map_cons,List.map_nil]);first|done|rfl|(simp only [List.length_drop,List.length_take];rfl)) ?_;(with_reducible refine(impl_Decode.calls kj74 t287 t288 _ _ t289 _ _ vr a2 zs zw zk t300 _ ?side1 ?side2 ?side3 ?side4 A121.out).mono ?_);(case side1=>repeat(first|exact(Jr zx.out).2.2|(with_reducible refine Jx ?_ _)|(with_reducible refine Jy ?_ _)|(with_reducible refine Js ?_)));(case side2=>exact(Jr zx.out).2.1);(case side3=>repeat(first|exact(Jr vh.out).2.2|(with_reducible refine Jx ?_ _)|(with_reducible refine Jy ?_ _)|(with_reducible refine Js ?_)));(case side4=>exact(Jr vh.out).2.1);rintro e w137 ⟨v298,rfl,vc,hb⟩;refine⟨_,rfl,?_⟩;have ym:=Ja (JA (by(with_reducible repeat(first|apply Jg|apply Jh|apply Jc));exact qc.out) (Kd.R_base vc) hb);have yn:=Ja (JA (by(with_reducible repeat(first|apply Jg|apply Jh|apply Jc));exact qb.out) (Kd.R_base vc) hb);have yq:=Ja (JA (by(with_reducible repeat(first|apply Jg|apply Jh|apply Jc));exact qa.out) (Kd.R_base vc) hb);have ys:=Ja (JA (by(with_reducible repeat(first|apply Jg|apply Jh|apply Jc));exact zx.out) (Kd.R_base vc) hb);have yx:=Ja (Jk (by(with_reducible repeat(first|apply Jg|apply Jh|apply Jc));exact vh.out) hb);have yz:=Ja (Kd.R_lower (Kd.R_new' (Kd.R_new' (Kd.R_new' (Kd.R_new' vc (Kd.R_lt (by(with_reducible repeat(first|apply Jg|apply Jh|apply Jc));exact qc.out))) (Kd.R_lt (by(with_reducible repeat(first|apply Jg|apply Jh|apply Jc));exact qb.out))) (Kd.R_lt (by(with_reducible repeat(first|apply Jg|apply Jh|apply Jc));exact qa.out))) (Kd.R_lt (by(with_reducible repeat(first|apply Jg|apply Jh|apply Jc));exact zx.out))) (Jz (by repeat(first|(with_reducible first|exact HB.out|apply Jp|apply Ji|apply Jo|refine Jf ?_ qs.out|refine Jf ?_ qw.out|refine Jf ?_ qy.out|refine Jf ?_ yj.out)|exact HB.out))));have za:=Ja (Jn (g:=qq) (o:=.cells #[.int .i64 a0_0,.int .i64 a0_1,.slice A0_2 l0_2.length c0_2] 24 (0,0)) (by(with_reducible repeat(first|refine Je ?_ _|refine Jb ?_|refine Jd ?_ _));exact qe.out) hb);have ze:=Ja (Jn (g:=qp) (o:=.cells #[.int .i64 qm,.int .i64 qo,.slice yb qk.length qz] 27 (0,0)) (by(with_reducible repeat(first|refine Je ?_ _|refine Jb ?_|refine Jd ?_ _));exact qf.out) hb);have zm:=Ja (Jn (g:=qt) (o:=.cells #[.int .i64 yg,.int .i64 yh,.slice yd zy.length yf] 27 (0,0)) (by(with_reducible repeat(first|refine Je ?_ _|refine Jb ?_|refine Jd ?_ _));exact qg.out) hb);have zv:=Ja (Jn (g:=qh) (o:=.cells #[.int .i64 qj,.int .i64 ql,.slice qv qi.length qu] 27 (0,0)) (by(with_reducible repeat(first|refine Je ?_ _|refine Jb ?_|refine Jd ?_ _));exact qd.out) hb);have zi:=Ja (Jv (by repeat(first|(with_reducible first|exact HB.out|apply Jp|apply Ji|apply Jo|refine Jf ?_ qs.out|refine Jf ?_ qw.out|refine Jf ?_ qy.out|refine Jf ?_ yj.out)|exact HB.out)) hb);clear qc;clear qb;clear qa;clear zx;clear vh;clear qe;clear qf;clear qg;clear qd;clear HB;have qc:=ym;have qb:=yn;have qa:=yq;have zx:=ys;have vh:=yx;have vb:=yz;have qe:=za;have qf:=ze;have qg:=zm;have qd:=zv;have HB:=zi;clear ym yn yq ys yx yz za ze zm zv zi;(try clear hb);(try clear hb2);(try clear hk);(try clear hi);(try clear vc))|((with_reducible refine gate_dst (N:=17) rfl ?_);refine box_event ?hg (N:=17) ?hd (cs:=#[.int .i64 0,.int .i64 0,.slice none 0 0]) (t:=27) ?hr ?_;(case hd=>rfl);(case hg=>rfl);(case hr=>first|(go_simp;done)|(go_simp;rfl));intro qr hg w138 hbox hb;have ym:=Ja (Jk (by(with_reducible repeat(first|apply Jg|apply Jh|apply Jc));exact qc.out) hb);have yn:=Ja (Jk (by(with_reducible repeat(first|apply Jg|apply Jh|apply Jc));exact qb.out) hb);have yq:=Ja (Jk (by(with_reducible repeat(first|apply Jg|apply Jh|apply Jc));exact qa.out) hb);have ys:=Ja (Jk (by(with_reducible repeat(first|apply Jg|apply Jh|apply Jc));exact zx.out) hb);have yx:=Ja (Jk (by(with_reducible repeat(first|apply Jg|apply Jh|apply Jc));exact vh.out) hb);have yz:=Ja (Jk (by(with_reducible repeat(first|apply Jg|apply Jh|apply Jc));exact vb.out) hb);have za:=Ja (Jn (g:=qq) (o:=.cells #[.int .i64 a0_0,.int .i64 a0_1,.slice A0_2 l0_2.length c0_2] 24 (0,0)) (by(with_reducible repeat(first|refine Je ?_ _|refine Jb ?_|refine Jd ?_ _));exact qe.out) hb);have ze:=Ja (Jn (g:=qp) (o:=.cells #[.int .i64 qm,.int .i64 qo,.slice yb qk.length qz] 27 (0,0)) (by(with_reducible repeat(first|refine Je ?_ _|refine Jb ?_|refine Jd ?_ _));exact qf.out) hb);have zm:=Ja (Jn (g:=qt) (o:=.cells #[.int .i64 yg,.int .i64 yh,.slice yd zy.length yf] 27 (0,0)) (by(with_reducible repeat(first|refine Je ?_ _|refine Jb ?_|refine Jd ?_ _));exact qg.out) hb);have zv:=Ja (Jn (g:=qh) (o:=.cells #[.int .i64 qj,.int .i64 ql,.slice qv qi.length qu] 27 (0,0)) (by(with_reducible repeat(first|refine Je ?_ _|refine Jb ?_|refine Jd ?_ _));exact qd.out) hb);have zi:=Ja (Jv (by repeat(first|(with_reducible first|exact HB.out|apply Jp|apply Ji|apply Jo|refine Jf ?_ qs.out|refine Jf ?_ qw.out|refine Jf ?_ qy.out|refine Jf ?_ yj.out)|exact HB.out)) hb);have vp:=Ja (hbox);have n12_:=Ja ((by rw [hg];exact(Jz (by repeat(first|(with_reducible first|exact HB.out|apply Jp|apply Ji|apply Jo|refine Jf ?_ qs.out|refine Jf ?_ qw.out|refine Jf ?_ qy.out|refine Jf ?_ yj.out)|exact HB.out))):w.heap.size≤qr));have n13_:=Ja ((by rw [hg];exact(Jz (by repeat(first|(with_reducible first|exact HB.out|apply Jp|apply Ji|apply Jo|refine Jf ?_ qs.out|refine Jf ?_ qw.out|refine Jf ?_ qy.out|refine Jf ?_ yj.out)|exact HB.out))):w.heap.size≤qr));have n14_:=Ja ((by rw [hg];exact Nat.ne_of_lt (blk_lt (g:=qq) (o:=.cells #[.int .i64 a0_0,.int .i64 a0_1,.slice A0_2 l0_2.length c0_2] 24 (0,0)) (by(with_reducible repeat(first|refine Je ?_ _|refine Jb ?_|refine Jd ?_ _));exact qe.out)):qq≠qr));have n15_:=Ja ((by rw [hg];exact Nat.ne_of_gt (blk_lt (g:=qq) (o:=.cells #[.int .i64 a0_0,.int .i64 a0_1,.slice A0_2 l0_2.length c0_2] 24 (0,0)) (by(with_reducible repeat(first|refine Je ?_ _|refine Jb ?_|refine Jd ?_ _));exact qe.out)):qr≠qq));have n16_:=Ja ((by rw [hg];exact Nat.ne_of_lt (blk_lt (g:=qp) (o:=.cells #[.int .i64 qm,.int .i64 qo,.slice yb qk.length qz] 27 (0,0)) (by(with_reducible repeat(first|refine Je ?_ _|refine Jb ?_|refine Jd ?_ _));exact qf.out)):qp≠qr));have n17_:=Ja ((by rw [hg];exact Nat.ne_of_gt (blk_lt (g:=qp) (o:=.cells #[.int .i64 qm,.int .i64 qo,.slice yb qk.length qz] 27 (0,0)) (by(with_reducible repeat(first|refine Je ?_ _|refine Jb ?_|refine Jd ?_ _));exact qf.out)):qr≠qp));have n18_:=Ja ((by rw [hg];exact Nat.ne_of_lt (blk_lt (g:=qt) (o:=.cells #[.int .i64 yg,.int .i64 yh,.slice yd zy.length yf] 27 (0,0)) (by(with_reducible repeat(first|refine Je ?_ _|refine Jb ?_|refine Jd ?_ _));exact qg.out)):qt≠qr));have n19_:=Ja ((by rw [hg];exact Nat.ne_of_gt (blk_lt (g:=qt) (o:=.cells #[.int .i64 yg,.int .i64 yh,.slice yd zy.length yf] 27 (0,0)) (by(with_reducible repeat(first|refine Je ?_ _|refine Jb ?_|refine Jd ?_ _));exact qg.out)):qr≠qt));have n20_:=Ja ((by rw [hg];exact Nat.ne_of_lt (blk_lt (g:=qh) (o:=.cells #[.int .i64 qj,.int .i64 ql,.slice qv qi.length qu] 27 (0,0)) (by(with_reducible repeat(first|refine Je ?_ _|refine Jb ?_|refine Jd ?_ _));exact qd.out)):qh≠qr));have n21_:=Ja ((by rw [hg];exact Nat.ne_of_gt (blk_lt (g:=qh) (o:=.cells #[.int .i64 qj,.int .i64 ql,.slice qv qi.length qu] 27 (0,0)) (by(with_reducible repeat(first|refine Je ?_ _|refine Jb ?_|refine Jd ?_ _));exact qd.out)):qr≠qh));clear qc;clear qb;clear qa;clear zx;clear vh;clear vb;clear qe;clear qf;clear qg;clear qd;clear HB;have qc:=ym;have qb:=yn;have qa:=yq;have zx:=ys;have vh:=yx;have vb:=yz;have qe:=za;have qf:=ze;have qg:=zm;have qd:=zv;have HB:=zi;have qx:=vp;have GW301:=n12_;have vn:=n13_;have zn:=n14_;have vu:=n15_;have zo:=n16_;have vv:=n17_;have zp:=n18_;have vw:=n19_;have zd:=n20_;have vf:=n21_;clear ym yn yq ys yx yz za ze zm zv zi vp n12_ n13_ n14_ n15_ n16_ n17_ n18_ n19_ n20_ n21_;clear hb hbox hg;have hnb139:=vu.out;have hnc139:=zn.out;have hnb140:=vv.out;have hnc140:=zo.out;have hnb141:=vw.out;have hnc141:=zp.out;have hnb142:=vf.out;have hnc142:=zd.out;have hcz143_0:w138.cell? ⟨qr,0,none⟩=some (.int .i64 0):=(Jm qx.out 0).trans rfl;have hcz143_1:w138.cell? ⟨qr,1,none⟩=some (.int .i64 0):=(Jm qx.out 1).trans rfl;have hcz143_2:w138.cell? ⟨qr,2,none⟩=some (.slice none 0 0):=(Jm qx.out 2).trans rfl;have hfz143_0:=Jl qx.out 0;have hfz143_1:=Jl qx.out 1;have hfz143_2:=Jl qx.out 2;obtain⟨yy,yu,eo144⟩:=Kd.R_slice vb.out;subst eo144))
             (try simp only [Act.put,List.setIfInBounds_toArray,List.set_cons_zero,List.set_cons_succ])
             go_cut [113] (fun v113 wc=>∃ (kq:Nat) (vs:Bool),v113=.bool vs∧Aside0 (laws_FnExactDecode.j2 kq zr vs qj ql zb=some true)∧Aside0 (kq≤kj74)∧Aside0 (Kd.R (Kd.int .i64) 2 wc w.heap.size (fun k_=>some k_≠((.slice yd zy.length yf):Value).ownBlock∧some k_≠((.slice qv qi.length qu):Value).ownBlock∧some k_≠((.slice yy zk.length yu):Value).ownBlock) (.slice yb qk.length qz) qk)∧Aside0 (Kd.R (Kd.int .i64) 2 wc w.heap.size (fun k_=>some k_≠((.slice yb qk.length qz):Value).ownBlock∧some k_≠((.slice qv qi.length qu):Value).ownBlock∧some k_≠((.slice yy zk.length yu):Value).ownBlock) (.slice yd zy.length yf) zy)∧Aside0 (Kd.R (Kd.int .i64) 2 wc w.heap.size (fun k_=>some k_≠((.slice yb qk.length qz):Value).ownBlock∧some k_≠((.slice yd zy.length yf):Value).ownBlock∧some k_≠((.slice yy zk.length yu):Value).ownBlock) (.slice qv qi.length qu) zb)∧Aside0 (Kd.R (Kd.int .i64) 2 wc w.heap.size (fun k_=>some k_≠((.slice yb qk.length qz):Value).ownBlock∧some k_≠((.slice yd zy.length yf):Value).ownBlock∧some k_≠((.slice qv qi.length qu):Value).ownBlock) (.slice yy zk.length yu) zk)∧Aside0 (wc.heap[qq]? = some (.cells #[.int .i64 a0_0,.int .i64 a0_1,(.slice A0_2 l0_2.length c0_2)] 24 (0,0)))∧Aside0 (wc.heap[qp]? = some (.cells #[.int .i64 qm,.int .i64 qo,(.slice yb qk.length qz)] 27 (0,0)))∧Aside0 (wc.heap[qt]? = some (.cells #[.int .i64 yg,.int .i64 yh,(.slice yd zy.length yf)] 27 (0,0)))∧Aside0 (wc.heap[qh]? = some (.cells #[.int .i64 qj,.int .i64 ql,(.slice qv qi.length qu)] 27 (0,0)))∧Aside0 (wc.heap[qr]? = some (.cells #[.int .i64 zs,.int .i64 zw,(.slice yy zk.length yu)] 27 (0,0)))∧Aside0 (Below w.heap.size w wc))
             case first=>
              have H:=HC122.out
              clear HC122
              replace H:=Option.bind_eq_some_iff.mp H
              obtain⟨vm,A1450,H⟩:=H
              replace H:(if vm=true then (laws_FnExactDecode.j2 kj74 zr (t300 != ya) qj ql zb) else (laws_FnExactDecode.j2 kj74 zr true qj ql zb))=some true:=H
              have A145:=Ja A1450
              clear A1450
              by_cases c146:vm=true
              ·subst c146
               have H1:(laws_FnExactDecode.j2 kj74 zr (t300 != ya) qj ql zb)=some true:=by rw [if_pos rfl] at H;exact H
               clear H
               have H:=H1
               clear H1
               have H':=Ja H
               clear H
               have hnb147:=vu.out
               have hnc147:=zn.out
               have hnb148:=vv.out
               have hnc148:=zo.out
               have hnb149:=vw.out
               have hnc149:=zp.out
               have hnb150:=vf.out
               have hnc150:=zd.out
               have hcz151_0:w138.cell? ⟨qr,0,none⟩=some (.int .i64 0):=(Jm qx.out 0).trans rfl
               have hcz151_1:w138.cell? ⟨qr,1,none⟩=some (.int .i64 0):=(Jm qx.out 1).trans rfl
               have hcz151_2:w138.cell? ⟨qr,2,none⟩=some (.slice none 0 0):=(Jm qx.out 2).trans rfl
               have hfz151_0:=Jl qx.out 0
               have hfz151_1:=Jl qx.out 1
               have hfz151_2:=Jl qx.out 2
               have hnb152:=zt.out
               have hnc152:=zf.out
               have hnb153:=zg.out
               have hnc153:=zu.out
               have hnb154:=ye.out
               have hnc154:=yv.out
               have hcz155_0:w138.cell? ⟨qp,0,none⟩=some (.int .i64 qm):=(Jm qf.out 0).trans rfl
               have hcz155_1:w138.cell? ⟨qp,1,none⟩=some (.int .i64 qo):=(Jm qf.out 1).trans rfl
               have hcz155_2:w138.cell? ⟨qp,2,none⟩=some (.slice yb qk.length qz):=(Jm qf.out 2).trans rfl
               have hfz155_0:=Jl qf.out 0
               have hfz155_1:=Jl qf.out 1
               have hfz155_2:=Jl qf.out 2
               go_wp2_with (first|((with_reducible refine Jw (f:=18) rfl ?_);refine goesL_ (some 107) rfl rfl Try.func18 (by kernel_rfl) rfl #[.agg #[.int .i64 zs,.int .i64 zw,.slice yy zk.length yu],.agg #[.int .i64 qm,.int .i64 qo,.slice yb qk.length qz]] rfl (by(try simp only [List.map_toArray,List.map_cons,List.map_nil]);first|done|rfl|(simp only [List.length_drop,List.length_take];rfl)) ?_;(with_reducible refine(laws_eqPicture.calls kj74 zs zw _ _ zk qm qo _ _ qk true _ ?side1 ?side2 ?side3 ?side4 A145.out).mono ?_);(case side1=>refine(Jr (e:=2) (base:=w.heap.size) (ok:=fun k_=>((((True∧some k_≠(.slice yb qk.length qz:Value).ownBlock)∧some k_≠(.slice yd zy.length yf:Value).ownBlock)∧some k_≠(.slice qv qi.length qu:Value).ownBlock)∧some k_≠(.slice Ao135 t289.length co135:Value).ownBlock)) (n:=zk.length) (c:=yu) ?_).2.2;exact(by(with_reducible repeat(first|apply Jg|apply Jh|apply Jc));exact(Jq (Jj (p:=⟨qr,2,none⟩) (Jj (p:=⟨qr,1,none⟩) (Jj (p:=⟨qr,0,none⟩) (Jt vb.out qx.out (by decide)) (fun _ hk=>hk.2) (.int .i64 zs)) (fun _ hk=>hk.2) (.int .i64 zw)) (fun _ hk=>hk.2) (.slice yy zk.length yu)) (fun _ h_=>h_.1))));(case side2=>exact(Jr vb.out).2.1);(case side3=>refine(Jr (e:=2) (base:=w.heap.size) (ok:=fun k_=>(((some k_≠(.slice yd zy.length yf:Value).ownBlock∧some k_≠(.slice qv qi.length qu:Value).ownBlock)∧some k_≠(.slice Ao135 t289.length co135:Value).ownBlock)∧some k_≠(.slice yy zk.length yu:Value).ownBlock)) (n:=qk.length) (c:=qz) ?_).2.2;exact(by(with_reducible repeat(first|apply Jg|apply Jh|apply Jc));exact(Jq (Jj (p:=⟨qr,2,none⟩) (Jj (p:=⟨qr,1,none⟩) (Jj (p:=⟨qr,0,none⟩) (Jt qc.out qx.out (by decide)) (fun _ hk=>hk.2) (.int .i64 zs)) (fun _ hk=>hk.2) (.int .i64 zw)) (fun _ hk=>hk.2) (.slice yy zk.length yu)) (fun _ h_=>h_.1))));(case side4=>exact(Jr qc.out).2.1);rintro e w156 ⟨rfl,hb⟩;refine⟨_,rfl,?_⟩;have ym:=Ja (Jk (by(with_reducible repeat(first|apply Jg|apply Jh|apply Jc));exact(Jq (Jj (p:=⟨qr,2,none⟩) (Jj (p:=⟨qr,1,none⟩) (Jj (p:=⟨qr,0,none⟩) (Jt qc.out qx.out (by decide)) (fun _ hk=>hk.2) (.int .i64 zs)) (fun _ hk=>hk.2) (.int .i64 zw)) (fun _ hk=>hk.2) (.slice yy zk.length yu)) (fun _ h_=>h_.1))) hb);have yn:=Ja (Jk (by(with_reducible repeat(first|apply Jg|apply Jh|apply Jc));exact(Jq (Jj (p:=⟨qr,2,none⟩) (Jj (p:=⟨qr,1,none⟩) (Jj (p:=⟨qr,0,none⟩) (Jt qb.out qx.out (by decide)) (fun _ hk=>hk.2) (.int .i64 zs)) (fun _ hk=>hk.2) (.int .i64 zw)) (fun _ hk=>hk.2) (.slice yy zk.length yu)) (fun _ h_=>h_.1))) hb);have yq:=Ja (Jk (by(with_reducible repeat(first|apply Jg|apply Jh|apply Jc));exact(Jq (Jj (p:=⟨qr,2,none⟩) (Jj (p:=⟨qr,1,none⟩) (Jj (p:=⟨qr,0,none⟩) (Jt qa.out qx.out (by decide)) (fun _ hk=>hk.2) (.int .i64 zs)) (fun _ hk=>hk.2) (.int .i64 zw)) (fun _ hk=>hk.2) (.slice yy zk.length yu)) (fun _ h_=>h_.1))) hb);have ys:=Ja (Jk (by(with_reducible repeat(first|apply Jg|apply Jh|apply Jc));exact(Jq (Jj (p:=⟨qr,2,none⟩) (Jj (p:=⟨qr,1,none⟩) (Jj (p:=⟨qr,0,none⟩) (Jt zx.out qx.out (by decide)) (fun _ hk=>hk.2) (.int .i64 zs)) (fun _ hk=>hk.2) (.int .i64 zw)) (fun _ hk=>hk.2) (.slice yy zk.length yu)) (fun _ h_=>h_.1))) hb);have yx:=Ja (Jk (by(with_reducible repeat(first|apply Jg|apply Jh|apply Jc));exact(Jq (Jj (p:=⟨qr,2,none⟩) (Jj (p:=⟨qr,1,none⟩) (Jj (p:=⟨qr,0,none⟩) (Jt vh.out qx.out (by decide)) (fun _ hk=>hk.2) (.int .i64 zs)) (fun _ hk=>hk.2) (.int .i64 zw)) (fun _ hk=>hk.2) (.slice yy zk.length yu)) (fun _ h_=>h_.1))) hb);have yz:=Ja (Jk (by(with_reducible repeat(first|apply Jg|apply Jh|apply Jc));exact(Jq (Jj (p:=⟨qr,2,none⟩) (Jj (p:=⟨qr,1,none⟩) (Jj (p:=⟨qr,0,none⟩) (Jt vb.out qx.out (by decide)) (fun _ hk=>hk.2) (.int .i64 zs)) (fun _ hk=>hk.2) (.int .i64 zw)) (fun _ hk=>hk.2) (.slice yy zk.length yu)) (fun _ h_=>h_.1))) hb);have za:=Ja (Jn (g:=qq) (o:=.cells #[.int .i64 a0_0,.int .i64 a0_1,.slice A0_2 l0_2.length c0_2] 24 (0,0)) (by(with_reducible repeat(first|refine Je ?_ _|refine Jb ?_|refine Jd ?_ _));refine Ju ?_ zn.out _;(with_reducible repeat(first|refine Je ?_ _|refine Jb ?_|refine Jd ?_ _));refine Ju ?_ zn.out _;(with_reducible repeat(first|refine Je ?_ _|refine Jb ?_|refine Jd ?_ _));refine Ju ?_ zn.out _;(with_reducible repeat(first|refine Je ?_ _|refine Jb ?_|refine Jd ?_ _));exact qe.out) hb);have ze:=Ja (Jn (g:=qp) (o:=.cells #[.int .i64 qm,.int .i64 qo,.slice yb qk.length qz] 27 (0,0)) (by(with_reducible repeat(first|refine Je ?_ _|refine Jb ?_|refine Jd ?_ _));refine Ju ?_ zo.out _;(with_reducible repeat(first|refine Je ?_ _|refine Jb ?_|refine Jd ?_ _));refine Ju ?_ zo.out _;(with_reducible repeat(first|refine Je ?_ _|refine Jb ?_|refine Jd ?_ _));refine Ju ?_ zo.out _;(with_reducible repeat(first|refine Je ?_ _|refine Jb ?_|refine Jd ?_ _));exact qf.out) hb);have zm:=Ja (Jn (g:=qt) (o:=.cells #[.int .i64 yg,.int .i64 yh,.slice yd zy.length yf] 27 (0,0)) (by(with_reducible repeat(first|refine Je ?_ _|refine Jb ?_|refine Jd ?_ _));refine Ju ?_ zp.out _;(with_reducible repeat(first|refine Je ?_ _|refine Jb ?_|refine Jd ?_ _));refine Ju ?_ zp.out _;(with_reducible repeat(first|refine Je ?_ _|refine Jb ?_|refine Jd ?_ _));refine Ju ?_ zp.out _;(with_reducible repeat(first|refine Je ?_ _|refine Jb ?_|refine Jd ?_ _));exact qg.out) hb);have zv:=Ja (Jn (g:=qh) (o:=.cells #[.int .i64 qj,.int .i64 ql,.slice qv qi.length qu] 27 (0,0)) (by(with_reducible repeat(first|refine Je ?_ _|refine Jb ?_|refine Jd ?_ _));refine Ju ?_ zd.out _;(with_reducible repeat(first|refine Je ?_ _|refine Jb ?_|refine Jd ?_ _));refine Ju ?_ zd.out _;(with_reducible repeat(first|refine Je ?_ _|refine Jb ?_|refine Jd ?_ _));refine Ju ?_ zd.out _;(with_reducible repeat(first|refine Je ?_ _|refine Jb ?_|refine Jd ?_ _));exact qd.out) hb);have zi:=Ja (Jn (g:=qr) (o:=.cells #[.int .i64 zs,.int .i64 zw,.slice yy zk.length yu] 27 (0,0)) (by(with_reducible repeat(first|refine Je ?_ _|refine Jb ?_|refine Jd ?_ _));refine blk_put (cs:=#[.int .i64 zs,.int .i64 zw,.slice none 0 0]) ?_ 2 _ rfl;(with_reducible repeat(first|refine Je ?_ _|refine Jb ?_|refine Jd ?_ _));refine blk_put (cs:=#[.int .i64 zs,.int .i64 0,.slice none 0 0]) ?_ 1 _ rfl;(with_reducible repeat(first|refine Je ?_ _|refine Jb ?_|refine Jd ?_ _));refine blk_put (cs:=#[.int .i64 0,.int .i64 0,.slice none 0 0]) ?_ 0 _ rfl;(with_reducible repeat(first|refine Je ?_ _|refine Jb ?_|refine Jd ?_ _));exact qx.out) hb);have vp:=Ja (Jv (by repeat(first|(with_reducible first|exact HB.out|apply Jp|apply Ji|apply Jo|refine Jf ?_ qs.out|refine Jf ?_ qw.out|refine Jf ?_ qy.out|refine Jf ?_ yj.out|refine Jf ?_ vn.out)|exact HB.out)) hb);clear qc;clear qb;clear qa;clear zx;clear vh;clear vb;clear qe;clear qf;clear qg;clear qd;clear qx;clear HB;have qc:=ym;have qb:=yn;have qa:=yq;have zx:=ys;have vh:=yx;have vb:=yz;have qe:=za;have qf:=ze;have qg:=zm;have qd:=zv;have qx:=zi;have HB:=vp;clear ym yn yq ys yx yz za ze zm zv zi vp;(try clear hb);(try clear hb2);(try clear hk);(try clear hi)))
               go_meet
               case rel=>exact⟨_,((t300 != ya)),(by first|rfl|(simp;done)|(simp [*];done)),H',⟨by have:=HJ16.out;have:=HJ74.out;first|omega|exact Nat.le_refl _⟩,⟨by(try simp only [qn]);(with_reducible repeat(first|apply Jg|apply Jh|apply Jc));exact Jq qc.out (fun _ hk=>⟨hk.1.1.1,⟨hk.1.1.2,hk.2⟩⟩)⟩,⟨by(try simp only [qn]);(with_reducible repeat(first|apply Jg|apply Jh|apply Jc));exact Jq qb.out (fun _ hk=>⟨hk.1.1.1,⟨hk.1.1.2,hk.2⟩⟩)⟩,⟨by(try simp only [qn]);(with_reducible repeat(first|apply Jg|apply Jh|apply Jc));exact Jq qa.out (fun _ hk=>⟨hk.1.1.1,⟨hk.1.1.2,hk.2⟩⟩)⟩,⟨by(try simp only [qn]);(with_reducible repeat(first|apply Jg|apply Jh|apply Jc));exact Jq vb.out (fun _ hk=>⟨hk.1.1.1.2,⟨hk.1.1.2,hk.1.2⟩⟩)⟩,⟨by(try simp only [qn]);(with_reducible repeat(first|refine Je ?_ _|refine Jb ?_|refine Jd ?_ _));exact qe.out⟩,⟨by(try simp only [qn]);(with_reducible repeat(first|refine Je ?_ _|refine Jb ?_|refine Jd ?_ _));exact qf.out⟩,⟨by(try simp only [qn]);(with_reducible repeat(first|refine Je ?_ _|refine Jb ?_|refine Jd ?_ _));exact qg.out⟩,⟨by(try simp only [qn]);(with_reducible repeat(first|refine Je ?_ _|refine Jb ?_|refine Jd ?_ _));exact qd.out⟩,⟨by(try simp only [qn]);(with_reducible repeat(first|refine Je ?_ _|refine Jb ?_|refine Jd ?_ _));exact qx.out⟩,⟨by repeat(first|(with_reducible first|exact HB.out|apply Jp|apply Ji|apply Jo|refine Jf ?_ qs.out|refine Jf ?_ qw.out|refine Jf ?_ qy.out|refine Jf ?_ yj.out|refine Jf ?_ vn.out)|exact HB.out)⟩⟩
              ·replace c146:=Bool.eq_false_iff.mpr c146
               subst c146
               have H1:(laws_FnExactDecode.j2 kj74 zr true qj ql zb)=some true:=by rw [if_neg (show ¬ (false=true) by decide)] at H;exact H
               clear H
               have H:=H1
               clear H1
               have H':=Ja H
               clear H
               have hnb157:=vu.out
               have hnc157:=zn.out
               have hnb158:=vv.out
               have hnc158:=zo.out
               have hnb159:=vw.out
               have hnc159:=zp.out
               have hnb160:=vf.out
               have hnc160:=zd.out
               have hcz161_0:w138.cell? ⟨qr,0,none⟩=some (.int .i64 0):=(Jm qx.out 0).trans rfl
               have hcz161_1:w138.cell? ⟨qr,1,none⟩=some (.int .i64 0):=(Jm qx.out 1).trans rfl
               have hcz161_2:w138.cell? ⟨qr,2,none⟩=some (.slice none 0 0):=(Jm qx.out 2).trans rfl
               have hfz161_0:=Jl qx.out 0
               have hfz161_1:=Jl qx.out 1
               have hfz161_2:=Jl qx.out 2
               have hnb162:=zt.out
               have hnc162:=zf.out
               have hnb163:=zg.out
               have hnc163:=zu.out
               have hnb164:=ye.out
               have hnc164:=yv.out
               have hcz165_0:w138.cell? ⟨qp,0,none⟩=some (.int .i64 qm):=(Jm qf.out 0).trans rfl
               have hcz165_1:w138.cell? ⟨qp,1,none⟩=some (.int .i64 qo):=(Jm qf.out 1).trans rfl
               have hcz165_2:w138.cell? ⟨qp,2,none⟩=some (.slice yb qk.length qz):=(Jm qf.out 2).trans rfl
               have hfz165_0:=Jl qf.out 0
               have hfz165_1:=Jl qf.out 1
               have hfz165_2:=Jl qf.out 2
               go_wp2_with (first|((with_reducible refine Jw (f:=18) rfl ?_);refine goesL_ (some 107) rfl rfl Try.func18 (by kernel_rfl) rfl #[.agg #[.int .i64 zs,.int .i64 zw,.slice yy zk.length yu],.agg #[.int .i64 qm,.int .i64 qo,.slice yb qk.length qz]] rfl (by(try simp only [List.map_toArray,List.map_cons,List.map_nil]);first|done|rfl|(simp only [List.length_drop,List.length_take];rfl)) ?_;(with_reducible refine(laws_eqPicture.calls kj74 zs zw _ _ zk qm qo _ _ qk false _ ?side1 ?side2 ?side3 ?side4 A145.out).mono ?_);(case side1=>refine(Jr (e:=2) (base:=w.heap.size) (ok:=fun k_=>((((True∧some k_≠(.slice yb qk.length qz:Value).ownBlock)∧some k_≠(.slice yd zy.length yf:Value).ownBlock)∧some k_≠(.slice qv qi.length qu:Value).ownBlock)∧some k_≠(.slice Ao135 t289.length co135:Value).ownBlock)) (n:=zk.length) (c:=yu) ?_).2.2;exact(by(with_reducible repeat(first|apply Jg|apply Jh|apply Jc));exact(Jq (Jj (p:=⟨qr,2,none⟩) (Jj (p:=⟨qr,1,none⟩) (Jj (p:=⟨qr,0,none⟩) (Jt vb.out qx.out (by decide)) (fun _ hk=>hk.2) (.int .i64 zs)) (fun _ hk=>hk.2) (.int .i64 zw)) (fun _ hk=>hk.2) (.slice yy zk.length yu)) (fun _ h_=>h_.1))));(case side2=>exact(Jr vb.out).2.1);(case side3=>refine(Jr (e:=2) (base:=w.heap.size) (ok:=fun k_=>(((some k_≠(.slice yd zy.length yf:Value).ownBlock∧some k_≠(.slice qv qi.length qu:Value).ownBlock)∧some k_≠(.slice Ao135 t289.length co135:Value).ownBlock)∧some k_≠(.slice yy zk.length yu:Value).ownBlock)) (n:=qk.length) (c:=qz) ?_).2.2;exact(by(with_reducible repeat(first|apply Jg|apply Jh|apply Jc));exact(Jq (Jj (p:=⟨qr,2,none⟩) (Jj (p:=⟨qr,1,none⟩) (Jj (p:=⟨qr,0,none⟩) (Jt qc.out qx.out (by decide)) (fun _ hk=>hk.2) (.int .i64 zs)) (fun _ hk=>hk.2) (.int .i64 zw)) (fun _ hk=>hk.2) (.slice yy zk.length yu)) (fun _ h_=>h_.1))));(case side4=>exact(Jr qc.out).2.1);rintro e w166 ⟨rfl,hb⟩;refine⟨_,rfl,?_⟩;have ym:=Ja (Jk (by(with_reducible repeat(first|apply Jg|apply Jh|apply Jc));exact(Jq (Jj (p:=⟨qr,2,none⟩) (Jj (p:=⟨qr,1,none⟩) (Jj (p:=⟨qr,0,none⟩) (Jt qc.out qx.out (by decide)) (fun _ hk=>hk.2) (.int .i64 zs)) (fun _ hk=>hk.2) (.int .i64 zw)) (fun _ hk=>hk.2) (.slice yy zk.length yu)) (fun _ h_=>h_.1))) hb);have yn:=Ja (Jk (by(with_reducible repeat(first|apply Jg|apply Jh|apply Jc));exact(Jq (Jj (p:=⟨qr,2,none⟩) (Jj (p:=⟨qr,1,none⟩) (Jj (p:=⟨qr,0,none⟩) (Jt qb.out qx.out (by decide)) (fun _ hk=>hk.2) (.int .i64 zs)) (fun _ hk=>hk.2) (.int .i64 zw)) (fun _ hk=>hk.2) (.slice yy zk.length yu)) (fun _ h_=>h_.1))) hb);have yq:=Ja (Jk (by(with_reducible repeat(first|apply Jg|apply Jh|apply Jc));exact(Jq (Jj (p:=⟨qr,2,none⟩) (Jj (p:=⟨qr,1,none⟩) (Jj (p:=⟨qr,0,none⟩) (Jt qa.out qx.out (by decide)) (fun _ hk=>hk.2) (.int .i64 zs)) (fun _ hk=>hk.2) (.int .i64 zw)) (fun _ hk=>hk.2) (.slice yy zk.length yu)) (fun _ h_=>h_.1))) hb);have ys:=Ja (Jk (by(with_reducible repeat(first|apply Jg|apply Jh|apply Jc));exact(Jq (Jj (p:=⟨qr,2,none⟩) (Jj (p:=⟨qr,1,none⟩) (Jj (p:=⟨qr,0,none⟩) (Jt zx.out qx.out (by decide)) (fun _ hk=>hk.2) (.int .i64 zs)) (fun _ hk=>hk.2) (.int .i64 zw)) (fun _ hk=>hk.2) (.slice yy zk.length yu)) (fun _ h_=>h_.1))) hb);have yx:=Ja (Jk (by(with_reducible repeat(first|apply Jg|apply Jh|apply Jc));exact(Jq (Jj (p:=⟨qr,2,none⟩) (Jj (p:=⟨qr,1,none⟩) (Jj (p:=⟨qr,0,none⟩) (Jt vh.out qx.out (by decide)) (fun _ hk=>hk.2) (.int .i64 zs)) (fun _ hk=>hk.2) (.int .i64 zw)) (fun _ hk=>hk.2) (.slice yy zk.length yu)) (fun _ h_=>h_.1))) hb);have yz:=Ja (Jk (by(with_reducible repeat(first|apply Jg|apply Jh|apply Jc));exact(Jq (Jj (p:=⟨qr,2,none⟩) (Jj (p:=⟨qr,1,none⟩) (Jj (p:=⟨qr,0,none⟩) (Jt vb.out qx.out (by decide)) (fun _ hk=>hk.2) (.int .i64 zs)) (fun _ hk=>hk.2) (.int .i64 zw)) (fun _ hk=>hk.2) (.slice yy zk.length yu)) (fun _ h_=>h_.1))) hb);have za:=Ja (Jn (g:=qq) (o:=.cells #[.int .i64 a0_0,.int .i64 a0_1,.slice A0_2 l0_2.length c0_2] 24 (0,0)) (by(with_reducible repeat(first|refine Je ?_ _|refine Jb ?_|refine Jd ?_ _));refine Ju ?_ zn.out _;(with_reducible repeat(first|refine Je ?_ _|refine Jb ?_|refine Jd ?_ _));refine Ju ?_ zn.out _;(with_reducible repeat(first|refine Je ?_ _|refine Jb ?_|refine Jd ?_ _));refine Ju ?_ zn.out _;(with_reducible repeat(first|refine Je ?_ _|refine Jb ?_|refine Jd ?_ _));exact qe.out) hb);have ze:=Ja (Jn (g:=qp) (o:=.cells #[.int .i64 qm,.int .i64 qo,.slice yb qk.length qz] 27 (0,0)) (by(with_reducible repeat(first|refine Je ?_ _|refine Jb ?_|refine Jd ?_ _));refine Ju ?_ zo.out _;(with_reducible repeat(first|refine Je ?_ _|refine Jb ?_|refine Jd ?_ _));refine Ju ?_ zo.out _;(with_reducible repeat(first|refine Je ?_ _|refine Jb ?_|refine Jd ?_ _));refine Ju ?_ zo.out _;(with_reducible repeat(first|refine Je ?_ _|refine Jb ?_|refine Jd ?_ _));exact qf.out) hb);have zm:=Ja (Jn (g:=qt) (o:=.cells #[.int .i64 yg,.int .i64 yh,.slice yd zy.length yf] 27 (0,0)) (by(with_reducible repeat(first|refine Je ?_ _|refine Jb ?_|refine Jd ?_ _));refine Ju ?_ zp.out _;(with_reducible repeat(first|refine Je ?_ _|refine Jb ?_|refine Jd ?_ _));refine Ju ?_ zp.out _;(with_reducible repeat(first|refine Je ?_ _|refine Jb ?_|refine Jd ?_ _));refine Ju ?_ zp.out _;(with_reducible repeat(first|refine Je ?_ _|refine Jb ?_|refine Jd ?_ _));exact qg.out) hb);have zv:=Ja (Jn (g:=qh) (o:=.cells #[.int .i64 qj,.int .i64 ql,.slice qv qi.length qu] 27 (0,0)) (by(with_reducible repeat(first|refine Je ?_ _|refine Jb ?_|refine Jd ?_ _));refine Ju ?_ zd.out _;(with_reducible repeat(first|refine Je ?_ _|refine Jb ?_|refine Jd ?_ _));refine Ju ?_ zd.out _;(with_reducible repeat(first|refine Je ?_ _|refine Jb ?_|refine Jd ?_ _));refine Ju ?_ zd.out _;(with_reducible repeat(first|refine Je ?_ _|refine Jb ?_|refine Jd ?_ _));exact qd.out) hb);have zi:=Ja (Jn (g:=qr) (o:=.cells #[.int .i64 zs,.int .i64 zw,.slice yy zk.length yu] 27 (0,0)) (by(with_reducible repeat(first|refine Je ?_ _|refine Jb ?_|refine Jd ?_ _));refine blk_put (cs:=#[.int .i64 zs,.int .i64 zw,.slice none 0 0]) ?_ 2 _ rfl;(with_reducible repeat(first|refine Je ?_ _|refine Jb ?_|refine Jd ?_ _));refine blk_put (cs:=#[.int .i64 zs,.int .i64 0,.slice none 0 0]) ?_ 1 _ rfl;(with_reducible repeat(first|refine Je ?_ _|refine Jb ?_|refine Jd ?_ _));refine blk_put (cs:=#[.int .i64 0,.int .i64 0,.slice none 0 0]) ?_ 0 _ rfl;(with_reducible repeat(first|refine Je ?_ _|refine Jb ?_|refine Jd ?_ _));exact qx.out) hb);have vp:=Ja (Jv (by repeat(first|(with_reducible first|exact HB.out|apply Jp|apply Ji|apply Jo|refine Jf ?_ qs.out|refine Jf ?_ qw.out|refine Jf ?_ qy.out|refine Jf ?_ yj.out|refine Jf ?_ vn.out)|exact HB.out)) hb);clear qc;clear qb;clear qa;clear zx;clear vh;clear vb;clear qe;clear qf;clear qg;clear qd;clear qx;clear HB;have qc:=ym;have qb:=yn;have qa:=yq;have zx:=ys;have vh:=yx;have vb:=yz;have qe:=za;have qf:=ze;have qg:=zm;have qd:=zv;have qx:=zi;have HB:=vp;clear ym yn yq ys yx yz za ze zm zv zi vp;(try clear hb);(try clear hb2);(try clear hk);(try clear hi)))
               go_meet
               case rel=>exact⟨_,(true),(by first|rfl|(simp;done)|(simp [*];done)),H',⟨by have:=HJ16.out;have:=HJ74.out;first|omega|exact Nat.le_refl _⟩,⟨by(try simp only [qn]);(with_reducible repeat(first|apply Jg|apply Jh|apply Jc));exact Jq qc.out (fun _ hk=>⟨hk.1.1.1,⟨hk.1.1.2,hk.2⟩⟩)⟩,⟨by(try simp only [qn]);(with_reducible repeat(first|apply Jg|apply Jh|apply Jc));exact Jq qb.out (fun _ hk=>⟨hk.1.1.1,⟨hk.1.1.2,hk.2⟩⟩)⟩,⟨by(try simp only [qn]);(with_reducible repeat(first|apply Jg|apply Jh|apply Jc));exact Jq qa.out (fun _ hk=>⟨hk.1.1.1,⟨hk.1.1.2,hk.2⟩⟩)⟩,⟨by(try simp only [qn]);(with_reducible repeat(first|apply Jg|apply Jh|apply Jc));exact Jq vb.out (fun _ hk=>⟨hk.1.1.1.2,⟨hk.1.1.2,hk.1.2⟩⟩)⟩,⟨by(try simp only [qn]);(with_reducible repeat(first|refine Je ?_ _|refine Jb ?_|refine Jd ?_ _));exact qe.out⟩,⟨by(try simp only [qn]);(with_reducible repeat(first|refine Je ?_ _|refine Jb ?_|refine Jd ?_ _));exact qf.out⟩,⟨by(try simp only [qn]);(with_reducible repeat(first|refine Je ?_ _|refine Jb ?_|refine Jd ?_ _));exact qg.out⟩,⟨by(try simp only [qn]);(with_reducible repeat(first|refine Je ?_ _|refine Jb ?_|refine Jd ?_ _));exact qd.out⟩,⟨by(try simp only [qn]);(with_reducible repeat(first|refine Je ?_ _|refine Jb ?_|refine Jd ?_ _));exact qx.out⟩,⟨by repeat(first|(with_reducible first|exact HB.out|apply Jp|apply Ji|apply Jo|refine Jf ?_ qs.out|refine Jf ?_ qw.out|refine Jf ?_ qy.out|refine Jf ?_ yj.out|refine Jf ?_ vn.out)|exact HB.out)⟩⟩
             case rest=>
              clear HC122
              try clear c1
              try clear c2
              try clear p2
              try clear c3
              try clear c4
              try clear c4b0
              try clear c4b1
              try clear c5
              try clear c6
              try clear c7
              try clear c7b0
              try clear c8
              try clear c9
              try clear c10
              try clear c11
              try clear c12
              try clear c13
              try clear c14
              try clear c15
              try clear c16
              try clear c18
              try clear c28
              try clear c34
              try clear c35
              try clear c36
              try clear c37
              try clear c38
              try clear c39
              try clear c40
              try clear c43
              try clear c44
              try clear c45
              try clear c49
              try clear c50
              try clear c51
              try clear c52
              try clear c54
              try clear c55
              try clear c58
              try clear c59
              try clear c60
              try clear c62
              try clear c63
              try clear c66
              try clear c69
              try clear c72
              try clear c82
              try clear c83
              try clear c84
              try clear c88
              try clear vy
              try clear c90
              try clear c91
              try clear c92
              try clear c93
              try clear c95
              try clear c96
              try clear c99
              try clear c100
              try clear c101
              try clear c103
              try clear c104
              try clear c107
              try clear c110
              try clear c110b0
              try clear c111
              try clear c112
              try clear c113
              try clear c118
              try clear c118b0
              try clear c118b1
              try clear c123
              try clear c124
              try clear c125
              try clear c130
              try clear c131
              try clear c139
              try clear c140
              try clear c141
              try clear c142
              try clear c146
              try clear c147
              try clear c148
              try clear c149
              try clear c150
              try clear c152
              try clear c153
              try clear c154
              try clear c157
              try clear c158
              try clear c159
              try clear c160
              try clear c162
              try clear c163
              try clear c164
              try clear hcz102_0
              try clear hcz102_1
              try clear hcz102_2
              try clear hcz105_0
              try clear hcz105_1
              try clear hcz105_2
              try clear hcz114_0
              try clear hcz114_1
              try clear hcz114_2
              try clear hcz116_0
              try clear hcz116_1
              try clear hcz116_2
              try clear hcz126_0
              try clear hcz126_1
              try clear hcz126_2
              try clear hcz128_0
              try clear hcz128_1
              try clear hcz128_2
              try clear hcz132_0
              try clear hcz132_1
              try clear hcz132_2
              try clear hcz143_0
              try clear hcz143_1
              try clear hcz143_2
              try clear hcz151_0
              try clear hcz151_1
              try clear hcz151_2
              try clear hcz155_0
              try clear hcz155_1
              try clear hcz155_2
              try clear hcz161_0
              try clear hcz161_1
              try clear hcz161_2
              try clear hcz165_0
              try clear hcz165_1
              try clear hcz165_2
              try clear hcz19_0
              try clear hcz19_1
              try clear hcz19_2
              try clear hcz21_0
              try clear hcz21_1
              try clear hcz21_2
              try clear hcz29_0
              try clear hcz29_1
              try clear hcz29_2
              try clear hcz31_0
              try clear hcz31_1
              try clear hcz31_2
              try clear hcz36_0
              try clear hcz36_1
              try clear hcz36_2
              try clear hcz39_0
              try clear hcz39_1
              try clear hcz39_2
              try clear hcz46_0
              try clear hcz46_1
              try clear hcz46_2
              try clear hcz53_0
              try clear hcz53_1
              try clear hcz53_2
              try clear hcz56_0
              try clear hcz56_1
              try clear hcz56_2
              try clear hcz61_0
              try clear hcz61_1
              try clear hcz61_2
              try clear hcz64_0
              try clear hcz64_1
              try clear hcz64_2
              try clear hcz85_0
              try clear hcz85_1
              try clear hcz85_2
              try clear hcz94_0
              try clear hcz94_1
              try clear hcz94_2
              try clear hcz97_0
              try clear hcz97_1
              try clear hcz97_2
              try clear hcz9_0
              try clear hcz9_1
              try clear hcz9_2
              try clear hfz102_0
              try clear hfz102_1
              try clear hfz102_2
              try clear hfz105_0
              try clear hfz105_1
              try clear hfz105_2
              try clear hfz114_0
              try clear hfz114_1
              try clear hfz114_2
              try clear hfz116_0
              try clear hfz116_1
              try clear hfz116_2
              try clear hfz126_0
              try clear hfz126_1
              try clear hfz126_2
              try clear hfz128_0
              try clear hfz128_1
              try clear hfz128_2
              try clear hfz132_0
              try clear hfz132_1
              try clear hfz132_2
              try clear hfz143_0
              try clear hfz143_1
              try clear hfz143_2
              try clear hfz151_0
              try clear hfz151_1
              try clear hfz151_2
              try clear hfz155_0
              try clear hfz155_1
              try clear hfz155_2
              try clear hfz161_0
              try clear hfz161_1
              try clear hfz161_2
              try clear hfz165_0
              try clear hfz165_1
              try clear hfz165_2
              try clear hfz19_0
              try clear hfz19_1
              try clear hfz19_2
              try clear hfz21_0
              try clear hfz21_1
              try clear hfz21_2
              try clear hfz29_0
              try clear hfz29_1
              try clear hfz29_2
              try clear hfz31_0
              try clear hfz31_1
              try clear hfz31_2
              try clear hfz36_0
              try clear hfz36_1
              try clear hfz36_2
              try clear hfz39_0
              try clear hfz39_1
              try clear hfz39_2
              try clear hfz46_0
              try clear hfz46_1
              try clear hfz46_2
              try clear hfz53_0
              try clear hfz53_1
              try clear hfz53_2
              try clear hfz56_0
              try clear hfz56_1
              try clear hfz56_2
              try clear hfz61_0
              try clear hfz61_1
              try clear hfz61_2
              try clear hfz64_0
              try clear hfz64_1
              try clear hfz64_2
              try clear hfz85_0
              try clear hfz85_1
              try clear hfz85_2
              try clear hfz94_0
              try clear hfz94_1
              try clear hfz94_2
              try clear hfz97_0
              try clear hfz97_1
              try clear hfz97_2
              try clear hfz9_0
              try clear hfz9_1
              try clear hfz9_2
              try clear p2
              obtain⟨kq,vs,rfl,HA,HJ121,qc,qb,qa,zj,qe,qf,qg,qd,qx,HB⟩:=hcut
              have yr:=(Jr qa.out).1
              rw [yr] at qa
              (try simp only [yr])
              (try simp only [yr] at qe)
              (try simp only [yr] at qf)
              (try simp only [yr] at qg)
              (try simp only [yr] at qd)
              (try simp only [yr] at qx)
              (try simp only [yr] at qc)
              (try simp only [yr] at qb)
              (try simp only [yr] at zj)
              cases kq with
              | zero => exact absurd HA.out (by simp [laws_FnExactDecode.j2])
              | succ kj121 =>
               have H:=HA.out
               clear HA
               simp only [laws_FnExactDecode.j2] at H
               by_cases c167:vs=true
               ·subst c167
                have H1:(some false)=some true:=by rw [if_pos rfl] at H;exact H
                clear H
                have H:=H1
                clear H1
                exact absurd (Option.some.inj H) Bool.false_ne_true
               ·replace c167:=Bool.eq_false_iff.mpr c167
                subst c167
                have H1:((laws_heldPicture.f kj121 qj ql zb 1).bind fun vl=>(if vl < 0 then (some false) else (if vl=zr then (some true) else (some false))))=some true:=by rw [if_neg (show ¬ (false=true) by decide)] at H;exact H
                clear H
                have H:=H1
                clear H1
                replace H:=Option.bind_eq_some_iff.mp H
                obtain⟨vl,A1680,H⟩:=H
                replace H:(if vl < 0 then (some false) else (if vl=zr then (some true) else (some false)))=some true:=H
                have A168:=Ja A1680
                clear A1680
                by_cases c169:vl < 0
                ·rw [if_pos c169] at H
                 have c169b0:decide (vl < 0)=true:=decide_eq_true c169
                 clear c169
                 have HR_:=Option.some.inj H
                 have hnb170:=zh.out
                 have hnc170:=yl.out
                 have hnb171:=yv.out
                 have hnc171:=ye.out
                 have hnb172:=zc.out
                 have hnc172:=yi.out
                 have hnb173:=zd.out
                 have hnc173:=vf.out
                 have hcz174_0:wc.cell? ⟨qh,0,none⟩=some (.int .i64 qj):=(Jm qd.out 0).trans rfl
                 have hcz174_1:wc.cell? ⟨qh,1,none⟩=some (.int .i64 ql):=(Jm qd.out 1).trans rfl
                 have hcz174_2:wc.cell? ⟨qh,2,none⟩=some (.slice qv zb.length qu):=(Jm qd.out 2).trans rfl
                 have hfz174_0:=Jl qd.out 0
                 have hfz174_1:=Jl qd.out 1
                 have hfz174_2:=Jl qd.out 2
                 go_wp2_with (first|((with_reducible refine Jw (f:=40) rfl ?_);refine goesL_ (some 116) rfl rfl Try.func40 (by kernel_rfl) rfl #[.agg #[.int .i64 qj,.int .i64 ql,.slice qv zb.length qu],.int .i64 1] rfl (by(try simp only [List.map_toArray,List.map_cons,List.map_nil]);first|done|rfl|(simp only [List.length_drop,List.length_take];rfl)) ?_;(with_reducible refine(laws_heldPicture.calls kj121 qj ql _ _ zb 1 vl _ ?side1 ?side2 A168.out).mono ?_);(case side1=>repeat(first|exact(Jr qa.out).2.2|(with_reducible refine Jx ?_ _)|(with_reducible refine Jy ?_ _)|(with_reducible refine Js ?_)));(case side2=>exact(Jr qa.out).2.1);rintro e w175 ⟨rfl,hb⟩;refine⟨_,rfl,?_⟩;have ym:=Ja (Jk (by(with_reducible repeat(first|apply Jg|apply Jh|apply Jc));exact qc.out) hb);have yn:=Ja (Jk (by(with_reducible repeat(first|apply Jg|apply Jh|apply Jc));exact qb.out) hb);have yq:=Ja (Jk (by(with_reducible repeat(first|apply Jg|apply Jh|apply Jc));exact qa.out) hb);have ys:=Ja (Jk (by(with_reducible repeat(first|apply Jg|apply Jh|apply Jc));exact zj.out) hb);have yx:=Ja (Jn (g:=qq) (o:=.cells #[.int .i64 a0_0,.int .i64 a0_1,.slice A0_2 l0_2.length c0_2] 24 (0,0)) (by(with_reducible repeat(first|refine Je ?_ _|refine Jb ?_|refine Jd ?_ _));exact qe.out) hb);have yz:=Ja (Jn (g:=qp) (o:=.cells #[.int .i64 qm,.int .i64 qo,.slice yb qk.length qz] 27 (0,0)) (by(with_reducible repeat(first|refine Je ?_ _|refine Jb ?_|refine Jd ?_ _));exact qf.out) hb);have za:=Ja (Jn (g:=qt) (o:=.cells #[.int .i64 yg,.int .i64 yh,.slice yd zy.length yf] 27 (0,0)) (by(with_reducible repeat(first|refine Je ?_ _|refine Jb ?_|refine Jd ?_ _));exact qg.out) hb);have ze:=Ja (Jn (g:=qh) (o:=.cells #[.int .i64 qj,.int .i64 ql,.slice qv zb.length qu] 27 (0,0)) (by(with_reducible repeat(first|refine Je ?_ _|refine Jb ?_|refine Jd ?_ _));exact qd.out) hb);have zm:=Ja (Jn (g:=qr) (o:=.cells #[.int .i64 zs,.int .i64 zw,.slice yy zk.length yu] 27 (0,0)) (by(with_reducible repeat(first|refine Je ?_ _|refine Jb ?_|refine Jd ?_ _));exact qx.out) hb);have zv:=Ja (Jv (by repeat(first|(with_reducible first|exact HB.out|apply Jp|apply Ji|apply Jo|refine Jf ?_ qs.out|refine Jf ?_ qw.out|refine Jf ?_ qy.out|refine Jf ?_ yj.out|refine Jf ?_ vn.out)|exact HB.out)) hb);clear qc;clear qb;clear qa;clear zj;clear qe;clear qf;clear qg;clear qd;clear qx;clear HB;have qc:=ym;have qb:=yn;have qa:=yq;have zj:=ys;have qe:=yx;have qf:=yz;have qg:=za;have qd:=ze;have qx:=zm;have HB:=zv;clear ym yn yq ys yx yz za ze zm zv;(try clear hb);(try clear hb2);(try clear hk);(try clear hi)))
                 go_ret
                 exact⟨by first|rfl|(simp [errW_none,errW_some] <;> rfl)|(simp [*,errW_none,errW_some] <;> rfl),by repeat(first|(with_reducible first|exact HB.out|apply Jp|apply Ji|apply Jo|refine Jf ?_ qs.out|refine Jf ?_ qw.out|refine Jf ?_ qy.out|refine Jf ?_ yj.out|refine Jf ?_ vn.out)|exact HB.out)⟩
                ·rw [if_neg c169] at H
                 have c169b0:decide (vl < 0)=false:=decide_eq_false c169
                 clear c169
                 by_cases c176:vl=zr
                 ·rw [if_pos c176] at H
                  have c176b0:(vl == zr)=true:=beq_iff_eq.mpr c176
                  have c176b1:(vl != zr)=false:=bne_eq_false_iff_eq.mpr c176
                  clear c176
                  have HR_:=Option.some.inj H
                  have hnb177:=zh.out
                  have hnc177:=yl.out
                  have hnb178:=yv.out
                  have hnc178:=ye.out
                  have hnb179:=zc.out
                  have hnc179:=yi.out
                  have hnb180:=zd.out
                  have hnc180:=vf.out
                  have hcz181_0:wc.cell? ⟨qh,0,none⟩=some (.int .i64 qj):=(Jm qd.out 0).trans rfl
                  have hcz181_1:wc.cell? ⟨qh,1,none⟩=some (.int .i64 ql):=(Jm qd.out 1).trans rfl
                  have hcz181_2:wc.cell? ⟨qh,2,none⟩=some (.slice qv zb.length qu):=(Jm qd.out 2).trans rfl
                  have hfz181_0:=Jl qd.out 0
                  have hfz181_1:=Jl qd.out 1
                  have hfz181_2:=Jl qd.out 2
                  go_wp2_with (first|((with_reducible refine Jw (f:=40) rfl ?_);refine goesL_ (some 116) rfl rfl Try.func40 (by kernel_rfl) rfl #[.agg #[.int .i64 qj,.int .i64 ql,.slice qv zb.length qu],.int .i64 1] rfl (by(try simp only [List.map_toArray,List.map_cons,List.map_nil]);first|done|rfl|(simp only [List.length_drop,List.length_take];rfl)) ?_;(with_reducible refine(laws_heldPicture.calls kj121 qj ql _ _ zb 1 vl _ ?side1 ?side2 A168.out).mono ?_);(case side1=>repeat(first|exact(Jr qa.out).2.2|(with_reducible refine Jx ?_ _)|(with_reducible refine Jy ?_ _)|(with_reducible refine Js ?_)));(case side2=>exact(Jr qa.out).2.1);rintro e w182 ⟨rfl,hb⟩;refine⟨_,rfl,?_⟩;have ym:=Ja (Jk (by(with_reducible repeat(first|apply Jg|apply Jh|apply Jc));exact qc.out) hb);have yn:=Ja (Jk (by(with_reducible repeat(first|apply Jg|apply Jh|apply Jc));exact qb.out) hb);have yq:=Ja (Jk (by(with_reducible repeat(first|apply Jg|apply Jh|apply Jc));exact qa.out) hb);have ys:=Ja (Jk (by(with_reducible repeat(first|apply Jg|apply Jh|apply Jc));exact zj.out) hb);have yx:=Ja (Jn (g:=qq) (o:=.cells #[.int .i64 a0_0,.int .i64 a0_1,.slice A0_2 l0_2.length c0_2] 24 (0,0)) (by(with_reducible repeat(first|refine Je ?_ _|refine Jb ?_|refine Jd ?_ _));exact qe.out) hb);have yz:=Ja (Jn (g:=qp) (o:=.cells #[.int .i64 qm,.int .i64 qo,.slice yb qk.length qz] 27 (0,0)) (by(with_reducible repeat(first|refine Je ?_ _|refine Jb ?_|refine Jd ?_ _));exact qf.out) hb);have za:=Ja (Jn (g:=qt) (o:=.cells #[.int .i64 yg,.int .i64 yh,.slice yd zy.length yf] 27 (0,0)) (by(with_reducible repeat(first|refine Je ?_ _|refine Jb ?_|refine Jd ?_ _));exact qg.out) hb);have ze:=Ja (Jn (g:=qh) (o:=.cells #[.int .i64 qj,.int .i64 ql,.slice qv zb.length qu] 27 (0,0)) (by(with_reducible repeat(first|refine Je ?_ _|refine Jb ?_|refine Jd ?_ _));exact qd.out) hb);have zm:=Ja (Jn (g:=qr) (o:=.cells #[.int .i64 zs,.int .i64 zw,.slice yy zk.length yu] 27 (0,0)) (by(with_reducible repeat(first|refine Je ?_ _|refine Jb ?_|refine Jd ?_ _));exact qx.out) hb);have zv:=Ja (Jv (by repeat(first|(with_reducible first|exact HB.out|apply Jp|apply Ji|apply Jo|refine Jf ?_ qs.out|refine Jf ?_ qw.out|refine Jf ?_ qy.out|refine Jf ?_ yj.out|refine Jf ?_ vn.out)|exact HB.out)) hb);clear qc;clear qb;clear qa;clear zj;clear qe;clear qf;clear qg;clear qd;clear qx;clear HB;have qc:=ym;have qb:=yn;have qa:=yq;have zj:=ys;have qe:=yx;have qf:=yz;have qg:=za;have qd:=ze;have qx:=zm;have HB:=zv;clear ym yn yq ys yx yz za ze zm zv;(try clear hb);(try clear hb2);(try clear hk);(try clear hi)))
                  go_ret
                  exact⟨by first|rfl|(simp [errW_none,errW_some] <;> rfl)|(simp [*,errW_none,errW_some] <;> rfl),by repeat(first|(with_reducible first|exact HB.out|apply Jp|apply Ji|apply Jo|refine Jf ?_ qs.out|refine Jf ?_ qw.out|refine Jf ?_ qy.out|refine Jf ?_ yj.out|refine Jf ?_ vn.out)|exact HB.out)⟩
                 ·rw [if_neg c176] at H
                  have c176b0:(vl == zr)=false:=beq_eq_false_iff_ne.mpr c176
                  have c176b1:(vl != zr)=true:=bne_iff_ne.mpr c176
                  have HR_:=Option.some.inj H
                  have hnb183:=zh.out
                  have hnc183:=yl.out
                  have hnb184:=yv.out
                  have hnc184:=ye.out
                  have hnb185:=zc.out
                  have hnc185:=yi.out
                  have hnb186:=zd.out
                  have hnc186:=vf.out
                  have hcz187_0:wc.cell? ⟨qh,0,none⟩=some (.int .i64 qj):=(Jm qd.out 0).trans rfl
                  have hcz187_1:wc.cell? ⟨qh,1,none⟩=some (.int .i64 ql):=(Jm qd.out 1).trans rfl
                  have hcz187_2:wc.cell? ⟨qh,2,none⟩=some (.slice qv zb.length qu):=(Jm qd.out 2).trans rfl
                  have hfz187_0:=Jl qd.out 0
                  have hfz187_1:=Jl qd.out 1
                  have hfz187_2:=Jl qd.out 2
                  go_wp2_with (first|((with_reducible refine Jw (f:=40) rfl ?_);refine goesL_ (some 116) rfl rfl Try.func40 (by kernel_rfl) rfl #[.agg #[.int .i64 qj,.int .i64 ql,.slice qv zb.length qu],.int .i64 1] rfl (by(try simp only [List.map_toArray,List.map_cons,List.map_nil]);first|done|rfl|(simp only [List.length_drop,List.length_take];rfl)) ?_;(with_reducible refine(laws_heldPicture.calls kj121 qj ql _ _ zb 1 vl _ ?side1 ?side2 A168.out).mono ?_);(case side1=>repeat(first|exact(Jr qa.out).2.2|(with_reducible refine Jx ?_ _)|(with_reducible refine Jy ?_ _)|(with_reducible refine Js ?_)));(case side2=>exact(Jr qa.out).2.1);rintro e w188 ⟨rfl,hb⟩;refine⟨_,rfl,?_⟩;have ym:=Ja (Jk (by(with_reducible repeat(first|apply Jg|apply Jh|apply Jc));exact qc.out) hb);have yn:=Ja (Jk (by(with_reducible repeat(first|apply Jg|apply Jh|apply Jc));exact qb.out) hb);have yq:=Ja (Jk (by(with_reducible repeat(first|apply Jg|apply Jh|apply Jc));exact qa.out) hb);have ys:=Ja (Jk (by(with_reducible repeat(first|apply Jg|apply Jh|apply Jc));exact zj.out) hb);have yx:=Ja (Jn (g:=qq) (o:=.cells #[.int .i64 a0_0,.int .i64 a0_1,.slice A0_2 l0_2.length c0_2] 24 (0,0)) (by(with_reducible repeat(first|refine Je ?_ _|refine Jb ?_|refine Jd ?_ _));exact qe.out) hb);have yz:=Ja (Jn (g:=qp) (o:=.cells #[.int .i64 qm,.int .i64 qo,.slice yb qk.length qz] 27 (0,0)) (by(with_reducible repeat(first|refine Je ?_ _|refine Jb ?_|refine Jd ?_ _));exact qf.out) hb);have za:=Ja (Jn (g:=qt) (o:=.cells #[.int .i64 yg,.int .i64 yh,.slice yd zy.length yf] 27 (0,0)) (by(with_reducible repeat(first|refine Je ?_ _|refine Jb ?_|refine Jd ?_ _));exact qg.out) hb);have ze:=Ja (Jn (g:=qh) (o:=.cells #[.int .i64 qj,.int .i64 ql,.slice qv zb.length qu] 27 (0,0)) (by(with_reducible repeat(first|refine Je ?_ _|refine Jb ?_|refine Jd ?_ _));exact qd.out) hb);have zm:=Ja (Jn (g:=qr) (o:=.cells #[.int .i64 zs,.int .i64 zw,.slice yy zk.length yu] 27 (0,0)) (by(with_reducible repeat(first|refine Je ?_ _|refine Jb ?_|refine Jd ?_ _));exact qx.out) hb);have zv:=Ja (Jv (by repeat(first|(with_reducible first|exact HB.out|apply Jp|apply Ji|apply Jo|refine Jf ?_ qs.out|refine Jf ?_ qw.out|refine Jf ?_ qy.out|refine Jf ?_ yj.out|refine Jf ?_ vn.out)|exact HB.out)) hb);clear qc;clear qb;clear qa;clear zj;clear qe;clear qf;clear qg;clear qd;clear qx;clear HB;have qc:=ym;have qb:=yn;have qa:=yq;have zj:=ys;have qe:=yx;have qf:=yz;have qg:=za;have qd:=ze;have qx:=zm;have HB:=zv;clear ym yn yq ys yx yz za ze zm zv;(try clear hb);(try clear hb2);(try clear hk);(try clear hi)))
                  go_ret
                  exact⟨by first|rfl|(simp [errW_none,errW_some] <;> rfl)|(simp [*,errW_none,errW_some] <;> rfl),by repeat(first|(with_reducible first|exact HB.out|apply Jp|apply Ji|apply Jo|refine Jf ?_ qs.out|refine Jf ?_ qw.out|refine Jf ?_ qy.out|refine Jf ?_ yj.out|refine Jf ?_ vn.out)|exact HB.out)⟩
            ·rw [if_neg c118] at H
             have c118b0:(vj == zr)=false:=beq_eq_false_iff_ne.mpr c118
             have c118b1:(vj != zr)=true:=bne_iff_ne.mpr c118
             have HR_:=Option.some.inj H
             have hnb189:=zh.out
             have hnc189:=yl.out
             have hnb190:=yv.out
             have hnc190:=ye.out
             have hnb191:=zc.out
             have hnc191:=yi.out
             have hcz192_0:wc.cell? ⟨qh,0,none⟩=some (.int .i64 qj):=(Jm qd.out 0).trans rfl
             have hcz192_1:wc.cell? ⟨qh,1,none⟩=some (.int .i64 ql):=(Jm qd.out 1).trans rfl
             have hcz192_2:wc.cell? ⟨qh,2,none⟩=some (.slice qv qi.length qu):=(Jm qd.out 2).trans rfl
             have hfz192_0:=Jl qd.out 0
             have hfz192_1:=Jl qd.out 1
             have hfz192_2:=Jl qd.out 2
             go_wp2_with (first|((with_reducible refine Jw (f:=38) rfl ?_);refine goesL_ (some 87) rfl rfl Try.func38 (by kernel_rfl) rfl #[.agg #[.int .i64 qj,.int .i64 ql,.slice qv qi.length qu],.int .i64 1] rfl (by(try simp only [List.map_toArray,List.map_cons,List.map_nil]);first|done|rfl|(simp only [List.length_drop,List.length_take];rfl)) ?_;(with_reducible refine(laws_markPicture.calls kj74 qj ql (fun k_=>some k_=(.slice qv qi.length qu:Value).ownBlock) (.slice qv qi.length qu) qi 1 zr zb w _ ?side1 ?side2 A108.out).mono ?_);(case side1=>repeat(first|(with_reducible first|exact HB.out|apply Jp|apply Ji|apply Jo|refine Jf ?_ qs.out|refine Jf ?_ qw.out|refine Jf ?_ qy.out|refine Jf ?_ yj.out)|exact HB.out));(case side2=>exact Kd.R_tight rfl qa.out);rintro e w193 ⟨rfl,hy0,hb,hkp⟩;refine⟨_,rfl,?_⟩;have ym:=Ja (Jq (ok':=fun k_=>some k_≠(.slice yd zy.length yf:Value).ownBlock∧some k_≠(.slice qv qi.length qu:Value).ownBlock) (Kd.R_keptB (qc.out) hkp (fun k_ hk_ hs_=>(hk_.2) hs_)) (fun k_ hk_=>⟨hk_.1.1,hk_.1.2⟩));have yn:=Ja (Jq (ok':=fun k_=>some k_≠(.slice yb qk.length qz:Value).ownBlock∧some k_≠(.slice qv qi.length qu:Value).ownBlock) (Kd.R_keptB (qb.out) hkp (fun k_ hk_ hs_=>(hk_.2) hs_)) (fun k_ hk_=>⟨hk_.1.1,hk_.1.2⟩));have yq:=Ja (Kd.R_reok rfl hy0 (fun k_ e_=>qa.out.1 k_ e_));have ys:=Ja (blk_kept (by(with_reducible repeat(first|refine Je ?_ _|refine Jb ?_|refine Jd ?_ _));exact qe.out) hkp (fun hs_=>(fun e_=>(Kd.R_ne qa.out qe.out (by decide)) e_) hs_));have yx:=Ja (blk_kept (by(with_reducible repeat(first|refine Je ?_ _|refine Jb ?_|refine Jd ?_ _));exact qf.out) hkp (fun hs_=>(fun e_=>(Kd.R_ne qa.out qf.out (by decide)) e_) hs_));have yz:=Ja (blk_kept (by(with_reducible repeat(first|refine Je ?_ _|refine Jb ?_|refine Jd ?_ _));exact qg.out) hkp (fun hs_=>(fun e_=>(Kd.R_ne qa.out qg.out (by decide)) e_) hs_));have za:=Ja (blk_kept (by(with_reducible repeat(first|refine Je ?_ _|refine Jb ?_|refine Jd ?_ _));exact qd.out) hkp (fun hs_=>(fun e_=>(Kd.R_ne qa.out qd.out (by decide)) e_) hs_));have ze:=Ja (hb);clear qc;clear qb;clear qa;clear qe;clear qf;clear qg;clear qd;clear HB;have qc:=ym;have qb:=yn;have qa:=yq;have qe:=ys;have qf:=yx;have qg:=yz;have qd:=za;have HB:=ze;clear ym yn yq ys yx yz za ze;(try clear hb);(try clear hkp);(try clear hy0);have hcz194_0:w193.cell? ⟨qh,0,none⟩=some (.int .i64 qj):=(Jm qd.out 0).trans rfl;have hcz194_1:w193.cell? ⟨qh,1,none⟩=some (.int .i64 ql):=(Jm qd.out 1).trans rfl;have hcz194_2:w193.cell? ⟨qh,2,none⟩=some (.slice qv qi.length qu):=(Jm qd.out 2).trans rfl;have hfz194_0:=Jl qd.out 0;have hfz194_1:=Jl qd.out 1;have hfz194_2:=Jl qd.out 2)|((with_reducible refine Jw (f:=40) rfl ?_);refine goesL_ (some 90) rfl rfl Try.func40 (by kernel_rfl) rfl #[.agg #[.int .i64 qj,.int .i64 ql,.slice qv zb.length qu],.int .i64 1] rfl (by(try simp only [List.map_toArray,List.map_cons,List.map_nil]);first|done|(rw [show zb.length=qi.length from(Jr qa.out).1.symm] <;> rfl)|rfl|(simp only [List.length_drop,List.length_take];rfl)) ?_;(with_reducible refine(laws_heldPicture.calls kj74 qj ql _ _ zb 1 vj _ ?side1 ?side2 A109.out).mono ?_);(case side1=>repeat(first|exact(Jr qa.out).2.2|(with_reducible refine Jx ?_ _)|(with_reducible refine Jy ?_ _)|(with_reducible refine Js ?_)));(case side2=>rw [show zb.length=qi.length from(Jr qa.out).1.symm];exact(Jr qa.out).2.1);rintro e w195 ⟨rfl,hb⟩;refine⟨_,rfl,?_⟩;have ym:=Ja (Jk (by(with_reducible repeat(first|apply Jg|apply Jh|apply Jc));exact qc.out) hb);have yn:=Ja (Jk (by(with_reducible repeat(first|apply Jg|apply Jh|apply Jc));exact qb.out) hb);have yq:=Ja (Jk (by(with_reducible repeat(first|apply Jg|apply Jh|apply Jc));exact qa.out) hb);have ys:=Ja (Jn (g:=qq) (o:=.cells #[.int .i64 a0_0,.int .i64 a0_1,.slice A0_2 l0_2.length c0_2] 24 (0,0)) (by(with_reducible repeat(first|refine Je ?_ _|refine Jb ?_|refine Jd ?_ _));exact qe.out) hb);have yx:=Ja (Jn (g:=qp) (o:=.cells #[.int .i64 qm,.int .i64 qo,.slice yb qk.length qz] 27 (0,0)) (by(with_reducible repeat(first|refine Je ?_ _|refine Jb ?_|refine Jd ?_ _));exact qf.out) hb);have yz:=Ja (Jn (g:=qt) (o:=.cells #[.int .i64 yg,.int .i64 yh,.slice yd zy.length yf] 27 (0,0)) (by(with_reducible repeat(first|refine Je ?_ _|refine Jb ?_|refine Jd ?_ _));exact qg.out) hb);have za:=Ja (Jn (g:=qh) (o:=.cells #[.int .i64 qj,.int .i64 ql,.slice qv qi.length qu] 27 (0,0)) (by(with_reducible repeat(first|refine Je ?_ _|refine Jb ?_|refine Jd ?_ _));exact qd.out) hb);have ze:=Ja (Jv (by repeat(first|(with_reducible first|exact HB.out|apply Jp|apply Ji|apply Jo|refine Jf ?_ qs.out|refine Jf ?_ qw.out|refine Jf ?_ qy.out|refine Jf ?_ yj.out)|exact HB.out)) hb);clear qc;clear qb;clear qa;clear qe;clear qf;clear qg;clear qd;clear HB;have qc:=ym;have qb:=yn;have qa:=yq;have qe:=ys;have qf:=yx;have qg:=yz;have qd:=za;have HB:=ze;clear ym yn yq ys yx yz za ze;(try clear hb);(try clear hb2);(try clear hk);(try clear hi)))
             go_ret
             exact⟨by first|rfl|(simp [errW_none,errW_some] <;> rfl)|(simp [*,errW_none,errW_some] <;> rfl),by repeat(first|(with_reducible first|exact HB.out|apply Jp|apply Ji|apply Jo|refine Jf ?_ qs.out|refine Jf ?_ qw.out|refine Jf ?_ qy.out|refine Jf ?_ yj.out)|exact HB.out)⟩
       ·replace c72:=Bool.eq_false_iff.mpr c72
        subst c72
        have H1:(some false)=some true:=by rw [if_neg (show ¬ (false=true) by decide)] at H;exact H
        clear H
        have H:=H1
        clear H1
        exact absurd (Option.some.inj H) Bool.false_ne_true
      ·replace c69:=Bool.eq_false_iff.mpr c69
       subst c69
       have H1:(some false)=some true:=by rw [if_neg (show ¬ (false=true) by decide)] at H;exact H
       clear H
       have H:=H1
       clear H1
       exact absurd (Option.some.inj H) Bool.false_ne_true
end Go.Proofs.Ytbdnpfjjaokdbaa.HFnExactDecode
