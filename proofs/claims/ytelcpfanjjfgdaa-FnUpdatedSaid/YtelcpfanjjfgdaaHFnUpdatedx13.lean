-- Laid by myprint.py, a program of this repo, out of the kit's printer and this repo's own texts (wip/hand).
import Derived.Test.YtelcpfanjjfgdaaHFnUpdatedx0
import Derived.Test.YtelcpfanjjfgdaaHFnUpdatedx4
import Derived.Test.YtelcpfanjjfgdaaHFnUpdatedx5
import Derived.Test.YtelcpfanjjfgdaaHFnUpdatedx8
import Derived.Test.YtelcpfanjjfgdaaHFnUpdatedx12
namespace Go.Proofs.Ytelcpfanjjfgdaa.HFnUpdated
open Go.RowKit Go.Proofs.YtelcpfanjjfgdaaW.PrintWords Go.Proofs.YtelcpfanjjfgdaaW.PrintLast Go.Proofs.YtelcpfanjjfgdaaW.PrintMore
attribute [local go_sem] max2_int min2_int max_two min_two max_three min_three max_four min_four   -- for this text's walks alone
set_option linter.unusedVariables false
set_option linter.unusedSimpArgs false
theorem Na : type_of% @Aside0.mk := @Aside0.mk
theorem Nb : type_of% @Kd.R_drew := @Kd.R_drew
theorem Nc : type_of% @Kd.R_alloc := @Kd.R_alloc
theorem Nd : type_of% @Kd.R_drewN := @Kd.R_drewN
theorem Ne : type_of% @pw_below_drewN := @pw_below_drewN
theorem Nf : type_of% @below_alloc := @below_alloc
theorem Ng : type_of% @below_drew1 := @below_drew1
theorem Nh : type_of% @Kd.C_drew := @Kd.C_drew
theorem Ni : type_of% @Kd.R_reads' := @Kd.R_reads'
theorem Nj : type_of% @Kd.R_below := @Kd.R_below
theorem Nk : type_of% @Kd.C_alloc := @Kd.C_alloc
theorem Nl : type_of% @Kd.C_drewN := @Kd.C_drewN
theorem Nm : type_of% @Kd.R_slice := @Kd.R_slice
theorem Nn : type_of% @Kd.R_lower := @Kd.R_lower
theorem No : type_of% @below_size := @below_size
theorem Np : type_of% @Kd.R_base := @Kd.R_base
theorem Nq : type_of% @Kd.R_new' := @Kd.R_new'
theorem Nr : type_of% @Kd.R_told := @Kd.R_told
theorem Ns : type_of% @below_step := @below_step
theorem Nt : type_of% @Kd.R_mono := @Kd.R_mono

/-! ### laws_FnUpdated: function 9 -/
mutual
def laws_FnUpdated.j0 : Nat → List (S71) → List (S71) → List ByteArray → List ByteArray → Bool → Option (Bool)
  | 0, _, _, _, _, _ => none
  | k + 1, x3, x4, x5, x6, x44 => if x44 = true then (some false) else ((spec_PackOk.f k x3).bind fun t384 => (if t384 = true then ((spec_PackOk.f k x4).bind fun ya => (laws_FnUpdated.j1 k x3 x4 x5 x6 (!ya))) else (laws_FnUpdated.j1 k x3 x4 x5 x6 true)))
def laws_FnUpdated.j1 : Nat → List (S71) → List (S71) → List ByteArray → List ByteArray → Bool → Option (Bool)
  | 0, _, _, _, _, _ => none
  | k + 1, x3, x4, x5, x6, x52 => if x52 = true then (some ((wrap64 ((x5.length : Int) + (x6.length : Int))) == 0)) else ((impl_Update.f k x4 x3).bind fun bt386 => (laws_FnUpdated.l0 k x3 x4 x5 x6 bt386.1 bt386.2 0 0))
def laws_FnUpdated.l0 : Nat → List (S71) → List (S71) → List ByteArray → List ByteArray → List ByteArray → List ByteArray → Int → Int → Option (Bool)
  | 0, _, _, _, _, _, _, _, _ => none
  | k + 1, x3, x4, x5, x6, x9, x10, x11, x12 => if x12 < (x5.length : Int) then (laws_FnUpdated.l1 k x3 x4 x5 x6 x9 x10 x11 x12 0) else (if (wrap64 ((x3.length : Int) - (x6.length : Int))) = (wrap64 ((x4.length : Int) - (x10.length : Int))) then (if (x5.length : Int) = (wrap64 (x11 + (x10.length : Int))) then (some ((x9.length : Int) == (wrap64 (x11 + (x6.length : Int))))) else (some false)) else (some false))
def laws_FnUpdated.l1 : Nat → List (S71) → List (S71) → List ByteArray → List ByteArray → List ByteArray → List ByteArray → Int → Int → Int → Option (Bool)
  | 0, _, _, _, _, _, _, _, _, _ => none
  | k + 1, x3, x4, x5, x6, x9, x10, x11, x12, x13 => if x13 < (x9.length : Int) then (if 0 ≤ x12 then (if x12 < (x5.length : Int) then (if 0 ≤ x13 then (if (rdOf ByteArray.empty x5 x12).toList = (rdOf ByteArray.empty x9 x13).toList then (laws_FnUpdated.l1 k x3 x4 x5 x6 x9 x10 (wrap64 (x11 + 1)) x12 (wrap64 (x13 + 1))) else (laws_FnUpdated.l1 k x3 x4 x5 x6 x9 x10 x11 x12 (wrap64 (x13 + 1)))) else (none)) else (none)) else (none)) else (laws_FnUpdated.l0 k x3 x4 x5 x6 x9 x10 x11 (wrap64 (x12 + 1)))
end
def laws_FnUpdated.f (k : Nat) (l0 : List Int) : Option (Bool) := (laws_big.f l0).bind fun t365 => (if t365 = true then (some true) else ((spec_DrawUpdate.f k l0).bind fun bt366 => ((impl_Update.f k bt366.1 bt366.2).bind fun bt372 => ((spec_Update.f k bt366.1 bt366.2).bind fun bt378 => (if (bt372.1.length : Int) = (bt378.1.length : Int) then (laws_FnUpdated.j0 k bt366.1 bt366.2 bt372.1 bt372.2 ((bt372.2.length : Int) != (bt378.2.length : Int))) else (laws_FnUpdated.j0 k bt366.1 bt366.2 bt372.1 bt372.2 true))))))
theorem laws_FnUpdated.mono_l : ∀ k, (∀ y0 y1 y2 y3 y4, LeO (laws_FnUpdated.j0 k y0 y1 y2 y3 y4) (laws_FnUpdated.j0 (k + 1) y0 y1 y2 y3 y4)) ∧ (∀ y0 y1 y2 y3 y4, LeO (laws_FnUpdated.j1 k y0 y1 y2 y3 y4) (laws_FnUpdated.j1 (k + 1) y0 y1 y2 y3 y4)) ∧ (∀ y0 y1 y2 y3 y4 y5 y6 y7, LeO (laws_FnUpdated.l0 k y0 y1 y2 y3 y4 y5 y6 y7) (laws_FnUpdated.l0 (k + 1) y0 y1 y2 y3 y4 y5 y6 y7)) ∧ (∀ y0 y1 y2 y3 y4 y5 y6 y7 y8, LeO (laws_FnUpdated.l1 k y0 y1 y2 y3 y4 y5 y6 y7 y8) (laws_FnUpdated.l1 (k + 1) y0 y1 y2 y3 y4 y5 y6 y7 y8))
  | 0 => ⟨fun _ _ _ _ _ r h => by simp [laws_FnUpdated.j0] at h, fun _ _ _ _ _ r h => by simp [laws_FnUpdated.j1] at h, fun _ _ _ _ _ _ _ _ r h => by simp [laws_FnUpdated.l0] at h, fun _ _ _ _ _ _ _ _ _ r h => by simp [laws_FnUpdated.l1] at h⟩
  | k + 1 => by
    obtain⟨ih0,ih1,ih2,ih3⟩:=laws_FnUpdated.mono_l k
    refine⟨?_,?_,?_,?_⟩
    · intro y0 y1 y2 y3 y4
      unfold laws_FnUpdated.j0
      repeat' first
      | (with_reducible exact ih0 _ _ _ _ _)
      | (with_reducible exact ih1 _ _ _ _ _)
      | (with_reducible exact ih2 _ _ _ _ _ _ _ _)
      | (with_reducible exact ih3 _ _ _ _ _ _ _ _ _)
      | (with_reducible exact impl_Update.mono _ _ _)
      | (with_reducible exact spec_DrawUpdate.mono _ _)
      | (with_reducible exact spec_PackOk.mono _ _)
      | (with_reducible exact spec_Update.mono _ _ _)
      | (with_reducible exact LeO.refl _)
      | (with_reducible exact LeO.none _)
      | (with_reducible refine LeO.ite ?_ ?_)
      | (with_reducible refine LeO.bind ?_ (fun _ => ?_))
      | exact ih0 _ _ _ _ _
      | exact ih1 _ _ _ _ _
      | exact ih2 _ _ _ _ _ _ _ _
      | exact ih3 _ _ _ _ _ _ _ _ _
      | exact impl_Update.mono _ _ _
      | exact spec_DrawUpdate.mono _ _
      | exact spec_PackOk.mono _ _
      | exact spec_Update.mono _ _ _
      | exact LeO.none _
      | refine LeO.ite ?_ ?_
      | refine LeO.bind ?_ (fun _ => ?_)
    · intro y0 y1 y2 y3 y4
      unfold laws_FnUpdated.j1
      repeat' first
      | (with_reducible exact ih0 _ _ _ _ _)
      | (with_reducible exact ih1 _ _ _ _ _)
      | (with_reducible exact ih2 _ _ _ _ _ _ _ _)
      | (with_reducible exact ih3 _ _ _ _ _ _ _ _ _)
      | (with_reducible exact impl_Update.mono _ _ _)
      | (with_reducible exact spec_DrawUpdate.mono _ _)
      | (with_reducible exact spec_PackOk.mono _ _)
      | (with_reducible exact spec_Update.mono _ _ _)
      | (with_reducible exact LeO.refl _)
      | (with_reducible exact LeO.none _)
      | (with_reducible refine LeO.ite ?_ ?_)
      | (with_reducible refine LeO.bind ?_ (fun _ => ?_))
      | exact ih0 _ _ _ _ _
      | exact ih1 _ _ _ _ _
      | exact ih2 _ _ _ _ _ _ _ _
      | exact ih3 _ _ _ _ _ _ _ _ _
      | exact impl_Update.mono _ _ _
      | exact spec_DrawUpdate.mono _ _
      | exact spec_PackOk.mono _ _
      | exact spec_Update.mono _ _ _
      | exact LeO.none _
      | refine LeO.ite ?_ ?_
      | refine LeO.bind ?_ (fun _ => ?_)
    · intro y0 y1 y2 y3 y4 y5 y6 y7
      unfold laws_FnUpdated.l0
      repeat' first
      | (with_reducible exact ih0 _ _ _ _ _)
      | (with_reducible exact ih1 _ _ _ _ _)
      | (with_reducible exact ih2 _ _ _ _ _ _ _ _)
      | (with_reducible exact ih3 _ _ _ _ _ _ _ _ _)
      | (with_reducible exact impl_Update.mono _ _ _)
      | (with_reducible exact spec_DrawUpdate.mono _ _)
      | (with_reducible exact spec_PackOk.mono _ _)
      | (with_reducible exact spec_Update.mono _ _ _)
      | (with_reducible exact LeO.refl _)
      | (with_reducible exact LeO.none _)
      | (with_reducible refine LeO.ite ?_ ?_)
      | (with_reducible refine LeO.bind ?_ (fun _ => ?_))
      | exact ih0 _ _ _ _ _
      | exact ih1 _ _ _ _ _
      | exact ih2 _ _ _ _ _ _ _ _
      | exact ih3 _ _ _ _ _ _ _ _ _
      | exact impl_Update.mono _ _ _
      | exact spec_DrawUpdate.mono _ _
      | exact spec_PackOk.mono _ _
      | exact spec_Update.mono _ _ _
      | exact LeO.none _
      | refine LeO.ite ?_ ?_
      | refine LeO.bind ?_ (fun _ => ?_)
    · intro y0 y1 y2 y3 y4 y5 y6 y7 y8
      unfold laws_FnUpdated.l1
      repeat' first
      | (with_reducible exact ih0 _ _ _ _ _)
      | (with_reducible exact ih1 _ _ _ _ _)
      | (with_reducible exact ih2 _ _ _ _ _ _ _ _)
      | (with_reducible exact ih3 _ _ _ _ _ _ _ _ _)
      | (with_reducible exact impl_Update.mono _ _ _)
      | (with_reducible exact spec_DrawUpdate.mono _ _)
      | (with_reducible exact spec_PackOk.mono _ _)
      | (with_reducible exact spec_Update.mono _ _ _)
      | (with_reducible exact LeO.refl _)
      | (with_reducible exact LeO.none _)
      | (with_reducible refine LeO.ite ?_ ?_)
      | (with_reducible refine LeO.bind ?_ (fun _ => ?_))
      | exact ih0 _ _ _ _ _
      | exact ih1 _ _ _ _ _
      | exact ih2 _ _ _ _ _ _ _ _
      | exact ih3 _ _ _ _ _ _ _ _ _
      | exact impl_Update.mono _ _ _
      | exact spec_DrawUpdate.mono _ _
      | exact spec_PackOk.mono _ _
      | exact spec_Update.mono _ _ _
      | exact LeO.none _
      | refine LeO.ite ?_ ?_
      | refine LeO.bind ?_ (fun _ => ?_)
theorem laws_FnUpdated.mono : ∀ a0 k, LeO (laws_FnUpdated.f k a0) (laws_FnUpdated.f (k + 1) a0) := by
  intro a0 k
  obtain⟨ih0,ih1,ih2,ih3⟩:=laws_FnUpdated.mono_l k
  unfold laws_FnUpdated.f
  repeat' first
      | (with_reducible exact ih0 _ _ _ _ _)
      | (with_reducible exact ih1 _ _ _ _ _)
      | (with_reducible exact ih2 _ _ _ _ _ _ _ _)
      | (with_reducible exact ih3 _ _ _ _ _ _ _ _ _)
      | (with_reducible exact impl_Update.mono _ _ _)
      | (with_reducible exact spec_DrawUpdate.mono _ _)
      | (with_reducible exact spec_PackOk.mono _ _)
      | (with_reducible exact spec_Update.mono _ _ _)
      | (with_reducible exact LeO.refl _)
      | (with_reducible exact LeO.none _)
      | (with_reducible refine LeO.ite ?_ ?_)
      | (with_reducible refine LeO.bind ?_ (fun _ => ?_))
      | exact ih0 _ _ _ _ _
      | exact ih1 _ _ _ _ _
      | exact ih2 _ _ _ _ _ _ _ _
      | exact ih3 _ _ _ _ _ _ _ _ _
      | exact impl_Update.mono _ _ _
      | exact spec_DrawUpdate.mono _ _
      | exact spec_PackOk.mono _ _
      | exact spec_Update.mono _ _ _
      | exact LeO.none _
      | refine LeO.ite ?_ ?_
      | refine LeO.bind ?_ (fun _ => ?_)
set_option maxHeartbeats 8000000 in
set_option maxRecDepth 100000 in
theorem laws_FnUpdated.calls (k : Nat) (A0 : Option Addr) (c0 : Nat) (l0 : List Int) (r : Bool) (w : World) (hr0 : Kd.C (Kd.int .u8) w A0 l0.length l0) (hc0 : l0.length ≤ c0) (h : laws_FnUpdated.f k l0 = some r) :
    Calls Try.prog 9 #[.slice A0 l0.length c0] w fun e w'=>e=.returned (.bool r)∧Below w.heap.size w w':=by
  have HR0:=Na hr0
  have HC0:=Na hc0
  clear hr0 hc0
  have HB:=Na (Below.refl w.heap.size w)
  have H:((laws_big.f l0).bind fun t365=>(if t365=true then (some true) else ((spec_DrawUpdate.f k l0).bind fun bt366=>((impl_Update.f k bt366.1 bt366.2).bind fun bt372=>((spec_Update.f k bt366.1 bt366.2).bind fun bt378=>(if (bt372.1.length:Int)=(bt378.1.length:Int) then (laws_FnUpdated.j0 k bt366.1 bt366.2 bt372.1 bt372.2 ((bt372.2.length:Int) != (bt378.2.length:Int))) else (laws_FnUpdated.j0 k bt366.1 bt366.2 bt372.1 bt372.2 true)))))))=some r:=h
  clear h
  replace H:=Option.bind_eq_some_iff.mp H
  obtain⟨t365,A20,H⟩:=H
  replace H:(if t365=true then (some true) else ((spec_DrawUpdate.f k l0).bind fun bt366=>((impl_Update.f k bt366.1 bt366.2).bind fun bt372=>((spec_Update.f k bt366.1 bt366.2).bind fun bt378=>(if (bt372.1.length:Int)=(bt378.1.length:Int) then (laws_FnUpdated.j0 k bt366.1 bt366.2 bt372.1 bt372.2 ((bt372.2.length:Int) != (bt378.2.length:Int))) else (laws_FnUpdated.j0 k bt366.1 bt366.2 bt372.1 bt372.2 true))))))=some r:=H
  have A2:=Na A20
  clear A20
  by_cases c3:t365=true
  · subst c3
    have H1:(some true)=some r:=by rw [if_pos rfl] at H;exact H
    clear H
    have H:=H1
    clear H1
    obtain rfl:=Option.some.inj H
    go_enter Try.func9,Try.ntmps9
    go_wp2_with (first|(go_at_call 29;(with_reducible refine(laws_big.calls _ _ l0 true _ ?side1 ?side2 A2.out).mono ?_);(case side1=>repeat(first|exact HR0.out|(with_reducible refine Nk ?_ _)|(with_reducible refine Nl ?_ _)|(with_reducible refine Nh ?_)));(case side2=>exact HC0.out);rintro e w' ⟨rfl,⟨nd,rfl⟩⟩;(try first|exact⟨rfl,_,World.drewN_drewN _ _ _⟩|exact⟨rfl,_,Eq.trans (World.drewN_drewN _ _ _) (congrArg (World.drewN _) (Nat.add_assoc _ _ _))⟩)))
    repeat(go_quiet (first|(go_at_call 29;(with_reducible refine(laws_big.calls _ _ l0 true _ ?side1 ?side2 A2.out).mono ?_);(case side1=>repeat(first|exact HR0.out|(with_reducible refine Nk ?_ _)|(with_reducible refine Nl ?_ _)|(with_reducible refine Nh ?_)));(case side2=>exact HC0.out);rintro e w' ⟨rfl,⟨nd,rfl⟩⟩;(try first|exact⟨rfl,_,World.drewN_drewN _ _ _⟩|exact⟨rfl,_,Eq.trans (World.drewN_drewN _ _ _) (congrArg (World.drewN _) (Nat.add_assoc _ _ _))⟩)));try go_wp2_with (first|(go_at_call 29;(with_reducible refine(laws_big.calls _ _ l0 true _ ?side1 ?side2 A2.out).mono ?_);(case side1=>repeat(first|exact HR0.out|(with_reducible refine Nk ?_ _)|(with_reducible refine Nl ?_ _)|(with_reducible refine Nh ?_)));(case side2=>exact HC0.out);rintro e w' ⟨rfl,⟨nd,rfl⟩⟩;(try first|exact⟨rfl,_,World.drewN_drewN _ _ _⟩|exact⟨rfl,_,Eq.trans (World.drewN_drewN _ _ _) (congrArg (World.drewN _) (Nat.add_assoc _ _ _))⟩))))
    go_ret
    exact⟨by first|rfl|(simp [errW_none,errW_some] <;> rfl)|(simp [*,errW_none,errW_some] <;> rfl),by repeat(first|(with_reducible first|exact HB.out|apply Nf|apply Ne|apply Ng)|exact HB.out)⟩
  · replace c3:=Bool.eq_false_iff.mpr c3
    subst c3
    have H1:((spec_DrawUpdate.f k l0).bind fun bt366=>((impl_Update.f k bt366.1 bt366.2).bind fun bt372=>((spec_Update.f k bt366.1 bt366.2).bind fun bt378=>(if (bt372.1.length:Int)=(bt378.1.length:Int) then (laws_FnUpdated.j0 k bt366.1 bt366.2 bt372.1 bt372.2 ((bt372.2.length:Int) != (bt378.2.length:Int))) else (laws_FnUpdated.j0 k bt366.1 bt366.2 bt372.1 bt372.2 true)))))=some r:=by rw [if_neg (show ¬ (false=true) by decide)] at H;exact H
    clear H
    have H:=H1
    clear H1
    replace H:=Option.bind_eq_some_iff.mp H
    obtain⟨⟨qc,qe⟩,A40,H⟩:=H
    replace H:((impl_Update.f k qc qe).bind fun bt372=>((spec_Update.f k qc qe).bind fun bt378=>(if (bt372.1.length:Int)=(bt378.1.length:Int) then (laws_FnUpdated.j0 k qc qe bt372.1 bt372.2 ((bt372.2.length:Int) != (bt378.2.length:Int))) else (laws_FnUpdated.j0 k qc qe bt372.1 bt372.2 true))))=some r:=H
    have A4:=Na A40
    clear A40
    replace H:=Option.bind_eq_some_iff.mp H
    obtain⟨⟨qi,qk⟩,A50,H⟩:=H
    replace H:((spec_Update.f k qc qe).bind fun bt378=>(if (qi.length:Int)=(bt378.1.length:Int) then (laws_FnUpdated.j0 k qc qe qi qk ((qk.length:Int) != (bt378.2.length:Int))) else (laws_FnUpdated.j0 k qc qe qi qk true)))=some r:=H
    have A5:=Na A50
    clear A50
    replace H:=Option.bind_eq_some_iff.mp H
    obtain⟨⟨yd,t379⟩,A60,H⟩:=H
    replace H:(if (qi.length:Int)=(yd.length:Int) then (laws_FnUpdated.j0 k qc qe qi qk ((qk.length:Int) != (t379.length:Int))) else (laws_FnUpdated.j0 k qc qe qi qk true))=some r:=H
    have A6:=Na A60
    clear A60
    have HC7:=Na H
    clear H
    go_enter Try.func9,Try.ntmps9
    go_upto_region 6 with (first|(go_at_call 29;(with_reducible refine(laws_big.calls _ _ l0 false _ ?side1 ?side2 A2.out).mono ?_);(case side1=>repeat(first|exact HR0.out|(with_reducible refine Nk ?_ _)|(with_reducible refine Nl ?_ _)|(with_reducible refine Nh ?_)));(case side2=>exact HC0.out);rintro e w' ⟨rfl,⟨nd,rfl⟩⟩;(try first|exact⟨rfl,_,World.drewN_drewN _ _ _⟩|exact⟨rfl,_,Eq.trans (World.drewN_drewN _ _ _) (congrArg (World.drewN _) (Nat.add_assoc _ _ _))⟩))|(go_at_call 37;(with_reducible refine(spec_DrawUpdate.calls k _ _ l0 qc qe _ ?side1 ?side2 A4.out).mono ?_);(case side1=>repeat(first|exact HR0.out|(with_reducible refine Nk ?_ _)|(with_reducible refine Nl ?_ _)|(with_reducible refine Nh ?_)));(case side2=>exact HC0.out);rintro e w8 ⟨v368,v370,rfl,qt,qu,hb⟩;have qo:=Na (Nn qt (No (by repeat(first|(with_reducible first|exact HB.out|apply Nf|apply Ne|apply Ng)|exact HB.out))));have qp:=Na (Nn qu (No (by repeat(first|(with_reducible first|exact HB.out|apply Nf|apply Ne|apply Ng)|exact HB.out))));have qq:=Na (Ns (by repeat(first|(with_reducible first|exact HB.out|apply Nf|apply Ne|apply Ng)|exact HB.out)) hb);clear HB;have qf:=qo;have qg:=qp;have HB:=qq;clear qo qp qq;(try clear hb);(try clear hb2);(try clear hk);(try clear hi);(try clear qt);(try clear qu);obtain⟨Ao9,co9,eo9⟩:=Nm qf.out;subst eo9;obtain⟨ye,yf,eo10⟩:=Nm qg.out;subst eo10)|(go_at_call 32;(with_reducible refine(impl_Update.calls k _ _ qc _ _ qe qi qk _ ?side1 ?side2 ?side3 ?side4 A5.out).mono ?_);(case side1=>repeat(first|exact(Ni qf.out).2.2|(with_reducible refine Nk ?_ _)|(with_reducible refine Nl ?_ _)|(with_reducible refine Nh ?_)));(case side2=>exact(Ni qf.out).2.1);(case side3=>repeat(first|exact(Ni qg.out).2.2|(with_reducible refine Nk ?_ _)|(with_reducible refine Nl ?_ _)|(with_reducible refine Nh ?_)));(case side4=>exact(Ni qg.out).2.1);rintro e w11 ⟨yg,qy,rfl,qt,qu,hb⟩;have qo:=Na (Nj (by(with_reducible repeat(first|apply Nc|apply Nd|apply Nb));exact qf.out) hb);have qp:=Na (Nj (by(with_reducible repeat(first|apply Nc|apply Nd|apply Nb));exact qg.out) hb);have qq:=Na (Nn qt (No (by repeat(first|(with_reducible first|exact HB.out|apply Nf|apply Ne|apply Ng)|exact HB.out))));have qr:=Na (Nn qu (No (by repeat(first|(with_reducible first|exact HB.out|apply Nf|apply Ne|apply Ng)|exact HB.out))));have qs:=Na (Ns (by repeat(first|(with_reducible first|exact HB.out|apply Nf|apply Ne|apply Ng)|exact HB.out)) hb);clear qf;clear qg;clear HB;have qf:=qo;have qg:=qp;have ql:=qq;have qn:=qr;have HB:=qs;clear qo qp qq qr qs;(try clear hb);(try clear hb2);(try clear hk);(try clear hi);(try clear qt);(try clear qu))|(go_at_call 31;(with_reducible refine(spec_Update.calls k _ _ qc _ _ qe yd t379 _ ?side1 ?side2 ?side3 ?side4 A6.out).mono ?_);(case side1=>repeat(first|exact(Ni qf.out).2.2|(with_reducible refine Nk ?_ _)|(with_reducible refine Nl ?_ _)|(with_reducible refine Nh ?_)));(case side2=>exact(Ni qf.out).2.1);(case side3=>repeat(first|exact(Ni qg.out).2.2|(with_reducible refine Nk ?_ _)|(with_reducible refine Nl ?_ _)|(with_reducible refine Nh ?_)));(case side4=>exact(Ni qg.out).2.1);rintro e w12 ⟨v380,v382,rfl,qt,qu,hb⟩;have qo:=Na (Nj (by(with_reducible repeat(first|apply Nc|apply Nd|apply Nb));exact qf.out) hb);have qp:=Na (Nj (by(with_reducible repeat(first|apply Nc|apply Nd|apply Nb));exact qg.out) hb);have qq:=Na (Nt (Nr (Nr (Kd.R_old (by(with_reducible repeat(first|apply Nc|apply Nd|apply Nb));exact ql.out) hb) (Np qt)) (Np qu)) (fun _ h_=>h_.1));have qr:=Na (Nt (Nr (Nr (Kd.R_old (by(with_reducible repeat(first|apply Nc|apply Nd|apply Nb));exact qn.out) hb) (Np qt)) (Np qu)) (fun _ h_=>h_.1));have qs:=Na (Nn (Nq (Nq qt (Kd.R_lt (by(with_reducible repeat(first|apply Nc|apply Nd|apply Nb));exact ql.out))) (Kd.R_lt (by(with_reducible repeat(first|apply Nc|apply Nd|apply Nb));exact qn.out))) (No (by repeat(first|(with_reducible first|exact HB.out|apply Nf|apply Ne|apply Ng)|exact HB.out))));have n5_:=Na (Nn (Nq (Nq qu (Kd.R_lt (by(with_reducible repeat(first|apply Nc|apply Nd|apply Nb));exact ql.out))) (Kd.R_lt (by(with_reducible repeat(first|apply Nc|apply Nd|apply Nb));exact qn.out))) (No (by repeat(first|(with_reducible first|exact HB.out|apply Nf|apply Ne|apply Ng)|exact HB.out))));have n6_:=Na (Ns (by repeat(first|(with_reducible first|exact HB.out|apply Nf|apply Ne|apply Ng)|exact HB.out)) hb);clear qf;clear qg;clear ql;clear qn;clear HB;have qf:=qo;have qg:=qp;have ql:=qq;have qn:=qr;have HO381:=qs;have HO383:=n5_;have HB:=n6_;clear qo qp qq qr qs n5_ n6_;(try clear hb);(try clear hb2);(try clear hk);(try clear hi);(try clear qt);(try clear qu)))
    repeat(go_quiet (first|(go_at_call 29;(with_reducible refine(laws_big.calls _ _ l0 false _ ?side1 ?side2 A2.out).mono ?_);(case side1=>repeat(first|exact HR0.out|(with_reducible refine Nk ?_ _)|(with_reducible refine Nl ?_ _)|(with_reducible refine Nh ?_)));(case side2=>exact HC0.out);rintro e w' ⟨rfl,⟨nd,rfl⟩⟩;(try first|exact⟨rfl,_,World.drewN_drewN _ _ _⟩|exact⟨rfl,_,Eq.trans (World.drewN_drewN _ _ _) (congrArg (World.drewN _) (Nat.add_assoc _ _ _))⟩))|(go_at_call 37;(with_reducible refine(spec_DrawUpdate.calls k _ _ l0 qc qe _ ?side1 ?side2 A4.out).mono ?_);(case side1=>repeat(first|exact HR0.out|(with_reducible refine Nk ?_ _)|(with_reducible refine Nl ?_ _)|(with_reducible refine Nh ?_)));(case side2=>exact HC0.out);rintro e w8 ⟨v368,v370,rfl,qt,qu,hb⟩;have qo:=Na (Nn qt (No (by repeat(first|(with_reducible first|exact HB.out|apply Nf|apply Ne|apply Ng)|exact HB.out))));have qp:=Na (Nn qu (No (by repeat(first|(with_reducible first|exact HB.out|apply Nf|apply Ne|apply Ng)|exact HB.out))));have qq:=Na (Ns (by repeat(first|(with_reducible first|exact HB.out|apply Nf|apply Ne|apply Ng)|exact HB.out)) hb);clear HB;have qf:=qo;have qg:=qp;have HB:=qq;clear qo qp qq;(try clear hb);(try clear hb2);(try clear hk);(try clear hi);(try clear qt);(try clear qu);obtain⟨Ao9,co9,eo9⟩:=Nm qf.out;subst eo9;obtain⟨ye,yf,eo10⟩:=Nm qg.out;subst eo10)|(go_at_call 32;(with_reducible refine(impl_Update.calls k _ _ qc _ _ qe qi qk _ ?side1 ?side2 ?side3 ?side4 A5.out).mono ?_);(case side1=>repeat(first|exact(Ni qf.out).2.2|(with_reducible refine Nk ?_ _)|(with_reducible refine Nl ?_ _)|(with_reducible refine Nh ?_)));(case side2=>exact(Ni qf.out).2.1);(case side3=>repeat(first|exact(Ni qg.out).2.2|(with_reducible refine Nk ?_ _)|(with_reducible refine Nl ?_ _)|(with_reducible refine Nh ?_)));(case side4=>exact(Ni qg.out).2.1);rintro e w11 ⟨yg,qy,rfl,qt,qu,hb⟩;have qo:=Na (Nj (by(with_reducible repeat(first|apply Nc|apply Nd|apply Nb));exact qf.out) hb);have qp:=Na (Nj (by(with_reducible repeat(first|apply Nc|apply Nd|apply Nb));exact qg.out) hb);have qq:=Na (Nn qt (No (by repeat(first|(with_reducible first|exact HB.out|apply Nf|apply Ne|apply Ng)|exact HB.out))));have qr:=Na (Nn qu (No (by repeat(first|(with_reducible first|exact HB.out|apply Nf|apply Ne|apply Ng)|exact HB.out))));have qs:=Na (Ns (by repeat(first|(with_reducible first|exact HB.out|apply Nf|apply Ne|apply Ng)|exact HB.out)) hb);clear qf;clear qg;clear HB;have qf:=qo;have qg:=qp;have ql:=qq;have qn:=qr;have HB:=qs;clear qo qp qq qr qs;(try clear hb);(try clear hb2);(try clear hk);(try clear hi);(try clear qt);(try clear qu))|(go_at_call 31;(with_reducible refine(spec_Update.calls k _ _ qc _ _ qe yd t379 _ ?side1 ?side2 ?side3 ?side4 A6.out).mono ?_);(case side1=>repeat(first|exact(Ni qf.out).2.2|(with_reducible refine Nk ?_ _)|(with_reducible refine Nl ?_ _)|(with_reducible refine Nh ?_)));(case side2=>exact(Ni qf.out).2.1);(case side3=>repeat(first|exact(Ni qg.out).2.2|(with_reducible refine Nk ?_ _)|(with_reducible refine Nl ?_ _)|(with_reducible refine Nh ?_)));(case side4=>exact(Ni qg.out).2.1);rintro e w12 ⟨v380,v382,rfl,qt,qu,hb⟩;have qo:=Na (Nj (by(with_reducible repeat(first|apply Nc|apply Nd|apply Nb));exact qf.out) hb);have qp:=Na (Nj (by(with_reducible repeat(first|apply Nc|apply Nd|apply Nb));exact qg.out) hb);have qq:=Na (Nt (Nr (Nr (Kd.R_old (by(with_reducible repeat(first|apply Nc|apply Nd|apply Nb));exact ql.out) hb) (Np qt)) (Np qu)) (fun _ h_=>h_.1));have qr:=Na (Nt (Nr (Nr (Kd.R_old (by(with_reducible repeat(first|apply Nc|apply Nd|apply Nb));exact qn.out) hb) (Np qt)) (Np qu)) (fun _ h_=>h_.1));have qs:=Na (Nn (Nq (Nq qt (Kd.R_lt (by(with_reducible repeat(first|apply Nc|apply Nd|apply Nb));exact ql.out))) (Kd.R_lt (by(with_reducible repeat(first|apply Nc|apply Nd|apply Nb));exact qn.out))) (No (by repeat(first|(with_reducible first|exact HB.out|apply Nf|apply Ne|apply Ng)|exact HB.out))));have n5_:=Na (Nn (Nq (Nq qu (Kd.R_lt (by(with_reducible repeat(first|apply Nc|apply Nd|apply Nb));exact ql.out))) (Kd.R_lt (by(with_reducible repeat(first|apply Nc|apply Nd|apply Nb));exact qn.out))) (No (by repeat(first|(with_reducible first|exact HB.out|apply Nf|apply Ne|apply Ng)|exact HB.out))));have n6_:=Na (Ns (by repeat(first|(with_reducible first|exact HB.out|apply Nf|apply Ne|apply Ng)|exact HB.out)) hb);clear qf;clear qg;clear ql;clear qn;clear HB;have qf:=qo;have qg:=qp;have ql:=qq;have qn:=qr;have HO381:=qs;have HO383:=n5_;have HB:=n6_;clear qo qp qq qr qs n5_ n6_;(try clear hb);(try clear hb2);(try clear hk);(try clear hi);(try clear qt);(try clear qu)));go_upto_region 6 with (first|(go_at_call 29;(with_reducible refine(laws_big.calls _ _ l0 false _ ?side1 ?side2 A2.out).mono ?_);(case side1=>repeat(first|exact HR0.out|(with_reducible refine Nk ?_ _)|(with_reducible refine Nl ?_ _)|(with_reducible refine Nh ?_)));(case side2=>exact HC0.out);rintro e w' ⟨rfl,⟨nd,rfl⟩⟩;(try first|exact⟨rfl,_,World.drewN_drewN _ _ _⟩|exact⟨rfl,_,Eq.trans (World.drewN_drewN _ _ _) (congrArg (World.drewN _) (Nat.add_assoc _ _ _))⟩))|(go_at_call 37;(with_reducible refine(spec_DrawUpdate.calls k _ _ l0 qc qe _ ?side1 ?side2 A4.out).mono ?_);(case side1=>repeat(first|exact HR0.out|(with_reducible refine Nk ?_ _)|(with_reducible refine Nl ?_ _)|(with_reducible refine Nh ?_)));(case side2=>exact HC0.out);rintro e w8 ⟨v368,v370,rfl,qt,qu,hb⟩;have qo:=Na (Nn qt (No (by repeat(first|(with_reducible first|exact HB.out|apply Nf|apply Ne|apply Ng)|exact HB.out))));have qp:=Na (Nn qu (No (by repeat(first|(with_reducible first|exact HB.out|apply Nf|apply Ne|apply Ng)|exact HB.out))));have qq:=Na (Ns (by repeat(first|(with_reducible first|exact HB.out|apply Nf|apply Ne|apply Ng)|exact HB.out)) hb);clear HB;have qf:=qo;have qg:=qp;have HB:=qq;clear qo qp qq;(try clear hb);(try clear hb2);(try clear hk);(try clear hi);(try clear qt);(try clear qu);obtain⟨Ao9,co9,eo9⟩:=Nm qf.out;subst eo9;obtain⟨ye,yf,eo10⟩:=Nm qg.out;subst eo10)|(go_at_call 32;(with_reducible refine(impl_Update.calls k _ _ qc _ _ qe qi qk _ ?side1 ?side2 ?side3 ?side4 A5.out).mono ?_);(case side1=>repeat(first|exact(Ni qf.out).2.2|(with_reducible refine Nk ?_ _)|(with_reducible refine Nl ?_ _)|(with_reducible refine Nh ?_)));(case side2=>exact(Ni qf.out).2.1);(case side3=>repeat(first|exact(Ni qg.out).2.2|(with_reducible refine Nk ?_ _)|(with_reducible refine Nl ?_ _)|(with_reducible refine Nh ?_)));(case side4=>exact(Ni qg.out).2.1);rintro e w11 ⟨yg,qy,rfl,qt,qu,hb⟩;have qo:=Na (Nj (by(with_reducible repeat(first|apply Nc|apply Nd|apply Nb));exact qf.out) hb);have qp:=Na (Nj (by(with_reducible repeat(first|apply Nc|apply Nd|apply Nb));exact qg.out) hb);have qq:=Na (Nn qt (No (by repeat(first|(with_reducible first|exact HB.out|apply Nf|apply Ne|apply Ng)|exact HB.out))));have qr:=Na (Nn qu (No (by repeat(first|(with_reducible first|exact HB.out|apply Nf|apply Ne|apply Ng)|exact HB.out))));have qs:=Na (Ns (by repeat(first|(with_reducible first|exact HB.out|apply Nf|apply Ne|apply Ng)|exact HB.out)) hb);clear qf;clear qg;clear HB;have qf:=qo;have qg:=qp;have ql:=qq;have qn:=qr;have HB:=qs;clear qo qp qq qr qs;(try clear hb);(try clear hb2);(try clear hk);(try clear hi);(try clear qt);(try clear qu))|(go_at_call 31;(with_reducible refine(spec_Update.calls k _ _ qc _ _ qe yd t379 _ ?side1 ?side2 ?side3 ?side4 A6.out).mono ?_);(case side1=>repeat(first|exact(Ni qf.out).2.2|(with_reducible refine Nk ?_ _)|(with_reducible refine Nl ?_ _)|(with_reducible refine Nh ?_)));(case side2=>exact(Ni qf.out).2.1);(case side3=>repeat(first|exact(Ni qg.out).2.2|(with_reducible refine Nk ?_ _)|(with_reducible refine Nl ?_ _)|(with_reducible refine Nh ?_)));(case side4=>exact(Ni qg.out).2.1);rintro e w12 ⟨v380,v382,rfl,qt,qu,hb⟩;have qo:=Na (Nj (by(with_reducible repeat(first|apply Nc|apply Nd|apply Nb));exact qf.out) hb);have qp:=Na (Nj (by(with_reducible repeat(first|apply Nc|apply Nd|apply Nb));exact qg.out) hb);have qq:=Na (Nt (Nr (Nr (Kd.R_old (by(with_reducible repeat(first|apply Nc|apply Nd|apply Nb));exact ql.out) hb) (Np qt)) (Np qu)) (fun _ h_=>h_.1));have qr:=Na (Nt (Nr (Nr (Kd.R_old (by(with_reducible repeat(first|apply Nc|apply Nd|apply Nb));exact qn.out) hb) (Np qt)) (Np qu)) (fun _ h_=>h_.1));have qs:=Na (Nn (Nq (Nq qt (Kd.R_lt (by(with_reducible repeat(first|apply Nc|apply Nd|apply Nb));exact ql.out))) (Kd.R_lt (by(with_reducible repeat(first|apply Nc|apply Nd|apply Nb));exact qn.out))) (No (by repeat(first|(with_reducible first|exact HB.out|apply Nf|apply Ne|apply Ng)|exact HB.out))));have n5_:=Na (Nn (Nq (Nq qu (Kd.R_lt (by(with_reducible repeat(first|apply Nc|apply Nd|apply Nb));exact ql.out))) (Kd.R_lt (by(with_reducible repeat(first|apply Nc|apply Nd|apply Nb));exact qn.out))) (No (by repeat(first|(with_reducible first|exact HB.out|apply Nf|apply Ne|apply Ng)|exact HB.out))));have n6_:=Na (Ns (by repeat(first|(with_reducible first|exact HB.out|apply Nf|apply Ne|apply Ng)|exact HB.out)) hb);clear qf;clear qg;clear ql;clear qn;clear HB;have qf:=qo;have qg:=qp;have ql:=qq;have qn:=qr;have HO381:=qs;have HO383:=n5_;have HB:=n6_;clear qo qp qq qr qs n5_ n6_;(try clear hb);(try clear hb2);(try clear hk);(try clear hi);(try clear qt);(try clear qu))))
    (try simp only [Act.put,List.setIfInBounds_toArray,List.set_cons_zero,List.set_cons_succ])
    go_cut [44] (fun v44 wc=>∃ (kq:Nat) (x44_6:Bool),v44=.bool x44_6∧Aside0 (laws_FnUpdated.j0 kq qc qe qi qk x44_6=some r)∧Aside0 (kq≤k)∧Aside0 (Kd.R k71 71 wc w.heap.size (fun k_=>some k_≠((.slice ye qe.length yf):Value).ownBlock) (.slice Ao9 qc.length co9) qc)∧Aside0 (Kd.R k71 71 wc w.heap.size (fun k_=>some k_≠((.slice Ao9 qc.length co9):Value).ownBlock) (.slice ye qe.length yf) qe)∧Aside0 (Kd.R Kd.string 9 wc w.heap.size (fun k_=>some k_≠(qy:Value).ownBlock) yg qi)∧Aside0 (Kd.R Kd.string 9 wc w.heap.size (fun k_=>some k_≠(yg:Value).ownBlock) qy qk)∧Aside0 (Below w.heap.size w wc))
    case first=>
      have H:=HC7.out
      clear HC7
      by_cases c13:(qi.length:Int)=(yd.length:Int)
      · rw [if_pos c13] at H
        have qx:((qi.length:Int) == (yd.length:Int))=true:=beq_iff_eq.mpr c13
        have c13b1:((qi.length:Int) != (yd.length:Int))=false:=bne_eq_false_iff_eq.mpr c13
        have c13b2:(qi.length == yd.length)=true:=by first|simpa using c13|(simp at c13 ⊢;omega)
        clear c13
        (first|rw [qx]|(simp only [i64_w,i32_w];rw [qx])|skip)
        have H':=Na H
        clear H
        obtain⟨Ao14,co14,eo14⟩:=Nm ql.out
        subst eo14
        obtain⟨Ao15,co15,eo15⟩:=Nm HO381.out
        subst eo15
        obtain⟨Ao16,co16,eo16⟩:=Nm qn.out
        subst eo16
        obtain⟨Ao17,co17,eo17⟩:=Nm HO383.out
        subst eo17
        go_wp2
        repeat(go_quiet (fail);try go_wp2)
        go_meet
        case rel=>exact⟨_,(((qk.length:Int) != (t379.length:Int))),(by first|rfl|(simp;done)|(simp [*];done)),H',⟨by first|omega|exact Nat.le_refl _⟩,⟨by(with_reducible repeat(first|apply Nc|apply Nd|apply Nb));exact qf.out⟩,⟨by(with_reducible repeat(first|apply Nc|apply Nd|apply Nb));exact qg.out⟩,⟨by(with_reducible repeat(first|apply Nc|apply Nd|apply Nb));exact Nt ql.out (fun _ hk=>hk.1.1)⟩,⟨by(with_reducible repeat(first|apply Nc|apply Nd|apply Nb));exact Nt qn.out (fun _ hk=>hk.1.1)⟩,⟨by repeat(first|(with_reducible first|exact HB.out|apply Nf|apply Ne|apply Ng)|exact HB.out)⟩⟩
      · rw [if_neg c13] at H
        have qx:((qi.length:Int) == (yd.length:Int))=false:=beq_eq_false_iff_ne.mpr c13
        have c13b1:((qi.length:Int) != (yd.length:Int))=true:=bne_iff_ne.mpr c13
        have c13b2:(qi.length == yd.length)=false:=by first|simpa using c13|(simp at c13 ⊢;omega)
        (first|rw [qx]|(simp only [i64_w,i32_w];rw [qx])|skip)
        have H':=Na H
        clear H
        obtain⟨Ao18,co18,eo18⟩:=Nm ql.out
        subst eo18
        obtain⟨Ao19,co19,eo19⟩:=Nm HO381.out
        subst eo19
        go_wp2
        repeat(go_quiet (fail);try go_wp2)
        go_meet
        case rel=>exact⟨_,(true),(by first|rfl|(simp;done)|(simp [*];done)),H',⟨by first|omega|exact Nat.le_refl _⟩,⟨by(with_reducible repeat(first|apply Nc|apply Nd|apply Nb));exact qf.out⟩,⟨by(with_reducible repeat(first|apply Nc|apply Nd|apply Nb));exact qg.out⟩,⟨by(with_reducible repeat(first|apply Nc|apply Nd|apply Nb));exact Nt ql.out (fun _ hk=>hk.1.1)⟩,⟨by(with_reducible repeat(first|apply Nc|apply Nd|apply Nb));exact Nt qn.out (fun _ hk=>hk.1.1)⟩,⟨by repeat(first|(with_reducible first|exact HB.out|apply Nf|apply Ne|apply Ng)|exact HB.out)⟩⟩
    case rest=>
      clear HC7
      try clear c1
      try clear p2
      try clear c3
      try clear c9
      try clear c13
      try clear qx
      try clear c13b1
      try clear c13b2
      obtain⟨kq,x44_6,rfl,HA,HJ6,qa,qd,qb,qh,HB⟩:=hcut
      cases kq with
      | zero => exact absurd HA.out (by simp [laws_FnUpdated.j0])
      | succ kj6 =>
        have H:=HA.out
        clear HA
        simp only [laws_FnUpdated.j0] at H
        by_cases c20:x44_6=true
        · subst c20
          have H1:(some false)=some r:=by rw [if_pos rfl] at H;exact H
          clear H
          have H:=H1
          clear H1
          obtain rfl:=Option.some.inj H
          go_wp2
          repeat(go_quiet (fail);try go_wp2)
          go_ret
          exact⟨by first|rfl|(simp [errW_none,errW_some] <;> rfl)|(simp [*,errW_none,errW_some] <;> rfl),by repeat(first|(with_reducible first|exact HB.out|apply Nf|apply Ne|apply Ng)|exact HB.out)⟩
        · replace c20:=Bool.eq_false_iff.mpr c20
          subst c20
          have H1:((spec_PackOk.f kj6 qc).bind fun t384=>(if t384=true then ((spec_PackOk.f kj6 qe).bind fun ya=>(laws_FnUpdated.j1 kj6 qc qe qi qk (!ya))) else (laws_FnUpdated.j1 kj6 qc qe qi qk true)))=some r:=by rw [if_neg (show ¬ (false=true) by decide)] at H;exact H
          clear H
          have H:=H1
          clear H1
          have HC21:=Na H
          clear H
          go_upto_region 8 with (fail)
          repeat(go_quiet (fail);go_upto_region 8 with (fail))
          go_cut [52] (fun v52 wc=>∃ (kq:Nat) (x52_20:Bool),v52=.bool x52_20∧Aside0 (laws_FnUpdated.j1 kq qc qe qi qk x52_20=some r)∧Aside0 (kq≤kj6)∧Aside0 (Kd.R k71 71 wc w.heap.size (fun k_=>some k_≠((.slice ye qe.length yf):Value).ownBlock) (.slice Ao9 qc.length co9) qc)∧Aside0 (Kd.R k71 71 wc w.heap.size (fun k_=>some k_≠((.slice Ao9 qc.length co9):Value).ownBlock) (.slice ye qe.length yf) qe)∧Aside0 (Kd.R Kd.string 9 wc w.heap.size (fun k_=>some k_≠(qy:Value).ownBlock) yg qi)∧Aside0 (Kd.R Kd.string 9 wc w.heap.size (fun k_=>some k_≠(yg:Value).ownBlock) qy qk)∧Aside0 (Below w.heap.size w wc))
          case first=>
            have H:=HC21.out
            clear HC21
            replace H:=Option.bind_eq_some_iff.mp H
            obtain⟨t384,A220,H⟩:=H
            replace H:(if t384=true then ((spec_PackOk.f kj6 qe).bind fun ya=>(laws_FnUpdated.j1 kj6 qc qe qi qk (!ya))) else (laws_FnUpdated.j1 kj6 qc qe qi qk true))=some r:=H
            have A22:=Na A220
            clear A220
            by_cases c23:t384=true
            · subst c23
              have H1:((spec_PackOk.f kj6 qe).bind fun ya=>(laws_FnUpdated.j1 kj6 qc qe qi qk (!ya)))=some r:=by rw [if_pos rfl] at H;exact H
              clear H
              have H:=H1
              clear H1
              replace H:=Option.bind_eq_some_iff.mp H
              obtain⟨ya,A240,H⟩:=H
              replace H:(laws_FnUpdated.j1 kj6 qc qe qi qk (!ya))=some r:=H
              have A24:=Na A240
              clear A240
              have H':=Na H
              clear H
              go_wp2_with (first|(go_at_call 25;(with_reducible refine(spec_PackOk.calls kj6 _ _ qc true _ ?side1 ?side2 A22.out).mono ?_);(case side1=>repeat(first|exact(Ni qa.out).2.2|(with_reducible refine Nk ?_ _)|(with_reducible refine Nl ?_ _)|(with_reducible refine Nh ?_)));(case side2=>exact(Ni qa.out).2.1);rintro e w25 ⟨rfl,hb⟩;have qo:=Na (Nj (by(with_reducible repeat(first|apply Nc|apply Nd|apply Nb));exact qa.out) hb);have qp:=Na (Nj (by(with_reducible repeat(first|apply Nc|apply Nd|apply Nb));exact qd.out) hb);have qq:=Na (Nj (by(with_reducible repeat(first|apply Nc|apply Nd|apply Nb));exact qb.out) hb);have qr:=Na (Nj (by(with_reducible repeat(first|apply Nc|apply Nd|apply Nb));exact qh.out) hb);have qs:=Na (Ns (by repeat(first|(with_reducible first|exact HB.out|apply Nf|apply Ne|apply Ng)|exact HB.out)) hb);clear qa;clear qd;clear qb;clear qh;clear HB;have qa:=qo;have qd:=qp;have qb:=qq;have qh:=qr;have HB:=qs;clear qo qp qq qr qs;(try clear hb);(try clear hb2);(try clear hk);(try clear hi))|(go_at_call 25;(with_reducible refine(spec_PackOk.calls kj6 _ _ qe ya _ ?side1 ?side2 A24.out).mono ?_);(case side1=>repeat(first|exact(Ni qd.out).2.2|(with_reducible refine Nk ?_ _)|(with_reducible refine Nl ?_ _)|(with_reducible refine Nh ?_)));(case side2=>exact(Ni qd.out).2.1);rintro e w26 ⟨rfl,hb⟩;have qo:=Na (Nj (by(with_reducible repeat(first|apply Nc|apply Nd|apply Nb));exact qa.out) hb);have qp:=Na (Nj (by(with_reducible repeat(first|apply Nc|apply Nd|apply Nb));exact qd.out) hb);have qq:=Na (Nj (by(with_reducible repeat(first|apply Nc|apply Nd|apply Nb));exact qb.out) hb);have qr:=Na (Nj (by(with_reducible repeat(first|apply Nc|apply Nd|apply Nb));exact qh.out) hb);have qs:=Na (Ns (by repeat(first|(with_reducible first|exact HB.out|apply Nf|apply Ne|apply Ng)|exact HB.out)) hb);clear qa;clear qd;clear qb;clear qh;clear HB;have qa:=qo;have qd:=qp;have qb:=qq;have qh:=qr;have HB:=qs;clear qo qp qq qr qs;(try clear hb);(try clear hb2);(try clear hk);(try clear hi)))
              repeat(go_quiet (first|(go_at_call 25;(with_reducible refine(spec_PackOk.calls kj6 _ _ qc true _ ?side1 ?side2 A22.out).mono ?_);(case side1=>repeat(first|exact(Ni qa.out).2.2|(with_reducible refine Nk ?_ _)|(with_reducible refine Nl ?_ _)|(with_reducible refine Nh ?_)));(case side2=>exact(Ni qa.out).2.1);rintro e w25 ⟨rfl,hb⟩;have qo:=Na (Nj (by(with_reducible repeat(first|apply Nc|apply Nd|apply Nb));exact qa.out) hb);have qp:=Na (Nj (by(with_reducible repeat(first|apply Nc|apply Nd|apply Nb));exact qd.out) hb);have qq:=Na (Nj (by(with_reducible repeat(first|apply Nc|apply Nd|apply Nb));exact qb.out) hb);have qr:=Na (Nj (by(with_reducible repeat(first|apply Nc|apply Nd|apply Nb));exact qh.out) hb);have qs:=Na (Ns (by repeat(first|(with_reducible first|exact HB.out|apply Nf|apply Ne|apply Ng)|exact HB.out)) hb);clear qa;clear qd;clear qb;clear qh;clear HB;have qa:=qo;have qd:=qp;have qb:=qq;have qh:=qr;have HB:=qs;clear qo qp qq qr qs;(try clear hb);(try clear hb2);(try clear hk);(try clear hi))|(go_at_call 25;(with_reducible refine(spec_PackOk.calls kj6 _ _ qe ya _ ?side1 ?side2 A24.out).mono ?_);(case side1=>repeat(first|exact(Ni qd.out).2.2|(with_reducible refine Nk ?_ _)|(with_reducible refine Nl ?_ _)|(with_reducible refine Nh ?_)));(case side2=>exact(Ni qd.out).2.1);rintro e w26 ⟨rfl,hb⟩;have qo:=Na (Nj (by(with_reducible repeat(first|apply Nc|apply Nd|apply Nb));exact qa.out) hb);have qp:=Na (Nj (by(with_reducible repeat(first|apply Nc|apply Nd|apply Nb));exact qd.out) hb);have qq:=Na (Nj (by(with_reducible repeat(first|apply Nc|apply Nd|apply Nb));exact qb.out) hb);have qr:=Na (Nj (by(with_reducible repeat(first|apply Nc|apply Nd|apply Nb));exact qh.out) hb);have qs:=Na (Ns (by repeat(first|(with_reducible first|exact HB.out|apply Nf|apply Ne|apply Ng)|exact HB.out)) hb);clear qa;clear qd;clear qb;clear qh;clear HB;have qa:=qo;have qd:=qp;have qb:=qq;have qh:=qr;have HB:=qs;clear qo qp qq qr qs;(try clear hb);(try clear hb2);(try clear hk);(try clear hi)));try go_wp2_with (first|(go_at_call 25;(with_reducible refine(spec_PackOk.calls kj6 _ _ qc true _ ?side1 ?side2 A22.out).mono ?_);(case side1=>repeat(first|exact(Ni qa.out).2.2|(with_reducible refine Nk ?_ _)|(with_reducible refine Nl ?_ _)|(with_reducible refine Nh ?_)));(case side2=>exact(Ni qa.out).2.1);rintro e w25 ⟨rfl,hb⟩;have qo:=Na (Nj (by(with_reducible repeat(first|apply Nc|apply Nd|apply Nb));exact qa.out) hb);have qp:=Na (Nj (by(with_reducible repeat(first|apply Nc|apply Nd|apply Nb));exact qd.out) hb);have qq:=Na (Nj (by(with_reducible repeat(first|apply Nc|apply Nd|apply Nb));exact qb.out) hb);have qr:=Na (Nj (by(with_reducible repeat(first|apply Nc|apply Nd|apply Nb));exact qh.out) hb);have qs:=Na (Ns (by repeat(first|(with_reducible first|exact HB.out|apply Nf|apply Ne|apply Ng)|exact HB.out)) hb);clear qa;clear qd;clear qb;clear qh;clear HB;have qa:=qo;have qd:=qp;have qb:=qq;have qh:=qr;have HB:=qs;clear qo qp qq qr qs;(try clear hb);(try clear hb2);(try clear hk);(try clear hi))|(go_at_call 25;(with_reducible refine(spec_PackOk.calls kj6 _ _ qe ya _ ?side1 ?side2 A24.out).mono ?_);(case side1=>repeat(first|exact(Ni qd.out).2.2|(with_reducible refine Nk ?_ _)|(with_reducible refine Nl ?_ _)|(with_reducible refine Nh ?_)));(case side2=>exact(Ni qd.out).2.1);rintro e w26 ⟨rfl,hb⟩;have qo:=Na (Nj (by(with_reducible repeat(first|apply Nc|apply Nd|apply Nb));exact qa.out) hb);have qp:=Na (Nj (by(with_reducible repeat(first|apply Nc|apply Nd|apply Nb));exact qd.out) hb);have qq:=Na (Nj (by(with_reducible repeat(first|apply Nc|apply Nd|apply Nb));exact qb.out) hb);have qr:=Na (Nj (by(with_reducible repeat(first|apply Nc|apply Nd|apply Nb));exact qh.out) hb);have qs:=Na (Ns (by repeat(first|(with_reducible first|exact HB.out|apply Nf|apply Ne|apply Ng)|exact HB.out)) hb);clear qa;clear qd;clear qb;clear qh;clear HB;have qa:=qo;have qd:=qp;have qb:=qq;have qh:=qr;have HB:=qs;clear qo qp qq qr qs;(try clear hb);(try clear hb2);(try clear hk);(try clear hi))))
              go_meet
              case rel=>exact⟨_,(!ya),(by first|rfl|(simp;done)|(simp [*];done)),H',⟨by have:=HJ6.out;first|omega|exact Nat.le_refl _⟩,⟨by(with_reducible repeat(first|apply Nc|apply Nd|apply Nb));exact qa.out⟩,⟨by(with_reducible repeat(first|apply Nc|apply Nd|apply Nb));exact qd.out⟩,⟨by(with_reducible repeat(first|apply Nc|apply Nd|apply Nb));exact qb.out⟩,⟨by(with_reducible repeat(first|apply Nc|apply Nd|apply Nb));exact qh.out⟩,⟨by repeat(first|(with_reducible first|exact HB.out|apply Nf|apply Ne|apply Ng)|exact HB.out)⟩⟩
            · replace c23:=Bool.eq_false_iff.mpr c23
              subst c23
              have H1:(laws_FnUpdated.j1 kj6 qc qe qi qk true)=some r:=by rw [if_neg (show ¬ (false=true) by decide)] at H;exact H
              clear H
              have H:=H1
              clear H1
              have H':=Na H
              clear H
              go_wp2_with (first|(go_at_call 25;(with_reducible refine(spec_PackOk.calls kj6 _ _ qc false _ ?side1 ?side2 A22.out).mono ?_);(case side1=>repeat(first|exact(Ni qa.out).2.2|(with_reducible refine Nk ?_ _)|(with_reducible refine Nl ?_ _)|(with_reducible refine Nh ?_)));(case side2=>exact(Ni qa.out).2.1);rintro e w27 ⟨rfl,hb⟩;have qo:=Na (Nj (by(with_reducible repeat(first|apply Nc|apply Nd|apply Nb));exact qa.out) hb);have qp:=Na (Nj (by(with_reducible repeat(first|apply Nc|apply Nd|apply Nb));exact qd.out) hb);have qq:=Na (Nj (by(with_reducible repeat(first|apply Nc|apply Nd|apply Nb));exact qb.out) hb);have qr:=Na (Nj (by(with_reducible repeat(first|apply Nc|apply Nd|apply Nb));exact qh.out) hb);have qs:=Na (Ns (by repeat(first|(with_reducible first|exact HB.out|apply Nf|apply Ne|apply Ng)|exact HB.out)) hb);clear qa;clear qd;clear qb;clear qh;clear HB;have qa:=qo;have qd:=qp;have qb:=qq;have qh:=qr;have HB:=qs;clear qo qp qq qr qs;(try clear hb);(try clear hb2);(try clear hk);(try clear hi)))
              repeat(go_quiet (first|(go_at_call 25;(with_reducible refine(spec_PackOk.calls kj6 _ _ qc false _ ?side1 ?side2 A22.out).mono ?_);(case side1=>repeat(first|exact(Ni qa.out).2.2|(with_reducible refine Nk ?_ _)|(with_reducible refine Nl ?_ _)|(with_reducible refine Nh ?_)));(case side2=>exact(Ni qa.out).2.1);rintro e w27 ⟨rfl,hb⟩;have qo:=Na (Nj (by(with_reducible repeat(first|apply Nc|apply Nd|apply Nb));exact qa.out) hb);have qp:=Na (Nj (by(with_reducible repeat(first|apply Nc|apply Nd|apply Nb));exact qd.out) hb);have qq:=Na (Nj (by(with_reducible repeat(first|apply Nc|apply Nd|apply Nb));exact qb.out) hb);have qr:=Na (Nj (by(with_reducible repeat(first|apply Nc|apply Nd|apply Nb));exact qh.out) hb);have qs:=Na (Ns (by repeat(first|(with_reducible first|exact HB.out|apply Nf|apply Ne|apply Ng)|exact HB.out)) hb);clear qa;clear qd;clear qb;clear qh;clear HB;have qa:=qo;have qd:=qp;have qb:=qq;have qh:=qr;have HB:=qs;clear qo qp qq qr qs;(try clear hb);(try clear hb2);(try clear hk);(try clear hi)));try go_wp2_with (first|(go_at_call 25;(with_reducible refine(spec_PackOk.calls kj6 _ _ qc false _ ?side1 ?side2 A22.out).mono ?_);(case side1=>repeat(first|exact(Ni qa.out).2.2|(with_reducible refine Nk ?_ _)|(with_reducible refine Nl ?_ _)|(with_reducible refine Nh ?_)));(case side2=>exact(Ni qa.out).2.1);rintro e w27 ⟨rfl,hb⟩;have qo:=Na (Nj (by(with_reducible repeat(first|apply Nc|apply Nd|apply Nb));exact qa.out) hb);have qp:=Na (Nj (by(with_reducible repeat(first|apply Nc|apply Nd|apply Nb));exact qd.out) hb);have qq:=Na (Nj (by(with_reducible repeat(first|apply Nc|apply Nd|apply Nb));exact qb.out) hb);have qr:=Na (Nj (by(with_reducible repeat(first|apply Nc|apply Nd|apply Nb));exact qh.out) hb);have qs:=Na (Ns (by repeat(first|(with_reducible first|exact HB.out|apply Nf|apply Ne|apply Ng)|exact HB.out)) hb);clear qa;clear qd;clear qb;clear qh;clear HB;have qa:=qo;have qd:=qp;have qb:=qq;have qh:=qr;have HB:=qs;clear qo qp qq qr qs;(try clear hb);(try clear hb2);(try clear hk);(try clear hi))))
              go_meet
              case rel=>exact⟨_,(true),(by first|rfl|(simp;done)|(simp [*];done)),H',⟨by have:=HJ6.out;first|omega|exact Nat.le_refl _⟩,⟨by(with_reducible repeat(first|apply Nc|apply Nd|apply Nb));exact qa.out⟩,⟨by(with_reducible repeat(first|apply Nc|apply Nd|apply Nb));exact qd.out⟩,⟨by(with_reducible repeat(first|apply Nc|apply Nd|apply Nb));exact qb.out⟩,⟨by(with_reducible repeat(first|apply Nc|apply Nd|apply Nb));exact qh.out⟩,⟨by repeat(first|(with_reducible first|exact HB.out|apply Nf|apply Ne|apply Ng)|exact HB.out)⟩⟩
          case rest=>
            clear HC21
            try clear c1
            try clear c2
            try clear p2
            try clear c3
            try clear c9
            try clear c13
            try clear qx
            try clear c13b1
            try clear c13b2
            try clear c20
            try clear c23
            try clear p2
            obtain⟨kq,x52_20,rfl,HA,HJ20,qa,qd,qb,qh,HB⟩:=hcut
            cases kq with
            | zero => exact absurd HA.out (by simp [laws_FnUpdated.j1])
            | succ kj20 =>
              have H:=HA.out
              clear HA
              simp only [laws_FnUpdated.j1] at H
              by_cases c28:x52_20=true
              · subst c28
                have H1:(some ((wrap64 ((qi.length:Int)+(qk.length:Int))) == 0))=some r:=by rw [if_pos rfl] at H;exact H
                clear H
                have H:=H1
                clear H1
                obtain rfl:=Option.some.inj H
                obtain⟨Ao29,co29,eo29⟩:=Nm qb.out
                subst eo29
                obtain⟨Ao30,co30,eo30⟩:=Nm qh.out
                subst eo30
                go_wp2
                repeat(go_quiet (fail);try go_wp2)
                go_ret
                exact⟨by first|rfl|(simp [errW_none,errW_some] <;> rfl)|(simp [*,errW_none,errW_some] <;> rfl),by repeat(first|(with_reducible first|exact HB.out|apply Nf|apply Ne|apply Ng)|exact HB.out)⟩
              · replace c28:=Bool.eq_false_iff.mpr c28
                subst c28
                have H1:((impl_Update.f kj20 qe qc).bind fun bt386=>(laws_FnUpdated.l0 kj20 qc qe qi qk bt386.1 bt386.2 0 0))=some r:=by rw [if_neg (show ¬ (false=true) by decide)] at H;exact H
                clear H
                have H:=H1
                clear H1
                replace H:=Option.bind_eq_some_iff.mp H
                obtain⟨⟨qv,qw⟩,A310,H⟩:=H
                replace H:(laws_FnUpdated.l0 kj20 qc qe qi qk qv qw 0 0)=some r:=H
                have A31:=Na A310
                clear A310
                have H':=Na H
                clear H
                go_wp2_with (first|(go_at_call 32;(with_reducible refine(impl_Update.calls kj20 _ _ qe _ _ qc qv qw _ ?side1 ?side2 ?side3 ?side4 A31.out).mono ?_);(case side1=>repeat(first|exact(Ni qd.out).2.2|(with_reducible refine Nk ?_ _)|(with_reducible refine Nl ?_ _)|(with_reducible refine Nh ?_)));(case side2=>exact(Ni qd.out).2.1);(case side3=>repeat(first|exact(Ni qa.out).2.2|(with_reducible refine Nk ?_ _)|(with_reducible refine Nl ?_ _)|(with_reducible refine Nh ?_)));(case side4=>exact(Ni qa.out).2.1);rintro e w32 ⟨yh,yi,rfl,qt,qu,hb⟩;have qo:=Na (Nj (by(with_reducible repeat(first|apply Nc|apply Nd|apply Nb));exact qa.out) hb);have qp:=Na (Nj (by(with_reducible repeat(first|apply Nc|apply Nd|apply Nb));exact qd.out) hb);have qq:=Na (Nt (Nr (Nr (Kd.R_old (by(with_reducible repeat(first|apply Nc|apply Nd|apply Nb));exact qb.out) hb) (Np qt)) (Np qu)) (fun _ h_=>h_.1));have qr:=Na (Nt (Nr (Nr (Kd.R_old (by(with_reducible repeat(first|apply Nc|apply Nd|apply Nb));exact qh.out) hb) (Np qt)) (Np qu)) (fun _ h_=>h_.1));have qs:=Na (Nn (Nq (Nq qt (Kd.R_lt (by(with_reducible repeat(first|apply Nc|apply Nd|apply Nb));exact qb.out))) (Kd.R_lt (by(with_reducible repeat(first|apply Nc|apply Nd|apply Nb));exact qh.out))) (No (by repeat(first|(with_reducible first|exact HB.out|apply Nf|apply Ne|apply Ng)|exact HB.out))));have n5_:=Na (Nn (Nq (Nq qu (Kd.R_lt (by(with_reducible repeat(first|apply Nc|apply Nd|apply Nb));exact qb.out))) (Kd.R_lt (by(with_reducible repeat(first|apply Nc|apply Nd|apply Nb));exact qh.out))) (No (by repeat(first|(with_reducible first|exact HB.out|apply Nf|apply Ne|apply Ng)|exact HB.out))));have n6_:=Na (Ns (by repeat(first|(with_reducible first|exact HB.out|apply Nf|apply Ne|apply Ng)|exact HB.out)) hb);clear qa;clear qd;clear qb;clear qh;clear HB;have qa:=qo;have qd:=qp;have qb:=qq;have qh:=qr;have HO389:=qs;have HO391:=n5_;have HB:=n6_;clear qo qp qq qr qs n5_ n6_;(try clear hb);(try clear hb2);(try clear hk);(try clear hi);(try clear qt);(try clear qu)))
                repeat(go_quiet (first|(go_at_call 32;(with_reducible refine(impl_Update.calls kj20 _ _ qe _ _ qc qv qw _ ?side1 ?side2 ?side3 ?side4 A31.out).mono ?_);(case side1=>repeat(first|exact(Ni qd.out).2.2|(with_reducible refine Nk ?_ _)|(with_reducible refine Nl ?_ _)|(with_reducible refine Nh ?_)));(case side2=>exact(Ni qd.out).2.1);(case side3=>repeat(first|exact(Ni qa.out).2.2|(with_reducible refine Nk ?_ _)|(with_reducible refine Nl ?_ _)|(with_reducible refine Nh ?_)));(case side4=>exact(Ni qa.out).2.1);rintro e w32 ⟨yh,yi,rfl,qt,qu,hb⟩;have qo:=Na (Nj (by(with_reducible repeat(first|apply Nc|apply Nd|apply Nb));exact qa.out) hb);have qp:=Na (Nj (by(with_reducible repeat(first|apply Nc|apply Nd|apply Nb));exact qd.out) hb);have qq:=Na (Nt (Nr (Nr (Kd.R_old (by(with_reducible repeat(first|apply Nc|apply Nd|apply Nb));exact qb.out) hb) (Np qt)) (Np qu)) (fun _ h_=>h_.1));have qr:=Na (Nt (Nr (Nr (Kd.R_old (by(with_reducible repeat(first|apply Nc|apply Nd|apply Nb));exact qh.out) hb) (Np qt)) (Np qu)) (fun _ h_=>h_.1));have qs:=Na (Nn (Nq (Nq qt (Kd.R_lt (by(with_reducible repeat(first|apply Nc|apply Nd|apply Nb));exact qb.out))) (Kd.R_lt (by(with_reducible repeat(first|apply Nc|apply Nd|apply Nb));exact qh.out))) (No (by repeat(first|(with_reducible first|exact HB.out|apply Nf|apply Ne|apply Ng)|exact HB.out))));have n5_:=Na (Nn (Nq (Nq qu (Kd.R_lt (by(with_reducible repeat(first|apply Nc|apply Nd|apply Nb));exact qb.out))) (Kd.R_lt (by(with_reducible repeat(first|apply Nc|apply Nd|apply Nb));exact qh.out))) (No (by repeat(first|(with_reducible first|exact HB.out|apply Nf|apply Ne|apply Ng)|exact HB.out))));have n6_:=Na (Ns (by repeat(first|(with_reducible first|exact HB.out|apply Nf|apply Ne|apply Ng)|exact HB.out)) hb);clear qa;clear qd;clear qb;clear qh;clear HB;have qa:=qo;have qd:=qp;have qb:=qq;have qh:=qr;have HO389:=qs;have HO391:=n5_;have HB:=n6_;clear qo qp qq qr qs n5_ n6_;(try clear hb);(try clear hb2);(try clear hk);(try clear hi);(try clear qt);(try clear qu)));try go_wp2_with (first|(go_at_call 32;(with_reducible refine(impl_Update.calls kj20 _ _ qe _ _ qc qv qw _ ?side1 ?side2 ?side3 ?side4 A31.out).mono ?_);(case side1=>repeat(first|exact(Ni qd.out).2.2|(with_reducible refine Nk ?_ _)|(with_reducible refine Nl ?_ _)|(with_reducible refine Nh ?_)));(case side2=>exact(Ni qd.out).2.1);(case side3=>repeat(first|exact(Ni qa.out).2.2|(with_reducible refine Nk ?_ _)|(with_reducible refine Nl ?_ _)|(with_reducible refine Nh ?_)));(case side4=>exact(Ni qa.out).2.1);rintro e w32 ⟨yh,yi,rfl,qt,qu,hb⟩;have qo:=Na (Nj (by(with_reducible repeat(first|apply Nc|apply Nd|apply Nb));exact qa.out) hb);have qp:=Na (Nj (by(with_reducible repeat(first|apply Nc|apply Nd|apply Nb));exact qd.out) hb);have qq:=Na (Nt (Nr (Nr (Kd.R_old (by(with_reducible repeat(first|apply Nc|apply Nd|apply Nb));exact qb.out) hb) (Np qt)) (Np qu)) (fun _ h_=>h_.1));have qr:=Na (Nt (Nr (Nr (Kd.R_old (by(with_reducible repeat(first|apply Nc|apply Nd|apply Nb));exact qh.out) hb) (Np qt)) (Np qu)) (fun _ h_=>h_.1));have qs:=Na (Nn (Nq (Nq qt (Kd.R_lt (by(with_reducible repeat(first|apply Nc|apply Nd|apply Nb));exact qb.out))) (Kd.R_lt (by(with_reducible repeat(first|apply Nc|apply Nd|apply Nb));exact qh.out))) (No (by repeat(first|(with_reducible first|exact HB.out|apply Nf|apply Ne|apply Ng)|exact HB.out))));have n5_:=Na (Nn (Nq (Nq qu (Kd.R_lt (by(with_reducible repeat(first|apply Nc|apply Nd|apply Nb));exact qb.out))) (Kd.R_lt (by(with_reducible repeat(first|apply Nc|apply Nd|apply Nb));exact qh.out))) (No (by repeat(first|(with_reducible first|exact HB.out|apply Nf|apply Ne|apply Ng)|exact HB.out))));have n6_:=Na (Ns (by repeat(first|(with_reducible first|exact HB.out|apply Nf|apply Ne|apply Ng)|exact HB.out)) hb);clear qa;clear qd;clear qb;clear qh;clear HB;have qa:=qo;have qd:=qp;have qb:=qq;have qh:=qr;have HO389:=qs;have HO391:=n5_;have HB:=n6_;clear qo qp qq qr qs n5_ n6_;(try clear hb);(try clear hb2);(try clear hk);(try clear hi);(try clear qt);(try clear qu))))
                go_loopg [11,12] kj20 (fun kq v11 v12 w'=>∃ (qz:Int) (qj:Int),v11=.int .i64 qz∧v12=.int .i64 qj∧Aside0 (laws_FnUpdated.l0 kq qc qe qi qk qv qw qz qj=some r)∧Aside0 (kq≤kj20)∧Aside0 (Kd.R k71 71 w' w.heap.size (fun k_=>some k_≠((.slice ye qe.length yf):Value).ownBlock) (.slice Ao9 qc.length co9) qc)∧Aside0 (Kd.R k71 71 w' w.heap.size (fun k_=>some k_≠((.slice Ao9 qc.length co9):Value).ownBlock) (.slice ye qe.length yf) qe)∧Aside0 (Kd.R Kd.string 9 w' w.heap.size (fun k_=>some k_≠(qy:Value).ownBlock∧some k_≠(yh:Value).ownBlock∧some k_≠(yi:Value).ownBlock) yg qi)∧Aside0 (Kd.R Kd.string 9 w' w.heap.size (fun k_=>some k_≠(yg:Value).ownBlock∧some k_≠(yh:Value).ownBlock∧some k_≠(yi:Value).ownBlock) qy qk)∧Aside0 (Kd.R Kd.string 9 w' w.heap.size (fun k_=>some k_≠(yg:Value).ownBlock∧some k_≠(qy:Value).ownBlock∧some k_≠(yi:Value).ownBlock) yh qv)∧Aside0 (Kd.R Kd.string 9 w' w.heap.size (fun k_=>some k_≠(yg:Value).ownBlock∧some k_≠(qy:Value).ownBlock∧some k_≠(yh:Value).ownBlock) yi qw)∧Aside0 (Below w.heap.size w w'))
                case atStart=>exact⟨(0),(0),(by first|rfl|(simp;done)|(simp [*];done)),(by first|rfl|(simp;done)|(simp [*];done)),H',⟨Nat.le_refl _⟩,⟨by(with_reducible repeat(first|apply Nc|apply Nd|apply Nb));exact qa.out⟩,⟨by(with_reducible repeat(first|apply Nc|apply Nd|apply Nb));exact qd.out⟩,⟨by(with_reducible repeat(first|apply Nc|apply Nd|apply Nb));exact Nt qb.out (fun _ hk=>⟨hk.1.1,⟨hk.1.2,hk.2⟩⟩)⟩,⟨by(with_reducible repeat(first|apply Nc|apply Nd|apply Nb));exact Nt qh.out (fun _ hk=>⟨hk.1.1,⟨hk.1.2,hk.2⟩⟩)⟩,⟨by(with_reducible repeat(first|apply Nc|apply Nd|apply Nb));exact Nt HO389.out (fun _ hk=>⟨hk.1.2,⟨hk.2,hk.1.1⟩⟩)⟩,⟨by(with_reducible repeat(first|apply Nc|apply Nd|apply Nb));exact Nt HO391.out (fun _ hk=>⟨hk.1.2,⟨hk.2,hk.1.1⟩⟩)⟩,⟨by repeat(first|(with_reducible first|exact HB.out|apply Nf|apply Ne|apply Ng)|exact HB.out)⟩⟩
                case round=>
                  clear H'
                  try clear c1
                  try clear c2
                  try clear p2
                  try clear c3
                  try clear p6
                  try clear c9
                  try clear c13
                  try clear qx
                  try clear c13b1
                  try clear c13b2
                  try clear c20
                  try clear c23
                  try clear c28
                  try clear p2
                  obtain⟨qz,qj,rfl,rfl,HA,HK3,qa,qd,qb,qh,yc,yb,HB⟩:=hrel
                  cases gk with
                  | zero => exact absurd HA.out (by simp [laws_FnUpdated.l0])
                  | succ k3 =>
                    have H:=HA.out
                    clear HA
                    simp only [laws_FnUpdated.l0] at H
                    by_cases c33:qj < (qi.length:Int)
                    · rw [if_pos c33] at H
                      have c33b0:decide (qj < (qi.length:Int))=true:=decide_eq_true c33
                      clear c33
                      have H':=Na H
                      clear H
                      obtain⟨Ao34,co34,eo34⟩:=Nm qb.out
                      subst eo34
                      go_wp2
                      repeat(go_quiet (fail);try go_wp2)
                      go_loopg [11,13] k3 (fun kq v11 v13 w'=>∃ (yj:Int) (qm:Int),v11=.int .i64 yj∧v13=.int .i64 qm∧Aside0 (laws_FnUpdated.l1 kq qc qe qi qk qv qw yj qj qm=some r)∧Aside0 (kq≤k3)∧Aside0 (Kd.R k71 71 w' w.heap.size (fun k_=>some k_≠((.slice ye qe.length yf):Value).ownBlock) (.slice Ao9 qc.length co9) qc)∧Aside0 (Kd.R k71 71 w' w.heap.size (fun k_=>some k_≠((.slice Ao9 qc.length co9):Value).ownBlock) (.slice ye qe.length yf) qe)∧Aside0 (Kd.R Kd.string 9 w' w.heap.size (fun k_=>some k_≠(qy:Value).ownBlock∧some k_≠(yh:Value).ownBlock∧some k_≠(yi:Value).ownBlock) (.slice Ao34 qi.length co34) qi)∧Aside0 (Kd.R Kd.string 9 w' w.heap.size (fun k_=>some k_≠((.slice Ao34 qi.length co34):Value).ownBlock∧some k_≠(yh:Value).ownBlock∧some k_≠(yi:Value).ownBlock) qy qk)∧Aside0 (Kd.R Kd.string 9 w' w.heap.size (fun k_=>some k_≠((.slice Ao34 qi.length co34):Value).ownBlock∧some k_≠(qy:Value).ownBlock∧some k_≠(yi:Value).ownBlock) yh qv)∧Aside0 (Kd.R Kd.string 9 w' w.heap.size (fun k_=>some k_≠((.slice Ao34 qi.length co34):Value).ownBlock∧some k_≠(qy:Value).ownBlock∧some k_≠(yh:Value).ownBlock) yi qw)∧Aside0 (Below w.heap.size w w'))
                      case atStart=>exact⟨(qz),(0),(by first|rfl|(simp;done)|(simp [*];done)),(by first|rfl|(simp;done)|(simp [*];done)),H',⟨Nat.le_refl _⟩,⟨by(with_reducible repeat(first|apply Nc|apply Nd|apply Nb));exact qa.out⟩,⟨by(with_reducible repeat(first|apply Nc|apply Nd|apply Nb));exact qd.out⟩,⟨by(with_reducible repeat(first|apply Nc|apply Nd|apply Nb));exact qb.out⟩,⟨by(with_reducible repeat(first|apply Nc|apply Nd|apply Nb));exact qh.out⟩,⟨by(with_reducible repeat(first|apply Nc|apply Nd|apply Nb));exact yc.out⟩,⟨by(with_reducible repeat(first|apply Nc|apply Nd|apply Nb));exact yb.out⟩,⟨by repeat(first|(with_reducible first|exact HB.out|apply Nf|apply Ne|apply Ng)|exact HB.out)⟩⟩
                      case round=>
                        clear H'
                        try clear c1
                        try clear c2
                        try clear p2
                        try clear c3
                        try clear p6
                        try clear c9
                        try clear c13
                        try clear qx
                        try clear c13b1
                        try clear c13b2
                        try clear c20
                        try clear c23
                        try clear c28
                        try clear c33
                        try clear c33b0
                        try clear p2
                        try clear p6
                        obtain⟨yj,qm,rfl,rfl,HA,HK4,qa,qd,qb,qh,yc,yb,HB⟩:=hrel
                        cases gk with
                        | zero => exact absurd HA.out (by simp [laws_FnUpdated.l1])
                        | succ k4 =>
                          have H:=HA.out
                          clear HA
                          simp only [laws_FnUpdated.l1] at H
                          by_cases c35:qm < (qv.length:Int)
                          · rw [if_pos c35] at H
                            have c35b0:decide (qm < (qv.length:Int))=true:=decide_eq_true c35
                            clear c35
                            by_cases c36:0≤qj
                            · rw [if_pos c36] at H
                              have c36b0:decide (0≤qj)=true:=decide_eq_true c36
                              clear c36
                              by_cases c37:qj < (qi.length:Int)
                              · rw [if_pos c37] at H
                                have c37b0:decide (qj < (qi.length:Int))=true:=decide_eq_true c37
                                clear c37
                                by_cases c38:0≤qm
                                · rw [if_pos c38] at H
                                  have c38b0:decide (0≤qm)=true:=decide_eq_true c38
                                  clear c38
                                  by_cases c39:(rdOf ByteArray.empty qi qj).toList=(rdOf ByteArray.empty qv qm).toList
                                  · rw [if_pos c39] at H
                                    have c39b0:((rdOf ByteArray.empty qi qj).toList == (rdOf ByteArray.empty qv qm).toList)=true:=beq_iff_eq.mpr c39
                                    have c39b1:((rdOf ByteArray.empty qi qj).toList != (rdOf ByteArray.empty qv qm).toList)=false:=bne_eq_false_iff_eq.mpr c39
                                    clear c39
                                    have H':=Na H
                                    clear H
                                    obtain⟨Ao40,co40,eo40⟩:=Nm yc.out
                                    subst eo40
                                    have p392:0≤(qj:Int):=of_decide_eq_true (by first|(with_reducible assumption)|assumption)
                                    have q392:qj < (qi.length:Int):=of_decide_eq_true (by first|(with_reducible assumption)|assumption)
                                    obtain⟨ad392,e392,hx392_0⟩:=Kd.at_string (Ni qb.out).2.2 qj p392 q392
                                    cases e392
                                    replace p392:=eq_true p392
                                    replace q392:=eq_true q392
                                    have p393:0≤(qm:Int):=of_decide_eq_true (by first|(with_reducible assumption)|assumption)
                                    have q393:qm < (qv.length:Int):=of_decide_eq_true (by first|(with_reducible assumption)|assumption)
                                    obtain⟨ad393,e393,hx393_0⟩:=Kd.at_string (Ni yc.out).2.2 qm p393 q393
                                    cases e393
                                    replace p393:=eq_true p393
                                    replace q393:=eq_true q393
                                    go_wp2
                                    repeat(go_quiet (fail);try go_wp2)
                                    go_roundg k4
                                    case measure=>have:=HJ6.out;have:=HJ20.out;have:=HK3.out;have:=HK4.out;omega
                                    case rel=>exact⟨(wrap64 (yj+1)),(wrap64 (qm+1)),(by first|rfl|(simp;done)|(simp [*];done)),(by first|rfl|(simp;done)|(simp [*];done)),H',⟨by have:=HJ6.out;have:=HJ20.out;have:=HK3.out;have:=HK4.out;omega⟩,⟨by(with_reducible repeat(first|apply Nc|apply Nd|apply Nb));exact qa.out⟩,⟨by(with_reducible repeat(first|apply Nc|apply Nd|apply Nb));exact qd.out⟩,⟨by(with_reducible repeat(first|apply Nc|apply Nd|apply Nb));exact qb.out⟩,⟨by(with_reducible repeat(first|apply Nc|apply Nd|apply Nb));exact qh.out⟩,⟨by(with_reducible repeat(first|apply Nc|apply Nd|apply Nb));exact yc.out⟩,⟨by(with_reducible repeat(first|apply Nc|apply Nd|apply Nb));exact yb.out⟩,⟨by repeat(first|(with_reducible first|exact HB.out|apply Nf|apply Ne|apply Ng)|exact HB.out)⟩⟩
                                  · rw [if_neg c39] at H
                                    have c39b0:((rdOf ByteArray.empty qi qj).toList == (rdOf ByteArray.empty qv qm).toList)=false:=beq_eq_false_iff_ne.mpr c39
                                    have c39b1:((rdOf ByteArray.empty qi qj).toList != (rdOf ByteArray.empty qv qm).toList)=true:=bne_iff_ne.mpr c39
                                    have H':=Na H
                                    clear H
                                    obtain⟨Ao41,co41,eo41⟩:=Nm yc.out
                                    subst eo41
                                    have p392:0≤(qj:Int):=of_decide_eq_true (by first|(with_reducible assumption)|assumption)
                                    have q392:qj < (qi.length:Int):=of_decide_eq_true (by first|(with_reducible assumption)|assumption)
                                    obtain⟨ad392,e392,hx392_0⟩:=Kd.at_string (Ni qb.out).2.2 qj p392 q392
                                    cases e392
                                    replace p392:=eq_true p392
                                    replace q392:=eq_true q392
                                    have p393:0≤(qm:Int):=of_decide_eq_true (by first|(with_reducible assumption)|assumption)
                                    have q393:qm < (qv.length:Int):=of_decide_eq_true (by first|(with_reducible assumption)|assumption)
                                    obtain⟨ad393,e393,hx393_0⟩:=Kd.at_string (Ni yc.out).2.2 qm p393 q393
                                    cases e393
                                    replace p393:=eq_true p393
                                    replace q393:=eq_true q393
                                    go_wp2
                                    repeat(go_quiet (fail);try go_wp2)
                                    go_roundg k4
                                    case measure=>have:=HJ6.out;have:=HJ20.out;have:=HK3.out;have:=HK4.out;omega
                                    case rel=>exact⟨(yj),(wrap64 (qm+1)),(by first|rfl|(simp;done)|(simp [*];done)),(by first|rfl|(simp;done)|(simp [*];done)),H',⟨by have:=HJ6.out;have:=HJ20.out;have:=HK3.out;have:=HK4.out;omega⟩,⟨by(with_reducible repeat(first|apply Nc|apply Nd|apply Nb));exact qa.out⟩,⟨by(with_reducible repeat(first|apply Nc|apply Nd|apply Nb));exact qd.out⟩,⟨by(with_reducible repeat(first|apply Nc|apply Nd|apply Nb));exact qb.out⟩,⟨by(with_reducible repeat(first|apply Nc|apply Nd|apply Nb));exact qh.out⟩,⟨by(with_reducible repeat(first|apply Nc|apply Nd|apply Nb));exact yc.out⟩,⟨by(with_reducible repeat(first|apply Nc|apply Nd|apply Nb));exact yb.out⟩,⟨by repeat(first|(with_reducible first|exact HB.out|apply Nf|apply Ne|apply Ng)|exact HB.out)⟩⟩
                                · rw [if_neg c38] at H
                                  exact absurd H (by simp)
                              · rw [if_neg c37] at H
                                exact absurd H (by simp)
                            · rw [if_neg c36] at H
                              exact absurd H (by simp)
                          · rw [if_neg c35] at H
                            have c35b0:decide (qm < (qv.length:Int))=false:=decide_eq_false c35
                            clear c35
                            have H':=Na H
                            clear H
                            obtain⟨Ao42,co42,eo42⟩:=Nm yc.out
                            subst eo42
                            go_wp2
                            repeat(go_quiet (fail);try go_wp2)
                            go_roundg k4
                            case measure=>have:=HJ6.out;have:=HJ20.out;have:=HK3.out;have:=HK4.out;omega
                            case rel=>exact⟨(yj),(wrap64 (qj+1)),(by first|rfl|(simp;done)|(simp [*];done)),(by first|rfl|(simp;done)|(simp [*];done)),H',⟨by have:=HJ6.out;have:=HJ20.out;have:=HK3.out;have:=HK4.out;omega⟩,⟨by(with_reducible repeat(first|apply Nc|apply Nd|apply Nb));exact qa.out⟩,⟨by(with_reducible repeat(first|apply Nc|apply Nd|apply Nb));exact qd.out⟩,⟨by(with_reducible repeat(first|apply Nc|apply Nd|apply Nb));exact qb.out⟩,⟨by(with_reducible repeat(first|apply Nc|apply Nd|apply Nb));exact qh.out⟩,⟨by(with_reducible repeat(first|apply Nc|apply Nd|apply Nb));exact yc.out⟩,⟨by(with_reducible repeat(first|apply Nc|apply Nd|apply Nb));exact yb.out⟩,⟨by repeat(first|(with_reducible first|exact HB.out|apply Nf|apply Ne|apply Ng)|exact HB.out)⟩⟩
                    · rw [if_neg c33] at H
                      have c33b0:decide (qj < (qi.length:Int))=false:=decide_eq_false c33
                      clear c33
                      by_cases c43:(wrap64 ((qc.length:Int) - (qk.length:Int)))=(wrap64 ((qe.length:Int) - (qw.length:Int)))
                      · rw [if_pos c43] at H
                        have c43b0:((wrap64 ((qc.length:Int) - (qk.length:Int))) == (wrap64 ((qe.length:Int) - (qw.length:Int))))=true:=beq_iff_eq.mpr c43
                        have c43b1:((wrap64 ((qc.length:Int) - (qk.length:Int))) != (wrap64 ((qe.length:Int) - (qw.length:Int))))=false:=bne_eq_false_iff_eq.mpr c43
                        clear c43
                        by_cases c44:(qi.length:Int)=(wrap64 (qz+(qw.length:Int)))
                        · rw [if_pos c44] at H
                          have c44b0:((qi.length:Int) == (wrap64 (qz+(qw.length:Int))))=true:=beq_iff_eq.mpr c44
                          have c44b1:((qi.length:Int) != (wrap64 (qz+(qw.length:Int))))=false:=bne_eq_false_iff_eq.mpr c44
                          clear c44
                          obtain rfl:=Option.some.inj H
                          obtain⟨Ao45,co45,eo45⟩:=Nm qb.out
                          subst eo45
                          obtain⟨Ao46,co46,eo46⟩:=Nm qh.out
                          subst eo46
                          obtain⟨Ao47,co47,eo47⟩:=Nm yb.out
                          subst eo47
                          obtain⟨Ao48,co48,eo48⟩:=Nm yc.out
                          subst eo48
                          go_wp2
                          repeat(go_quiet (fail);try go_wp2)
                          go_ret
                          exact⟨by first|rfl|(simp [errW_none,errW_some] <;> rfl)|(simp [*,errW_none,errW_some] <;> rfl),by repeat(first|(with_reducible first|exact HB.out|apply Nf|apply Ne|apply Ng)|exact HB.out)⟩
                        · rw [if_neg c44] at H
                          have c44b0:((qi.length:Int) == (wrap64 (qz+(qw.length:Int))))=false:=beq_eq_false_iff_ne.mpr c44
                          have c44b1:((qi.length:Int) != (wrap64 (qz+(qw.length:Int))))=true:=bne_iff_ne.mpr c44
                          obtain rfl:=Option.some.inj H
                          obtain⟨Ao49,co49,eo49⟩:=Nm qb.out
                          subst eo49
                          obtain⟨Ao50,co50,eo50⟩:=Nm qh.out
                          subst eo50
                          obtain⟨Ao51,co51,eo51⟩:=Nm yb.out
                          subst eo51
                          go_wp2
                          repeat(go_quiet (fail);try go_wp2)
                          go_ret
                          exact⟨by first|rfl|(simp [errW_none,errW_some] <;> rfl)|(simp [*,errW_none,errW_some] <;> rfl),by repeat(first|(with_reducible first|exact HB.out|apply Nf|apply Ne|apply Ng)|exact HB.out)⟩
                      · rw [if_neg c43] at H
                        have c43b0:((wrap64 ((qc.length:Int) - (qk.length:Int))) == (wrap64 ((qe.length:Int) - (qw.length:Int))))=false:=beq_eq_false_iff_ne.mpr c43
                        have c43b1:((wrap64 ((qc.length:Int) - (qk.length:Int))) != (wrap64 ((qe.length:Int) - (qw.length:Int))))=true:=bne_iff_ne.mpr c43
                        obtain rfl:=Option.some.inj H
                        obtain⟨Ao52,co52,eo52⟩:=Nm qb.out
                        subst eo52
                        obtain⟨Ao53,co53,eo53⟩:=Nm qh.out
                        subst eo53
                        obtain⟨Ao54,co54,eo54⟩:=Nm yb.out
                        subst eo54
                        go_wp2
                        repeat(go_quiet (fail);try go_wp2)
                        go_ret
                        exact⟨by first|rfl|(simp [errW_none,errW_some] <;> rfl)|(simp [*,errW_none,errW_some] <;> rfl),by repeat(first|(with_reducible first|exact HB.out|apply Nf|apply Ne|apply Ng)|exact HB.out)⟩

/-- THE ONE PURE STATEMENT of laws_FnUpdated: yours. -/
def laws_FnUpdated.Pure : Prop := ∀ (l0 : List Int), l0.length ≤ maxLen → l0.length * 1 ≤ 140737488351232 → (∀ x ∈ l0, (Lit.int .u8 x).wf = true) → ∃ k, laws_FnUpdated.f k l0 = some true
theorem laws_FnUpdated.walk (P : laws_FnUpdated.Pure) (a0 : Option Addr) (len0 cap0 : Nat) (z0 : List Int) (w : World) (w0 : (a0 = none ∧ len0 = 0 ∧ cap0 = 0 ∧ z0 = []) ∨ ∃ x, a0 = some x ∧ len0 ≤ cap0 ∧ cap0 ≤ maxLen ∧ z0.length = cap0 ∧ (∀ i, i < z0.length → w.cell? (x.add i) = some (.int .u8 (z0.getD i 0))) ∧ ∀ n ∈ z0, (Lit.int .u8 n).wf = true) (y0 : len0 * 1 ≤ 140737488351232) :
    Calls Try.prog 9 #[.slice a0 len0 cap0] w fun e w'=>e=.returned (.bool true)∧Below w.heap.size w w':=by
  obtain⟨l0,rfl,hr0,hm0,hw0,hc0⟩:=ReadsInt.ofRowC w0
  obtain⟨k,h⟩:=P l0 hm0 y0 hw0
  refine(laws_FnUpdated.calls k _ _ l0 true w (Kd.C_of_reads (d:=(0:Int)) (h1:=fun _=>rfl) hr0) hc0 h).mono ?_
  rintro e w' ⟨rfl,hd⟩
  exact⟨rfl,hd⟩

end Go.Proofs.Ytelcpfanjjfgdaa.HFnUpdated
