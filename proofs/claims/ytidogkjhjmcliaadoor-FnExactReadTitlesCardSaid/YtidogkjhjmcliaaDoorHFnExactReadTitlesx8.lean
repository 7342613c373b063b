-- Laid by myprint.py, a program of this repo, out of the kit's printer and this repo's own texts (wip/hand).
import Derived.Test.YtidogkjhjmcliaaDoorHFnExactReadTitlesx0
import Derived.Test.YtidogkjhjmcliaaDoorHFnExactReadTitlesx6
import Derived.Test.YtidogkjhjmcliaaDoorHFnExactReadTitlesx7
namespace Go.Proofs.YtidogkjhjmcliaaDoor.HFnExactReadTitles
open Go.RowKit Go.Proofs.YtidogkjhjmcliaaDoorW.PrintWords Go.Proofs.YtidogkjhjmcliaaDoorW.PrintLast Go.Proofs.YtidogkjhjmcliaaDoorW.PrintMore
attribute [local go_sem] max2_int min2_int max_two min_two max_three min_three max_four min_four   -- for this text's walks alone
set_option linter.unusedVariables false
set_option linter.unusedSimpArgs false
theorem Ia : type_of% @Aside0.mk := @Aside0.mk
theorem Ib : type_of% @blk_drew := @blk_drew
theorem Ic : type_of% @blk_alloc := @blk_alloc
theorem Id : type_of% @blk_drewN := @blk_drewN
theorem Ie : type_of% @below_set := @below_set
theorem If : type_of% @pw_below_drewN := @pw_below_drewN
theorem Ig : type_of% @below_drew1 := @below_drew1
theorem Ih : type_of% @below_alloc := @below_alloc
theorem Ii : type_of% @blk_cell := @blk_cell
theorem Ij : type_of% @any_of := @any_of
theorem Ik : type_of% @blk_frozen := @blk_frozen
theorem Il : type_of% @blk_put := @blk_put

/-! ### impl_readTitle: function 33 -/
mutual
def impl_readTitle.j0 : Nat → List (S40) → ByteArray → ByteArray → Bool → Bool → Bool → Bool → Int → Int → ByteArray → Option (Int × Int × ByteArray × ByteArray × Int)
 | 0, _, _, _, _, _, _, _, _, _, _ => none
 | k + 1, x0, x8, x11, x12, x17, x19, x59, x217000, x217001, x217002 => if x59 = true then (some (0, 0, (⟨#[]⟩ : ByteArray), (⟨#[]⟩ : ByteArray), 2)) else (if x12 = true then (if x17 = true then (impl_readTitle.j1 k x0 x8 x11 (!x19) x217000 x217001 x217002) else (impl_readTitle.j1 k x0 x8 x11 true x217000 x217001 x217002)) else (impl_readTitle.j1 k x0 x8 x11 true x217000 x217001 x217002))
def impl_readTitle.j1 : Nat → List (S40) → ByteArray → ByteArray → Bool → Int → Int → ByteArray → Option (Int × Int × ByteArray × ByteArray × Int)
 | 0, _, _, _, _, _, _, _ => none
 | k + 1, x0, x8, x11, x71, x217000, x217001, x217002 => if x71 = true then (some (0, 0, (⟨#[]⟩ : ByteArray), (⟨#[]⟩ : ByteArray), 3)) else ((impl_Title_timesOk.f x217000 x217001 x217002).bind fun t221 => (if t221 = true then (if (x0.length : Int) > 0 then (if 0 ≤ (wrap64 ((x0.length : Int) - 1)) then (if (wrap64 ((x0.length : Int) - 1)) < (x0.length : Int) then (impl_readTitle.j2 k x0 x8 x11 (decide (x217000 < ((rd_T40 x0 (wrap64 ((x0.length : Int) - 1))).f1))) x217000 x217001 x217002) else (none)) else (none)) else (impl_readTitle.j2 k x0 x8 x11 false x217000 x217001 x217002)) else (impl_readTitle.j2 k x0 x8 x11 true x217000 x217001 x217002)))
def impl_readTitle.j2 : Nat → List (S40) → ByteArray → ByteArray → Bool → Int → Int → ByteArray → Option (Int × Int × ByteArray × ByteArray × Int)
 | 0, _, _, _, _, _, _, _ => none
 | k + 1, x0, x8, x11, x83, x217000, x217001, x217002 => if x83 = true then (some (0, 0, (⟨#[]⟩ : ByteArray), (⟨#[]⟩ : ByteArray), 4)) else ((strings_Contains.f x11 (⟨#[10, 10]⟩ : ByteArray)).bind fun t223 => (if t223 = true then ((strings_HasPrefix.f x11 (⟨#[10]⟩ : ByteArray)).bind fun yf => (if yf = true then (impl_readTitle.j3 k x0 x8 true x217000 x217001 x217002) else ((impl_textOk.f k x217002).bind fun qv => (impl_readTitle.j3 k x0 x8 (!qv) x217000 x217001 x217002)))) else (impl_readTitle.j3 k x0 x8 true x217000 x217001 x217002)))
def impl_readTitle.j3 : Nat → List (S40) → ByteArray → Bool → Int → Int → ByteArray → Option (Int × Int × ByteArray × ByteArray × Int)
 | 0, _, _, _, _, _, _ => none
 | k + 1, x0, x8, x105, x217000, x217001, x217002 => if x105 = true then (some (0, 0, (⟨#[]⟩ : ByteArray), (⟨#[]⟩ : ByteArray), 5)) else (if (x0.length : Int) ≥ 200 then (some (0, 0, (⟨#[]⟩ : ByteArray), (⟨#[]⟩ : ByteArray), 6)) else (some (x217000, x217001, x217002, x8, 0)))
end
def impl_readTitle.f (k : Nat) (l0 : List (S40)) (a1 : ByteArray) : Option (Int × Int × ByteArray × ByteArray × Int) := (strings_Cut.f a1 (⟨#[10]⟩ : ByteArray)).bind fun bt203 => ((strings_Cut.f bt203.2.1 (⟨#[10]⟩ : ByteArray)).bind fun bt206 => ((strings_Cut.f bt206.1 (⟨#[32, 45, 45, 62, 32]⟩ : ByteArray)).bind fun bt209 => ((impl_milliOf.f k bt209.1).bind fun bt212 => ((impl_milliOf.f k bt209.2.1).bind fun bt214 => ((strings_Cut.f bt206.2.1 (⟨#[10, 10]⟩ : ByteArray)).bind fun bt217 => (if bt203.2.2 = true then ((strconv_Itoa_26.f (wrap64 ((l0.length : Int) + 1))).bind fun qn => (impl_readTitle.j0 k l0 bt217.2.1 bt206.2.1 bt206.2.2 bt212.2 bt214.2 (bt203.1.toList != qn.toList) bt212.1 bt214.1 bt217.1)) else (impl_readTitle.j0 k l0 bt217.2.1 bt206.2.1 bt206.2.2 bt212.2 bt214.2 true bt212.1 bt214.1 bt217.1)))))))
theorem impl_readTitle.mono_l : ∀ k, (∀ y0 y1 y2 y3 y4 y5 y6 y7 y8 y9, LeO (impl_readTitle.j0 k y0 y1 y2 y3 y4 y5 y6 y7 y8 y9) (impl_readTitle.j0 (k + 1) y0 y1 y2 y3 y4 y5 y6 y7 y8 y9)) ∧ (∀ y0 y1 y2 y3 y4 y5 y6, LeO (impl_readTitle.j1 k y0 y1 y2 y3 y4 y5 y6) (impl_readTitle.j1 (k + 1) y0 y1 y2 y3 y4 y5 y6)) ∧ (∀ y0 y1 y2 y3 y4 y5 y6, LeO (impl_readTitle.j2 k y0 y1 y2 y3 y4 y5 y6) (impl_readTitle.j2 (k + 1) y0 y1 y2 y3 y4 y5 y6)) ∧ (∀ y0 y1 y2 y3 y4 y5, LeO (impl_readTitle.j3 k y0 y1 y2 y3 y4 y5) (impl_readTitle.j3 (k + 1) y0 y1 y2 y3 y4 y5))
 | 0 => ⟨fun _ _ _ _ _ _ _ _ _ _ r h => by simp [impl_readTitle.j0] at h, fun _ _ _ _ _ _ _ r h => by simp [impl_readTitle.j1] at h, fun _ _ _ _ _ _ _ r h => by simp [impl_readTitle.j2] at h, fun _ _ _ _ _ _ r h => by simp [impl_readTitle.j3] at h⟩
 | k + 1 => by
  obtain⟨ih0,ih1,ih2,ih3⟩:=impl_readTitle.mono_l k
  refine⟨?_,?_,?_,?_⟩
  ·intro y0 y1 y2 y3 y4 y5 y6 y7 y8 y9
   unfold impl_readTitle.j0
   repeat' first
   | (with_reducible exact ih0 _ _ _ _ _ _ _ _ _ _)
   | (with_reducible exact ih1 _ _ _ _ _ _ _)
   | (with_reducible exact ih2 _ _ _ _ _ _ _)
   | (with_reducible exact ih3 _ _ _ _ _ _)
   | (with_reducible exact impl_milliOf.mono _ _)
   | (with_reducible exact impl_textOk.mono _ _)
   | (with_reducible exact LeO.refl _)
   | (with_reducible exact LeO.none _)
   | (with_reducible refine LeO.ite ?_ ?_)
   | (with_reducible refine LeO.bind ?_ (fun _ => ?_))
   | exact ih0 _ _ _ _ _ _ _ _ _ _
   | exact ih1 _ _ _ _ _ _ _
   | exact ih2 _ _ _ _ _ _ _
   | exact ih3 _ _ _ _ _ _
   | exact impl_milliOf.mono _ _
   | exact impl_textOk.mono _ _
   | exact LeO.none _
   | refine LeO.ite ?_ ?_
   | refine LeO.bind ?_ (fun _ => ?_)
  ·intro y0 y1 y2 y3 y4 y5 y6
   unfold impl_readTitle.j1
   repeat' first
   | (with_reducible exact ih0 _ _ _ _ _ _ _ _ _ _)
   | (with_reducible exact ih1 _ _ _ _ _ _ _)
   | (with_reducible exact ih2 _ _ _ _ _ _ _)
   | (with_reducible exact ih3 _ _ _ _ _ _)
   | (with_reducible exact impl_milliOf.mono _ _)
   | (with_reducible exact impl_textOk.mono _ _)
   | (with_reducible exact LeO.refl _)
   | (with_reducible exact LeO.none _)
   | (with_reducible refine LeO.ite ?_ ?_)
   | (with_reducible refine LeO.bind ?_ (fun _ => ?_))
   | exact ih0 _ _ _ _ _ _ _ _ _ _
   | exact ih1 _ _ _ _ _ _ _
   | exact ih2 _ _ _ _ _ _ _
   | exact ih3 _ _ _ _ _ _
   | exact impl_milliOf.mono _ _
   | exact impl_textOk.mono _ _
   | exact LeO.none _
   | refine LeO.ite ?_ ?_
   | refine LeO.bind ?_ (fun _ => ?_)
  ·intro y0 y1 y2 y3 y4 y5 y6
   unfold impl_readTitle.j2
   repeat' first
   | (with_reducible exact ih0 _ _ _ _ _ _ _ _ _ _)
   | (with_reducible exact ih1 _ _ _ _ _ _ _)
   | (with_reducible exact ih2 _ _ _ _ _ _ _)
   | (with_reducible exact ih3 _ _ _ _ _ _)
   | (with_reducible exact impl_milliOf.mono _ _)
   | (with_reducible exact impl_textOk.mono _ _)
   | (with_reducible exact LeO.refl _)
   | (with_reducible exact LeO.none _)
   | (with_reducible refine LeO.ite ?_ ?_)
   | (with_reducible refine LeO.bind ?_ (fun _ => ?_))
   | exact ih0 _ _ _ _ _ _ _ _ _ _
   | exact ih1 _ _ _ _ _ _ _
   | exact ih2 _ _ _ _ _ _ _
   | exact ih3 _ _ _ _ _ _
   | exact impl_milliOf.mono _ _
   | exact impl_textOk.mono _ _
   | exact LeO.none _
   | refine LeO.ite ?_ ?_
   | refine LeO.bind ?_ (fun _ => ?_)
  ·intro y0 y1 y2 y3 y4 y5
   unfold impl_readTitle.j3
   repeat' first
   | (with_reducible exact ih0 _ _ _ _ _ _ _ _ _ _)
   | (with_reducible exact ih1 _ _ _ _ _ _ _)
   | (with_reducible exact ih2 _ _ _ _ _ _ _)
   | (with_reducible exact ih3 _ _ _ _ _ _)
   | (with_reducible exact impl_milliOf.mono _ _)
   | (with_reducible exact impl_textOk.mono _ _)
   | (with_reducible exact LeO.refl _)
   | (with_reducible exact LeO.none _)
   | (with_reducible refine LeO.ite ?_ ?_)
   | (with_reducible refine LeO.bind ?_ (fun _ => ?_))
   | exact ih0 _ _ _ _ _ _ _ _ _ _
   | exact ih1 _ _ _ _ _ _ _
   | exact ih2 _ _ _ _ _ _ _
   | exact ih3 _ _ _ _ _ _
   | exact impl_milliOf.mono _ _
   | exact impl_textOk.mono _ _
   | exact LeO.none _
   | refine LeO.ite ?_ ?_
   | refine LeO.bind ?_ (fun _ => ?_)
theorem impl_readTitle.mono : ∀ a0 a1 k, LeO (impl_readTitle.f k a0 a1) (impl_readTitle.f (k + 1) a0 a1) := by
 intro a0 a1 k
 obtain⟨ih0,ih1,ih2,ih3⟩:=impl_readTitle.mono_l k
 unfold impl_readTitle.f
 repeat' first
   | (with_reducible exact ih0 _ _ _ _ _ _ _ _ _ _)
   | (with_reducible exact ih1 _ _ _ _ _ _ _)
   | (with_reducible exact ih2 _ _ _ _ _ _ _)
   | (with_reducible exact ih3 _ _ _ _ _ _)
   | (with_reducible exact impl_milliOf.mono _ _)
   | (with_reducible exact impl_textOk.mono _ _)
   | (with_reducible exact LeO.refl _)
   | (with_reducible exact LeO.none _)
   | (with_reducible refine LeO.ite ?_ ?_)
   | (with_reducible refine LeO.bind ?_ (fun _ => ?_))
   | exact ih0 _ _ _ _ _ _ _ _ _ _
   | exact ih1 _ _ _ _ _ _ _
   | exact ih2 _ _ _ _ _ _ _
   | exact ih3 _ _ _ _ _ _
   | exact impl_milliOf.mono _ _
   | exact impl_textOk.mono _ _
   | exact LeO.none _
   | refine LeO.ite ?_ ?_
   | refine LeO.bind ?_ (fun _ => ?_)
def impl_readTitle.T12 : Bool × List (List Nat × List Nat) := (true, [([], []), ([0], [0]), ([1], [1]), ([2, 1], [2]), ([3], [3]), ([4, 3], [3, 4]), ([5, 3], [3, 5]), ([6, 3, 3], [3, 6]), ([7], [7]), ([8, 7], [7, 8]), ([7], [7]), ([7], [7]), ([11, 7], [7, 11]), ([12, 7], [7, 12]), ([10, 13, 7], [7, 10, 13]), ([14, 7], [7, 14]), ([15, 7], [7, 15]), ([9, 16, 7], [7, 9, 16]), ([7, 17, 3], [3, 7, 17]), ([3, 18], [3, 18]), ([19, 7], [19])])
def impl_readTitle.B12 : List Nat := [0, 1, 3, 7, 15, 31, 63, 127, 255, 511, 255, 255, 2303, 6399, 15615, 31999, 64767, 131071, 262143, 524287, 1048575]
theorem impl_readTitle.tab12 : rtab .any (opsOf Tryd.f33 12) = impl_readTitle.T12 := by kernel_rfl
theorem impl_readTitle.bits12 : waitsOk impl_readTitle.T12.2 impl_readTitle.B12 = true := by kernel_rfl
set_option maxHeartbeats 8000000 in
set_option maxRecDepth 100000 in
theorem impl_readTitle.calls (k : Nat) (A0 : Option Addr) (c0 : Nat) (l0 : List (S40)) (a1 : ByteArray) (r1 : Int) (r2 : Int) (r3 : ByteArray) (r4 : ByteArray) (r5 : Int) (w : World) (hgl : Glob w) (hr0 : Kd.C k40 w A0 l0.length l0) (hc0 : l0.length ≤ c0) (h : impl_readTitle.f k l0 a1 = some (r1, r2, r3, r4, r5)) :
  Calls Tryd.prog 33 #[.slice A0 l0.length c0,.string a1] w fun e w'=>e=.returned (.tuple #[.agg #[.int .i64 r1,.int .i64 r2,.string r3],.string r4,.int .i64 r5])∧Below w.heap.size w w':=by
 have HGL:=Ia hgl
 clear hgl
 have hu40:=Tryd.underlying40
 have HR0:=Ia hr0
 have HC0:=Ia hc0
 clear hr0 hc0
 have HB:=Ia (Below.refl w.heap.size w)
 have H:((strings_Cut.f a1 (⟨#[10]⟩:ByteArray)).bind fun bt203=>((strings_Cut.f bt203.2.1 (⟨#[10]⟩:ByteArray)).bind fun bt206=>((strings_Cut.f bt206.1 (⟨#[32,45,45,62,32]⟩:ByteArray)).bind fun bt209=>((impl_milliOf.f k bt209.1).bind fun bt212=>((impl_milliOf.f k bt209.2.1).bind fun bt214=>((strings_Cut.f bt206.2.1 (⟨#[10,10]⟩:ByteArray)).bind fun bt217=>(if bt203.2.2=true then ((strconv_Itoa_26.f (wrap64 ((l0.length:Int)+1))).bind fun qn=>(impl_readTitle.j0 k l0 bt217.2.1 bt206.2.1 bt206.2.2 bt212.2 bt214.2 (bt203.1.toList != qn.toList) bt212.1 bt214.1 bt217.1)) else (impl_readTitle.j0 k l0 bt217.2.1 bt206.2.1 bt206.2.2 bt212.2 bt214.2 true bt212.1 bt214.1 bt217.1))))))))=some (r1,r2,r3,r4,r5):=h
 clear h
 replace H:=Option.bind_eq_some_iff.mp H
 obtain⟨⟨ye,t204,t205⟩,A30,H⟩:=H
 replace H:((strings_Cut.f t204 (⟨#[10]⟩:ByteArray)).bind fun bt206=>((strings_Cut.f bt206.1 (⟨#[32,45,45,62,32]⟩:ByteArray)).bind fun bt209=>((impl_milliOf.f k bt209.1).bind fun bt212=>((impl_milliOf.f k bt209.2.1).bind fun bt214=>((strings_Cut.f bt206.2.1 (⟨#[10,10]⟩:ByteArray)).bind fun bt217=>(if t205=true then ((strconv_Itoa_26.f (wrap64 ((l0.length:Int)+1))).bind fun qn=>(impl_readTitle.j0 k l0 bt217.2.1 bt206.2.1 bt206.2.2 bt212.2 bt214.2 (ye.toList != qn.toList) bt212.1 bt214.1 bt217.1)) else (impl_readTitle.j0 k l0 bt217.2.1 bt206.2.1 bt206.2.2 bt212.2 bt214.2 true bt212.1 bt214.1 bt217.1)))))))=some (r1,r2,r3,r4,r5):=H
 have A3:=Ia A30
 clear A30
 replace H:=Option.bind_eq_some_iff.mp H
 obtain⟨⟨t206,qi,qu⟩,A40,H⟩:=H
 replace H:((strings_Cut.f t206 (⟨#[32,45,45,62,32]⟩:ByteArray)).bind fun bt209=>((impl_milliOf.f k bt209.1).bind fun bt212=>((impl_milliOf.f k bt209.2.1).bind fun bt214=>((strings_Cut.f qi (⟨#[10,10]⟩:ByteArray)).bind fun bt217=>(if t205=true then ((strconv_Itoa_26.f (wrap64 ((l0.length:Int)+1))).bind fun qn=>(impl_readTitle.j0 k l0 bt217.2.1 qi qu bt212.2 bt214.2 (ye.toList != qn.toList) bt212.1 bt214.1 bt217.1)) else (impl_readTitle.j0 k l0 bt217.2.1 qi qu bt212.2 bt214.2 true bt212.1 bt214.1 bt217.1))))))=some (r1,r2,r3,r4,r5):=H
 have A4:=Ia A40
 clear A40
 replace H:=Option.bind_eq_some_iff.mp H
 obtain⟨⟨t209,t210,t211⟩,A50,H⟩:=H
 replace H:((impl_milliOf.f k t209).bind fun bt212=>((impl_milliOf.f k t210).bind fun bt214=>((strings_Cut.f qi (⟨#[10,10]⟩:ByteArray)).bind fun bt217=>(if t205=true then ((strconv_Itoa_26.f (wrap64 ((l0.length:Int)+1))).bind fun qn=>(impl_readTitle.j0 k l0 bt217.2.1 qi qu bt212.2 bt214.2 (ye.toList != qn.toList) bt212.1 bt214.1 bt217.1)) else (impl_readTitle.j0 k l0 bt217.2.1 qi qu bt212.2 bt214.2 true bt212.1 bt214.1 bt217.1)))))=some (r1,r2,r3,r4,r5):=H
 have A5:=Ia A50
 clear A50
 replace H:=Option.bind_eq_some_iff.mp H
 obtain⟨⟨qc,qw⟩,A60,H⟩:=H
 replace H:((impl_milliOf.f k t210).bind fun bt214=>((strings_Cut.f qi (⟨#[10,10]⟩:ByteArray)).bind fun bt217=>(if t205=true then ((strconv_Itoa_26.f (wrap64 ((l0.length:Int)+1))).bind fun qn=>(impl_readTitle.j0 k l0 bt217.2.1 qi qu qw bt214.2 (ye.toList != qn.toList) qc bt214.1 bt217.1)) else (impl_readTitle.j0 k l0 bt217.2.1 qi qu qw bt214.2 true qc bt214.1 bt217.1))))=some (r1,r2,r3,r4,r5):=H
 have A6:=Ia A60
 clear A60
 replace H:=Option.bind_eq_some_iff.mp H
 obtain⟨⟨qd,qx⟩,A70,H⟩:=H
 replace H:((strings_Cut.f qi (⟨#[10,10]⟩:ByteArray)).bind fun bt217=>(if t205=true then ((strconv_Itoa_26.f (wrap64 ((l0.length:Int)+1))).bind fun qn=>(impl_readTitle.j0 k l0 bt217.2.1 qi qu qw qx (ye.toList != qn.toList) qc qd bt217.1)) else (impl_readTitle.j0 k l0 bt217.2.1 qi qu qw qx true qc qd bt217.1)))=some (r1,r2,r3,r4,r5):=H
 have A7:=Ia A70
 clear A70
 replace H:=Option.bind_eq_some_iff.mp H
 obtain⟨⟨qe,ql,t219⟩,A80,H⟩:=H
 replace H:(if t205=true then ((strconv_Itoa_26.f (wrap64 ((l0.length:Int)+1))).bind fun qn=>(impl_readTitle.j0 k l0 ql qi qu qw qx (ye.toList != qn.toList) qc qd qe)) else (impl_readTitle.j0 k l0 ql qi qu qw qx true qc qd qe))=some (r1,r2,r3,r4,r5):=H
 have A8:=Ia A80
 clear A80
 have HC9:=Ia H
 clear H
 go_enter Tryd.func33,Tryd.ntmps33
 go_upto_region 8 with (first|((with_reducible refine gate_dst (N:=4) rfl ?_);(try(refine gate_guard (by rfl) ?_;dsimp only));refine box_event ?hg (N:=4) ?hd (cs:=#[.int .i64 0,.int .i64 0,.string (⟨#[]⟩:ByteArray)]) (t:=40) ?hr ?_;(case hd=>rfl);(case hg=>rfl);(case hr=>first|(go_simp;done)|(go_simp;rfl));intro qf hg w10 hbox hb;have qp:=Ia (below_step (by repeat(first|(with_reducible first|exact HB.out|apply Ih|apply If|apply Ig)|exact HB.out)) hb);have qq:=Ia (hbox);have qy:=Ia ((by rw [hg];exact(below_size (by repeat(first|(with_reducible first|exact HB.out|apply Ih|apply If|apply Ig)|exact HB.out))):w.heap.size≤qf));have n3_:=Ia ((by rw [hg];exact(below_size (by repeat(first|(with_reducible first|exact HB.out|apply Ih|apply If|apply Ig)|exact HB.out))):w.heap.size≤qf));clear HB;have HB:=qp;have qa:=qq;have GW202:=qy;have qg:=n3_;clear qp qq qy n3_;clear hb hbox hg)|((with_reducible refine gate_callee (f:=46) rfl ?_);refine goesL_ (some 23) rfl rfl Tryd.func46 (by kernel_rfl) rfl #[.string a1,.string (⟨#[10]⟩:ByteArray)] rfl (by(try simp only [List.map_toArray,List.map_cons,List.map_nil]);first|done|rfl|(simp only [List.length_drop,List.length_take];rfl)) ?_;(with_reducible refine(strings_Cut.calls a1 (⟨#[10]⟩:ByteArray) ye t204 t205 _ (by first|exact HGL.out|((repeat(with_reducible refine Glob.drewN ?_));exact HGL.out)|exact Glob.below HGL.out (by repeat(first|(with_reducible first|exact HB.out|apply Ih|apply If|apply Ig|refine Ie ?_ qg.out|refine Ie ?_ qj.out)|exact HB.out))) A3.out).mono ?_);rintro e w' ⟨rfl,⟨nd,rfl⟩⟩;refine⟨_,rfl,?_⟩;(try(rw [drewN_self w10];generalize hq_:World.drewN w10 _=w10;have qp:Aside0 (w10.heap[qf]? = some (.cells #[.int .i64 0,.int .i64 0,.string (⟨#[]⟩:ByteArray)] 40 (0,0))):=⟨by rw [← hq_];exact(by(with_reducible repeat(first|refine Id ?_ _|refine Ib ?_|refine Ic ?_ _));exact qa.out)⟩;have qq:Aside0 (Below w.heap.size w w10):=⟨by rw [← hq_];exact(by repeat(first|(with_reducible first|exact HB.out|apply Ih|apply If|apply Ig|refine Ie ?_ qg.out)|exact HB.out))⟩;clear qa HB hq_;have qa:=qp;have HB:=qq;clear qp qq)))|((with_reducible refine gate_callee (f:=46) rfl ?_);refine goesL_ (some 29) rfl rfl Tryd.func46 (by kernel_rfl) rfl #[.string t204,.string (⟨#[10]⟩:ByteArray)] rfl (by(try simp only [List.map_toArray,List.map_cons,List.map_nil]);first|done|rfl|(simp only [List.length_drop,List.length_take];rfl)) ?_;(with_reducible refine(strings_Cut.calls t204 (⟨#[10]⟩:ByteArray) t206 qi qu _ (by first|exact HGL.out|((repeat(with_reducible refine Glob.drewN ?_));exact HGL.out)|exact Glob.below HGL.out (by repeat(first|(with_reducible first|exact HB.out|apply Ih|apply If|apply Ig|refine Ie ?_ qg.out|refine Ie ?_ qj.out)|exact HB.out))) A4.out).mono ?_);rintro e w' ⟨rfl,⟨nd,rfl⟩⟩;refine⟨_,rfl,?_⟩;(try(rw [drewN_self w10];generalize hq_:World.drewN w10 _=w10;have qp:Aside0 (w10.heap[qf]? = some (.cells #[.int .i64 0,.int .i64 0,.string (⟨#[]⟩:ByteArray)] 40 (0,0))):=⟨by rw [← hq_];exact(by(with_reducible repeat(first|refine Id ?_ _|refine Ib ?_|refine Ic ?_ _));exact qa.out)⟩;have qq:Aside0 (Below w.heap.size w w10):=⟨by rw [← hq_];exact(by repeat(first|(with_reducible first|exact HB.out|apply Ih|apply If|apply Ig|refine Ie ?_ qg.out)|exact HB.out))⟩;clear qa HB hq_;have qa:=qp;have HB:=qq;clear qp qq)))|((with_reducible refine gate_callee (f:=46) rfl ?_);refine goesL_ (some 35) rfl rfl Tryd.func46 (by kernel_rfl) rfl #[.string t206,.string (⟨#[32,45,45,62,32]⟩:ByteArray)] rfl (by(try simp only [List.map_toArray,List.map_cons,List.map_nil]);first|done|rfl|(simp only [List.length_drop,List.length_take];rfl)) ?_;(with_reducible refine(strings_Cut.calls t206 (⟨#[32,45,45,62,32]⟩:ByteArray) t209 t210 t211 _ (by first|exact HGL.out|((repeat(with_reducible refine Glob.drewN ?_));exact HGL.out)|exact Glob.below HGL.out (by repeat(first|(with_reducible first|exact HB.out|apply Ih|apply If|apply Ig|refine Ie ?_ qg.out|refine Ie ?_ qj.out)|exact HB.out))) A5.out).mono ?_);rintro e w' ⟨rfl,⟨nd,rfl⟩⟩;refine⟨_,rfl,?_⟩;(try(rw [drewN_self w10];generalize hq_:World.drewN w10 _=w10;have qp:Aside0 (w10.heap[qf]? = some (.cells #[.int .i64 0,.int .i64 0,.string (⟨#[]⟩:ByteArray)] 40 (0,0))):=⟨by rw [← hq_];exact(by(with_reducible repeat(first|refine Id ?_ _|refine Ib ?_|refine Ic ?_ _));exact qa.out)⟩;have qq:Aside0 (Below w.heap.size w w10):=⟨by rw [← hq_];exact(by repeat(first|(with_reducible first|exact HB.out|apply Ih|apply If|apply Ig|refine Ie ?_ qg.out)|exact HB.out))⟩;clear qa HB hq_;have qa:=qp;have HB:=qq;clear qp qq)))|((with_reducible refine gate_callee (f:=47) rfl ?_);refine goesL_ (some 41) rfl rfl Tryd.func47 (by kernel_rfl) rfl #[.string t209] rfl (by(try simp only [List.map_toArray,List.map_cons,List.map_nil]);first|done|rfl|(simp only [List.length_drop,List.length_take];rfl)) ?_;(with_reducible refine(impl_milliOf.calls k t209 qc qw _ (by first|exact HGL.out|((repeat(with_reducible refine Glob.drewN ?_));exact HGL.out)|exact Glob.below HGL.out (by repeat(first|(with_reducible first|exact HB.out|apply Ih|apply If|apply Ig|refine Ie ?_ qg.out|refine Ie ?_ qj.out)|exact HB.out))) A6.out).mono ?_);rintro e w11 ⟨rfl,hb⟩;refine⟨_,rfl,?_⟩;have qp:=Ia (blk_below (g:=qf) (o:=.cells #[.int .i64 0,.int .i64 0,.string (⟨#[]⟩:ByteArray)] 40 (0,0)) (by(with_reducible repeat(first|refine Id ?_ _|refine Ib ?_|refine Ic ?_ _));exact qa.out) hb);have qq:=Ia (below_step (by repeat(first|(with_reducible first|exact HB.out|apply Ih|apply If|apply Ig|refine Ie ?_ qg.out)|exact HB.out)) hb);clear qa;clear HB;have qa:=qp;have HB:=qq;clear qp qq;(try clear hb);(try clear hb2);(try clear hk);(try clear hi))|((with_reducible refine gate_callee (f:=47) rfl ?_);refine goesL_ (some 46) rfl rfl Tryd.func47 (by kernel_rfl) rfl #[.string t210] rfl (by(try simp only [List.map_toArray,List.map_cons,List.map_nil]);first|done|rfl|(simp only [List.length_drop,List.length_take];rfl)) ?_;(with_reducible refine(impl_milliOf.calls k t210 qd qx _ (by first|exact HGL.out|((repeat(with_reducible refine Glob.drewN ?_));exact HGL.out)|exact Glob.below HGL.out (by repeat(first|(with_reducible first|exact HB.out|apply Ih|apply If|apply Ig|refine Ie ?_ qg.out|refine Ie ?_ qj.out)|exact HB.out))) A7.out).mono ?_);rintro e w12 ⟨rfl,hb⟩;refine⟨_,rfl,?_⟩;have qp:=Ia (blk_below (g:=qf) (o:=.cells #[.int .i64 0,.int .i64 0,.string (⟨#[]⟩:ByteArray)] 40 (0,0)) (by(with_reducible repeat(first|refine Id ?_ _|refine Ib ?_|refine Ic ?_ _));exact qa.out) hb);have qq:=Ia (below_step (by repeat(first|(with_reducible first|exact HB.out|apply Ih|apply If|apply Ig|refine Ie ?_ qg.out)|exact HB.out)) hb);clear qa;clear HB;have qa:=qp;have HB:=qq;clear qp qq;(try clear hb);(try clear hb2);(try clear hk);(try clear hi))|((with_reducible refine gate_dst (N:=20) rfl ?_);(try(refine gate_guard (by rfl) ?_;dsimp only));refine box_event ?hg (N:=20) ?hd (cs:=#[.int .i64 0,.int .i64 0,.string (⟨#[]⟩:ByteArray)]) (t:=40) ?hr ?_;(case hd=>rfl);(case hg=>rfl);(case hr=>first|(go_simp;done)|(go_simp;rfl));intro qk hg w13 hbox hb;have qp:=Ia (blk_below (g:=qf) (o:=.cells #[.int .i64 0,.int .i64 0,.string (⟨#[]⟩:ByteArray)] 40 (0,0)) (by(with_reducible repeat(first|refine Id ?_ _|refine Ib ?_|refine Ic ?_ _));exact qa.out) hb);have qq:=Ia (below_step (by repeat(first|(with_reducible first|exact HB.out|apply Ih|apply If|apply Ig|refine Ie ?_ qg.out)|exact HB.out)) hb);have qy:=Ia (hbox);have n3_:=Ia ((by rw [hg];exact(below_size (by repeat(first|(with_reducible first|exact HB.out|apply Ih|apply If|apply Ig|refine Ie ?_ qg.out)|exact HB.out))):w.heap.size≤qk));have n4_:=Ia ((by rw [hg];exact(below_size (by repeat(first|(with_reducible first|exact HB.out|apply Ih|apply If|apply Ig|refine Ie ?_ qg.out)|exact HB.out))):w.heap.size≤qk));have n5_:=Ia ((by rw [hg];exact Nat.ne_of_lt (blk_lt (g:=qf) (o:=.cells #[.int .i64 0,.int .i64 0,.string (⟨#[]⟩:ByteArray)] 40 (0,0)) (by(with_reducible repeat(first|refine Id ?_ _|refine Ib ?_|refine Ic ?_ _));exact qa.out)):qf≠qk));have n6_:=Ia ((by rw [hg];exact Nat.ne_of_gt (blk_lt (g:=qf) (o:=.cells #[.int .i64 0,.int .i64 0,.string (⟨#[]⟩:ByteArray)] 40 (0,0)) (by(with_reducible repeat(first|refine Id ?_ _|refine Ib ?_|refine Ic ?_ _));exact qa.out)):qk≠qf));clear qa;clear HB;have qa:=qp;have HB:=qq;have qb:=qy;have GW216:=n3_;have qj:=n4_;have qh:=n5_;have qm:=n6_;clear qp qq qy n3_ n4_ n5_ n6_;clear hb hbox hg;have hnb14:=qm.out;have hnc14:=qh.out;have hcz15_0:w13.cell? ⟨qk,0,none⟩=some (.int .i64 0):=(Ii qb.out 0).trans rfl;have hcz15_1:w13.cell? ⟨qk,1,none⟩=some (.int .i64 0):=(Ii qb.out 1).trans rfl;have hcz15_2:w13.cell? ⟨qk,2,none⟩=some (.string (⟨#[]⟩:ByteArray)):=(Ii qb.out 2).trans rfl;have hfz15_0:=Ik qb.out 0;have hfz15_1:=Ik qb.out 1;have hfz15_2:=Ik qb.out 2)|((with_reducible refine gate_callee (f:=46) rfl ?_);refine goesL_ (some 54) rfl rfl Tryd.func46 (by kernel_rfl) rfl #[.string qi,.string (⟨#[10,10]⟩:ByteArray)] rfl (by(try simp only [List.map_toArray,List.map_cons,List.map_nil]);first|done|rfl|(simp only [List.length_drop,List.length_take];rfl)) ?_;(with_reducible refine(strings_Cut.calls qi (⟨#[10,10]⟩:ByteArray) qe ql t219 _ (by first|exact HGL.out|((repeat(with_reducible refine Glob.drewN ?_));exact HGL.out)|exact Glob.below HGL.out (by repeat(first|(with_reducible first|exact HB.out|apply Ih|apply If|apply Ig|refine Ie ?_ qg.out|refine Ie ?_ qj.out)|exact HB.out))) A8.out).mono ?_);rintro e w' ⟨rfl,⟨nd,rfl⟩⟩;refine⟨_,rfl,?_⟩))
 (try simp only [Act.put,List.setIfInBounds_toArray,List.set_cons_zero,List.set_cons_succ])
 go_cut [59] (fun v59 wc=>∃ (kq:Nat) (x59_8:Bool),v59=.bool x59_8∧Aside0 (impl_readTitle.j0 kq l0 ql qi qu qw qx x59_8 qc qd qe=some (r1,r2,r3,r4,r5))∧Aside0 (kq≤k)∧Aside0 (wc.heap[qf]? = some (.cells #[.int .i64 0,.int .i64 0,.string (⟨#[]⟩:ByteArray)] 40 (0,0)))∧Aside0 (wc.heap[qk]? = some (.cells #[.int .i64 qc,.int .i64 qd,.string qe] 40 (0,0)))∧Aside0 (Below w.heap.size w wc))
 case first=>
  have H:=HC9.out
  clear HC9
  by_cases c16:t205=true
  ·subst c16
   have H1:((strconv_Itoa_26.f (wrap64 ((l0.length:Int)+1))).bind fun qn=>(impl_readTitle.j0 k l0 ql qi qu qw qx (ye.toList != qn.toList) qc qd qe))=some (r1,r2,r3,r4,r5):=by rw [if_pos rfl] at H;exact H
   clear H
   have H:=H1
   clear H1
   replace H:=Option.bind_eq_some_iff.mp H
   obtain⟨qn,A170,H⟩:=H
   replace H:(impl_readTitle.j0 k l0 ql qi qu qw qx (ye.toList != qn.toList) qc qd qe)=some (r1,r2,r3,r4,r5):=H
   have A17:=Ia A170
   clear A170
   have H':=Ia H
   clear H
   go_wp2_with (first|(go_at_call 26;(with_reducible refine(strconv_Itoa_26.calls (wrap64 ((l0.length:Int)+1)) qn _ (by first|exact HGL.out|((repeat(with_reducible refine Glob.drewN ?_));exact HGL.out)|exact Glob.below HGL.out (by repeat(first|(with_reducible first|exact HB.out|apply Ih|apply If|apply Ig|refine Ie ?_ qg.out|refine Ie ?_ qj.out)|exact HB.out))) A17.out).mono ?_);rintro e w18 ⟨rfl,hb⟩;have qp:=Ia (blk_below (g:=qf) (o:=.cells #[.int .i64 0,.int .i64 0,.string (⟨#[]⟩:ByteArray)] 40 (0,0)) (by(with_reducible repeat(first|refine Id ?_ _|refine Ib ?_|refine Ic ?_ _));refine blk_far ?_ qh.out _;(with_reducible repeat(first|refine Id ?_ _|refine Ib ?_|refine Ic ?_ _));refine blk_far ?_ qh.out _;(with_reducible repeat(first|refine Id ?_ _|refine Ib ?_|refine Ic ?_ _));refine blk_far ?_ qh.out _;(with_reducible repeat(first|refine Id ?_ _|refine Ib ?_|refine Ic ?_ _));refine blk_far ?_ qh.out _;(with_reducible repeat(first|refine Id ?_ _|refine Ib ?_|refine Ic ?_ _));exact qa.out) hb);have qq:=Ia (blk_below (g:=qk) (o:=.cells #[.int .i64 qc,.int .i64 qd,.string qe] 40 (0,0)) (by(with_reducible repeat(first|refine Id ?_ _|refine Ib ?_|refine Ic ?_ _));refine Il (cs:=#[.int .i64 qc,.int .i64 qd,.string (⟨#[]⟩:ByteArray)]) ?_ 2 _ rfl;(with_reducible repeat(first|refine Id ?_ _|refine Ib ?_|refine Ic ?_ _));refine Il (cs:=#[.int .i64 qc,.int .i64 qd,.string (⟨#[]⟩:ByteArray)]) ?_ 2 _ rfl;(with_reducible repeat(first|refine Id ?_ _|refine Ib ?_|refine Ic ?_ _));refine Il (cs:=#[.int .i64 qc,.int .i64 0,.string (⟨#[]⟩:ByteArray)]) ?_ 1 _ rfl;(with_reducible repeat(first|refine Id ?_ _|refine Ib ?_|refine Ic ?_ _));refine Il (cs:=#[.int .i64 0,.int .i64 0,.string (⟨#[]⟩:ByteArray)]) ?_ 0 _ rfl;(with_reducible repeat(first|refine Id ?_ _|refine Ib ?_|refine Ic ?_ _));exact qb.out) hb);have qy:=Ia (below_step (by repeat(first|(with_reducible first|exact HB.out|apply Ih|apply If|apply Ig|refine Ie ?_ qg.out|refine Ie ?_ qj.out)|exact HB.out)) hb);clear qa;clear qb;clear HB;have qa:=qp;have qb:=qq;have HB:=qy;clear qp qq qy;(try clear hb);(try clear hb2);(try clear hk);(try clear hi)))
   go_meet
   case rel=>exact⟨_,((ye.toList != qn.toList)),(by first|rfl|(simp;done)|(simp [*];done)),H',⟨by first|omega|exact Nat.le_refl _⟩,⟨by(with_reducible repeat(first|refine Id ?_ _|refine Ib ?_|refine Ic ?_ _));exact qa.out⟩,⟨by(with_reducible repeat(first|refine Id ?_ _|refine Ib ?_|refine Ic ?_ _));exact qb.out⟩,⟨by repeat(first|(with_reducible first|exact HB.out|apply Ih|apply If|apply Ig|refine Ie ?_ qg.out|refine Ie ?_ qj.out)|exact HB.out)⟩⟩
  ·replace c16:=Bool.eq_false_iff.mpr c16
   subst c16
   have H1:(impl_readTitle.j0 k l0 ql qi qu qw qx true qc qd qe)=some (r1,r2,r3,r4,r5):=by rw [if_neg (show ¬ (false=true) by decide)] at H;exact H
   clear H
   have H:=H1
   clear H1
   have H':=Ia H
   clear H
   go_wp2
   go_meet
   case rel=>exact⟨_,(true),(by first|rfl|(simp;done)|(simp [*];done)),H',⟨by first|omega|exact Nat.le_refl _⟩,⟨by(with_reducible repeat(first|refine Id ?_ _|refine Ib ?_|refine Ic ?_ _));refine blk_far ?_ qh.out _;(with_reducible repeat(first|refine Id ?_ _|refine Ib ?_|refine Ic ?_ _));refine blk_far ?_ qh.out _;(with_reducible repeat(first|refine Id ?_ _|refine Ib ?_|refine Ic ?_ _));refine blk_far ?_ qh.out _;(with_reducible repeat(first|refine Id ?_ _|refine Ib ?_|refine Ic ?_ _));refine blk_far ?_ qh.out _;(with_reducible repeat(first|refine Id ?_ _|refine Ib ?_|refine Ic ?_ _));exact qa.out⟩,⟨by(with_reducible repeat(first|refine Id ?_ _|refine Ib ?_|refine Ic ?_ _));refine Il (cs:=#[.int .i64 qc,.int .i64 qd,.string (⟨#[]⟩:ByteArray)]) ?_ 2 _ rfl;(with_reducible repeat(first|refine Id ?_ _|refine Ib ?_|refine Ic ?_ _));refine Il (cs:=#[.int .i64 qc,.int .i64 qd,.string (⟨#[]⟩:ByteArray)]) ?_ 2 _ rfl;(with_reducible repeat(first|refine Id ?_ _|refine Ib ?_|refine Ic ?_ _));refine Il (cs:=#[.int .i64 qc,.int .i64 0,.string (⟨#[]⟩:ByteArray)]) ?_ 1 _ rfl;(with_reducible repeat(first|refine Id ?_ _|refine Ib ?_|refine Ic ?_ _));refine Il (cs:=#[.int .i64 0,.int .i64 0,.string (⟨#[]⟩:ByteArray)]) ?_ 0 _ rfl;(with_reducible repeat(first|refine Id ?_ _|refine Ib ?_|refine Ic ?_ _));exact qb.out⟩,⟨by repeat(first|(with_reducible first|exact HB.out|apply Ih|apply If|apply Ig|refine Ie ?_ qg.out|refine Ie ?_ qj.out)|exact HB.out)⟩⟩
 case rest=>
  clear HC9
  try clear c1
  try clear p2
  try clear c3
  try clear c4
  try clear p6
  try clear c14
  try clear c16
  try clear hcz15_0
  try clear hcz15_1
  try clear hcz15_2
  try clear hfz15_0
  try clear hfz15_1
  try clear hfz15_2
  obtain⟨kq,x59_8,rfl,HA,HJ8,qa,qb,HB⟩:=hcut
  cases kq with
  | zero => exact absurd HA.out (by simp [impl_readTitle.j0])
  | succ kj8 =>
   have H:=HA.out
   clear HA
   simp only [impl_readTitle.j0] at H
   by_cases c19:x59_8=true
   ·subst c19
    have H1:(some (0,0,(⟨#[]⟩:ByteArray),(⟨#[]⟩:ByteArray),2))=some (r1,r2,r3,r4,r5):=by rw [if_pos rfl] at H;exact H
    clear H
    have H:=H1
    clear H1
    simp only [Option.some.injEq,Prod.mk.injEq] at H
    obtain⟨rfl,rfl,rfl,rfl,rfl⟩:=H
    have hnb20:=qh.out
    have hnc20:=qm.out
    have hcz21_0:wc.cell? ⟨qf,0,none⟩=some (.int .i64 0):=(Ii qa.out 0).trans rfl
    have hcz21_1:wc.cell? ⟨qf,1,none⟩=some (.int .i64 0):=(Ii qa.out 1).trans rfl
    have hcz21_2:wc.cell? ⟨qf,2,none⟩=some (.string (⟨#[]⟩:ByteArray)):=(Ii qa.out 2).trans rfl
    have hfz21_0:=Ik qa.out 0
    have hfz21_1:=Ik qa.out 1
    have hfz21_2:=Ik qa.out 2
    go_wp2
    refine bodyPost_ret (results_ctt rfl _ _ qf 40 #[.int .i64 0,.int .i64 0,.string (⟨#[]⟩:ByteArray)] (0,0) _ rfl (by(with_reducible repeat(first|refine Id ?_ _|refine Ib ?_|refine Ic ?_ _));refine Il (cs:=#[.int .i64 0,.int .i64 0,.string (⟨#[]⟩:ByteArray)]) ?_ 2 _ rfl;(with_reducible repeat(first|refine Id ?_ _|refine Ib ?_|refine Ic ?_ _));refine Il (cs:=#[.int .i64 0,.int .i64 0,.string (⟨#[]⟩:ByteArray)]) ?_ 1 _ rfl;(with_reducible repeat(first|refine Id ?_ _|refine Ib ?_|refine Ic ?_ _));refine Il (cs:=#[.int .i64 0,.int .i64 0,.string (⟨#[]⟩:ByteArray)]) ?_ 0 _ rfl;(with_reducible repeat(first|refine Id ?_ _|refine Ib ?_|refine Ic ?_ _));exact qa.out) Tryd.underlying40 rfl (by kernel_rfl)) rfl ?_
    exact⟨by first|rfl|(simp [errW_none,errW_some] <;> rfl)|(simp [*,errW_none,errW_some] <;> rfl),by repeat(first|(with_reducible first|exact HB.out|apply Ih|apply If|apply Ig|refine Ie ?_ qg.out|refine Ie ?_ qj.out)|exact HB.out)⟩
   ·replace c19:=Bool.eq_false_iff.mpr c19
    subst c19
    have H1:(if qu=true then (if qw=true then (impl_readTitle.j1 kj8 l0 ql qi (!qx) qc qd qe) else (impl_readTitle.j1 kj8 l0 ql qi true qc qd qe)) else (impl_readTitle.j1 kj8 l0 ql qi true qc qd qe))=some (r1,r2,r3,r4,r5):=by rw [if_neg (show ¬ (false=true) by decide)] at H;exact H
    clear H
    have H:=H1
    clear H1
    have HC22:=Ia H
    clear H
    go_upto_region 10 with (fail)
    go_cut [71] (fun v71 wc=>∃ (kq:Nat) (x71_21:Bool),v71=.bool x71_21∧Aside0 (impl_readTitle.j1 kq l0 ql qi x71_21 qc qd qe=some (r1,r2,r3,r4,r5))∧Aside0 (kq≤kj8)∧Aside0 (wc.heap[qf]? = some (.cells #[.int .i64 0,.int .i64 0,.string (⟨#[]⟩:ByteArray)] 40 (0,0)))∧Aside0 (wc.heap[qk]? = some (.cells #[.int .i64 qc,.int .i64 qd,.string qe] 40 (0,0)))∧Aside0 (Below w.heap.size w wc))
    case first=>
     have H:=HC22.out
     clear HC22
     by_cases c23:qu=true
     ·subst c23
      have H1:(if qw=true then (impl_readTitle.j1 kj8 l0 ql qi (!qx) qc qd qe) else (impl_readTitle.j1 kj8 l0 ql qi true qc qd qe))=some (r1,r2,r3,r4,r5):=by rw [if_pos rfl] at H;exact H
      clear H
      have H:=H1
      clear H1
      by_cases c24:qw=true
      ·subst c24
       have H1:(impl_readTitle.j1 kj8 l0 ql qi (!qx) qc qd qe)=some (r1,r2,r3,r4,r5):=by rw [if_pos rfl] at H;exact H
       clear H
       have H:=H1
       clear H1
       have H':=Ia H
       clear H
       go_wp2
       go_meet
       case rel=>exact⟨_,(!qx),(by first|rfl|(simp;done)|(simp [*];done)),H',⟨by have:=HJ8.out;first|omega|exact Nat.le_refl _⟩,⟨by(with_reducible repeat(first|refine Id ?_ _|refine Ib ?_|refine Ic ?_ _));exact qa.out⟩,⟨by(with_reducible repeat(first|refine Id ?_ _|refine Ib ?_|refine Ic ?_ _));exact qb.out⟩,⟨by repeat(first|(with_reducible first|exact HB.out|apply Ih|apply If|apply Ig|refine Ie ?_ qg.out|refine Ie ?_ qj.out)|exact HB.out)⟩⟩
      ·replace c24:=Bool.eq_false_iff.mpr c24
       subst c24
       have H1:(impl_readTitle.j1 kj8 l0 ql qi true qc qd qe)=some (r1,r2,r3,r4,r5):=by rw [if_neg (show ¬ (false=true) by decide)] at H;exact H
       clear H
       have H:=H1
       clear H1
       have H':=Ia H
       clear H
       go_wp2
       go_meet
       case rel=>exact⟨_,(true),(by first|rfl|(simp;done)|(simp [*];done)),H',⟨by have:=HJ8.out;first|omega|exact Nat.le_refl _⟩,⟨by(with_reducible repeat(first|refine Id ?_ _|refine Ib ?_|refine Ic ?_ _));exact qa.out⟩,⟨by(with_reducible repeat(first|refine Id ?_ _|refine Ib ?_|refine Ic ?_ _));exact qb.out⟩,⟨by repeat(first|(with_reducible first|exact HB.out|apply Ih|apply If|apply Ig|refine Ie ?_ qg.out|refine Ie ?_ qj.out)|exact HB.out)⟩⟩
     ·replace c23:=Bool.eq_false_iff.mpr c23
      subst c23
      have H1:(impl_readTitle.j1 kj8 l0 ql qi true qc qd qe)=some (r1,r2,r3,r4,r5):=by rw [if_neg (show ¬ (false=true) by decide)] at H;exact H
      clear H
      have H:=H1
      clear H1
      have H':=Ia H
      clear H
      go_wp2
      go_meet
      case rel=>exact⟨_,(true),(by first|rfl|(simp;done)|(simp [*];done)),H',⟨by have:=HJ8.out;first|omega|exact Nat.le_refl _⟩,⟨by(with_reducible repeat(first|refine Id ?_ _|refine Ib ?_|refine Ic ?_ _));exact qa.out⟩,⟨by(with_reducible repeat(first|refine Id ?_ _|refine Ib ?_|refine Ic ?_ _));exact qb.out⟩,⟨by repeat(first|(with_reducible first|exact HB.out|apply Ih|apply If|apply Ig|refine Ie ?_ qg.out|refine Ie ?_ qj.out)|exact HB.out)⟩⟩
    case rest=>
     clear HC22
     try clear c1
     try clear c2
     try clear p2
     try clear c3
     try clear c4
     try clear p6
     try clear c14
     try clear c16
     try clear c19
     try clear c20
     try clear c23
     try clear c24
     try clear hcz15_0
     try clear hcz15_1
     try clear hcz15_2
     try clear hcz21_0
     try clear hcz21_1
     try clear hcz21_2
     try clear hfz15_0
     try clear hfz15_1
     try clear hfz15_2
     try clear hfz21_0
     try clear hfz21_1
     try clear hfz21_2
     try clear p2
     try clear p6
     obtain⟨kq,x71_21,rfl,HA,HJ21,qa,qb,HB⟩:=hcut
     cases kq with
     | zero => exact absurd HA.out (by simp [impl_readTitle.j1])
     | succ kj21 =>
      have H:=HA.out
      clear HA
      simp only [impl_readTitle.j1] at H
      by_cases c25:x71_21=true
      ·subst c25
       have H1:(some (0,0,(⟨#[]⟩:ByteArray),(⟨#[]⟩:ByteArray),3))=some (r1,r2,r3,r4,r5):=by rw [if_pos rfl] at H;exact H
       clear H
       have H:=H1
       clear H1
       simp only [Option.some.injEq,Prod.mk.injEq] at H
       obtain⟨rfl,rfl,rfl,rfl,rfl⟩:=H
       have hnb26:=qh.out
       have hnc26:=qm.out
       have hcz27_0:wc.cell? ⟨qf,0,none⟩=some (.int .i64 0):=(Ii qa.out 0).trans rfl
       have hcz27_1:wc.cell? ⟨qf,1,none⟩=some (.int .i64 0):=(Ii qa.out 1).trans rfl
       have hcz27_2:wc.cell? ⟨qf,2,none⟩=some (.string (⟨#[]⟩:ByteArray)):=(Ii qa.out 2).trans rfl
       have hfz27_0:=Ik qa.out 0
       have hfz27_1:=Ik qa.out 1
       have hfz27_2:=Ik qa.out 2
       go_wp2
       refine bodyPost_ret (results_ctt rfl _ _ qf 40 #[.int .i64 0,.int .i64 0,.string (⟨#[]⟩:ByteArray)] (0,0) _ rfl (by(with_reducible repeat(first|refine Id ?_ _|refine Ib ?_|refine Ic ?_ _));refine Il (cs:=#[.int .i64 0,.int .i64 0,.string (⟨#[]⟩:ByteArray)]) ?_ 2 _ rfl;(with_reducible repeat(first|refine Id ?_ _|refine Ib ?_|refine Ic ?_ _));refine Il (cs:=#[.int .i64 0,.int .i64 0,.string (⟨#[]⟩:ByteArray)]) ?_ 1 _ rfl;(with_reducible repeat(first|refine Id ?_ _|refine Ib ?_|refine Ic ?_ _));refine Il (cs:=#[.int .i64 0,.int .i64 0,.string (⟨#[]⟩:ByteArray)]) ?_ 0 _ rfl;(with_reducible repeat(first|refine Id ?_ _|refine Ib ?_|refine Ic ?_ _));exact qa.out) Tryd.underlying40 rfl (by kernel_rfl)) rfl ?_
       exact⟨by first|rfl|(simp [errW_none,errW_some] <;> rfl)|(simp [*,errW_none,errW_some] <;> rfl),by repeat(first|(with_reducible first|exact HB.out|apply Ih|apply If|apply Ig|refine Ie ?_ qg.out|refine Ie ?_ qj.out)|exact HB.out)⟩
      ·replace c25:=Bool.eq_false_iff.mpr c25
       subst c25
       have H1:((impl_Title_timesOk.f qc qd qe).bind fun t221=>(if t221=true then (if (l0.length:Int) > 0 then (if 0≤(wrap64 ((l0.length:Int) - 1)) then (if (wrap64 ((l0.length:Int) - 1)) < (l0.length:Int) then (impl_readTitle.j2 kj21 l0 ql qi (decide (qc < ((rd_T40 l0 (wrap64 ((l0.length:Int) - 1))).f1))) qc qd qe) else (none)) else (none)) else (impl_readTitle.j2 kj21 l0 ql qi false qc qd qe)) else (impl_readTitle.j2 kj21 l0 ql qi true qc qd qe)))=some (r1,r2,r3,r4,r5):=by rw [if_neg (show ¬ (false=true) by decide)] at H;exact H
       clear H
       have H:=H1
       clear H1
       have HC28:=Ia H
       clear H
       go_upto_region 12 with (fail)
       go_cut [83] (fun v83 wc=>∃ (kq:Nat) (x83_27:Bool),v83=.bool x83_27∧Aside0 (impl_readTitle.j2 kq l0 ql qi x83_27 qc qd qe=some (r1,r2,r3,r4,r5))∧Aside0 (kq≤kj21)∧Aside0 (wc.heap[qf]? = some (.cells #[.int .i64 0,.int .i64 0,.string (⟨#[]⟩:ByteArray)] 40 (0,0)))∧Aside0 (wc.heap[qk]? = some (.cells #[.int .i64 qc,.int .i64 qd,.string qe] 40 (0,0)))∧Aside0 (Below w.heap.size w wc))
       case first=>
        have H:=HC28.out
        clear HC28
        replace H:=Option.bind_eq_some_iff.mp H
        obtain⟨t221,A290,H⟩:=H
        replace H:(if t221=true then (if (l0.length:Int) > 0 then (if 0≤(wrap64 ((l0.length:Int) - 1)) then (if (wrap64 ((l0.length:Int) - 1)) < (l0.length:Int) then (impl_readTitle.j2 kj21 l0 ql qi (decide (qc < ((rd_T40 l0 (wrap64 ((l0.length:Int) - 1))).f1))) qc qd qe) else (none)) else (none)) else (impl_readTitle.j2 kj21 l0 ql qi false qc qd qe)) else (impl_readTitle.j2 kj21 l0 ql qi true qc qd qe))=some (r1,r2,r3,r4,r5):=H
        have A29:=Ia A290
        clear A290
        by_cases c30:t221=true
        ·subst c30
         have H1:(if (l0.length:Int) > 0 then (if 0≤(wrap64 ((l0.length:Int) - 1)) then (if (wrap64 ((l0.length:Int) - 1)) < (l0.length:Int) then (impl_readTitle.j2 kj21 l0 ql qi (decide (qc < ((rd_T40 l0 (wrap64 ((l0.length:Int) - 1))).f1))) qc qd qe) else (none)) else (none)) else (impl_readTitle.j2 kj21 l0 ql qi false qc qd qe))=some (r1,r2,r3,r4,r5):=by rw [if_pos rfl] at H;exact H
         clear H
         have H:=H1
         clear H1
         by_cases c31:(l0.length:Int) > 0
         ·rw [if_pos c31] at H
          have yd:decide (0 < (l0.length:Int))=true:=decide_eq_true c31
          have c31b1:decide (0 < l0.length)=true:=decide_eq_true (by omega)
          clear c31
          (first|rw [yd]|(simp only [i64_w,i32_w];rw [yd])|skip)
          obtain⟨qo,hji32⟩:∃ j_:Int,(wrap64 ((l0.length:Int) - 1))=j_:=⟨_,rfl⟩
          replace H:(if 0≤(qo) then (if (qo) < (l0.length:Int) then (impl_readTitle.j2 kj21 l0 ql qi (decide (qc < ((rd_T40 l0 (qo)).f1))) qc qd qe) else (none)) else (none))=some (r1,r2,r3,r4,r5):=by first|(rw [hji32] at H;exact H)|(simp only [hji32] at H ⊢;exact H)
          (try rw [hji32] at A29)
          have hji32w:(IntKind.i64.wrap ((l0.length:Int) - 1))=qo:=(i64_w _).trans hji32
          by_cases c33:0≤(qo)
          ·rw [if_pos c33] at H
           have c33b0:decide (0≤(qo))=true:=decide_eq_true c33
           clear c33
           by_cases c34:(qo) < (l0.length:Int)
           ·rw [if_pos c34] at H
            have c34b0:decide ((qo) < (l0.length:Int))=true:=decide_eq_true c34
            clear c34
            have H':=Ia H
            clear H
            try go_wp2
            have qp:=Ia (Ib qa.out)
            have qq:=Ia (Ib qb.out)
            have qy:=Ia (Ig HB.out)
            clear qa
            clear qb
            clear HB
            have qa:=qp
            have qb:=qq
            have HB:=qy
            clear qp qq qy
            have p222:0≤((qo):Int):=of_decide_eq_true (by first|(with_reducible assumption)|assumption)
            have q222:(qo) < (l0.length:Int):=of_decide_eq_true (by first|(with_reducible assumption)|assumption)
            obtain⟨ad222,e222,qr,qs,qt⟩:=at_T40 HR0.out (qo) p222 q222
            have yb:=qt
            have ya:=qs
            have qz:=qr
            cases e222
            replace qr:=(HB.out.cell (World.block_lt_of_cell? w _ qr)).trans qr
            replace qs:=(HB.out.cell (World.block_lt_of_cell? w _ qs)).trans qs
            replace qt:=(HB.out.cell (World.block_lt_of_cell? w _ qt)).trans qt
            replace p222:=eq_true p222
            replace q222:=eq_true q222
            refine start_ (n:=21) (S:=fun w'=>w'.cell? ⟨qk,0,none⟩=some (.int .i64 qc)∧w'.cell? ⟨qk,1,none⟩=some (.int .i64 qd)∧w'.cell? ⟨qk,2,none⟩=some (.string qe)∧w'.cell? (ad222.add (((qo)).toNat*3))=some (.int .i64 ((rd_T40 l0 (qo)).f0))∧w'.cell? ⟨(ad222.add (((qo)).toNat*3)).block,(ad222.add (((qo)).toNat*3)).off+1,none⟩=some (.int .i64 ((rd_T40 l0 (qo)).f1))∧w'.cell? ⟨(ad222.add (((qo)).toNat*3)).block,(ad222.add (((qo)).toNat*3)).off+2,none⟩=some (.string ((rd_T40 l0 (qo)).f2))) (ds:=[]) #[false,false,false,false,false,false,false,false,false,false,false,false,false,false,false,false,false,false,false,false,false] (by kernel_rfl) rfl rfl ⟨(Ii qb.out 0).trans rfl,(Ii qb.out 1).trans rfl,(Ii qb.out 2).trans rfl,((HB.out.cell (World.block_lt_of_cell? w _ qz)).trans qz),((HB.out.cell (World.block_lt_of_cell? w _ ya)).trans ya),((HB.out.cell (World.block_lt_of_cell? w _ yb)).trans yb)⟩ (fun hHeld=>?_);refine with_tabW impl_readTitle.tab12 impl_readTitle.bits12 (fun HT_ HW_=>?_)
            generalize wc.drew=w35 at qa qb HB qr qs qt hHeld ⊢
            refine take_ (i:=0) (N:=some 84) (v:=?_) (a':=?_) #[true,false,false,false,false,false,false,false,false,false,false,false,false,false,false,false,false,false,false,false,false] rfl rfl (take_ofW HT_.out HW_.out (by kernel_rfl)) (fun _ _ _ h=>h) (Or.inl ⟨by rfl,?_⟩) hHeld ?_ ?_
            rotate_left
            ·rintro w' ⟨s0,s1,s2,s3,s4,s5⟩
             go_simp
             with_reducible rfl
            rotate_left
            ·simp only [Act.put,List.setIfInBounds_toArray,List.set_cons_zero,List.set_cons_succ,i64_w,i32_w]
             rfl
            refine one_ (i:=1) (N:=some 85) #[true,true,false,false,false,false,false,false,false,false,false,false,false,false,false,false,false,false,false,false,false] rfl rfl (one_of HT_.out (by kernel_rfl)) (by decide) (fun K hK=>?_)
            refine goes_ Tryd.func39 (by kernel_rfl) rfl #[.agg #[.int .i64 qc,.int .i64 qd,.string qe]] (by rfl) rfl rfl (by(try simp only [List.map_toArray,List.map_cons,List.map_nil]);first|done|rfl|(simp only [List.length_drop,List.length_take];rfl)) ?_
            with_reducible refine(impl_Title_timesOk.calls qc qd qe true _ A29.out).mono ?_
            rintro e w36 ⟨rfl,hb⟩
            refine⟨_,rfl,?_⟩
            have qp:=Ia (blk_below (g:=qf) (o:=.cells #[.int .i64 0,.int .i64 0,.string (⟨#[]⟩:ByteArray)] 40 (0,0)) (by(with_reducible repeat(first|refine Id ?_ _|refine Ib ?_|refine Ic ?_ _));exact qa.out) hb)
            have qq:=Ia (blk_below (g:=qk) (o:=.cells #[.int .i64 qc,.int .i64 qd,.string qe] 40 (0,0)) (by(with_reducible repeat(first|refine Id ?_ _|refine Ib ?_|refine Ic ?_ _));exact qb.out) hb)
            have qy:=Ia (below_step (by repeat(first|(with_reducible first|exact HB.out|apply Ih|apply If|apply Ig|refine Ie ?_ qg.out|refine Ie ?_ qj.out)|exact HB.out)) hb)
            clear qa
            clear qb
            clear HB
            have qa:=qp
            have qb:=qq
            have HB:=qy
            clear qp qq qy
            (try clear hb)
            (try clear hb2)
            (try clear hk)
            (try clear hi)
            refine hK.out _ _ ⟨(Ii qb.out 0).trans rfl,(Ii qb.out 1).trans rfl,(Ii qb.out 2).trans rfl,((HB.out.cell (World.block_lt_of_cell? w _ qz)).trans qz),((HB.out.cell (World.block_lt_of_cell? w _ ya)).trans ya),((HB.out.cell (World.block_lt_of_cell? w _ yb)).trans yb)⟩ (fun hHeld=>?_)
            clear hK K
            refine norm_ (a':=?_) ?_ ?_
            rotate_left
            ·show Act.put _ (some 85) _=_
             simp only [Act.put,List.setIfInBounds_toArray,List.set_cons_zero,List.set_cons_succ,i64_w,i32_w]
             rfl
            refine pure_ (i:=2) (N:=some 86) (v:=?_) (a':=?_) #[true,true,true,false,false,false,false,false,false,false,false,false,false,false,false,false,false,false,false,false,false] rfl rfl (Ij HT_.out (by kernel_rfl)) (fun _ _ _ h=>h) (Or.inl ⟨by rfl,?_⟩) ?_ ?_
            rotate_left
            ·intro w'
             go_simp
             with_reducible rfl
            rotate_left
            ·simp only [Act.put,List.setIfInBounds_toArray,List.set_cons_zero,List.set_cons_succ,i64_w,i32_w]
             rfl
            refine pure_ (i:=3) (N:=some 87) (v:=?_) (a':=?_) #[true,true,true,true,false,false,false,false,false,false,false,false,false,false,false,false,false,false,false,false,false] rfl rfl (Ij HT_.out (by kernel_rfl)) (fun _ _ _ h=>h) (Or.inl ⟨by rfl,?_⟩) ?_ ?_
            rotate_left
            ·intro w'
             go_simp
             with_reducible rfl
            rotate_left
            ·simp only [Act.put,List.setIfInBounds_toArray,List.set_cons_zero,List.set_cons_succ,i64_w,i32_w]
             rfl
            refine pure_ (i:=4) (N:=some 88) (v:=?_) (a':=?_) #[true,true,true,true,true,false,false,false,false,false,false,false,false,false,false,false,false,false,false,false,false] rfl rfl (Ij HT_.out (by kernel_rfl)) (fun _ _ _ h=>h) (Or.inl ⟨by rfl,?_⟩) ?_ ?_
            rotate_left
            ·intro w'
             go_simp
             with_reducible rfl
            rotate_left
            ·simp only [Act.put,List.setIfInBounds_toArray,List.set_cons_zero,List.set_cons_succ,i64_w,i32_w]
             rfl
            refine pure_ (i:=5) (N:=some 89) (v:=?_) (a':=?_) #[true,true,true,true,true,true,false,false,false,false,false,false,false,false,false,false,false,false,false,false,false] rfl rfl (Ij HT_.out (by kernel_rfl)) (fun _ _ _ h=>h) (Or.inl ⟨by rfl,?_⟩) ?_ ?_
            rotate_left
            ·intro w'
             go_simp
             with_reducible rfl
            rotate_left
            ·simp only [Act.put,List.setIfInBounds_toArray,List.set_cons_zero,List.set_cons_succ,i64_w,i32_w]
             rfl
            refine pure_ (i:=6) (N:=some 90) (v:=?_) (a':=?_) #[true,true,true,true,true,true,true,false,false,false,false,false,false,false,false,false,false,false,false,false,false] rfl rfl (Ij HT_.out (by kernel_rfl)) (fun _ _ _ h=>h) (Or.inl ⟨by rfl,?_⟩) ?_ ?_
            rotate_left
            ·intro w'
             go_simp
             with_reducible rfl
            rotate_left
            ·simp only [Act.put,List.setIfInBounds_toArray,List.set_cons_zero,List.set_cons_succ,i64_w,i32_w]
             rfl
            refine pure_ (i:=7) (N:=some 91) (v:=?_) (a':=?_) #[true,true,true,true,true,true,true,true,false,false,false,false,false,false,false,false,false,false,false,false,false] rfl rfl (Ij HT_.out (by kernel_rfl)) (fun _ _ _ h=>h) (Or.inl ⟨by rfl,?_⟩) ?_ ?_
            rotate_left
            ·intro w'
             go_simp
             with_reducible rfl
            rotate_left
            ·simp only [Act.put,List.setIfInBounds_toArray,List.set_cons_zero,List.set_cons_succ,i64_w,i32_w]
             rfl
            refine pure_ (i:=8) (N:=some 92) (v:=?_) (a':=?_) #[true,true,true,true,true,true,true,true,true,false,false,false,false,false,false,false,false,false,false,false,false] rfl rfl (Ij HT_.out (by kernel_rfl)) (fun _ _ _ h=>h) (Or.inl ⟨by rfl,?_⟩) ?_ ?_
            rotate_left
            ·intro w'
             go_simp
             with_reducible rfl
            rotate_left
            ·simp only [Act.put,List.setIfInBounds_toArray,List.set_cons_zero,List.set_cons_succ,i64_w,i32_w]
             rfl
            refine pure_ (i:=10) (N:=some 94) (v:=?_) (a':=?_) #[true,true,true,true,true,true,true,true,true,false,true,false,false,false,false,false,false,false,false,false,false] rfl rfl (Ij HT_.out (by kernel_rfl)) (fun _ _ _ h=>h) (Or.inl ⟨by rfl,?_⟩) ?_ ?_
            rotate_left
            ·intro w'
             go_simp
             with_reducible rfl
            rotate_left
            ·simp only [Act.put,List.setIfInBounds_toArray,List.set_cons_zero,List.set_cons_succ,i64_w,i32_w]
             rfl
            refine pure_ (i:=11) (N:=some 95) (v:=?_) (a':=?_) #[true,true,true,true,true,true,true,true,true,false,true,true,false,false,false,false,false,false,false,false,false] rfl rfl (Ij HT_.out (by kernel_rfl)) (fun _ _ _ h=>h) (Or.inl ⟨by rfl,?_⟩) ?_ ?_
            rotate_left
            ·intro w'
             go_simp
             with_reducible rfl
            rotate_left
            ·simp only [Act.put,List.setIfInBounds_toArray,List.set_cons_zero,List.set_cons_succ,i64_w,i32_w]
             rfl
            refine pure_ (i:=12) (N:=some 96) (v:=?_) (a':=?_) #[true,true,true,true,true,true,true,true,true,false,true,true,true,false,false,false,false,false,false,false,false] rfl rfl (Ij HT_.out (by kernel_rfl)) (fun _ _ _ h=>h) (Or.inl ⟨by rfl,?_⟩) ?_ ?_
            rotate_left
            ·intro w'
             go_simp
             with_reducible rfl
            rotate_left
            ·simp only [Act.put,List.setIfInBounds_toArray,List.set_cons_zero,List.set_cons_succ,i64_w,i32_w]
             rfl
            refine pure_ (i:=13) (N:=some 97) (v:=?_) (a':=?_) #[true,true,true,true,true,true,true,true,true,false,true,true,true,true,false,false,false,false,false,false,false] rfl rfl (Ij HT_.out (by kernel_rfl)) (fun _ _ _ h=>h) (Or.inl ⟨by rfl,?_⟩) ?_ ?_
            rotate_left
            ·intro w'
             go_simp
             with_reducible rfl
            rotate_left
            ·simp only [Act.put,List.setIfInBounds_toArray,List.set_cons_zero,List.set_cons_succ,i64_w,i32_w]
             rfl
            refine pure_ (i:=14) (N:=some 98) (v:=?_) (a':=?_) #[true,true,true,true,true,true,true,true,true,false,true,true,true,true,true,false,false,false,false,false,false] rfl rfl (Ij HT_.out (by kernel_rfl)) (fun _ _ _ h=>h) (Or.inl ⟨by rfl,?_⟩) ?_ ?_
            rotate_left
            ·intro w'
             go_simp
             with_reducible rfl
            rotate_left
            ·simp only [Act.put,List.setIfInBounds_toArray,List.set_cons_zero,List.set_cons_succ,i64_w,i32_w]
             rfl
            refine pure_ (i:=15) (N:=some 99) (v:=?_) (a':=?_) #[true,true,true,true,true,true,true,true,true,false,true,true,true,true,true,true,false,false,false,false,false] rfl rfl (Ij HT_.out (by kernel_rfl)) (fun _ _ _ h=>h) (Or.inl ⟨by rfl,?_⟩) ?_ ?_
            rotate_left
            ·intro w'
             go_simp
             with_reducible rfl
            rotate_left
            ·simp only [Act.put,List.setIfInBounds_toArray,List.set_cons_zero,List.set_cons_succ,i64_w,i32_w]
             rfl
            refine take_ (i:=9) (N:=some 93) (v:=?_) (a':=?_) #[true,true,true,true,true,true,true,true,true,true,true,true,true,true,true,true,false,false,false,false,false] rfl rfl (take_ofW HT_.out HW_.out (by kernel_rfl)) (fun _ _ _ h=>h) (Or.inl ⟨by rfl,?_⟩) hHeld ?_ ?_
            rotate_left
            ·rintro w' ⟨s0,s1,s2,s3,s4,s5⟩
             go_simp
             with_reducible rfl
            rotate_left
            ·simp only [Act.put,List.setIfInBounds_toArray,List.set_cons_zero,List.set_cons_succ,i64_w,i32_w]
             rfl
            refine take_ (i:=16) (N:=some 100) (v:=?_) (a':=?_) #[true,true,true,true,true,true,true,true,true,true,true,true,true,true,true,true,true,false,false,false,false] rfl rfl (take_ofW HT_.out HW_.out (by kernel_rfl)) (fun _ _ _ h=>h) (Or.inl ⟨by rfl,?_⟩) hHeld ?_ ?_
            rotate_left
            ·rintro w' ⟨s0,s1,s2,s3,s4,s5⟩
             go_simp
             with_reducible rfl
            rotate_left
            ·simp only [Act.put,List.setIfInBounds_toArray,List.set_cons_zero,List.set_cons_succ,i64_w,i32_w]
             rfl
            refine pure_ (i:=17) (N:=some 101) (v:=?_) (a':=?_) #[true,true,true,true,true,true,true,true,true,true,true,true,true,true,true,true,true,true,false,false,false] rfl rfl (Ij HT_.out (by kernel_rfl)) (fun _ _ _ h=>h) (Or.inl ⟨by rfl,?_⟩) ?_ ?_
            rotate_left
            ·intro w'
             go_simp
             with_reducible rfl
            rotate_left
            ·simp only [Act.put,List.setIfInBounds_toArray,List.set_cons_zero,List.set_cons_succ,i64_w,i32_w]
             rfl
            refine pure_ (i:=18) (N:=some 102) (v:=?_) (a':=?_) #[true,true,true,true,true,true,true,true,true,true,true,true,true,true,true,true,true,true,true,false,false] rfl rfl (Ij HT_.out (by kernel_rfl)) (fun _ _ _ h=>h) (Or.inl ⟨by rfl,?_⟩) ?_ ?_
            rotate_left
            ·intro w'
             go_simp
             with_reducible rfl
            rotate_left
            ·simp only [Act.put,List.setIfInBounds_toArray,List.set_cons_zero,List.set_cons_succ,i64_w,i32_w]
             rfl
            refine pure_ (i:=19) (N:=some 103) (v:=?_) (a':=?_) #[true,true,true,true,true,true,true,true,true,true,true,true,true,true,true,true,true,true,true,true,false] rfl rfl (Ij HT_.out (by kernel_rfl)) (fun _ _ _ h=>h) (Or.inl ⟨by rfl,?_⟩) ?_ ?_
            rotate_left
            ·intro w'
             go_simp
             with_reducible rfl
            rotate_left
            ·simp only [Act.put,List.setIfInBounds_toArray,List.set_cons_zero,List.set_cons_succ,i64_w,i32_w]
             rfl
            refine pure_ (i:=20) (N:=some 83) (v:=?_) (a':=?_) #[true,true,true,true,true,true,true,true,true,true,true,true,true,true,true,true,true,true,true,true,true] rfl rfl (Ij HT_.out (by kernel_rfl)) (fun _ _ _ h=>h) (Or.inl ⟨by rfl,?_⟩) ?_ ?_
            rotate_left
            ·intro w'
             go_simp
             with_reducible rfl
            rotate_left
            ·simp only [Act.put,List.setIfInBounds_toArray,List.set_cons_zero,List.set_cons_succ,i64_w,i32_w]
             rfl
            refine done_ (done_of HT_.out (by kernel_rfl)) ?_
            try go_wp2
            go_meet
            case rel=>exact⟨_,(decide (qc < ((rd_T40 l0 (qo)).f1))),(by first|rfl|(simp;done)|(simp only [← hji32] <;> (first|rfl|simp))|(simp [*];done)),H',⟨by have:=HJ8.out;have:=HJ21.out;first|omega|exact Nat.le_refl _⟩,⟨by(with_reducible repeat(first|refine Id ?_ _|refine Ib ?_|refine Ic ?_ _));exact qa.out⟩,⟨by(with_reducible repeat(first|refine Id ?_ _|refine Ib ?_|refine Ic ?_ _));exact qb.out⟩,⟨by repeat(first|(with_reducible first|exact HB.out|apply Ih|apply If|apply Ig|refine Ie ?_ qg.out|refine Ie ?_ qj.out)|exact HB.out)⟩⟩
           ·rw [if_neg c34] at H
            exact absurd H (by simp)
          ·rw [if_neg c33] at H
           exact absurd H (by simp)
         ·rw [if_neg c31] at H
          have yd:decide (0 < (l0.length:Int))=false:=decide_eq_false c31
          have c31b1:decide (0 < l0.length)=false:=decide_eq_false (by omega)
          clear c31
          (first|rw [yd]|(simp only [i64_w,i32_w];rw [yd])|skip)
          have H':=Ia H
          clear H
          try go_wp2
          have qp:=Ia (Ib qa.out)
          have qq:=Ia (Ib qb.out)
          have qy:=Ia (Ig HB.out)
          clear qa
          clear qb
          clear HB
          have qa:=qp
          have qb:=qq
          have HB:=qy
          clear qp qq qy
          refine start_ (n:=21) (S:=fun w'=>w'.cell? ⟨qk,0,none⟩=some (.int .i64 qc)∧w'.cell? ⟨qk,1,none⟩=some (.int .i64 qd)∧w'.cell? ⟨qk,2,none⟩=some (.string qe)) (ds:=[]) #[false,false,false,false,false,false,false,false,false,false,false,false,false,false,false,false,false,false,false,false,false] (by kernel_rfl) rfl rfl ⟨(Ii qb.out 0).trans rfl,(Ii qb.out 1).trans rfl,(Ii qb.out 2).trans rfl⟩ (fun hHeld=>?_);refine with_tabW impl_readTitle.tab12 impl_readTitle.bits12 (fun HT_ HW_=>?_)
          generalize wc.drew=w37 at qa qb HB hHeld ⊢
          refine take_ (i:=0) (N:=some 84) (v:=?_) (a':=?_) #[true,false,false,false,false,false,false,false,false,false,false,false,false,false,false,false,false,false,false,false,false] rfl rfl (take_ofW HT_.out HW_.out (by kernel_rfl)) (fun _ _ _ h=>h) (Or.inl ⟨by rfl,?_⟩) hHeld ?_ ?_
          rotate_left
          ·rintro w' ⟨s0,s1,s2⟩
           go_simp
           with_reducible rfl
          rotate_left
          ·simp only [Act.put,List.setIfInBounds_toArray,List.set_cons_zero,List.set_cons_succ,i64_w,i32_w]
           rfl
          refine one_ (i:=1) (N:=some 85) #[true,true,false,false,false,false,false,false,false,false,false,false,false,false,false,false,false,false,false,false,false] rfl rfl (one_of HT_.out (by kernel_rfl)) (by decide) (fun K hK=>?_)
          refine goes_ Tryd.func39 (by kernel_rfl) rfl #[.agg #[.int .i64 qc,.int .i64 qd,.string qe]] (by rfl) rfl rfl (by(try simp only [List.map_toArray,List.map_cons,List.map_nil]);first|done|rfl|(simp only [List.length_drop,List.length_take];rfl)) ?_
          with_reducible refine(impl_Title_timesOk.calls qc qd qe true _ A29.out).mono ?_
          rintro e w38 ⟨rfl,hb⟩
          refine⟨_,rfl,?_⟩
          have qp:=Ia (blk_below (g:=qf) (o:=.cells #[.int .i64 0,.int .i64 0,.string (⟨#[]⟩:ByteArray)] 40 (0,0)) (by(with_reducible repeat(first|refine Id ?_ _|refine Ib ?_|refine Ic ?_ _));exact qa.out) hb)
          have qq:=Ia (blk_below (g:=qk) (o:=.cells #[.int .i64 qc,.int .i64 qd,.string qe] 40 (0,0)) (by(with_reducible repeat(first|refine Id ?_ _|refine Ib ?_|refine Ic ?_ _));exact qb.out) hb)
          have qy:=Ia (below_step (by repeat(first|(with_reducible first|exact HB.out|apply Ih|apply If|apply Ig|refine Ie ?_ qg.out|refine Ie ?_ qj.out)|exact HB.out)) hb)
          clear qa
          clear qb
          clear HB
          have qa:=qp
          have qb:=qq
          have HB:=qy
          clear qp qq qy
          (try clear hb)
          (try clear hb2)
          (try clear hk)
          (try clear hi)
          refine hK.out _ _ ⟨(Ii qb.out 0).trans rfl,(Ii qb.out 1).trans rfl,(Ii qb.out 2).trans rfl⟩ (fun hHeld=>?_)
          clear hK K
          refine norm_ (a':=?_) ?_ ?_
          rotate_left
          ·show Act.put _ (some 85) _=_
           simp only [Act.put,List.setIfInBounds_toArray,List.set_cons_zero,List.set_cons_succ,i64_w,i32_w]
           rfl
          refine pure_ (i:=2) (N:=some 86) (v:=?_) (a':=?_) #[true,true,true,false,false,false,false,false,false,false,false,false,false,false,false,false,false,false,false,false,false] rfl rfl (Ij HT_.out (by kernel_rfl)) (fun _ _ _ h=>h) (Or.inl ⟨by rfl,?_⟩) ?_ ?_
          rotate_left
          ·intro w'
           go_simp
           with_reducible rfl
          rotate_left
          ·simp only [Act.put,List.setIfInBounds_toArray,List.set_cons_zero,List.set_cons_succ,i64_w,i32_w]
           rfl
          refine pure_ (i:=3) (N:=some 87) (v:=?_) (a':=?_) #[true,true,true,true,false,false,false,false,false,false,false,false,false,false,false,false,false,false,false,false,false] rfl rfl (Ij HT_.out (by kernel_rfl)) (fun _ _ _ h=>h) (Or.inl ⟨by rfl,?_⟩) ?_ ?_
          rotate_left
          ·intro w'
           go_simp
           with_reducible rfl
          rotate_left
          ·simp only [Act.put,List.setIfInBounds_toArray,List.set_cons_zero,List.set_cons_succ,i64_w,i32_w]
           rfl
          refine pure_ (i:=4) (N:=some 88) (v:=?_) (a':=?_) #[true,true,true,true,true,false,false,false,false,false,false,false,false,false,false,false,false,false,false,false,false] rfl rfl (Ij HT_.out (by kernel_rfl)) (fun _ _ _ h=>h) (Or.inl ⟨by rfl,?_⟩) ?_ ?_
          rotate_left
          ·intro w'
           go_simp
           with_reducible rfl
          rotate_left
          ·simp only [Act.put,List.setIfInBounds_toArray,List.set_cons_zero,List.set_cons_succ,i64_w,i32_w]
           rfl
          refine pure_ (i:=5) (N:=some 89) (v:=?_) (a':=?_) #[true,true,true,true,true,true,false,false,false,false,false,false,false,false,false,false,false,false,false,false,false] rfl rfl (Ij HT_.out (by kernel_rfl)) (fun _ _ _ h=>h) (Or.inl ⟨by rfl,?_⟩) ?_ ?_
          rotate_left
          ·intro w'
           go_simp
           with_reducible rfl
          rotate_left
          ·simp only [Act.put,List.setIfInBounds_toArray,List.set_cons_zero,List.set_cons_succ,i64_w,i32_w]
           rfl
          refine pure_ (i:=6) (N:=some 90) (v:=?_) (a':=?_) #[true,true,true,true,true,true,true,false,false,false,false,false,false,false,false,false,false,false,false,false,false] rfl rfl (Ij HT_.out (by kernel_rfl)) (fun _ _ _ h=>h) (Or.inl ⟨by rfl,?_⟩) ?_ ?_
          rotate_left
          ·intro w'
           go_simp
           with_reducible rfl
          rotate_left
          ·simp only [Act.put,List.setIfInBounds_toArray,List.set_cons_zero,List.set_cons_succ,i64_w,i32_w]
           rfl
          refine pure_ (i:=7) (N:=some 91) (v:=?_) (a':=?_) #[true,true,true,true,true,true,true,true,false,false,false,false,false,false,false,false,false,false,false,false,false] rfl rfl (Ij HT_.out (by kernel_rfl)) (fun _ _ _ h=>h) (Or.inl ⟨by rfl,?_⟩) ?_ ?_
          rotate_left
          ·intro w'
           go_simp
           with_reducible rfl
          rotate_left
          ·simp only [Act.put,List.setIfInBounds_toArray,List.set_cons_zero,List.set_cons_succ,i64_w,i32_w]
           rfl
          refine pure_ (i:=8) (N:=some 92) (v:=undef) (a':=?_) #[true,true,true,true,true,true,true,true,true,false,false,false,false,false,false,false,false,false,false,false,false] rfl rfl (Ij HT_.out (by kernel_rfl)) (fun _ _ _ h=>h) (Or.inr ⟨by rfl,rfl⟩) ?_ ?_
          rotate_left
          ·simp only [Act.put,List.setIfInBounds_toArray,List.set_cons_zero,List.set_cons_succ,i64_w,i32_w]
           rfl
          refine pure_ (i:=9) (N:=some 93) (v:=undef) (a':=?_) #[true,true,true,true,true,true,true,true,true,true,false,false,false,false,false,false,false,false,false,false,false] rfl rfl (Ij HT_.out (by kernel_rfl)) (fun _ _ _ h=>h) (Or.inr ⟨by rfl,rfl⟩) ?_ ?_
          rotate_left
          ·simp only [Act.put,List.setIfInBounds_toArray,List.set_cons_zero,List.set_cons_succ,i64_w,i32_w]
           rfl
          refine pure_ (i:=10) (N:=some 94) (v:=undef) (a':=?_) #[true,true,true,true,true,true,true,true,true,true,true,false,false,false,false,false,false,false,false,false,false] rfl rfl (Ij HT_.out (by kernel_rfl)) (fun _ _ _ h=>h) (Or.inr ⟨by rfl,rfl⟩) ?_ ?_
          rotate_left
          ·simp only [Act.put,List.setIfInBounds_toArray,List.set_cons_zero,List.set_cons_succ,i64_w,i32_w]
           rfl
          refine pure_ (i:=11) (N:=some 95) (v:=undef) (a':=?_) #[true,true,true,true,true,true,true,true,true,true,true,true,false,false,false,false,false,false,false,false,false] rfl rfl (Ij HT_.out (by kernel_rfl)) (fun _ _ _ h=>h) (Or.inr ⟨by rfl,rfl⟩) ?_ ?_
          rotate_left
          ·simp only [Act.put,List.setIfInBounds_toArray,List.set_cons_zero,List.set_cons_succ,i64_w,i32_w]
           rfl
          refine pure_ (i:=12) (N:=some 96) (v:=undef) (a':=?_) #[true,true,true,true,true,true,true,true,true,true,true,true,true,false,false,false,false,false,false,false,false] rfl rfl (Ij HT_.out (by kernel_rfl)) (fun _ _ _ h=>h) (Or.inr ⟨by rfl,rfl⟩) ?_ ?_
          rotate_left
          ·simp only [Act.put,List.setIfInBounds_toArray,List.set_cons_zero,List.set_cons_succ,i64_w,i32_w]
           rfl
          refine pure_ (i:=13) (N:=some 97) (v:=undef) (a':=?_) #[true,true,true,true,true,true,true,true,true,true,true,true,true,true,false,false,false,false,false,false,false] rfl rfl (Ij HT_.out (by kernel_rfl)) (fun _ _ _ h=>h) (Or.inr ⟨by rfl,rfl⟩) ?_ ?_
          rotate_left
          ·simp only [Act.put,List.setIfInBounds_toArray,List.set_cons_zero,List.set_cons_succ,i64_w,i32_w]
           rfl
          refine pure_ (i:=14) (N:=some 98) (v:=undef) (a':=?_) #[true,true,true,true,true,true,true,true,true,true,true,true,true,true,true,false,false,false,false,false,false] rfl rfl (Ij HT_.out (by kernel_rfl)) (fun _ _ _ h=>h) (Or.inr ⟨by rfl,rfl⟩) ?_ ?_
          rotate_left
          ·simp only [Act.put,List.setIfInBounds_toArray,List.set_cons_zero,List.set_cons_succ,i64_w,i32_w]
           rfl
          refine pure_ (i:=15) (N:=some 99) (v:=undef) (a':=?_) #[true,true,true,true,true,true,true,true,true,true,true,true,true,true,true,true,false,false,false,false,false] rfl rfl (Ij HT_.out (by kernel_rfl)) (fun _ _ _ h=>h) (Or.inr ⟨by rfl,rfl⟩) ?_ ?_
          rotate_left
          ·simp only [Act.put,List.setIfInBounds_toArray,List.set_cons_zero,List.set_cons_succ,i64_w,i32_w]
           rfl
          refine pure_ (i:=16) (N:=some 100) (v:=undef) (a':=?_) #[true,true,true,true,true,true,true,true,true,true,true,true,true,true,true,true,true,false,false,false,false] rfl rfl (Ij HT_.out (by kernel_rfl)) (fun _ _ _ h=>h) (Or.inr ⟨by rfl,rfl⟩) ?_ ?_
          rotate_left
          ·simp only [Act.put,List.setIfInBounds_toArray,List.set_cons_zero,List.set_cons_succ,i64_w,i32_w]
           rfl
          refine pure_ (i:=17) (N:=some 101) (v:=undef) (a':=?_) #[true,true,true,true,true,true,true,true,true,true,true,true,true,true,true,true,true,true,false,false,false] rfl rfl (Ij HT_.out (by kernel_rfl)) (fun _ _ _ h=>h) (Or.inr ⟨by rfl,rfl⟩) ?_ ?_
          rotate_left
          ·simp only [Act.put,List.setIfInBounds_toArray,List.set_cons_zero,List.set_cons_succ,i64_w,i32_w]
           rfl
          refine pure_ (i:=18) (N:=some 102) (v:=?_) (a':=?_) #[true,true,true,true,true,true,true,true,true,true,true,true,true,true,true,true,true,true,true,false,false] rfl rfl (Ij HT_.out (by kernel_rfl)) (fun _ _ _ h=>h) (Or.inl ⟨by rfl,?_⟩) ?_ ?_
          rotate_left
          ·intro w'
           go_simp
           with_reducible rfl
          rotate_left
          ·simp only [Act.put,List.setIfInBounds_toArray,List.set_cons_zero,List.set_cons_succ,i64_w,i32_w]
           rfl
          refine pure_ (i:=19) (N:=some 103) (v:=?_) (a':=?_) #[true,true,true,true,true,true,true,true,true,true,true,true,true,true,true,true,true,true,true,true,false] rfl rfl (Ij HT_.out (by kernel_rfl)) (fun _ _ _ h=>h) (Or.inl ⟨by rfl,?_⟩) ?_ ?_
          rotate_left
          ·intro w'
           go_simp
           with_reducible rfl
          rotate_left
          ·simp only [Act.put,List.setIfInBounds_toArray,List.set_cons_zero,List.set_cons_succ,i64_w,i32_w]
           rfl
          refine pure_ (i:=20) (N:=some 83) (v:=?_) (a':=?_) #[true,true,true,true,true,true,true,true,true,true,true,true,true,true,true,true,true,true,true,true,true] rfl rfl (Ij HT_.out (by kernel_rfl)) (fun _ _ _ h=>h) (Or.inl ⟨by rfl,?_⟩) ?_ ?_
          rotate_left
          ·intro w'
           go_simp
           with_reducible rfl
          rotate_left
          ·simp only [Act.put,List.setIfInBounds_toArray,List.set_cons_zero,List.set_cons_succ,i64_w,i32_w]
           rfl
          refine done_ (done_of HT_.out (by kernel_rfl)) ?_
          try go_wp2
          go_meet
          case rel=>exact⟨_,(false),(by first|rfl|(simp;done)|(simp [*];done)),H',⟨by have:=HJ8.out;have:=HJ21.out;first|omega|exact Nat.le_refl _⟩,⟨by(with_reducible repeat(first|refine Id ?_ _|refine Ib ?_|refine Ic ?_ _));exact qa.out⟩,⟨by(with_reducible repeat(first|refine Id ?_ _|refine Ib ?_|refine Ic ?_ _));exact qb.out⟩,⟨by repeat(first|(with_reducible first|exact HB.out|apply Ih|apply If|apply Ig|refine Ie ?_ qg.out|refine Ie ?_ qj.out)|exact HB.out)⟩⟩
        ·replace c30:=Bool.eq_false_iff.mpr c30
         subst c30
         have H1:(impl_readTitle.j2 kj21 l0 ql qi true qc qd qe)=some (r1,r2,r3,r4,r5):=by rw [if_neg (show ¬ (false=true) by decide)] at H;exact H
         clear H
         have H:=H1
         clear H1
         have H':=Ia H
         clear H
         try go_wp2
         have qp:=Ia (Ib qa.out)
         have qq:=Ia (Ib qb.out)
         have qy:=Ia (Ig HB.out)
         clear qa
         clear qb
         clear HB
         have qa:=qp
         have qb:=qq
         have HB:=qy
         clear qp qq qy
         refine start_ (n:=21) (S:=fun w'=>w'.cell? ⟨qk,0,none⟩=some (.int .i64 qc)∧w'.cell? ⟨qk,1,none⟩=some (.int .i64 qd)∧w'.cell? ⟨qk,2,none⟩=some (.string qe)) (ds:=[]) #[false,false,false,false,false,false,false,false,false,false,false,false,false,false,false,false,false,false,false,false,false] (by kernel_rfl) rfl rfl ⟨(Ii qb.out 0).trans rfl,(Ii qb.out 1).trans rfl,(Ii qb.out 2).trans rfl⟩ (fun hHeld=>?_);refine with_tabW impl_readTitle.tab12 impl_readTitle.bits12 (fun HT_ HW_=>?_)
         generalize wc.drew=w39 at qa qb HB hHeld ⊢
         refine take_ (i:=0) (N:=some 84) (v:=?_) (a':=?_) #[true,false,false,false,false,false,false,false,false,false,false,false,false,false,false,false,false,false,false,false,false] rfl rfl (take_ofW HT_.out HW_.out (by kernel_rfl)) (fun _ _ _ h=>h) (Or.inl ⟨by rfl,?_⟩) hHeld ?_ ?_
         rotate_left
         ·rintro w' ⟨s0,s1,s2⟩
          go_simp
          with_reducible rfl
         rotate_left
         ·simp only [Act.put,List.setIfInBounds_toArray,List.set_cons_zero,List.set_cons_succ,i64_w,i32_w]
          rfl
         refine one_ (i:=1) (N:=some 85) #[true,true,false,false,false,false,false,false,false,false,false,false,false,false,false,false,false,false,false,false,false] rfl rfl (one_of HT_.out (by kernel_rfl)) (by decide) (fun K hK=>?_)
         refine goes_ Tryd.func39 (by kernel_rfl) rfl #[.agg #[.int .i64 qc,.int .i64 qd,.string qe]] (by rfl) rfl rfl (by(try simp only [List.map_toArray,List.map_cons,List.map_nil]);first|done|rfl|(simp only [List.length_drop,List.length_take];rfl)) ?_
         with_reducible refine(impl_Title_timesOk.calls qc qd qe false _ A29.out).mono ?_
         rintro e w40 ⟨rfl,hb⟩
         refine⟨_,rfl,?_⟩
         have qp:=Ia (blk_below (g:=qf) (o:=.cells #[.int .i64 0,.int .i64 0,.string (⟨#[]⟩:ByteArray)] 40 (0,0)) (by(with_reducible repeat(first|refine Id ?_ _|refine Ib ?_|refine Ic ?_ _));exact qa.out) hb)
         have qq:=Ia (blk_below (g:=qk) (o:=.cells #[.int .i64 qc,.int .i64 qd,.string qe] 40 (0,0)) (by(with_reducible repeat(first|refine Id ?_ _|refine Ib ?_|refine Ic ?_ _));exact qb.out) hb)
         have qy:=Ia (below_step (by repeat(first|(with_reducible first|exact HB.out|apply Ih|apply If|apply Ig|refine Ie ?_ qg.out|refine Ie ?_ qj.out)|exact HB.out)) hb)
         clear qa
         clear qb
         clear HB
         have qa:=qp
         have qb:=qq
         have HB:=qy
         clear qp qq qy
         (try clear hb)
         (try clear hb2)
         (try clear hk)
         (try clear hi)
         refine hK.out _ _ ⟨(Ii qb.out 0).trans rfl,(Ii qb.out 1).trans rfl,(Ii qb.out 2).trans rfl⟩ (fun hHeld=>?_)
         clear hK K
         refine norm_ (a':=?_) ?_ ?_
         rotate_left
         ·show Act.put _ (some 85) _=_
          simp only [Act.put,List.setIfInBounds_toArray,List.set_cons_zero,List.set_cons_succ,i64_w,i32_w]
          rfl
         refine pure_ (i:=2) (N:=some 86) (v:=?_) (a':=?_) #[true,true,true,false,false,false,false,false,false,false,false,false,false,false,false,false,false,false,false,false,false] rfl rfl (Ij HT_.out (by kernel_rfl)) (fun _ _ _ h=>h) (Or.inl ⟨by rfl,?_⟩) ?_ ?_
         rotate_left
         ·intro w'
          go_simp
          with_reducible rfl
         rotate_left
         ·simp only [Act.put,List.setIfInBounds_toArray,List.set_cons_zero,List.set_cons_succ,i64_w,i32_w]
          rfl
         refine pure_ (i:=3) (N:=some 87) (v:=?_) (a':=?_) #[true,true,true,true,false,false,false,false,false,false,false,false,false,false,false,false,false,false,false,false,false] rfl rfl (Ij HT_.out (by kernel_rfl)) (fun _ _ _ h=>h) (Or.inl ⟨by rfl,?_⟩) ?_ ?_
         rotate_left
         ·intro w'
          go_simp
          with_reducible rfl
         rotate_left
         ·simp only [Act.put,List.setIfInBounds_toArray,List.set_cons_zero,List.set_cons_succ,i64_w,i32_w]
          rfl
         refine pure_ (i:=4) (N:=some 88) (v:=undef) (a':=?_) #[true,true,true,true,true,false,false,false,false,false,false,false,false,false,false,false,false,false,false,false,false] rfl rfl (Ij HT_.out (by kernel_rfl)) (fun _ _ _ h=>h) (Or.inr ⟨by rfl,rfl⟩) ?_ ?_
         rotate_left
         ·simp only [Act.put,List.setIfInBounds_toArray,List.set_cons_zero,List.set_cons_succ,i64_w,i32_w]
          rfl
         refine pure_ (i:=5) (N:=some 89) (v:=undef) (a':=?_) #[true,true,true,true,true,true,false,false,false,false,false,false,false,false,false,false,false,false,false,false,false] rfl rfl (Ij HT_.out (by kernel_rfl)) (fun _ _ _ h=>h) (Or.inr ⟨by rfl,rfl⟩) ?_ ?_
         rotate_left
         ·simp only [Act.put,List.setIfInBounds_toArray,List.set_cons_zero,List.set_cons_succ,i64_w,i32_w]
          rfl
         refine pure_ (i:=6) (N:=some 90) (v:=undef) (a':=?_) #[true,true,true,true,true,true,true,false,false,false,false,false,false,false,false,false,false,false,false,false,false] rfl rfl (Ij HT_.out (by kernel_rfl)) (fun _ _ _ h=>h) (Or.inr ⟨by rfl,rfl⟩) ?_ ?_
         rotate_left
         ·simp only [Act.put,List.setIfInBounds_toArray,List.set_cons_zero,List.set_cons_succ,i64_w,i32_w]
          rfl
         refine pure_ (i:=7) (N:=some 91) (v:=undef) (a':=?_) #[true,true,true,true,true,true,true,true,false,false,false,false,false,false,false,false,false,false,false,false,false] rfl rfl (Ij HT_.out (by kernel_rfl)) (fun _ _ _ h=>h) (Or.inr ⟨by rfl,rfl⟩) ?_ ?_
         rotate_left
         ·simp only [Act.put,List.setIfInBounds_toArray,List.set_cons_zero,List.set_cons_succ,i64_w,i32_w]
          rfl
         refine pure_ (i:=8) (N:=some 92) (v:=undef) (a':=?_) #[true,true,true,true,true,true,true,true,true,false,false,false,false,false,false,false,false,false,false,false,false] rfl rfl (Ij HT_.out (by kernel_rfl)) (fun _ _ _ h=>h) (Or.inr ⟨by rfl,rfl⟩) ?_ ?_
         rotate_left
         ·simp only [Act.put,List.setIfInBounds_toArray,List.set_cons_zero,List.set_cons_succ,i64_w,i32_w]
          rfl
         refine pure_ (i:=9) (N:=some 93) (v:=undef) (a':=?_) #[true,true,true,true,true,true,true,true,true,true,false,false,false,false,false,false,false,false,false,false,false] rfl rfl (Ij HT_.out (by kernel_rfl)) (fun _ _ _ h=>h) (Or.inr ⟨by rfl,rfl⟩) ?_ ?_
         rotate_left
         ·simp only [Act.put,List.setIfInBounds_toArray,List.set_cons_zero,List.set_cons_succ,i64_w,i32_w]
          rfl
         refine pure_ (i:=10) (N:=some 94) (v:=undef) (a':=?_) #[true,true,true,true,true,true,true,true,true,true,true,false,false,false,false,false,false,false,false,false,false] rfl rfl (Ij HT_.out (by kernel_rfl)) (fun _ _ _ h=>h) (Or.inr ⟨by rfl,rfl⟩) ?_ ?_
         rotate_left
         ·simp only [Act.put,List.setIfInBounds_toArray,List.set_cons_zero,List.set_cons_succ,i64_w,i32_w]
          rfl
         refine pure_ (i:=11) (N:=some 95) (v:=undef) (a':=?_) #[true,true,true,true,true,true,true,true,true,true,true,true,false,false,false,false,false,false,false,false,false] rfl rfl (Ij HT_.out (by kernel_rfl)) (fun _ _ _ h=>h) (Or.inr ⟨by rfl,rfl⟩) ?_ ?_
         rotate_left
         ·simp only [Act.put,List.setIfInBounds_toArray,List.set_cons_zero,List.set_cons_succ,i64_w,i32_w]
          rfl
         refine pure_ (i:=12) (N:=some 96) (v:=undef) (a':=?_) #[true,true,true,true,true,true,true,true,true,true,true,true,true,false,false,false,false,false,false,false,false] rfl rfl (Ij HT_.out (by kernel_rfl)) (fun _ _ _ h=>h) (Or.inr ⟨by rfl,rfl⟩) ?_ ?_
         rotate_left
         ·simp only [Act.put,List.setIfInBounds_toArray,List.set_cons_zero,List.set_cons_succ,i64_w,i32_w]
          rfl
         refine pure_ (i:=13) (N:=some 97) (v:=undef) (a':=?_) #[true,true,true,true,true,true,true,true,true,true,true,true,true,true,false,false,false,false,false,false,false] rfl rfl (Ij HT_.out (by kernel_rfl)) (fun _ _ _ h=>h) (Or.inr ⟨by rfl,rfl⟩) ?_ ?_
         rotate_left
         ·simp only [Act.put,List.setIfInBounds_toArray,List.set_cons_zero,List.set_cons_succ,i64_w,i32_w]
          rfl
         refine pure_ (i:=14) (N:=some 98) (v:=undef) (a':=?_) #[true,true,true,true,true,true,true,true,true,true,true,true,true,true,true,false,false,false,false,false,false] rfl rfl (Ij HT_.out (by kernel_rfl)) (fun _ _ _ h=>h) (Or.inr ⟨by rfl,rfl⟩) ?_ ?_
         rotate_left
         ·simp only [Act.put,List.setIfInBounds_toArray,List.set_cons_zero,List.set_cons_succ,i64_w,i32_w]
          rfl
         refine pure_ (i:=15) (N:=some 99) (v:=undef) (a':=?_) #[true,true,true,true,true,true,true,true,true,true,true,true,true,true,true,true,false,false,false,false,false] rfl rfl (Ij HT_.out (by kernel_rfl)) (fun _ _ _ h=>h) (Or.inr ⟨by rfl,rfl⟩) ?_ ?_
         rotate_left
         ·simp only [Act.put,List.setIfInBounds_toArray,List.set_cons_zero,List.set_cons_succ,i64_w,i32_w]
          rfl
         refine pure_ (i:=16) (N:=some 100) (v:=undef) (a':=?_) #[true,true,true,true,true,true,true,true,true,true,true,true,true,true,true,true,true,false,false,false,false] rfl rfl (Ij HT_.out (by kernel_rfl)) (fun _ _ _ h=>h) (Or.inr ⟨by rfl,rfl⟩) ?_ ?_
         rotate_left
         ·simp only [Act.put,List.setIfInBounds_toArray,List.set_cons_zero,List.set_cons_succ,i64_w,i32_w]
          rfl
         refine pure_ (i:=17) (N:=some 101) (v:=undef) (a':=?_) #[true,true,true,true,true,true,true,true,true,true,true,true,true,true,true,true,true,true,false,false,false] rfl rfl (Ij HT_.out (by kernel_rfl)) (fun _ _ _ h=>h) (Or.inr ⟨by rfl,rfl⟩) ?_ ?_
         rotate_left
         ·simp only [Act.put,List.setIfInBounds_toArray,List.set_cons_zero,List.set_cons_succ,i64_w,i32_w]
          rfl
         refine pure_ (i:=18) (N:=some 102) (v:=undef) (a':=?_) #[true,true,true,true,true,true,true,true,true,true,true,true,true,true,true,true,true,true,true,false,false] rfl rfl (Ij HT_.out (by kernel_rfl)) (fun _ _ _ h=>h) (Or.inr ⟨by rfl,rfl⟩) ?_ ?_
         rotate_left
         ·simp only [Act.put,List.setIfInBounds_toArray,List.set_cons_zero,List.set_cons_succ,i64_w,i32_w]
          rfl
         refine pure_ (i:=19) (N:=some 103) (v:=?_) (a':=?_) #[true,true,true,true,true,true,true,true,true,true,true,true,true,true,true,true,true,true,true,true,false] rfl rfl (Ij HT_.out (by kernel_rfl)) (fun _ _ _ h=>h) (Or.inl ⟨by rfl,?_⟩) ?_ ?_
         rotate_left
         ·intro w'
          go_simp
          with_reducible rfl
         rotate_left
         ·simp only [Act.put,List.setIfInBounds_toArray,List.set_cons_zero,List.set_cons_succ,i64_w,i32_w]
          rfl
         refine pure_ (i:=20) (N:=some 83) (v:=?_) (a':=?_) #[true,true,true,true,true,true,true,true,true,true,true,true,true,true,true,true,true,true,true,true,true] rfl rfl (Ij HT_.out (by kernel_rfl)) (fun _ _ _ h=>h) (Or.inl ⟨by rfl,?_⟩) ?_ ?_
         rotate_left
         ·intro w'
          go_simp
          with_reducible rfl
         rotate_left
         ·simp only [Act.put,List.setIfInBounds_toArray,List.set_cons_zero,List.set_cons_succ,i64_w,i32_w]
          rfl
         refine done_ (done_of HT_.out (by kernel_rfl)) ?_
         try go_wp2
         go_meet
         case rel=>exact⟨_,(true),(by first|rfl|(simp;done)|(simp [*];done)),H',⟨by have:=HJ8.out;have:=HJ21.out;first|omega|exact Nat.le_refl _⟩,⟨by(with_reducible repeat(first|refine Id ?_ _|refine Ib ?_|refine Ic ?_ _));exact qa.out⟩,⟨by(with_reducible repeat(first|refine Id ?_ _|refine Ib ?_|refine Ic ?_ _));exact qb.out⟩,⟨by repeat(first|(with_reducible first|exact HB.out|apply Ih|apply If|apply Ig|refine Ie ?_ qg.out|refine Ie ?_ qj.out)|exact HB.out)⟩⟩
       case rest=>
        clear HC28
        try clear c2
        try clear p2
        try clear q2
        try clear hx2
        try clear c3
        try clear p6
        try clear p22
        try clear q22
        try clear hx22
        try clear c25
        try clear c26
        try clear c30
        try clear c31
        try clear yd
        try clear c31b1
        try clear c33
        try clear c33b0
        try clear c34
        try clear c34b0
        try clear c39
        try clear hcz27_0
        try clear hcz27_1
        try clear hcz27_2
        try clear hfz27_0
        try clear hfz27_1
        try clear hfz27_2
        try clear qr
        try clear qs
        try clear qt
        try clear p222
        try clear q222
        obtain⟨kq,x83_27,rfl,HA,HJ27,qa,qb,HB⟩:=hcut
        cases kq with
        | zero => exact absurd HA.out (by simp [impl_readTitle.j2])
        | succ kj27 =>
         have H:=HA.out
         clear HA
         simp only [impl_readTitle.j2] at H
         by_cases c41:x83_27=true
         ·subst c41
          have H1:(some (0,0,(⟨#[]⟩:ByteArray),(⟨#[]⟩:ByteArray),4))=some (r1,r2,r3,r4,r5):=by rw [if_pos rfl] at H;exact H
          clear H
          have H:=H1
          clear H1
          simp only [Option.some.injEq,Prod.mk.injEq] at H
          obtain⟨rfl,rfl,rfl,rfl,rfl⟩:=H
          have hnb42:=qh.out
          have hnc42:=qm.out
          have hcz43_0:wc.cell? ⟨qf,0,none⟩=some (.int .i64 0):=(Ii qa.out 0).trans rfl
          have hcz43_1:wc.cell? ⟨qf,1,none⟩=some (.int .i64 0):=(Ii qa.out 1).trans rfl
          have hcz43_2:wc.cell? ⟨qf,2,none⟩=some (.string (⟨#[]⟩:ByteArray)):=(Ii qa.out 2).trans rfl
          have hfz43_0:=Ik qa.out 0
          have hfz43_1:=Ik qa.out 1
          have hfz43_2:=Ik qa.out 2
          go_wp2
          refine bodyPost_ret (results_ctt rfl _ _ qf 40 #[.int .i64 0,.int .i64 0,.string (⟨#[]⟩:ByteArray)] (0,0) _ rfl (by(with_reducible repeat(first|refine Id ?_ _|refine Ib ?_|refine Ic ?_ _));refine Il (cs:=#[.int .i64 0,.int .i64 0,.string (⟨#[]⟩:ByteArray)]) ?_ 2 _ rfl;(with_reducible repeat(first|refine Id ?_ _|refine Ib ?_|refine Ic ?_ _));refine Il (cs:=#[.int .i64 0,.int .i64 0,.string (⟨#[]⟩:ByteArray)]) ?_ 1 _ rfl;(with_reducible repeat(first|refine Id ?_ _|refine Ib ?_|refine Ic ?_ _));refine Il (cs:=#[.int .i64 0,.int .i64 0,.string (⟨#[]⟩:ByteArray)]) ?_ 0 _ rfl;(with_reducible repeat(first|refine Id ?_ _|refine Ib ?_|refine Ic ?_ _));exact qa.out) Tryd.underlying40 rfl (by kernel_rfl)) rfl ?_
          exact⟨by first|rfl|(simp [errW_none,errW_some] <;> rfl)|(simp [*,errW_none,errW_some] <;> rfl),by repeat(first|(with_reducible first|exact HB.out|apply Ih|apply If|apply Ig|refine Ie ?_ qg.out|refine Ie ?_ qj.out)|exact HB.out)⟩
         ·replace c41:=Bool.eq_false_iff.mpr c41
          subst c41
          have H1:((strings_Contains.f qi (⟨#[10,10]⟩:ByteArray)).bind fun t223=>(if t223=true then ((strings_HasPrefix.f qi (⟨#[10]⟩:ByteArray)).bind fun yf=>(if yf=true then (impl_readTitle.j3 kj27 l0 ql true qc qd qe) else ((impl_textOk.f kj27 qe).bind fun qv=>(impl_readTitle.j3 kj27 l0 ql (!qv) qc qd qe)))) else (impl_readTitle.j3 kj27 l0 ql true qc qd qe)))=some (r1,r2,r3,r4,r5):=by rw [if_neg (show ¬ (false=true) by decide)] at H;exact H
          clear H
          have H:=H1
          clear H1
          have HC44:=Ia H
          clear H
          go_upto_region 14 with (fail)
          go_cut [105] (fun v105 wc=>∃ (kq:Nat) (yc:Bool),v105=.bool yc∧Aside0 (impl_readTitle.j3 kq l0 ql yc qc qd qe=some (r1,r2,r3,r4,r5))∧Aside0 (kq≤kj27)∧Aside0 (wc.heap[qf]? = some (.cells #[.int .i64 0,.int .i64 0,.string (⟨#[]⟩:ByteArray)] 40 (0,0)))∧Aside0 (wc.heap[qk]? = some (.cells #[.int .i64 qc,.int .i64 qd,.string qe] 40 (0,0)))∧Aside0 (Below w.heap.size w wc))
          case first=>
           have H:=HC44.out
           clear HC44
           replace H:=Option.bind_eq_some_iff.mp H
           obtain⟨t223,A450,H⟩:=H
           replace H:(if t223=true then ((strings_HasPrefix.f qi (⟨#[10]⟩:ByteArray)).bind fun yf=>(if yf=true then (impl_readTitle.j3 kj27 l0 ql true qc qd qe) else ((impl_textOk.f kj27 qe).bind fun qv=>(impl_readTitle.j3 kj27 l0 ql (!qv) qc qd qe)))) else (impl_readTitle.j3 kj27 l0 ql true qc qd qe))=some (r1,r2,r3,r4,r5):=H
           have A45:=Ia A450
           clear A450
           by_cases c46:t223=true
           ·subst c46
            have H1:((strings_HasPrefix.f qi (⟨#[10]⟩:ByteArray)).bind fun yf=>(if yf=true then (impl_readTitle.j3 kj27 l0 ql true qc qd qe) else ((impl_textOk.f kj27 qe).bind fun qv=>(impl_readTitle.j3 kj27 l0 ql (!qv) qc qd qe))))=some (r1,r2,r3,r4,r5):=by rw [if_pos rfl] at H;exact H
            clear H
            have H:=H1
            clear H1
            replace H:=Option.bind_eq_some_iff.mp H
            obtain⟨yf,A470,H⟩:=H
            replace H:(if yf=true then (impl_readTitle.j3 kj27 l0 ql true qc qd qe) else ((impl_textOk.f kj27 qe).bind fun qv=>(impl_readTitle.j3 kj27 l0 ql (!qv) qc qd qe)))=some (r1,r2,r3,r4,r5):=H
            have A47:=Ia A470
            clear A470
            by_cases c48:yf=true
            ·subst c48
             have H1:(impl_readTitle.j3 kj27 l0 ql true qc qd qe)=some (r1,r2,r3,r4,r5):=by rw [if_pos rfl] at H;exact H
             clear H
             have H:=H1
             clear H1
             have H':=Ia H
             clear H
             go_wp2_with (first|((with_reducible refine gate_callee (f:=48) rfl ?_);refine goesL_ (some 107) rfl rfl Tryd.func48 (by kernel_rfl) rfl #[.string qi,.string (⟨#[10,10]⟩:ByteArray)] rfl (by(try simp only [List.map_toArray,List.map_cons,List.map_nil]);first|done|rfl|(simp only [List.length_drop,List.length_take];rfl)) ?_;(with_reducible refine(strings_Contains.calls qi (⟨#[10,10]⟩:ByteArray) true _ (by first|exact HGL.out|((repeat(with_reducible refine Glob.drewN ?_));exact HGL.out)|exact Glob.below HGL.out (by repeat(first|(with_reducible first|exact HB.out|apply Ih|apply If|apply Ig|refine Ie ?_ qg.out|refine Ie ?_ qj.out)|exact HB.out))) A45.out).mono ?_);rintro e w' ⟨rfl,⟨nd,rfl⟩⟩;refine⟨_,rfl,?_⟩)|(go_at_call 49;(with_reducible refine(strings_HasPrefix.calls qi (⟨#[10]⟩:ByteArray) true _ A47.out).mono ?_);rintro e w' ⟨rfl,⟨nd,rfl⟩⟩))
             go_meet
             case rel=>exact⟨_,(true),(by first|rfl|(simp;done)|(simp [*];done)),H',⟨by have:=HJ8.out;have:=HJ21.out;have:=HJ27.out;first|omega|exact Nat.le_refl _⟩,⟨by(with_reducible repeat(first|refine Id ?_ _|refine Ib ?_|refine Ic ?_ _));exact qa.out⟩,⟨by(with_reducible repeat(first|refine Id ?_ _|refine Ib ?_|refine Ic ?_ _));exact qb.out⟩,⟨by repeat(first|(with_reducible first|exact HB.out|apply Ih|apply If|apply Ig|refine Ie ?_ qg.out|refine Ie ?_ qj.out)|exact HB.out)⟩⟩
            ·replace c48:=Bool.eq_false_iff.mpr c48
             subst c48
             have H1:((impl_textOk.f kj27 qe).bind fun qv=>(impl_readTitle.j3 kj27 l0 ql (!qv) qc qd qe))=some (r1,r2,r3,r4,r5):=by rw [if_neg (show ¬ (false=true) by decide)] at H;exact H
             clear H
             have H:=H1
             clear H1
             replace H:=Option.bind_eq_some_iff.mp H
             obtain⟨qv,A490,H⟩:=H
             replace H:(impl_readTitle.j3 kj27 l0 ql (!qv) qc qd qe)=some (r1,r2,r3,r4,r5):=H
             have A49:=Ia A490
             clear A490
             have H':=Ia H
             clear H
             go_wp2_with (first|((with_reducible refine gate_callee (f:=48) rfl ?_);refine goesL_ (some 107) rfl rfl Tryd.func48 (by kernel_rfl) rfl #[.string qi,.string (⟨#[10,10]⟩:ByteArray)] rfl (by(try simp only [List.map_toArray,List.map_cons,List.map_nil]);first|done|rfl|(simp only [List.length_drop,List.length_take];rfl)) ?_;(with_reducible refine(strings_Contains.calls qi (⟨#[10,10]⟩:ByteArray) true _ (by first|exact HGL.out|((repeat(with_reducible refine Glob.drewN ?_));exact HGL.out)|exact Glob.below HGL.out (by repeat(first|(with_reducible first|exact HB.out|apply Ih|apply If|apply Ig|refine Ie ?_ qg.out|refine Ie ?_ qj.out)|exact HB.out))) A45.out).mono ?_);rintro e w' ⟨rfl,⟨nd,rfl⟩⟩;refine⟨_,rfl,?_⟩)|(go_at_call 49;(with_reducible refine(strings_HasPrefix.calls qi (⟨#[10]⟩:ByteArray) false _ A47.out).mono ?_);rintro e w' ⟨rfl,⟨nd,rfl⟩⟩;have hnb50:=qm.out;have hnc50:=qh.out;have hcz51_0:wc.cell? ⟨qk,0,none⟩=some (.int .i64 qc):=(Ii qb.out 0).trans rfl;have hcz51_1:wc.cell? ⟨qk,1,none⟩=some (.int .i64 qd):=(Ii qb.out 1).trans rfl;have hcz51_2:wc.cell? ⟨qk,2,none⟩=some (.string qe):=(Ii qb.out 2).trans rfl;have hfz51_0:=Ik qb.out 0;have hfz51_1:=Ik qb.out 1;have hfz51_2:=Ik qb.out 2)|(go_at_call 40;(with_reducible refine(impl_textOk.calls kj27 qe qv _ (by first|exact HGL.out|((repeat(with_reducible refine Glob.drewN ?_));exact HGL.out)|exact Glob.below HGL.out (by repeat(first|(with_reducible first|exact HB.out|apply Ih|apply If|apply Ig|refine Ie ?_ qg.out|refine Ie ?_ qj.out)|exact HB.out))) A49.out).mono ?_);rintro e w' ⟨rfl,⟨nd,rfl⟩⟩))
             go_meet
             case rel=>exact⟨_,(!qv),(by first|rfl|(simp;done)|(simp [*];done)),H',⟨by have:=HJ8.out;have:=HJ21.out;have:=HJ27.out;first|omega|exact Nat.le_refl _⟩,⟨by(with_reducible repeat(first|refine Id ?_ _|refine Ib ?_|refine Ic ?_ _));exact qa.out⟩,⟨by(with_reducible repeat(first|refine Id ?_ _|refine Ib ?_|refine Ic ?_ _));exact qb.out⟩,⟨by repeat(first|(with_reducible first|exact HB.out|apply Ih|apply If|apply Ig|refine Ie ?_ qg.out|refine Ie ?_ qj.out)|exact HB.out)⟩⟩
           ·replace c46:=Bool.eq_false_iff.mpr c46
            subst c46
            have H1:(impl_readTitle.j3 kj27 l0 ql true qc qd qe)=some (r1,r2,r3,r4,r5):=by rw [if_neg (show ¬ (false=true) by decide)] at H;exact H
            clear H
            have H:=H1
            clear H1
            have H':=Ia H
            clear H
            go_wp2_with (first|((with_reducible refine gate_callee (f:=48) rfl ?_);refine goesL_ (some 107) rfl rfl Tryd.func48 (by kernel_rfl) rfl #[.string qi,.string (⟨#[10,10]⟩:ByteArray)] rfl (by(try simp only [List.map_toArray,List.map_cons,List.map_nil]);first|done|rfl|(simp only [List.length_drop,List.length_take];rfl)) ?_;(with_reducible refine(strings_Contains.calls qi (⟨#[10,10]⟩:ByteArray) false _ (by first|exact HGL.out|((repeat(with_reducible refine Glob.drewN ?_));exact HGL.out)|exact Glob.below HGL.out (by repeat(first|(with_reducible first|exact HB.out|apply Ih|apply If|apply Ig|refine Ie ?_ qg.out|refine Ie ?_ qj.out)|exact HB.out))) A45.out).mono ?_);rintro e w' ⟨rfl,⟨nd,rfl⟩⟩;refine⟨_,rfl,?_⟩))
            go_meet
            case rel=>exact⟨_,(true),(by first|rfl|(simp;done)|(simp [*];done)),H',⟨by have:=HJ8.out;have:=HJ21.out;have:=HJ27.out;first|omega|exact Nat.le_refl _⟩,⟨by(with_reducible repeat(first|refine Id ?_ _|refine Ib ?_|refine Ic ?_ _));exact qa.out⟩,⟨by(with_reducible repeat(first|refine Id ?_ _|refine Ib ?_|refine Ic ?_ _));exact qb.out⟩,⟨by repeat(first|(with_reducible first|exact HB.out|apply Ih|apply If|apply Ig|refine Ie ?_ qg.out|refine Ie ?_ qj.out)|exact HB.out)⟩⟩
          case rest=>
           clear HC44
           try clear c2
           try clear p2
           try clear q2
           try clear hx2
           try clear c3
           try clear c4
           try clear c5
           try clear p6
           try clear p22
           try clear q22
           try clear hx22
           try clear c25
           try clear c26
           try clear c30
           try clear c31
           try clear yd
           try clear c31b1
           try clear c33
           try clear c33b0
           try clear c34
           try clear c34b0
           try clear c39
           try clear c41
           try clear c42
           try clear c46
           try clear c48
           try clear c50
           try clear hcz27_0
           try clear hcz27_1
           try clear hcz27_2
           try clear hcz43_0
           try clear hcz43_1
           try clear hcz43_2
           try clear hcz51_0
           try clear hcz51_1
           try clear hcz51_2
           try clear hfz27_0
           try clear hfz27_1
           try clear hfz27_2
           try clear hfz43_0
           try clear hfz43_1
           try clear hfz43_2
           try clear hfz51_0
           try clear hfz51_1
           try clear hfz51_2
           try clear qr
           try clear qs
           try clear qt
           try clear p2
           try clear p22
           try clear p222
           try clear p6
           try clear q2
           try clear q22
           try clear q222
           obtain⟨kq,yc,rfl,HA,HJ43,qa,qb,HB⟩:=hcut
           cases kq with
           | zero => exact absurd HA.out (by simp [impl_readTitle.j3])
           | succ kj43 =>
            have H:=HA.out
            clear HA
            simp only [impl_readTitle.j3] at H
            by_cases c52:yc=true
            ·subst c52
             have H1:(some (0,0,(⟨#[]⟩:ByteArray),(⟨#[]⟩:ByteArray),5))=some (r1,r2,r3,r4,r5):=by rw [if_pos rfl] at H;exact H
             clear H
             have H:=H1
             clear H1
             simp only [Option.some.injEq,Prod.mk.injEq] at H
             obtain⟨rfl,rfl,rfl,rfl,rfl⟩:=H
             have hnb53:=qh.out
             have hnc53:=qm.out
             have hcz54_0:wc.cell? ⟨qf,0,none⟩=some (.int .i64 0):=(Ii qa.out 0).trans rfl
             have hcz54_1:wc.cell? ⟨qf,1,none⟩=some (.int .i64 0):=(Ii qa.out 1).trans rfl
             have hcz54_2:wc.cell? ⟨qf,2,none⟩=some (.string (⟨#[]⟩:ByteArray)):=(Ii qa.out 2).trans rfl
             have hfz54_0:=Ik qa.out 0
             have hfz54_1:=Ik qa.out 1
             have hfz54_2:=Ik qa.out 2
             go_wp2
             refine bodyPost_ret (results_ctt rfl _ _ qf 40 #[.int .i64 0,.int .i64 0,.string (⟨#[]⟩:ByteArray)] (0,0) _ rfl (by(with_reducible repeat(first|refine Id ?_ _|refine Ib ?_|refine Ic ?_ _));refine Il (cs:=#[.int .i64 0,.int .i64 0,.string (⟨#[]⟩:ByteArray)]) ?_ 2 _ rfl;(with_reducible repeat(first|refine Id ?_ _|refine Ib ?_|refine Ic ?_ _));refine Il (cs:=#[.int .i64 0,.int .i64 0,.string (⟨#[]⟩:ByteArray)]) ?_ 1 _ rfl;(with_reducible repeat(first|refine Id ?_ _|refine Ib ?_|refine Ic ?_ _));refine Il (cs:=#[.int .i64 0,.int .i64 0,.string (⟨#[]⟩:ByteArray)]) ?_ 0 _ rfl;(with_reducible repeat(first|refine Id ?_ _|refine Ib ?_|refine Ic ?_ _));exact qa.out) Tryd.underlying40 rfl (by kernel_rfl)) rfl ?_
             exact⟨by first|rfl|(simp [errW_none,errW_some] <;> rfl)|(simp [*,errW_none,errW_some] <;> rfl),by repeat(first|(with_reducible first|exact HB.out|apply Ih|apply If|apply Ig|refine Ie ?_ qg.out|refine Ie ?_ qj.out)|exact HB.out)⟩
            ·replace c52:=Bool.eq_false_iff.mpr c52
             subst c52
             have H1:(if (l0.length:Int) ≥ 200 then (some (0,0,(⟨#[]⟩:ByteArray),(⟨#[]⟩:ByteArray),6)) else (some (qc,qd,qe,ql,0)))=some (r1,r2,r3,r4,r5):=by rw [if_neg (show ¬ (false=true) by decide)] at H;exact H
             clear H
             have H:=H1
             clear H1
             by_cases c55:(l0.length:Int) ≥ 200
             ·rw [if_pos c55] at H
              have c55b0:decide (200≤(l0.length:Int))=true:=decide_eq_true c55
              have c55b1:decide (200≤l0.length)=true:=decide_eq_true (by omega)
              clear c55
              simp only [Option.some.injEq,Prod.mk.injEq] at H
              obtain⟨rfl,rfl,rfl,rfl,rfl⟩:=H
              have hnb56:=qh.out
              have hnc56:=qm.out
              have hcz57_0:wc.cell? ⟨qf,0,none⟩=some (.int .i64 0):=(Ii qa.out 0).trans rfl
              have hcz57_1:wc.cell? ⟨qf,1,none⟩=some (.int .i64 0):=(Ii qa.out 1).trans rfl
              have hcz57_2:wc.cell? ⟨qf,2,none⟩=some (.string (⟨#[]⟩:ByteArray)):=(Ii qa.out 2).trans rfl
              have hfz57_0:=Ik qa.out 0
              have hfz57_1:=Ik qa.out 1
              have hfz57_2:=Ik qa.out 2
              go_wp2
              refine bodyPost_ret (results_ctt rfl _ _ qf 40 #[.int .i64 0,.int .i64 0,.string (⟨#[]⟩:ByteArray)] (0,0) _ rfl (by(with_reducible repeat(first|refine Id ?_ _|refine Ib ?_|refine Ic ?_ _));refine Il (cs:=#[.int .i64 0,.int .i64 0,.string (⟨#[]⟩:ByteArray)]) ?_ 2 _ rfl;(with_reducible repeat(first|refine Id ?_ _|refine Ib ?_|refine Ic ?_ _));refine Il (cs:=#[.int .i64 0,.int .i64 0,.string (⟨#[]⟩:ByteArray)]) ?_ 1 _ rfl;(with_reducible repeat(first|refine Id ?_ _|refine Ib ?_|refine Ic ?_ _));refine Il (cs:=#[.int .i64 0,.int .i64 0,.string (⟨#[]⟩:ByteArray)]) ?_ 0 _ rfl;(with_reducible repeat(first|refine Id ?_ _|refine Ib ?_|refine Ic ?_ _));exact qa.out) Tryd.underlying40 rfl (by kernel_rfl)) rfl ?_
              exact⟨by first|rfl|(simp [errW_none,errW_some] <;> rfl)|(simp [*,errW_none,errW_some] <;> rfl),by repeat(first|(with_reducible first|exact HB.out|apply Ih|apply If|apply Ig|refine Ie ?_ qg.out|refine Ie ?_ qj.out)|exact HB.out)⟩
             ·rw [if_neg c55] at H
              have c55b0:decide (200≤(l0.length:Int))=false:=decide_eq_false c55
              have c55b1:decide (200≤l0.length)=false:=decide_eq_false (by omega)
              clear c55
              simp only [Option.some.injEq,Prod.mk.injEq] at H
              obtain⟨rfl,rfl,rfl,rfl,rfl⟩:=H
              have hnb58:=qm.out
              have hnc58:=qh.out
              have hcz59_0:wc.cell? ⟨qk,0,none⟩=some (.int .i64 qc):=(Ii qb.out 0).trans rfl
              have hcz59_1:wc.cell? ⟨qk,1,none⟩=some (.int .i64 qd):=(Ii qb.out 1).trans rfl
              have hcz59_2:wc.cell? ⟨qk,2,none⟩=some (.string qe):=(Ii qb.out 2).trans rfl
              have hfz59_0:=Ik qb.out 0
              have hfz59_1:=Ik qb.out 1
              have hfz59_2:=Ik qb.out 2
              have hcz60_0:wc.cell? ⟨qf,0,none⟩=some (.int .i64 0):=(Ii qa.out 0).trans rfl
              have hcz60_1:wc.cell? ⟨qf,1,none⟩=some (.int .i64 0):=(Ii qa.out 1).trans rfl
              have hcz60_2:wc.cell? ⟨qf,2,none⟩=some (.string (⟨#[]⟩:ByteArray)):=(Ii qa.out 2).trans rfl
              have hfz60_0:=Ik qa.out 0
              have hfz60_1:=Ik qa.out 1
              have hfz60_2:=Ik qa.out 2
              go_wp2
              refine bodyPost_ret (results_ctt rfl _ _ qf 40 #[.int .i64 qc,.int .i64 qd,.string qe] (0,0) _ rfl (by(with_reducible repeat(first|refine Id ?_ _|refine Ib ?_|refine Ic ?_ _));refine Il (cs:=#[.int .i64 qc,.int .i64 qd,.string (⟨#[]⟩:ByteArray)]) ?_ 2 _ rfl;(with_reducible repeat(first|refine Id ?_ _|refine Ib ?_|refine Ic ?_ _));refine Il (cs:=#[.int .i64 qc,.int .i64 0,.string (⟨#[]⟩:ByteArray)]) ?_ 1 _ rfl;(with_reducible repeat(first|refine Id ?_ _|refine Ib ?_|refine Ic ?_ _));refine Il (cs:=#[.int .i64 0,.int .i64 0,.string (⟨#[]⟩:ByteArray)]) ?_ 0 _ rfl;(with_reducible repeat(first|refine Id ?_ _|refine Ib ?_|refine Ic ?_ _));exact qa.out) Tryd.underlying40 rfl (by kernel_rfl)) rfl ?_
              exact⟨by first|rfl|(simp [errW_none,errW_some] <;> rfl)|(simp [*,errW_none,errW_some] <;> rfl),by repeat(first|(with_reducible first|exact HB.out|apply Ih|apply If|apply Ig|refine Ie ?_ qg.out|refine Ie ?_ qj.out)|exact HB.out)⟩

end Go.Proofs.YtidogkjhjmcliaaDoor.HFnExactReadTitles
