-- Laid by myprint.py, a program of this repo, out of the kit's printer and this repo's own texts (wip/hand).
import Derived.Test.YtidogkjhjmcliaaDoorHFnTitlesBackx0
import Derived.Test.YtidogkjhjmcliaaDoorHFnTitlesBackx6
import Derived.Test.YtidogkjhjmcliaaDoorHFnTitlesBackx8
import Derived.Test.YtidogkjhjmcliaaDoorHFnTitlesBackx11
import Derived.Test.YtidogkjhjmcliaaDoorCmp
namespace Go.Proofs.YtidogkjhjmcliaaDoor.HFnTitlesBack
open Go.RowKit Go.Proofs.YtidogkjhjmcliaaDoorW.PrintWords Go.Proofs.YtidogkjhjmcliaaDoorW.PrintLast Go.Proofs.YtidogkjhjmcliaaDoorW.PrintMore
attribute [local go_sem] max2_int min2_int max_two min_two max_three min_three max_four min_four   -- for this text's walks alone
set_option linter.unusedVariables false
set_option linter.unusedSimpArgs false
theorem Ma : type_of% @Aside0.mk := @Aside0.mk

/-! ### impl_readTitle: function 33 -/
mutual
def impl_readTitle.j0 : Nat → List (S40) → ByteArray → ByteArray → Bool → Bool → Bool → Bool → Int → Int → ByteArray → Option (Int × Int × ByteArray × ByteArray × Int)
 | 0, _, _, _, _, _, _, _, _, _, _ => none
 | k + 1, x0, x8, x11, x12, x17, x19, x59, x245000, x245001, x245002 => if x59 = true then (some (0, 0, (⟨#[]⟩ : ByteArray), (⟨#[]⟩ : ByteArray), 2)) else (if x12 = true then (if x17 = true then (impl_readTitle.j1 k x0 x8 x11 (!x19) x245000 x245001 x245002) else (impl_readTitle.j1 k x0 x8 x11 true x245000 x245001 x245002)) else (impl_readTitle.j1 k x0 x8 x11 true x245000 x245001 x245002))
def impl_readTitle.j1 : Nat → List (S40) → ByteArray → ByteArray → Bool → Int → Int → ByteArray → Option (Int × Int × ByteArray × ByteArray × Int)
 | 0, _, _, _, _, _, _, _ => none
 | k + 1, x0, x8, x11, x71, x245000, x245001, x245002 => if x71 = true then (some (0, 0, (⟨#[]⟩ : ByteArray), (⟨#[]⟩ : ByteArray), 3)) else ((impl_Title_timesOk.f x245000 x245001 x245002).bind fun t249 => (if t249 = true then (if (x0.length : Int) > 0 then (if 0 ≤ (wrap64 ((x0.length : Int) - 1)) then (if (wrap64 ((x0.length : Int) - 1)) < (x0.length : Int) then (impl_readTitle.j2 k x0 x8 x11 (decide (x245000 < ((rd_T40 x0 (wrap64 ((x0.length : Int) - 1))).f1))) x245000 x245001 x245002) else (none)) else (none)) else (impl_readTitle.j2 k x0 x8 x11 false x245000 x245001 x245002)) else (impl_readTitle.j2 k x0 x8 x11 true x245000 x245001 x245002)))
def impl_readTitle.j2 : Nat → List (S40) → ByteArray → ByteArray → Bool → Int → Int → ByteArray → Option (Int × Int × ByteArray × ByteArray × Int)
 | 0, _, _, _, _, _, _, _ => none
 | k + 1, x0, x8, x11, x83, x245000, x245001, x245002 => if x83 = true then (some (0, 0, (⟨#[]⟩ : ByteArray), (⟨#[]⟩ : ByteArray), 4)) else ((strings_Contains.f x11 (⟨#[10, 10]⟩ : ByteArray)).bind fun t251 => (if t251 = true then ((strings_HasPrefix.f x11 (⟨#[10]⟩ : ByteArray)).bind fun t252 => (if t252 = true then (impl_readTitle.j3 k x0 x8 true x245000 x245001 x245002) else ((impl_textOk.f k x245002).bind fun t253 => (impl_readTitle.j3 k x0 x8 (!t253) x245000 x245001 x245002)))) else (impl_readTitle.j3 k x0 x8 true x245000 x245001 x245002)))
def impl_readTitle.j3 : Nat → List (S40) → ByteArray → Bool → Int → Int → ByteArray → Option (Int × Int × ByteArray × ByteArray × Int)
 | 0, _, _, _, _, _, _ => none
 | k + 1, x0, x8, x105, x245000, x245001, x245002 => if x105 = true then (some (0, 0, (⟨#[]⟩ : ByteArray), (⟨#[]⟩ : ByteArray), 5)) else (if (x0.length : Int) ≥ 200 then (some (0, 0, (⟨#[]⟩ : ByteArray), (⟨#[]⟩ : ByteArray), 6)) else (some (x245000, x245001, x245002, x8, 0)))
end
def impl_readTitle.f (k : Nat) (l0 : List (S40)) (a1 : ByteArray) : Option (Int × Int × ByteArray × ByteArray × Int) := (strings_Cut.f a1 (⟨#[10]⟩ : ByteArray)).bind fun bt231 => ((strings_Cut.f bt231.2.1 (⟨#[10]⟩ : ByteArray)).bind fun bt234 => ((strings_Cut.f bt234.1 (⟨#[32, 45, 45, 62, 32]⟩ : ByteArray)).bind fun bt237 => ((impl_milliOf.f k bt237.1).bind fun bt240 => ((impl_milliOf.f k bt237.2.1).bind fun bt242 => ((strings_Cut.f bt234.2.1 (⟨#[10, 10]⟩ : ByteArray)).bind fun bt245 => (if bt231.2.2 = true then ((strconv_Itoa_26.f (wrap64 ((l0.length : Int) + 1))).bind fun t248 => (impl_readTitle.j0 k l0 bt245.2.1 bt234.2.1 bt234.2.2 bt240.2 bt242.2 (bt231.1.toList != t248.toList) bt240.1 bt242.1 bt245.1)) else (impl_readTitle.j0 k l0 bt245.2.1 bt234.2.1 bt234.2.2 bt240.2 bt242.2 true bt240.1 bt242.1 bt245.1)))))))
theorem impl_readTitle.mono_l : ∀ k, (∀ y0 y1 y2 y3 y4 y5 y6 y7 y8 y9, LeO (impl_readTitle.j0 k y0 y1 y2 y3 y4 y5 y6 y7 y8 y9) (impl_readTitle.j0 (k + 1) y0 y1 y2 y3 y4 y5 y6 y7 y8 y9)) ∧ (∀ y0 y1 y2 y3 y4 y5 y6, LeO (impl_readTitle.j1 k y0 y1 y2 y3 y4 y5 y6) (impl_readTitle.j1 (k + 1) y0 y1 y2 y3 y4 y5 y6)) ∧ (∀ y0 y1 y2 y3 y4 y5 y6, LeO (impl_readTitle.j2 k y0 y1 y2 y3 y4 y5 y6) (impl_readTitle.j2 (k + 1) y0 y1 y2 y3 y4 y5 y6)) ∧ (∀ y0 y1 y2 y3 y4 y5, LeO (impl_readTitle.j3 k y0 y1 y2 y3 y4 y5) (impl_readTitle.j3 (k + 1) y0 y1 y2 y3 y4 y5))
 | 0 => ⟨fun _ _ _ _ _ _ _ _ _ _ r h => by simp [impl_readTitle.j0] at h, fun _ _ _ _ _ _ _ r h => by simp [impl_readTitle.j1] at h, fun _ _ _ _ _ _ _ r h => by simp [impl_readTitle.j2] at h, fun _ _ _ _ _ _ r h => by simp [impl_readTitle.j3] at h⟩
 | k + 1 => by
  obtain⟨ih0,ih1,ih2,ih3⟩:=impl_readTitle.mono_l k
  refine⟨?_,?_,?_,?_⟩
  ·intro y0 y1 y2 y3 y4 y5 y6 y7 y8 y9
   unfold impl_readTitle.j0
   repeat' first|(with_reducible first|exact ih0 _ _ _ _ _ _ _ _ _ _|exact ih1 _ _ _ _ _ _ _|exact ih2 _ _ _ _ _ _ _|exact ih3 _ _ _ _ _ _|exact impl_milliOf.mono _ _|exact impl_textOk.mono _ _|exact LeO.refl _|exact LeO.none _|refine LeO.ite ?_ ?_|refine LeO.bind ?_ (fun _=>?_))|exact ih0 _ _ _ _ _ _ _ _ _ _|exact ih1 _ _ _ _ _ _ _|exact ih2 _ _ _ _ _ _ _|exact ih3 _ _ _ _ _ _|exact impl_milliOf.mono _ _|exact impl_textOk.mono _ _|exact LeO.none _|refine LeO.ite ?_ ?_|refine LeO.bind ?_ (fun _=>?_)
  ·intro y0 y1 y2 y3 y4 y5 y6
   unfold impl_readTitle.j1
   repeat' first|(with_reducible first|exact ih0 _ _ _ _ _ _ _ _ _ _|exact ih1 _ _ _ _ _ _ _|exact ih2 _ _ _ _ _ _ _|exact ih3 _ _ _ _ _ _|exact impl_milliOf.mono _ _|exact impl_textOk.mono _ _|exact LeO.refl _|exact LeO.none _|refine LeO.ite ?_ ?_|refine LeO.bind ?_ (fun _=>?_))|exact ih0 _ _ _ _ _ _ _ _ _ _|exact ih1 _ _ _ _ _ _ _|exact ih2 _ _ _ _ _ _ _|exact ih3 _ _ _ _ _ _|exact impl_milliOf.mono _ _|exact impl_textOk.mono _ _|exact LeO.none _|refine LeO.ite ?_ ?_|refine LeO.bind ?_ (fun _=>?_)
  ·intro y0 y1 y2 y3 y4 y5 y6
   unfold impl_readTitle.j2
   repeat' first|(with_reducible first|exact ih0 _ _ _ _ _ _ _ _ _ _|exact ih1 _ _ _ _ _ _ _|exact ih2 _ _ _ _ _ _ _|exact ih3 _ _ _ _ _ _|exact impl_milliOf.mono _ _|exact impl_textOk.mono _ _|exact LeO.refl _|exact LeO.none _|refine LeO.ite ?_ ?_|refine LeO.bind ?_ (fun _=>?_))|exact ih0 _ _ _ _ _ _ _ _ _ _|exact ih1 _ _ _ _ _ _ _|exact ih2 _ _ _ _ _ _ _|exact ih3 _ _ _ _ _ _|exact impl_milliOf.mono _ _|exact impl_textOk.mono _ _|exact LeO.none _|refine LeO.ite ?_ ?_|refine LeO.bind ?_ (fun _=>?_)
  ·intro y0 y1 y2 y3 y4 y5
   unfold impl_readTitle.j3
   repeat' first|(with_reducible first|exact ih0 _ _ _ _ _ _ _ _ _ _|exact ih1 _ _ _ _ _ _ _|exact ih2 _ _ _ _ _ _ _|exact ih3 _ _ _ _ _ _|exact impl_milliOf.mono _ _|exact impl_textOk.mono _ _|exact LeO.refl _|exact LeO.none _|refine LeO.ite ?_ ?_|refine LeO.bind ?_ (fun _=>?_))|exact ih0 _ _ _ _ _ _ _ _ _ _|exact ih1 _ _ _ _ _ _ _|exact ih2 _ _ _ _ _ _ _|exact ih3 _ _ _ _ _ _|exact impl_milliOf.mono _ _|exact impl_textOk.mono _ _|exact LeO.none _|refine LeO.ite ?_ ?_|refine LeO.bind ?_ (fun _=>?_)
theorem impl_readTitle.mono : ∀ a0 a1 k, LeO (impl_readTitle.f k a0 a1) (impl_readTitle.f (k + 1) a0 a1) := by
 intro a0 a1 k
 obtain⟨ih0,ih1,ih2,ih3⟩:=impl_readTitle.mono_l k
 unfold impl_readTitle.f
 repeat' first|(with_reducible first|exact ih0 _ _ _ _ _ _ _ _ _ _|exact ih1 _ _ _ _ _ _ _|exact ih2 _ _ _ _ _ _ _|exact ih3 _ _ _ _ _ _|exact impl_milliOf.mono _ _|exact impl_textOk.mono _ _|exact LeO.refl _|exact LeO.none _|refine LeO.ite ?_ ?_|refine LeO.bind ?_ (fun _=>?_))|exact ih0 _ _ _ _ _ _ _ _ _ _|exact ih1 _ _ _ _ _ _ _|exact ih2 _ _ _ _ _ _ _|exact ih3 _ _ _ _ _ _|exact impl_milliOf.mono _ _|exact impl_textOk.mono _ _|exact LeO.none _|refine LeO.ite ?_ ?_|refine LeO.bind ?_ (fun _=>?_)
def impl_readTitle.T12 : Bool × List (List Nat × List Nat) := (true, [([], []), ([0], [0]), ([1], [1]), ([2, 1], [2]), ([3], [3]), ([4, 3], [3, 4]), ([5, 3], [3, 5]), ([6, 3, 3], [3, 6]), ([7], [7]), ([8, 7], [7, 8]), ([7], [7]), ([7], [7]), ([11, 7], [7, 11]), ([12, 7], [7, 12]), ([10, 13, 7], [7, 10, 13]), ([14, 7], [7, 14]), ([15, 7], [7, 15]), ([9, 16, 7], [7, 9, 16]), ([7, 17, 3], [3, 7, 17]), ([3, 18], [3, 18]), ([19, 7], [19])])
def impl_readTitle.B12 : List Nat := [0, 1, 3, 7, 15, 31, 63, 127, 255, 511, 255, 255, 2303, 6399, 15615, 31999, 64767, 131071, 262143, 524287, 1048575]
theorem impl_readTitle.tab12 : rtab .any (opsOf Tryd.f33 12) = impl_readTitle.T12 := by kernel_rfl
theorem impl_readTitle.bits12 : waitsOk impl_readTitle.T12.2 impl_readTitle.B12 = true := by kernel_rfl
set_option maxHeartbeats 8000000 in
set_option maxRecDepth 100000 in
theorem impl_readTitle.calls (k : Nat) (A0 : Option Addr) (c0 : Nat) (l0 : List (S40)) (a1 : ByteArray) (r1 : Int) (r2 : Int) (r3 : ByteArray) (r4 : ByteArray) (r5 : Int) (w : World) (hgl : Glob w) (hr0 : Kd.C k40 w A0 l0.length l0) (hc0 : l0.length ≤ c0) (h : impl_readTitle.f k l0 a1 = some (r1, r2, r3, r4, r5)) :
  Calls Tryd.prog 33 #[.slice A0 l0.length c0,.string a1] w fun e w'=>e=.returned (.tuple #[.agg #[.int .i64 r1,.int .i64 r2,.string r3],.string r4,.int .i64 r5])∧Below w.heap.size w w':=by
 have HGL:=Ma hgl
 clear hgl
 have hu40:=Tryd.underlying40
 have HR0:=Ma hr0
 have HC0:=Ma hc0
 clear hr0 hc0
 have HB:=Ma (Below.refl w.heap.size w)
 have H:((strings_Cut.f a1 (⟨#[10]⟩:ByteArray)).bind fun bt231=>((strings_Cut.f bt231.2.1 (⟨#[10]⟩:ByteArray)).bind fun bt234=>((strings_Cut.f bt234.1 (⟨#[32,45,45,62,32]⟩:ByteArray)).bind fun bt237=>((impl_milliOf.f k bt237.1).bind fun bt240=>((impl_milliOf.f k bt237.2.1).bind fun bt242=>((strings_Cut.f bt234.2.1 (⟨#[10,10]⟩:ByteArray)).bind fun bt245=>(if bt231.2.2=true then ((strconv_Itoa_26.f (wrap64 ((l0.length:Int)+1))).bind fun t248=>(impl_readTitle.j0 k l0 bt245.2.1 bt234.2.1 bt234.2.2 bt240.2 bt242.2 (bt231.1.toList != t248.toList) bt240.1 bt242.1 bt245.1)) else (impl_readTitle.j0 k l0 bt245.2.1 bt234.2.1 bt234.2.2 bt240.2 bt242.2 true bt240.1 bt242.1 bt245.1))))))))=some (r1,r2,r3,r4,r5):=h
 clear h
 replace H:=Option.bind_eq_some_iff.mp H
 obtain⟨⟨t231,t232,t233⟩,A30,H⟩:=H
 try dsimp only at H
 have A3:=Ma A30
 clear A30
 replace H:=Option.bind_eq_some_iff.mp H
 obtain⟨⟨t234,ql,t236⟩,A40,H⟩:=H
 try dsimp only at H
 have A4:=Ma A40
 clear A40
 replace H:=Option.bind_eq_some_iff.mp H
 obtain⟨⟨t237,t238,t239⟩,A50,H⟩:=H
 try dsimp only at H
 have A5:=Ma A50
 clear A50
 replace H:=Option.bind_eq_some_iff.mp H
 obtain⟨⟨qf,t241⟩,A60,H⟩:=H
 try dsimp only at H
 have A6:=Ma A60
 clear A60
 replace H:=Option.bind_eq_some_iff.mp H
 obtain⟨⟨qh,t243⟩,A70,H⟩:=H
 try dsimp only at H
 have A7:=Ma A70
 clear A70
 replace H:=Option.bind_eq_some_iff.mp H
 obtain⟨⟨qi,qm,t247⟩,A80,H⟩:=H
 try dsimp only at H
 have A8:=Ma A80
 clear A80
 have HC9:=Ma H
 clear H
 go_enter Tryd.func33,Tryd.ntmps33
 go_upto_region 8 with (first|((with_reducible refine gate_dst (N:=4) rfl ?_);(try(refine gate_guard (by rfl) ?_;dsimp only));refine box_event ?hg (N:=4) ?hd (cs:=#[.int .i64 0,.int .i64 0,.string (⟨#[]⟩:ByteArray)]) (t:=40) ?hr ?_;(case hd=>rfl);(case hg=>rfl);(case hr=>first|(go_simp;done)|(go_simp;rfl));intro qc hg w10 hbox hb;have qn:=Ma (below_step (by repeat(first|(with_reducible first|exact HB.out|apply below_alloc|apply pw_below_drewN|apply below_drew1)|exact HB.out)) hb);have qo:=Ma (hbox);have qt:=Ma ((by rw [hg];exact(below_size (by repeat(first|(with_reducible first|exact HB.out|apply below_alloc|apply pw_below_drewN|apply below_drew1)|exact HB.out))):w.heap.size≤qc));have n3_:=Ma ((by rw [hg];exact(below_size (by repeat(first|(with_reducible first|exact HB.out|apply below_alloc|apply pw_below_drewN|apply below_drew1)|exact HB.out))):w.heap.size≤qc));clear HB;have HB:=qn;have qa:=qo;have GW230:=qt;have qd:=n3_;clear qn qo qt n3_;clear hb hbox hg)|((with_reducible refine gate_callee (f:=46) rfl ?_);refine goesL_ (some 23) rfl rfl Tryd.func46 (by kernel_rfl) rfl #[.string a1,.string (⟨#[10]⟩:ByteArray)] rfl (by(try simp only [List.map_toArray,List.map_cons,List.map_nil]);first|done|rfl|(simp only [List.length_drop,List.length_take];rfl)) ?_;(with_reducible refine(strings_Cut.calls a1 (⟨#[10]⟩:ByteArray) t231 t232 t233 _ (by first|exact HGL.out|((repeat(with_reducible refine Glob.drewN ?_));exact HGL.out)|exact Glob.below HGL.out (by repeat(first|(with_reducible first|exact HB.out|apply below_alloc|apply pw_below_drewN|apply below_drew1|refine below_set ?_ qd.out|refine below_set ?_ qg.out)|exact HB.out))) A3.out).mono ?_);rintro e w' ⟨rfl,⟨nd,rfl⟩⟩;refine⟨_,rfl,?_⟩;(try(rw [drewN_self w10];generalize hq_:World.drewN w10 _=w10;have qn:Aside0 (w10.heap[qc]? = some (.cells #[.int .i64 0,.int .i64 0,.string (⟨#[]⟩:ByteArray)] 40 (0,0))):=⟨by rw [← hq_];exact(by(with_reducible repeat(first|refine blk_drewN ?_ _|refine blk_drew ?_|refine blk_alloc ?_ _));exact qa.out)⟩;have qo:Aside0 (Below w.heap.size w w10):=⟨by rw [← hq_];exact(by repeat(first|(with_reducible first|exact HB.out|apply below_alloc|apply pw_below_drewN|apply below_drew1|refine below_set ?_ qd.out)|exact HB.out))⟩;clear qa HB hq_;have qa:=qn;have HB:=qo;clear qn qo)))|((with_reducible refine gate_callee (f:=46) rfl ?_);refine goesL_ (some 29) rfl rfl Tryd.func46 (by kernel_rfl) rfl #[.string t232,.string (⟨#[10]⟩:ByteArray)] rfl (by(try simp only [List.map_toArray,List.map_cons,List.map_nil]);first|done|rfl|(simp only [List.length_drop,List.length_take];rfl)) ?_;(with_reducible refine(strings_Cut.calls t232 (⟨#[10]⟩:ByteArray) t234 ql t236 _ (by first|exact HGL.out|((repeat(with_reducible refine Glob.drewN ?_));exact HGL.out)|exact Glob.below HGL.out (by repeat(first|(with_reducible first|exact HB.out|apply below_alloc|apply pw_below_drewN|apply below_drew1|refine below_set ?_ qd.out|refine below_set ?_ qg.out)|exact HB.out))) A4.out).mono ?_);rintro e w' ⟨rfl,⟨nd,rfl⟩⟩;refine⟨_,rfl,?_⟩;(try(rw [drewN_self w10];generalize hq_:World.drewN w10 _=w10;have qn:Aside0 (w10.heap[qc]? = some (.cells #[.int .i64 0,.int .i64 0,.string (⟨#[]⟩:ByteArray)] 40 (0,0))):=⟨by rw [← hq_];exact(by(with_reducible repeat(first|refine blk_drewN ?_ _|refine blk_drew ?_|refine blk_alloc ?_ _));exact qa.out)⟩;have qo:Aside0 (Below w.heap.size w w10):=⟨by rw [← hq_];exact(by repeat(first|(with_reducible first|exact HB.out|apply below_alloc|apply pw_below_drewN|apply below_drew1|refine below_set ?_ qd.out)|exact HB.out))⟩;clear qa HB hq_;have qa:=qn;have HB:=qo;clear qn qo)))|((with_reducible refine gate_callee (f:=46) rfl ?_);refine goesL_ (some 35) rfl rfl Tryd.func46 (by kernel_rfl) rfl #[.string t234,.string (⟨#[32,45,45,62,32]⟩:ByteArray)] rfl (by(try simp only [List.map_toArray,List.map_cons,List.map_nil]);first|done|rfl|(simp only [List.length_drop,List.length_take];rfl)) ?_;(with_reducible refine(strings_Cut.calls t234 (⟨#[32,45,45,62,32]⟩:ByteArray) t237 t238 t239 _ (by first|exact HGL.out|((repeat(with_reducible refine Glob.drewN ?_));exact HGL.out)|exact Glob.below HGL.out (by repeat(first|(with_reducible first|exact HB.out|apply below_alloc|apply pw_below_drewN|apply below_drew1|refine below_set ?_ qd.out|refine below_set ?_ qg.out)|exact HB.out))) A5.out).mono ?_);rintro e w' ⟨rfl,⟨nd,rfl⟩⟩;refine⟨_,rfl,?_⟩;(try(rw [drewN_self w10];generalize hq_:World.drewN w10 _=w10;have qn:Aside0 (w10.heap[qc]? = some (.cells #[.int .i64 0,.int .i64 0,.string (⟨#[]⟩:ByteArray)] 40 (0,0))):=⟨by rw [← hq_];exact(by(with_reducible repeat(first|refine blk_drewN ?_ _|refine blk_drew ?_|refine blk_alloc ?_ _));exact qa.out)⟩;have qo:Aside0 (Below w.heap.size w w10):=⟨by rw [← hq_];exact(by repeat(first|(with_reducible first|exact HB.out|apply below_alloc|apply pw_below_drewN|apply below_drew1|refine below_set ?_ qd.out)|exact HB.out))⟩;clear qa HB hq_;have qa:=qn;have HB:=qo;clear qn qo)))|((with_reducible refine gate_callee (f:=47) rfl ?_);refine goesL_ (some 41) rfl rfl Tryd.func47 (by kernel_rfl) rfl #[.string t237] rfl (by(try simp only [List.map_toArray,List.map_cons,List.map_nil]);first|done|rfl|(simp only [List.length_drop,List.length_take];rfl)) ?_;(with_reducible refine(impl_milliOf.calls k t237 qf t241 _ (by first|exact HGL.out|((repeat(with_reducible refine Glob.drewN ?_));exact HGL.out)|exact Glob.below HGL.out (by repeat(first|(with_reducible first|exact HB.out|apply below_alloc|apply pw_below_drewN|apply below_drew1|refine below_set ?_ qd.out|refine below_set ?_ qg.out)|exact HB.out))) A6.out).mono ?_);rintro e w11 ⟨rfl,hb⟩;refine⟨_,rfl,?_⟩;have qn:=Ma (blk_below (g:=qc) (o:=.cells #[.int .i64 0,.int .i64 0,.string (⟨#[]⟩:ByteArray)] 40 (0,0)) (by(with_reducible repeat(first|refine blk_drewN ?_ _|refine blk_drew ?_|refine blk_alloc ?_ _));exact qa.out) hb);have qo:=Ma (below_step (by repeat(first|(with_reducible first|exact HB.out|apply below_alloc|apply pw_below_drewN|apply below_drew1|refine below_set ?_ qd.out)|exact HB.out)) hb);clear qa;clear HB;have qa:=qn;have HB:=qo;clear qn qo;(try clear hb);(try clear hb2);(try clear hk);(try clear hi))|((with_reducible refine gate_callee (f:=47) rfl ?_);refine goesL_ (some 46) rfl rfl Tryd.func47 (by kernel_rfl) rfl #[.string t238] rfl (by(try simp only [List.map_toArray,List.map_cons,List.map_nil]);first|done|rfl|(simp only [List.length_drop,List.length_take];rfl)) ?_;(with_reducible refine(impl_milliOf.calls k t238 qh t243 _ (by first|exact HGL.out|((repeat(with_reducible refine Glob.drewN ?_));exact HGL.out)|exact Glob.below HGL.out (by repeat(first|(with_reducible first|exact HB.out|apply below_alloc|apply pw_below_drewN|apply below_drew1|refine below_set ?_ qd.out|refine below_set ?_ qg.out)|exact HB.out))) A7.out).mono ?_);rintro e w12 ⟨rfl,hb⟩;refine⟨_,rfl,?_⟩;have qn:=Ma (blk_below (g:=qc) (o:=.cells #[.int .i64 0,.int .i64 0,.string (⟨#[]⟩:ByteArray)] 40 (0,0)) (by(with_reducible repeat(first|refine blk_drewN ?_ _|refine blk_drew ?_|refine blk_alloc ?_ _));exact qa.out) hb);have qo:=Ma (below_step (by repeat(first|(with_reducible first|exact HB.out|apply below_alloc|apply pw_below_drewN|apply below_drew1|refine below_set ?_ qd.out)|exact HB.out)) hb);clear qa;clear HB;have qa:=qn;have HB:=qo;clear qn qo;(try clear hb);(try clear hb2);(try clear hk);(try clear hi))|((with_reducible refine gate_dst (N:=20) rfl ?_);(try(refine gate_guard (by rfl) ?_;dsimp only));refine box_event ?hg (N:=20) ?hd (cs:=#[.int .i64 0,.int .i64 0,.string (⟨#[]⟩:ByteArray)]) (t:=40) ?hr ?_;(case hd=>rfl);(case hg=>rfl);(case hr=>first|(go_simp;done)|(go_simp;rfl));intro qj hg w13 hbox hb;have qn:=Ma (blk_below (g:=qc) (o:=.cells #[.int .i64 0,.int .i64 0,.string (⟨#[]⟩:ByteArray)] 40 (0,0)) (by(with_reducible repeat(first|refine blk_drewN ?_ _|refine blk_drew ?_|refine blk_alloc ?_ _));exact qa.out) hb);have qo:=Ma (below_step (by repeat(first|(with_reducible first|exact HB.out|apply below_alloc|apply pw_below_drewN|apply below_drew1|refine below_set ?_ qd.out)|exact HB.out)) hb);have qt:=Ma (hbox);have n3_:=Ma ((by rw [hg];exact(below_size (by repeat(first|(with_reducible first|exact HB.out|apply below_alloc|apply pw_below_drewN|apply below_drew1|refine below_set ?_ qd.out)|exact HB.out))):w.heap.size≤qj));have n4_:=Ma ((by rw [hg];exact(below_size (by repeat(first|(with_reducible first|exact HB.out|apply below_alloc|apply pw_below_drewN|apply below_drew1|refine below_set ?_ qd.out)|exact HB.out))):w.heap.size≤qj));have n5_:=Ma ((by rw [hg];exact Nat.ne_of_lt (blk_lt (g:=qc) (o:=.cells #[.int .i64 0,.int .i64 0,.string (⟨#[]⟩:ByteArray)] 40 (0,0)) (by(with_reducible repeat(first|refine blk_drewN ?_ _|refine blk_drew ?_|refine blk_alloc ?_ _));exact qa.out)):qc≠qj));have n6_:=Ma ((by rw [hg];exact Nat.ne_of_gt (blk_lt (g:=qc) (o:=.cells #[.int .i64 0,.int .i64 0,.string (⟨#[]⟩:ByteArray)] 40 (0,0)) (by(with_reducible repeat(first|refine blk_drewN ?_ _|refine blk_drew ?_|refine blk_alloc ?_ _));exact qa.out)):qj≠qc));clear qa;clear HB;have qa:=qn;have HB:=qo;have qb:=qt;have GW244:=n3_;have qg:=n4_;have qe:=n5_;have qk:=n6_;clear qn qo qt n3_ n4_ n5_ n6_;clear hb hbox hg;have hnb14:=qk.out;have hnc14:=qe.out;have hcz15_0:w13.cell? ⟨qj,0,none⟩=some (.int .i64 0):=(blk_cell qb.out 0).trans rfl;have hcz15_1:w13.cell? ⟨qj,1,none⟩=some (.int .i64 0):=(blk_cell qb.out 1).trans rfl;have hcz15_2:w13.cell? ⟨qj,2,none⟩=some (.string (⟨#[]⟩:ByteArray)):=(blk_cell qb.out 2).trans rfl;have hfz15_0:=blk_frozen qb.out 0;have hfz15_1:=blk_frozen qb.out 1;have hfz15_2:=blk_frozen qb.out 2)|((with_reducible refine gate_callee (f:=46) rfl ?_);refine goesL_ (some 54) rfl rfl Tryd.func46 (by kernel_rfl) rfl #[.string ql,.string (⟨#[10,10]⟩:ByteArray)] rfl (by(try simp only [List.map_toArray,List.map_cons,List.map_nil]);first|done|rfl|(simp only [List.length_drop,List.length_take];rfl)) ?_;(with_reducible refine(strings_Cut.calls ql (⟨#[10,10]⟩:ByteArray) qi qm t247 _ (by first|exact HGL.out|((repeat(with_reducible refine Glob.drewN ?_));exact HGL.out)|exact Glob.below HGL.out (by repeat(first|(with_reducible first|exact HB.out|apply below_alloc|apply pw_below_drewN|apply below_drew1|refine below_set ?_ qd.out|refine below_set ?_ qg.out)|exact HB.out))) A8.out).mono ?_);rintro e w' ⟨rfl,⟨nd,rfl⟩⟩;refine⟨_,rfl,?_⟩))
 (try simp only [Act.put,List.setIfInBounds_toArray,List.set_cons_zero,List.set_cons_succ])
 go_cut [59] (fun v59 wc=>∃ (kq:Nat) (x59_8:Bool),v59=.bool x59_8∧Aside0 (impl_readTitle.j0 kq l0 qm ql t236 t241 t243 x59_8 qf qh qi=some (r1,r2,r3,r4,r5))∧Aside0 (kq≤k)∧Aside0 (wc.heap[qc]? = some (.cells #[.int .i64 0,.int .i64 0,.string (⟨#[]⟩:ByteArray)] 40 (0,0)))∧Aside0 (wc.heap[qj]? = some (.cells #[.int .i64 qf,.int .i64 qh,.string qi] 40 (0,0)))∧Aside0 (Below w.heap.size w wc))
 case first=>
  have H:=HC9.out
  clear HC9
  by_cases c16:t233=true
  ·subst c16
   rw[if_pos rfl] at H
   replace H:=Option.bind_eq_some_iff.mp H
   obtain⟨t248,A170,H⟩:=H
   try dsimp only at H
   have A17:=Ma A170
   clear A170
   have H':=Ma H
   clear H
   go_wp2_with (first|(go_at_call 26;(with_reducible refine(strconv_Itoa_26.calls (wrap64 ((l0.length:Int)+1)) t248 _ (by first|exact HGL.out|((repeat(with_reducible refine Glob.drewN ?_));exact HGL.out)|exact Glob.below HGL.out (by repeat(first|(with_reducible first|exact HB.out|apply below_alloc|apply pw_below_drewN|apply below_drew1|refine below_set ?_ qd.out|refine below_set ?_ qg.out)|exact HB.out))) A17.out).mono ?_);rintro e w18 ⟨rfl,hb⟩;have qn:=Ma (blk_below (g:=qc) (o:=.cells #[.int .i64 0,.int .i64 0,.string (⟨#[]⟩:ByteArray)] 40 (0,0)) (by(with_reducible repeat(first|refine blk_drewN ?_ _|refine blk_drew ?_|refine blk_alloc ?_ _));refine blk_far ?_ qe.out _;(with_reducible repeat(first|refine blk_drewN ?_ _|refine blk_drew ?_|refine blk_alloc ?_ _));refine blk_far ?_ qe.out _;(with_reducible repeat(first|refine blk_drewN ?_ _|refine blk_drew ?_|refine blk_alloc ?_ _));refine blk_far ?_ qe.out _;(with_reducible repeat(first|refine blk_drewN ?_ _|refine blk_drew ?_|refine blk_alloc ?_ _));refine blk_far ?_ qe.out _;(with_reducible repeat(first|refine blk_drewN ?_ _|refine blk_drew ?_|refine blk_alloc ?_ _));exact qa.out) hb);have qo:=Ma (blk_below (g:=qj) (o:=.cells #[.int .i64 qf,.int .i64 qh,.string qi] 40 (0,0)) (by(with_reducible repeat(first|refine blk_drewN ?_ _|refine blk_drew ?_|refine blk_alloc ?_ _));refine blk_put (cs:=#[.int .i64 qf,.int .i64 qh,.string (⟨#[]⟩:ByteArray)]) ?_ 2 _ rfl;(with_reducible repeat(first|refine blk_drewN ?_ _|refine blk_drew ?_|refine blk_alloc ?_ _));refine blk_put (cs:=#[.int .i64 qf,.int .i64 qh,.string (⟨#[]⟩:ByteArray)]) ?_ 2 _ rfl;(with_reducible repeat(first|refine blk_drewN ?_ _|refine blk_drew ?_|refine blk_alloc ?_ _));refine blk_put (cs:=#[.int .i64 qf,.int .i64 0,.string (⟨#[]⟩:ByteArray)]) ?_ 1 _ rfl;(with_reducible repeat(first|refine blk_drewN ?_ _|refine blk_drew ?_|refine blk_alloc ?_ _));refine blk_put (cs:=#[.int .i64 0,.int .i64 0,.string (⟨#[]⟩:ByteArray)]) ?_ 0 _ rfl;(with_reducible repeat(first|refine blk_drewN ?_ _|refine blk_drew ?_|refine blk_alloc ?_ _));exact qb.out) hb);have qt:=Ma (below_step (by repeat(first|(with_reducible first|exact HB.out|apply below_alloc|apply pw_below_drewN|apply below_drew1|refine below_set ?_ qd.out|refine below_set ?_ qg.out)|exact HB.out)) hb);clear qa;clear qb;clear HB;have qa:=qn;have qb:=qo;have HB:=qt;clear qn qo qt;(try clear hb);(try clear hb2);(try clear hk);(try clear hi)))
   go_meet
   case rel=>exact⟨_,((t231.toList != t248.toList)),(by first|rfl|(simp;done)|(simp [*];done)),H',⟨by first|omega|exact Nat.le_refl _⟩,⟨by(with_reducible repeat(first|refine blk_drewN ?_ _|refine blk_drew ?_|refine blk_alloc ?_ _));exact qa.out⟩,⟨by(with_reducible repeat(first|refine blk_drewN ?_ _|refine blk_drew ?_|refine blk_alloc ?_ _));exact qb.out⟩,⟨by repeat(first|(with_reducible first|exact HB.out|apply below_alloc|apply pw_below_drewN|apply below_drew1|refine below_set ?_ qd.out|refine below_set ?_ qg.out)|exact HB.out)⟩⟩
  ·replace c16:=Bool.eq_false_iff.mpr c16
   subst c16
   have H1:(impl_readTitle.j0 k l0 qm ql t236 t241 t243 true qf qh qi)=some (r1,r2,r3,r4,r5):=by rw [if_neg (show ¬ (false=true) by decide)] at H;exact H
   clear H
   have H:=H1
   clear H1
   have H':=Ma H
   clear H
   go_wp2
   go_meet
   case rel=>exact⟨_,(true),(by first|rfl|(simp;done)|(simp [*];done)),H',⟨by first|omega|exact Nat.le_refl _⟩,⟨by(with_reducible repeat(first|refine blk_drewN ?_ _|refine blk_drew ?_|refine blk_alloc ?_ _));refine blk_far ?_ qe.out _;(with_reducible repeat(first|refine blk_drewN ?_ _|refine blk_drew ?_|refine blk_alloc ?_ _));refine blk_far ?_ qe.out _;(with_reducible repeat(first|refine blk_drewN ?_ _|refine blk_drew ?_|refine blk_alloc ?_ _));refine blk_far ?_ qe.out _;(with_reducible repeat(first|refine blk_drewN ?_ _|refine blk_drew ?_|refine blk_alloc ?_ _));refine blk_far ?_ qe.out _;(with_reducible repeat(first|refine blk_drewN ?_ _|refine blk_drew ?_|refine blk_alloc ?_ _));exact qa.out⟩,⟨by(with_reducible repeat(first|refine blk_drewN ?_ _|refine blk_drew ?_|refine blk_alloc ?_ _));refine blk_put (cs:=#[.int .i64 qf,.int .i64 qh,.string (⟨#[]⟩:ByteArray)]) ?_ 2 _ rfl;(with_reducible repeat(first|refine blk_drewN ?_ _|refine blk_drew ?_|refine blk_alloc ?_ _));refine blk_put (cs:=#[.int .i64 qf,.int .i64 qh,.string (⟨#[]⟩:ByteArray)]) ?_ 2 _ rfl;(with_reducible repeat(first|refine blk_drewN ?_ _|refine blk_drew ?_|refine blk_alloc ?_ _));refine blk_put (cs:=#[.int .i64 qf,.int .i64 0,.string (⟨#[]⟩:ByteArray)]) ?_ 1 _ rfl;(with_reducible repeat(first|refine blk_drewN ?_ _|refine blk_drew ?_|refine blk_alloc ?_ _));refine blk_put (cs:=#[.int .i64 0,.int .i64 0,.string (⟨#[]⟩:ByteArray)]) ?_ 0 _ rfl;(with_reducible repeat(first|refine blk_drewN ?_ _|refine blk_drew ?_|refine blk_alloc ?_ _));exact qb.out⟩,⟨by repeat(first|(with_reducible first|exact HB.out|apply below_alloc|apply pw_below_drewN|apply below_drew1|refine below_set ?_ qd.out|refine below_set ?_ qg.out)|exact HB.out)⟩⟩
 case rest=>
  clear HC9;try clear c1;try clear p2;try clear c3;try clear c4;try clear p6;try clear c14;try clear c16;try clear hcz15_0;try clear hcz15_1;try clear hcz15_2;try clear hfz15_0;try clear hfz15_1;try clear hfz15_2
  obtain⟨kq,x59_8,rfl,HA,HJ8,qa,qb,HB⟩:=hcut
  cases kq with
  | zero => exact absurd HA.out (by simp [impl_readTitle.j0])
  | succ kj8 =>
   have H:=HA.out
   clear HA
   simp only [impl_readTitle.j0] at H
   by_cases c19:x59_8=true
   ·subst c19
    rw[if_pos rfl] at H
    simp only [Option.some.injEq,Prod.mk.injEq] at H
    obtain⟨rfl,rfl,rfl,rfl,rfl⟩:=H
    have hnb20:=qe.out
    have hnc20:=qk.out
    have hcz21_0:wc.cell? ⟨qc,0,none⟩=some (.int .i64 0):=(blk_cell qa.out 0).trans rfl
    have hcz21_1:wc.cell? ⟨qc,1,none⟩=some (.int .i64 0):=(blk_cell qa.out 1).trans rfl
    have hcz21_2:wc.cell? ⟨qc,2,none⟩=some (.string (⟨#[]⟩:ByteArray)):=(blk_cell qa.out 2).trans rfl
    have hfz21_0:=blk_frozen qa.out 0
    have hfz21_1:=blk_frozen qa.out 1
    have hfz21_2:=blk_frozen qa.out 2
    go_wp2
    refine bodyPost_ret (results_ctt rfl _ _ qc 40 #[.int .i64 0,.int .i64 0,.string (⟨#[]⟩:ByteArray)] (0,0) _ rfl (by(with_reducible repeat(first|refine blk_drewN ?_ _|refine blk_drew ?_|refine blk_alloc ?_ _));refine blk_put (cs:=#[.int .i64 0,.int .i64 0,.string (⟨#[]⟩:ByteArray)]) ?_ 2 _ rfl;(with_reducible repeat(first|refine blk_drewN ?_ _|refine blk_drew ?_|refine blk_alloc ?_ _));refine blk_put (cs:=#[.int .i64 0,.int .i64 0,.string (⟨#[]⟩:ByteArray)]) ?_ 1 _ rfl;(with_reducible repeat(first|refine blk_drewN ?_ _|refine blk_drew ?_|refine blk_alloc ?_ _));refine blk_put (cs:=#[.int .i64 0,.int .i64 0,.string (⟨#[]⟩:ByteArray)]) ?_ 0 _ rfl;(with_reducible repeat(first|refine blk_drewN ?_ _|refine blk_drew ?_|refine blk_alloc ?_ _));exact qa.out) Tryd.underlying40 rfl (by kernel_rfl)) rfl ?_
    exact⟨by first|rfl|(simp [errW_none,errW_some] <;> rfl)|(simp [*,errW_none,errW_some] <;> rfl),by repeat(first|(with_reducible first|exact HB.out|apply below_alloc|apply pw_below_drewN|apply below_drew1|refine below_set ?_ qd.out|refine below_set ?_ qg.out)|exact HB.out)⟩
   ·replace c19:=Bool.eq_false_iff.mpr c19
    subst c19
    have H1:(if t236=true then (if t241=true then (impl_readTitle.j1 kj8 l0 qm ql (!t243) qf qh qi) else (impl_readTitle.j1 kj8 l0 qm ql true qf qh qi)) else (impl_readTitle.j1 kj8 l0 qm ql true qf qh qi))=some (r1,r2,r3,r4,r5):=by rw [if_neg (show ¬ (false=true) by decide)] at H;exact H
    clear H
    have H:=H1
    clear H1
    have HC22:=Ma H
    clear H
    go_upto_region 10 with (fail)
    go_cut [71] (fun v71 wc=>∃ (kq:Nat) (x71_21:Bool),v71=.bool x71_21∧Aside0 (impl_readTitle.j1 kq l0 qm ql x71_21 qf qh qi=some (r1,r2,r3,r4,r5))∧Aside0 (kq≤kj8)∧Aside0 (wc.heap[qc]? = some (.cells #[.int .i64 0,.int .i64 0,.string (⟨#[]⟩:ByteArray)] 40 (0,0)))∧Aside0 (wc.heap[qj]? = some (.cells #[.int .i64 qf,.int .i64 qh,.string qi] 40 (0,0)))∧Aside0 (Below w.heap.size w wc))
    case first=>
     have H:=HC22.out
     clear HC22
     by_cases c23:t236=true
     ·subst c23
      rw[if_pos rfl] at H
      by_cases c24:t241=true
      ·subst c24
       rw[if_pos rfl] at H
       have H':=Ma H
       clear H
       go_wp2
       go_meet
       case rel=>exact⟨_,(!t243),(by first|rfl|(simp;done)|(simp [*];done)),H',⟨by have:=HJ8.out;first|omega|exact Nat.le_refl _⟩,⟨by(with_reducible repeat(first|refine blk_drewN ?_ _|refine blk_drew ?_|refine blk_alloc ?_ _));exact qa.out⟩,⟨by(with_reducible repeat(first|refine blk_drewN ?_ _|refine blk_drew ?_|refine blk_alloc ?_ _));exact qb.out⟩,⟨by repeat(first|(with_reducible first|exact HB.out|apply below_alloc|apply pw_below_drewN|apply below_drew1|refine below_set ?_ qd.out|refine below_set ?_ qg.out)|exact HB.out)⟩⟩
      ·replace c24:=Bool.eq_false_iff.mpr c24
       subst c24
       have H1:(impl_readTitle.j1 kj8 l0 qm ql true qf qh qi)=some (r1,r2,r3,r4,r5):=by rw [if_neg (show ¬ (false=true) by decide)] at H;exact H
       clear H
       have H:=H1
       clear H1
       have H':=Ma H
       clear H
       go_wp2
       go_meet
       case rel=>exact⟨_,(true),(by first|rfl|(simp;done)|(simp [*];done)),H',⟨by have:=HJ8.out;first|omega|exact Nat.le_refl _⟩,⟨by(with_reducible repeat(first|refine blk_drewN ?_ _|refine blk_drew ?_|refine blk_alloc ?_ _));exact qa.out⟩,⟨by(with_reducible repeat(first|refine blk_drewN ?_ _|refine blk_drew ?_|refine blk_alloc ?_ _));exact qb.out⟩,⟨by repeat(first|(with_reducible first|exact HB.out|apply below_alloc|apply pw_below_drewN|apply below_drew1|refine below_set ?_ qd.out|refine below_set ?_ qg.out)|exact HB.out)⟩⟩
     ·replace c23:=Bool.eq_false_iff.mpr c23
      subst c23
      have H1:(impl_readTitle.j1 kj8 l0 qm ql true qf qh qi)=some (r1,r2,r3,r4,r5):=by rw [if_neg (show ¬ (false=true) by decide)] at H;exact H
      clear H
      have H:=H1
      clear H1
      have H':=Ma H
      clear H
      go_wp2
      go_meet
      case rel=>exact⟨_,(true),(by first|rfl|(simp;done)|(simp [*];done)),H',⟨by have:=HJ8.out;first|omega|exact Nat.le_refl _⟩,⟨by(with_reducible repeat(first|refine blk_drewN ?_ _|refine blk_drew ?_|refine blk_alloc ?_ _));exact qa.out⟩,⟨by(with_reducible repeat(first|refine blk_drewN ?_ _|refine blk_drew ?_|refine blk_alloc ?_ _));exact qb.out⟩,⟨by repeat(first|(with_reducible first|exact HB.out|apply below_alloc|apply pw_below_drewN|apply below_drew1|refine below_set ?_ qd.out|refine below_set ?_ qg.out)|exact HB.out)⟩⟩
    case rest=>
     clear HC22;try clear c1;try clear c2;try clear p2;try clear c3;try clear c4;try clear p6;try clear c14;try clear c16;try clear c19;try clear c20;try clear c23;try clear c24;try clear hcz15_0;try clear hcz15_1;try clear hcz15_2;try clear hcz21_0;try clear hcz21_1;try clear hcz21_2;try clear hfz15_0;try clear hfz15_1;try clear hfz15_2;try clear hfz21_0;try clear hfz21_1;try clear hfz21_2;try clear p2;try clear p6
     obtain⟨kq,x71_21,rfl,HA,HJ21,qa,qb,HB⟩:=hcut
     cases kq with
     | zero => exact absurd HA.out (by simp [impl_readTitle.j1])
     | succ kj21 =>
      have H:=HA.out
      clear HA
      simp only [impl_readTitle.j1] at H
      by_cases c25:x71_21=true
      ·subst c25
       rw[if_pos rfl] at H
       simp only [Option.some.injEq,Prod.mk.injEq] at H
       obtain⟨rfl,rfl,rfl,rfl,rfl⟩:=H
       have hnb26:=qe.out
       have hnc26:=qk.out
       have hcz27_0:wc.cell? ⟨qc,0,none⟩=some (.int .i64 0):=(blk_cell qa.out 0).trans rfl
       have hcz27_1:wc.cell? ⟨qc,1,none⟩=some (.int .i64 0):=(blk_cell qa.out 1).trans rfl
       have hcz27_2:wc.cell? ⟨qc,2,none⟩=some (.string (⟨#[]⟩:ByteArray)):=(blk_cell qa.out 2).trans rfl
       have hfz27_0:=blk_frozen qa.out 0
       have hfz27_1:=blk_frozen qa.out 1
       have hfz27_2:=blk_frozen qa.out 2
       go_wp2
       refine bodyPost_ret (results_ctt rfl _ _ qc 40 #[.int .i64 0,.int .i64 0,.string (⟨#[]⟩:ByteArray)] (0,0) _ rfl (by(with_reducible repeat(first|refine blk_drewN ?_ _|refine blk_drew ?_|refine blk_alloc ?_ _));refine blk_put (cs:=#[.int .i64 0,.int .i64 0,.string (⟨#[]⟩:ByteArray)]) ?_ 2 _ rfl;(with_reducible repeat(first|refine blk_drewN ?_ _|refine blk_drew ?_|refine blk_alloc ?_ _));refine blk_put (cs:=#[.int .i64 0,.int .i64 0,.string (⟨#[]⟩:ByteArray)]) ?_ 1 _ rfl;(with_reducible repeat(first|refine blk_drewN ?_ _|refine blk_drew ?_|refine blk_alloc ?_ _));refine blk_put (cs:=#[.int .i64 0,.int .i64 0,.string (⟨#[]⟩:ByteArray)]) ?_ 0 _ rfl;(with_reducible repeat(first|refine blk_drewN ?_ _|refine blk_drew ?_|refine blk_alloc ?_ _));exact qa.out) Tryd.underlying40 rfl (by kernel_rfl)) rfl ?_
       exact⟨by first|rfl|(simp [errW_none,errW_some] <;> rfl)|(simp [*,errW_none,errW_some] <;> rfl),by repeat(first|(with_reducible first|exact HB.out|apply below_alloc|apply pw_below_drewN|apply below_drew1|refine below_set ?_ qd.out|refine below_set ?_ qg.out)|exact HB.out)⟩
      ·replace c25:=Bool.eq_false_iff.mpr c25
       subst c25
       have H1:((impl_Title_timesOk.f qf qh qi).bind fun t249=>(if t249=true then (if (l0.length:Int) > 0 then (if 0≤(wrap64 ((l0.length:Int) - 1)) then (if (wrap64 ((l0.length:Int) - 1)) < (l0.length:Int) then (impl_readTitle.j2 kj21 l0 qm ql (decide (qf < ((rd_T40 l0 (wrap64 ((l0.length:Int) - 1))).f1))) qf qh qi) else (none)) else (none)) else (impl_readTitle.j2 kj21 l0 qm ql false qf qh qi)) else (impl_readTitle.j2 kj21 l0 qm ql true qf qh qi)))=some (r1,r2,r3,r4,r5):=by rw [if_neg (show ¬ (false=true) by decide)] at H;exact H
       clear H
       have H:=H1
       clear H1
       have HC28:=Ma H
       clear H
       go_upto_region 12 with (fail)
       go_cut [83] (fun v83 wc=>∃ (kq:Nat) (x83_27:Bool),v83=.bool x83_27∧Aside0 (impl_readTitle.j2 kq l0 qm ql x83_27 qf qh qi=some (r1,r2,r3,r4,r5))∧Aside0 (kq≤kj21)∧Aside0 (wc.heap[qc]? = some (.cells #[.int .i64 0,.int .i64 0,.string (⟨#[]⟩:ByteArray)] 40 (0,0)))∧Aside0 (wc.heap[qj]? = some (.cells #[.int .i64 qf,.int .i64 qh,.string qi] 40 (0,0)))∧Aside0 (Below w.heap.size w wc))
       case first=>
        have H:=HC28.out
        clear HC28
        replace H:=Option.bind_eq_some_iff.mp H
        obtain⟨t249,A290,H⟩:=H
        try dsimp only at H
        have A29:=Ma A290
        clear A290
        by_cases c30:t249=true
        ·subst c30
         rw[if_pos rfl] at H
         by_cases c31:(l0.length:Int) > 0
         ·rw [if_pos c31] at H
          have qy:=decide_eq_true c31
          have c31b1:decide (0 < l0.length)=true:=decide_eq_true (by omega)
          clear c31
          (first|rw [qy]|(simp only [i64_w,i32_w];rw [qy])|skip)
          obtain⟨qs,hji32⟩:∃ j_:Int,(wrap64 ((l0.length:Int) - 1))=j_:=⟨_,rfl⟩
          replace H:(if 0≤(qs) then (if (qs) < (l0.length:Int) then (impl_readTitle.j2 kj21 l0 qm ql (decide (qf < ((rd_T40 l0 (qs)).f1))) qf qh qi) else (none)) else (none))=some (r1,r2,r3,r4,r5):=by first|(rw [hji32] at H;exact H)|(simp only [hji32] at H ⊢;exact H)
          (try rw [hji32] at A29)
          have hji32w:(IntKind.i64.wrap ((l0.length:Int) - 1))=qs:=(i64_w _).trans hji32
          by_cases c33:0≤(qs)
          case neg=>rw[if_neg c33] at H;exact absurd H (by simp)
          rw[if_pos c33] at H
          have c33b0:=decide_eq_true c33
          clear c33
          by_cases c34:(qs) < (l0.length:Int)
          case neg=>rw[if_neg c34] at H;exact absurd H (by simp)
          rw[if_pos c34] at H
          have c34b0:=decide_eq_true c34
          clear c34
          have H':=Ma H
          clear H
          try go_wp2
          have qn:=Ma (blk_drew qa.out)
          have qo:=Ma (blk_drew qb.out)
          have qt:=Ma (below_drew1 HB.out)
          clear qa qb
          clear HB
          have qa:=qn
          have qb:=qo
          have HB:=qt
          clear qn qo qt
          have p250:0≤((qs):Int):=of_decide_eq_true (by first|(with_reducible assumption)|assumption)
          have q250:(qs) < (l0.length:Int):=of_decide_eq_true (by first|(with_reducible assumption)|assumption)
          obtain⟨ad250,e250,qp,qq,qr⟩:=at_T40 HR0.out (qs) p250 q250
          have qw:=qr
          have qv:=qq
          have qu:=qp
          cases e250
          replace qp:=(HB.out.cell (World.block_lt_of_cell? w _ qp)).trans qp
          replace qq:=(HB.out.cell (World.block_lt_of_cell? w _ qq)).trans qq
          replace qr:=(HB.out.cell (World.block_lt_of_cell? w _ qr)).trans qr
          replace p250:=eq_true p250
          replace q250:=eq_true q250
          refine start_ (n:=21) (S:=fun w'=>w'.cell? ⟨qj,0,none⟩=some (.int .i64 qf)∧w'.cell? ⟨qj,1,none⟩=some (.int .i64 qh)∧w'.cell? ⟨qj,2,none⟩=some (.string qi)∧w'.cell? (ad250.add (((qs)).toNat*3))=some (.int .i64 ((rd_T40 l0 (qs)).f0))∧w'.cell? ⟨(ad250.add (((qs)).toNat*3)).block,(ad250.add (((qs)).toNat*3)).off+1,none⟩=some (.int .i64 ((rd_T40 l0 (qs)).f1))∧w'.cell? ⟨(ad250.add (((qs)).toNat*3)).block,(ad250.add (((qs)).toNat*3)).off+2,none⟩=some (.string ((rd_T40 l0 (qs)).f2))) (ds:=[]) #[false,false,false,false,false,false,false,false,false,false,false,false,false,false,false,false,false,false,false,false,false] (by kernel_rfl) rfl rfl ⟨(blk_cell qb.out 0).trans rfl,(blk_cell qb.out 1).trans rfl,(blk_cell qb.out 2).trans rfl,((HB.out.cell (World.block_lt_of_cell? w _ qu)).trans qu),((HB.out.cell (World.block_lt_of_cell? w _ qv)).trans qv),((HB.out.cell (World.block_lt_of_cell? w _ qw)).trans qw)⟩ (fun hHeld=>?_);refine with_tabW impl_readTitle.tab12 impl_readTitle.bits12 (fun HT_ HW_=>?_)
          generalize wc.drew=w35 at qa qb HB qp qq qr hHeld ⊢
          refine tz 0 84 (bm 21 1) HT_ HW_ hHeld rfl (by rintro w' ⟨s0,s1,s2,s3,s4,s5⟩;go_simp;with_reducible rfl) ?_
          refine one_ (i:=1) (N:=some 85) (bm 21 3) rfl rfl (one_of HT_.out (by kernel_rfl)) (by decide) (fun K hK=>?_)
          refine goes_ Tryd.func39 (by kernel_rfl) rfl #[.agg #[.int .i64 qf,.int .i64 qh,.string qi]] (by rfl) rfl rfl (by(try simp only [List.map_toArray,List.map_cons,List.map_nil]);first|done|rfl|(simp only [List.length_drop,List.length_take];rfl)) ?_
          with_reducible refine(impl_Title_timesOk.calls qf qh qi true _ A29.out).mono ?_
          rintro e w36 ⟨rfl,hb⟩
          refine⟨_,rfl,?_⟩
          have qn:=Ma (blk_below (g:=qc) (o:=.cells #[.int .i64 0,.int .i64 0,.string (⟨#[]⟩:ByteArray)] 40 (0,0)) (by(with_reducible repeat(first|refine blk_drewN ?_ _|refine blk_drew ?_|refine blk_alloc ?_ _));exact qa.out) hb)
          have qo:=Ma (blk_below (g:=qj) (o:=.cells #[.int .i64 qf,.int .i64 qh,.string qi] 40 (0,0)) (by(with_reducible repeat(first|refine blk_drewN ?_ _|refine blk_drew ?_|refine blk_alloc ?_ _));exact qb.out) hb)
          have qt:=Ma (below_step (by repeat(first|(with_reducible first|exact HB.out|apply below_alloc|apply pw_below_drewN|apply below_drew1|refine below_set ?_ qd.out|refine below_set ?_ qg.out)|exact HB.out)) hb)
          clear qa qb
          clear HB
          have qa:=qn
          have qb:=qo
          have HB:=qt
          clear qn qo qt
          (try clear hb)
          (try clear hb2)
          (try clear hk)
          (try clear hi)
          refine hK.out _ _ ⟨(blk_cell qb.out 0).trans rfl,(blk_cell qb.out 1).trans rfl,(blk_cell qb.out 2).trans rfl,((HB.out.cell (World.block_lt_of_cell? w _ qu)).trans qu),((HB.out.cell (World.block_lt_of_cell? w _ qv)).trans qv),((HB.out.cell (World.block_lt_of_cell? w _ qw)).trans qw)⟩ (fun hHeld=>?_)
          clear hK K
          refine norm_ (a':=?_) ?_ ?_;rotate_left;(show Act.put _ (some 85) _=_;simp only[pw];rfl)
          refine pz 2 86 (bm 21 7) HT_ ?_
          refine pz 3 87 (bm 21 15) HT_ ?_
          refine pz 4 88 (bm 21 31) HT_ ?_
          refine pz 5 89 (bm 21 63) HT_ ?_
          refine pz 6 90 (bm 21 127) HT_ ?_
          refine pz 7 91 (bm 21 255) HT_ ?_
          refine pz 8 92 (bm 21 511) HT_ ?_
          refine pz 10 94 (bm 21 1535) HT_ ?_
          refine pz 11 95 (bm 21 3583) HT_ ?_
          refine pz 12 96 (bm 21 7679) HT_ ?_
          refine pz 13 97 (bm 21 15871) HT_ ?_
          refine pz 14 98 (bm 21 32255) HT_ ?_
          refine pz 15 99 (bm 21 65023) HT_ ?_
          refine tz 9 93 (bm 21 65535) HT_ HW_ hHeld rfl (by rintro w' ⟨s0,s1,s2,s3,s4,s5⟩;go_simp;with_reducible rfl) ?_
          refine tz 16 100 (bm 21 131071) HT_ HW_ hHeld rfl (by rintro w' ⟨s0,s1,s2,s3,s4,s5⟩;go_simp;with_reducible rfl) ?_
          refine pz 17 101 (bm 21 262143) HT_ ?_
          refine pz 18 102 (bm 21 524287) HT_ ?_
          refine pz 19 103 (bm 21 1048575) HT_ ?_
          refine pz 20 83 (bm 21 2097151) HT_ ?_
          refine done_ (done_of HT_.out (by kernel_rfl)) ?_
          try go_wp2
          go_meet
          case rel=>exact⟨_,(decide (qf < ((rd_T40 l0 (qs)).f1))),(by first|rfl|(simp;done)|(simp only [← hji32] <;> (first|rfl|simp))|(simp [*];done)),H',⟨by have:=HJ8.out;have:=HJ21.out;first|omega|exact Nat.le_refl _⟩,⟨by(with_reducible repeat(first|refine blk_drewN ?_ _|refine blk_drew ?_|refine blk_alloc ?_ _));exact qa.out⟩,⟨by(with_reducible repeat(first|refine blk_drewN ?_ _|refine blk_drew ?_|refine blk_alloc ?_ _));exact qb.out⟩,⟨by repeat(first|(with_reducible first|exact HB.out|apply below_alloc|apply pw_below_drewN|apply below_drew1|refine below_set ?_ qd.out|refine below_set ?_ qg.out)|exact HB.out)⟩⟩
         ·rw [if_neg c31] at H
          have qy:=decide_eq_false c31
          have c31b1:decide (0 < l0.length)=false:=decide_eq_false (by omega)
          clear c31
          (first|rw [qy]|(simp only [i64_w,i32_w];rw [qy])|skip)
          have H':=Ma H
          clear H
          try go_wp2
          have qn:=Ma (blk_drew qa.out)
          have qo:=Ma (blk_drew qb.out)
          have qt:=Ma (below_drew1 HB.out)
          clear qa qb
          clear HB
          have qa:=qn
          have qb:=qo
          have HB:=qt
          clear qn qo qt
          refine start_ (n:=21) (S:=fun w'=>w'.cell? ⟨qj,0,none⟩=some (.int .i64 qf)∧w'.cell? ⟨qj,1,none⟩=some (.int .i64 qh)∧w'.cell? ⟨qj,2,none⟩=some (.string qi)) (ds:=[]) #[false,false,false,false,false,false,false,false,false,false,false,false,false,false,false,false,false,false,false,false,false] (by kernel_rfl) rfl rfl ⟨(blk_cell qb.out 0).trans rfl,(blk_cell qb.out 1).trans rfl,(blk_cell qb.out 2).trans rfl⟩ (fun hHeld=>?_);refine with_tabW impl_readTitle.tab12 impl_readTitle.bits12 (fun HT_ HW_=>?_)
          generalize wc.drew=w37 at qa qb HB hHeld ⊢
          refine tz 0 84 (bm 21 1) HT_ HW_ hHeld rfl (by rintro w' ⟨s0,s1,s2⟩;go_simp;with_reducible rfl) ?_
          refine one_ (i:=1) (N:=some 85) (bm 21 3) rfl rfl (one_of HT_.out (by kernel_rfl)) (by decide) (fun K hK=>?_)
          refine goes_ Tryd.func39 (by kernel_rfl) rfl #[.agg #[.int .i64 qf,.int .i64 qh,.string qi]] (by rfl) rfl rfl (by(try simp only [List.map_toArray,List.map_cons,List.map_nil]);first|done|rfl|(simp only [List.length_drop,List.length_take];rfl)) ?_
          with_reducible refine(impl_Title_timesOk.calls qf qh qi true _ A29.out).mono ?_
          rintro e w38 ⟨rfl,hb⟩
          refine⟨_,rfl,?_⟩
          have qn:=Ma (blk_below (g:=qc) (o:=.cells #[.int .i64 0,.int .i64 0,.string (⟨#[]⟩:ByteArray)] 40 (0,0)) (by(with_reducible repeat(first|refine blk_drewN ?_ _|refine blk_drew ?_|refine blk_alloc ?_ _));exact qa.out) hb)
          have qo:=Ma (blk_below (g:=qj) (o:=.cells #[.int .i64 qf,.int .i64 qh,.string qi] 40 (0,0)) (by(with_reducible repeat(first|refine blk_drewN ?_ _|refine blk_drew ?_|refine blk_alloc ?_ _));exact qb.out) hb)
          have qt:=Ma (below_step (by repeat(first|(with_reducible first|exact HB.out|apply below_alloc|apply pw_below_drewN|apply below_drew1|refine below_set ?_ qd.out|refine below_set ?_ qg.out)|exact HB.out)) hb)
          clear qa qb
          clear HB
          have qa:=qn
          have qb:=qo
          have HB:=qt
          clear qn qo qt
          (try clear hb)
          (try clear hb2)
          (try clear hk)
          (try clear hi)
          refine hK.out _ _ ⟨(blk_cell qb.out 0).trans rfl,(blk_cell qb.out 1).trans rfl,(blk_cell qb.out 2).trans rfl⟩ (fun hHeld=>?_)
          clear hK K
          refine norm_ (a':=?_) ?_ ?_;rotate_left;(show Act.put _ (some 85) _=_;simp only[pw];rfl)
          refine pz 2 86 (bm 21 7) HT_ ?_
          refine pz 3 87 (bm 21 15) HT_ ?_
          refine pz 4 88 (bm 21 31) HT_ ?_
          refine pz 5 89 (bm 21 63) HT_ ?_
          refine pz 6 90 (bm 21 127) HT_ ?_
          refine pz 7 91 (bm 21 255) HT_ ?_
          refine pd 8 92 (bm 21 511) HT_ ?_
          refine pd 9 93 (bm 21 1023) HT_ ?_
          refine pd 10 94 (bm 21 2047) HT_ ?_
          refine pd 11 95 (bm 21 4095) HT_ ?_
          refine pd 12 96 (bm 21 8191) HT_ ?_
          refine pd 13 97 (bm 21 16383) HT_ ?_
          refine pd 14 98 (bm 21 32767) HT_ ?_
          refine pd 15 99 (bm 21 65535) HT_ ?_
          refine pd 16 100 (bm 21 131071) HT_ ?_
          refine pd 17 101 (bm 21 262143) HT_ ?_
          refine pz 18 102 (bm 21 524287) HT_ ?_
          refine pz 19 103 (bm 21 1048575) HT_ ?_
          refine pz 20 83 (bm 21 2097151) HT_ ?_
          refine done_ (done_of HT_.out (by kernel_rfl)) ?_
          try go_wp2
          go_meet
          case rel=>exact⟨_,(false),(by first|rfl|(simp;done)|(simp [*];done)),H',⟨by have:=HJ8.out;have:=HJ21.out;first|omega|exact Nat.le_refl _⟩,⟨by(with_reducible repeat(first|refine blk_drewN ?_ _|refine blk_drew ?_|refine blk_alloc ?_ _));exact qa.out⟩,⟨by(with_reducible repeat(first|refine blk_drewN ?_ _|refine blk_drew ?_|refine blk_alloc ?_ _));exact qb.out⟩,⟨by repeat(first|(with_reducible first|exact HB.out|apply below_alloc|apply pw_below_drewN|apply below_drew1|refine below_set ?_ qd.out|refine below_set ?_ qg.out)|exact HB.out)⟩⟩
        ·replace c30:=Bool.eq_false_iff.mpr c30
         subst c30
         have H1:(impl_readTitle.j2 kj21 l0 qm ql true qf qh qi)=some (r1,r2,r3,r4,r5):=by rw [if_neg (show ¬ (false=true) by decide)] at H;exact H
         clear H
         have H:=H1
         clear H1
         have H':=Ma H
         clear H
         try go_wp2
         have qn:=Ma (blk_drew qa.out)
         have qo:=Ma (blk_drew qb.out)
         have qt:=Ma (below_drew1 HB.out)
         clear qa qb
         clear HB
         have qa:=qn
         have qb:=qo
         have HB:=qt
         clear qn qo qt
         refine start_ (n:=21) (S:=fun w'=>w'.cell? ⟨qj,0,none⟩=some (.int .i64 qf)∧w'.cell? ⟨qj,1,none⟩=some (.int .i64 qh)∧w'.cell? ⟨qj,2,none⟩=some (.string qi)) (ds:=[]) #[false,false,false,false,false,false,false,false,false,false,false,false,false,false,false,false,false,false,false,false,false] (by kernel_rfl) rfl rfl ⟨(blk_cell qb.out 0).trans rfl,(blk_cell qb.out 1).trans rfl,(blk_cell qb.out 2).trans rfl⟩ (fun hHeld=>?_);refine with_tabW impl_readTitle.tab12 impl_readTitle.bits12 (fun HT_ HW_=>?_)
         generalize wc.drew=w39 at qa qb HB hHeld ⊢
         refine tz 0 84 (bm 21 1) HT_ HW_ hHeld rfl (by rintro w' ⟨s0,s1,s2⟩;go_simp;with_reducible rfl) ?_
         refine one_ (i:=1) (N:=some 85) (bm 21 3) rfl rfl (one_of HT_.out (by kernel_rfl)) (by decide) (fun K hK=>?_)
         refine goes_ Tryd.func39 (by kernel_rfl) rfl #[.agg #[.int .i64 qf,.int .i64 qh,.string qi]] (by rfl) rfl rfl (by(try simp only [List.map_toArray,List.map_cons,List.map_nil]);first|done|rfl|(simp only [List.length_drop,List.length_take];rfl)) ?_
         with_reducible refine(impl_Title_timesOk.calls qf qh qi false _ A29.out).mono ?_
         rintro e w40 ⟨rfl,hb⟩
         refine⟨_,rfl,?_⟩
         have qn:=Ma (blk_below (g:=qc) (o:=.cells #[.int .i64 0,.int .i64 0,.string (⟨#[]⟩:ByteArray)] 40 (0,0)) (by(with_reducible repeat(first|refine blk_drewN ?_ _|refine blk_drew ?_|refine blk_alloc ?_ _));exact qa.out) hb)
         have qo:=Ma (blk_below (g:=qj) (o:=.cells #[.int .i64 qf,.int .i64 qh,.string qi] 40 (0,0)) (by(with_reducible repeat(first|refine blk_drewN ?_ _|refine blk_drew ?_|refine blk_alloc ?_ _));exact qb.out) hb)
         have qt:=Ma (below_step (by repeat(first|(with_reducible first|exact HB.out|apply below_alloc|apply pw_below_drewN|apply below_drew1|refine below_set ?_ qd.out|refine below_set ?_ qg.out)|exact HB.out)) hb)
         clear qa qb
         clear HB
         have qa:=qn
         have qb:=qo
         have HB:=qt
         clear qn qo qt
         (try clear hb)
         (try clear hb2)
         (try clear hk)
         (try clear hi)
         refine hK.out _ _ ⟨(blk_cell qb.out 0).trans rfl,(blk_cell qb.out 1).trans rfl,(blk_cell qb.out 2).trans rfl⟩ (fun hHeld=>?_)
         clear hK K
         refine norm_ (a':=?_) ?_ ?_;rotate_left;(show Act.put _ (some 85) _=_;simp only[pw];rfl)
         refine pz 2 86 (bm 21 7) HT_ ?_
         refine pz 3 87 (bm 21 15) HT_ ?_
         refine pd 4 88 (bm 21 31) HT_ ?_
         refine pd 5 89 (bm 21 63) HT_ ?_
         refine pd 6 90 (bm 21 127) HT_ ?_
         refine pd 7 91 (bm 21 255) HT_ ?_
         refine pd 8 92 (bm 21 511) HT_ ?_
         refine pd 9 93 (bm 21 1023) HT_ ?_
         refine pd 10 94 (bm 21 2047) HT_ ?_
         refine pd 11 95 (bm 21 4095) HT_ ?_
         refine pd 12 96 (bm 21 8191) HT_ ?_
         refine pd 13 97 (bm 21 16383) HT_ ?_
         refine pd 14 98 (bm 21 32767) HT_ ?_
         refine pd 15 99 (bm 21 65535) HT_ ?_
         refine pd 16 100 (bm 21 131071) HT_ ?_
         refine pd 17 101 (bm 21 262143) HT_ ?_
         refine pd 18 102 (bm 21 524287) HT_ ?_
         refine pz 19 103 (bm 21 1048575) HT_ ?_
         refine pz 20 83 (bm 21 2097151) HT_ ?_
         refine done_ (done_of HT_.out (by kernel_rfl)) ?_
         try go_wp2
         go_meet
         case rel=>exact⟨_,(true),(by first|rfl|(simp;done)|(simp [*];done)),H',⟨by have:=HJ8.out;have:=HJ21.out;first|omega|exact Nat.le_refl _⟩,⟨by(with_reducible repeat(first|refine blk_drewN ?_ _|refine blk_drew ?_|refine blk_alloc ?_ _));exact qa.out⟩,⟨by(with_reducible repeat(first|refine blk_drewN ?_ _|refine blk_drew ?_|refine blk_alloc ?_ _));exact qb.out⟩,⟨by repeat(first|(with_reducible first|exact HB.out|apply below_alloc|apply pw_below_drewN|apply below_drew1|refine below_set ?_ qd.out|refine below_set ?_ qg.out)|exact HB.out)⟩⟩
       case rest=>
        clear HC28;try clear c2;try clear p2;try clear q2;try clear hx2;try clear c3;try clear p6;try clear c25;try clear p25;try clear q25;try clear hx25;try clear c26;try clear c30;try clear c31;try clear qy;try clear c31b1;try clear c33;try clear c33b0;try clear c34;try clear c34b0;try clear c39;try clear hcz27_0;try clear hcz27_1;try clear hcz27_2;try clear hfz27_0;try clear hfz27_1;try clear hfz27_2;try clear qp;try clear qq;try clear qr;try clear p250;try clear q250
        obtain⟨kq,x83_27,rfl,HA,HJ27,qa,qb,HB⟩:=hcut
        cases kq with
        | zero => exact absurd HA.out (by simp [impl_readTitle.j2])
        | succ kj27 =>
         have H:=HA.out
         clear HA
         simp only [impl_readTitle.j2] at H
         by_cases c41:x83_27=true
         ·subst c41
          rw[if_pos rfl] at H
          simp only [Option.some.injEq,Prod.mk.injEq] at H
          obtain⟨rfl,rfl,rfl,rfl,rfl⟩:=H
          have hnb42:=qe.out
          have hnc42:=qk.out
          have hcz43_0:wc.cell? ⟨qc,0,none⟩=some (.int .i64 0):=(blk_cell qa.out 0).trans rfl
          have hcz43_1:wc.cell? ⟨qc,1,none⟩=some (.int .i64 0):=(blk_cell qa.out 1).trans rfl
          have hcz43_2:wc.cell? ⟨qc,2,none⟩=some (.string (⟨#[]⟩:ByteArray)):=(blk_cell qa.out 2).trans rfl
          have hfz43_0:=blk_frozen qa.out 0
          have hfz43_1:=blk_frozen qa.out 1
          have hfz43_2:=blk_frozen qa.out 2
          go_wp2
          refine bodyPost_ret (results_ctt rfl _ _ qc 40 #[.int .i64 0,.int .i64 0,.string (⟨#[]⟩:ByteArray)] (0,0) _ rfl (by(with_reducible repeat(first|refine blk_drewN ?_ _|refine blk_drew ?_|refine blk_alloc ?_ _));refine blk_put (cs:=#[.int .i64 0,.int .i64 0,.string (⟨#[]⟩:ByteArray)]) ?_ 2 _ rfl;(with_reducible repeat(first|refine blk_drewN ?_ _|refine blk_drew ?_|refine blk_alloc ?_ _));refine blk_put (cs:=#[.int .i64 0,.int .i64 0,.string (⟨#[]⟩:ByteArray)]) ?_ 1 _ rfl;(with_reducible repeat(first|refine blk_drewN ?_ _|refine blk_drew ?_|refine blk_alloc ?_ _));refine blk_put (cs:=#[.int .i64 0,.int .i64 0,.string (⟨#[]⟩:ByteArray)]) ?_ 0 _ rfl;(with_reducible repeat(first|refine blk_drewN ?_ _|refine blk_drew ?_|refine blk_alloc ?_ _));exact qa.out) Tryd.underlying40 rfl (by kernel_rfl)) rfl ?_
          exact⟨by first|rfl|(simp [errW_none,errW_some] <;> rfl)|(simp [*,errW_none,errW_some] <;> rfl),by repeat(first|(with_reducible first|exact HB.out|apply below_alloc|apply pw_below_drewN|apply below_drew1|refine below_set ?_ qd.out|refine below_set ?_ qg.out)|exact HB.out)⟩
         ·replace c41:=Bool.eq_false_iff.mpr c41
          subst c41
          have H1:((strings_Contains.f ql (⟨#[10,10]⟩:ByteArray)).bind fun t251=>(if t251=true then ((strings_HasPrefix.f ql (⟨#[10]⟩:ByteArray)).bind fun t252=>(if t252=true then (impl_readTitle.j3 kj27 l0 qm true qf qh qi) else ((impl_textOk.f kj27 qi).bind fun t253=>(impl_readTitle.j3 kj27 l0 qm (!t253) qf qh qi)))) else (impl_readTitle.j3 kj27 l0 qm true qf qh qi)))=some (r1,r2,r3,r4,r5):=by rw [if_neg (show ¬ (false=true) by decide)] at H;exact H
          clear H
          have H:=H1
          clear H1
          have HC44:=Ma H
          clear H
          go_upto_region 14 with (fail)
          go_cut [105] (fun v105 wc=>∃ (kq:Nat) (qx:Bool),v105=.bool qx∧Aside0 (impl_readTitle.j3 kq l0 qm qx qf qh qi=some (r1,r2,r3,r4,r5))∧Aside0 (kq≤kj27)∧Aside0 (wc.heap[qc]? = some (.cells #[.int .i64 0,.int .i64 0,.string (⟨#[]⟩:ByteArray)] 40 (0,0)))∧Aside0 (wc.heap[qj]? = some (.cells #[.int .i64 qf,.int .i64 qh,.string qi] 40 (0,0)))∧Aside0 (Below w.heap.size w wc))
          case first=>
           have H:=HC44.out
           clear HC44
           replace H:=Option.bind_eq_some_iff.mp H
           obtain⟨t251,A450,H⟩:=H
           try dsimp only at H
           have A45:=Ma A450
           clear A450
           by_cases c46:t251=true
           ·subst c46
            rw[if_pos rfl] at H
            replace H:=Option.bind_eq_some_iff.mp H
            obtain⟨t252,A470,H⟩:=H
            try dsimp only at H
            have A47:=Ma A470
            clear A470
            by_cases c48:t252=true
            ·subst c48
             rw[if_pos rfl] at H
             have H':=Ma H
             clear H
             go_wp2_with (first|((with_reducible refine gate_callee (f:=48) rfl ?_);refine goesL_ (some 107) rfl rfl Tryd.func48 (by kernel_rfl) rfl #[.string ql,.string (⟨#[10,10]⟩:ByteArray)] rfl (by(try simp only [List.map_toArray,List.map_cons,List.map_nil]);first|done|rfl|(simp only [List.length_drop,List.length_take];rfl)) ?_;(with_reducible refine(strings_Contains.calls ql (⟨#[10,10]⟩:ByteArray) true _ (by first|exact HGL.out|((repeat(with_reducible refine Glob.drewN ?_));exact HGL.out)|exact Glob.below HGL.out (by repeat(first|(with_reducible first|exact HB.out|apply below_alloc|apply pw_below_drewN|apply below_drew1|refine below_set ?_ qd.out|refine below_set ?_ qg.out)|exact HB.out))) A45.out).mono ?_);rintro e w' ⟨rfl,⟨nd,rfl⟩⟩;refine⟨_,rfl,?_⟩)|(go_at_call 49;(with_reducible refine(strings_HasPrefix.calls ql (⟨#[10]⟩:ByteArray) true _ A47.out).mono ?_);rintro e w' ⟨rfl,⟨nd,rfl⟩⟩))
             go_meet
             case rel=>exact⟨_,(true),(by first|rfl|(simp;done)|(simp [*];done)),H',⟨by have:=HJ8.out;have:=HJ21.out;have:=HJ27.out;first|omega|exact Nat.le_refl _⟩,⟨by(with_reducible repeat(first|refine blk_drewN ?_ _|refine blk_drew ?_|refine blk_alloc ?_ _));exact qa.out⟩,⟨by(with_reducible repeat(first|refine blk_drewN ?_ _|refine blk_drew ?_|refine blk_alloc ?_ _));exact qb.out⟩,⟨by repeat(first|(with_reducible first|exact HB.out|apply below_alloc|apply pw_below_drewN|apply below_drew1|refine below_set ?_ qd.out|refine below_set ?_ qg.out)|exact HB.out)⟩⟩
            ·replace c48:=Bool.eq_false_iff.mpr c48
             subst c48
             have H1:((impl_textOk.f kj27 qi).bind fun t253=>(impl_readTitle.j3 kj27 l0 qm (!t253) qf qh qi))=some (r1,r2,r3,r4,r5):=by rw [if_neg (show ¬ (false=true) by decide)] at H;exact H
             clear H
             have H:=H1
             clear H1
             replace H:=Option.bind_eq_some_iff.mp H
             obtain⟨t253,A490,H⟩:=H
             try dsimp only at H
             have A49:=Ma A490
             clear A490
             have H':=Ma H
             clear H
             go_wp2_with (first|((with_reducible refine gate_callee (f:=48) rfl ?_);refine goesL_ (some 107) rfl rfl Tryd.func48 (by kernel_rfl) rfl #[.string ql,.string (⟨#[10,10]⟩:ByteArray)] rfl (by(try simp only [List.map_toArray,List.map_cons,List.map_nil]);first|done|rfl|(simp only [List.length_drop,List.length_take];rfl)) ?_;(with_reducible refine(strings_Contains.calls ql (⟨#[10,10]⟩:ByteArray) true _ (by first|exact HGL.out|((repeat(with_reducible refine Glob.drewN ?_));exact HGL.out)|exact Glob.below HGL.out (by repeat(first|(with_reducible first|exact HB.out|apply below_alloc|apply pw_below_drewN|apply below_drew1|refine below_set ?_ qd.out|refine below_set ?_ qg.out)|exact HB.out))) A45.out).mono ?_);rintro e w' ⟨rfl,⟨nd,rfl⟩⟩;refine⟨_,rfl,?_⟩)|(go_at_call 49;(with_reducible refine(strings_HasPrefix.calls ql (⟨#[10]⟩:ByteArray) false _ A47.out).mono ?_);rintro e w' ⟨rfl,⟨nd,rfl⟩⟩;have hnb50:=qk.out;have hnc50:=qe.out;have hcz51_0:wc.cell? ⟨qj,0,none⟩=some (.int .i64 qf):=(blk_cell qb.out 0).trans rfl;have hcz51_1:wc.cell? ⟨qj,1,none⟩=some (.int .i64 qh):=(blk_cell qb.out 1).trans rfl;have hcz51_2:wc.cell? ⟨qj,2,none⟩=some (.string qi):=(blk_cell qb.out 2).trans rfl;have hfz51_0:=blk_frozen qb.out 0;have hfz51_1:=blk_frozen qb.out 1;have hfz51_2:=blk_frozen qb.out 2)|(go_at_call 40;(with_reducible refine(impl_textOk.calls kj27 qi t253 _ (by first|exact HGL.out|((repeat(with_reducible refine Glob.drewN ?_));exact HGL.out)|exact Glob.below HGL.out (by repeat(first|(with_reducible first|exact HB.out|apply below_alloc|apply pw_below_drewN|apply below_drew1|refine below_set ?_ qd.out|refine below_set ?_ qg.out)|exact HB.out))) A49.out).mono ?_);rintro e w' ⟨rfl,⟨nd,rfl⟩⟩))
             go_meet
             case rel=>exact⟨_,(!t253),(by first|rfl|(simp;done)|(simp [*];done)),H',⟨by have:=HJ8.out;have:=HJ21.out;have:=HJ27.out;first|omega|exact Nat.le_refl _⟩,⟨by(with_reducible repeat(first|refine blk_drewN ?_ _|refine blk_drew ?_|refine blk_alloc ?_ _));exact qa.out⟩,⟨by(with_reducible repeat(first|refine blk_drewN ?_ _|refine blk_drew ?_|refine blk_alloc ?_ _));exact qb.out⟩,⟨by repeat(first|(with_reducible first|exact HB.out|apply below_alloc|apply pw_below_drewN|apply below_drew1|refine below_set ?_ qd.out|refine below_set ?_ qg.out)|exact HB.out)⟩⟩
           ·replace c46:=Bool.eq_false_iff.mpr c46
            subst c46
            have H1:(impl_readTitle.j3 kj27 l0 qm true qf qh qi)=some (r1,r2,r3,r4,r5):=by rw [if_neg (show ¬ (false=true) by decide)] at H;exact H
            clear H
            have H:=H1
            clear H1
            have H':=Ma H
            clear H
            go_wp2_with (first|((with_reducible refine gate_callee (f:=48) rfl ?_);refine goesL_ (some 107) rfl rfl Tryd.func48 (by kernel_rfl) rfl #[.string ql,.string (⟨#[10,10]⟩:ByteArray)] rfl (by(try simp only [List.map_toArray,List.map_cons,List.map_nil]);first|done|rfl|(simp only [List.length_drop,List.length_take];rfl)) ?_;(with_reducible refine(strings_Contains.calls ql (⟨#[10,10]⟩:ByteArray) false _ (by first|exact HGL.out|((repeat(with_reducible refine Glob.drewN ?_));exact HGL.out)|exact Glob.below HGL.out (by repeat(first|(with_reducible first|exact HB.out|apply below_alloc|apply pw_below_drewN|apply below_drew1|refine below_set ?_ qd.out|refine below_set ?_ qg.out)|exact HB.out))) A45.out).mono ?_);rintro e w' ⟨rfl,⟨nd,rfl⟩⟩;refine⟨_,rfl,?_⟩))
            go_meet
            case rel=>exact⟨_,(true),(by first|rfl|(simp;done)|(simp [*];done)),H',⟨by have:=HJ8.out;have:=HJ21.out;have:=HJ27.out;first|omega|exact Nat.le_refl _⟩,⟨by(with_reducible repeat(first|refine blk_drewN ?_ _|refine blk_drew ?_|refine blk_alloc ?_ _));exact qa.out⟩,⟨by(with_reducible repeat(first|refine blk_drewN ?_ _|refine blk_drew ?_|refine blk_alloc ?_ _));exact qb.out⟩,⟨by repeat(first|(with_reducible first|exact HB.out|apply below_alloc|apply pw_below_drewN|apply below_drew1|refine below_set ?_ qd.out|refine below_set ?_ qg.out)|exact HB.out)⟩⟩
          case rest=>
           clear HC44;try clear c2;try clear p2;try clear q2;try clear hx2;try clear c3;try clear c4;try clear c5;try clear p6;try clear c25;try clear p25;try clear q25;try clear hx25;try clear c26;try clear c30;try clear c31;try clear qy;try clear c31b1;try clear c33;try clear c33b0;try clear c34;try clear c34b0;try clear c39;try clear c41;try clear c42;try clear c46;try clear c48;try clear c50;try clear hcz27_0;try clear hcz27_1;try clear hcz27_2;try clear hcz43_0;try clear hcz43_1;try clear hcz43_2;try clear hcz51_0;try clear hcz51_1;try clear hcz51_2;try clear hfz27_0;try clear hfz27_1;try clear hfz27_2;try clear hfz43_0;try clear hfz43_1;try clear hfz43_2;try clear hfz51_0;try clear hfz51_1;try clear hfz51_2;try clear qp;try clear qq;try clear qr;try clear p2;try clear p25;try clear p250;try clear p6;try clear q2;try clear q25;try clear q250
           obtain⟨kq,qx,rfl,HA,HJ43,qa,qb,HB⟩:=hcut
           cases kq with
           | zero => exact absurd HA.out (by simp [impl_readTitle.j3])
           | succ kj43 =>
            have H:=HA.out
            clear HA
            simp only [impl_readTitle.j3] at H
            by_cases c52:qx=true
            ·subst c52
             rw[if_pos rfl] at H
             simp only [Option.some.injEq,Prod.mk.injEq] at H
             obtain⟨rfl,rfl,rfl,rfl,rfl⟩:=H
             have hnb53:=qe.out
             have hnc53:=qk.out
             have hcz54_0:wc.cell? ⟨qc,0,none⟩=some (.int .i64 0):=(blk_cell qa.out 0).trans rfl
             have hcz54_1:wc.cell? ⟨qc,1,none⟩=some (.int .i64 0):=(blk_cell qa.out 1).trans rfl
             have hcz54_2:wc.cell? ⟨qc,2,none⟩=some (.string (⟨#[]⟩:ByteArray)):=(blk_cell qa.out 2).trans rfl
             have hfz54_0:=blk_frozen qa.out 0
             have hfz54_1:=blk_frozen qa.out 1
             have hfz54_2:=blk_frozen qa.out 2
             go_wp2
             refine bodyPost_ret (results_ctt rfl _ _ qc 40 #[.int .i64 0,.int .i64 0,.string (⟨#[]⟩:ByteArray)] (0,0) _ rfl (by(with_reducible repeat(first|refine blk_drewN ?_ _|refine blk_drew ?_|refine blk_alloc ?_ _));refine blk_put (cs:=#[.int .i64 0,.int .i64 0,.string (⟨#[]⟩:ByteArray)]) ?_ 2 _ rfl;(with_reducible repeat(first|refine blk_drewN ?_ _|refine blk_drew ?_|refine blk_alloc ?_ _));refine blk_put (cs:=#[.int .i64 0,.int .i64 0,.string (⟨#[]⟩:ByteArray)]) ?_ 1 _ rfl;(with_reducible repeat(first|refine blk_drewN ?_ _|refine blk_drew ?_|refine blk_alloc ?_ _));refine blk_put (cs:=#[.int .i64 0,.int .i64 0,.string (⟨#[]⟩:ByteArray)]) ?_ 0 _ rfl;(with_reducible repeat(first|refine blk_drewN ?_ _|refine blk_drew ?_|refine blk_alloc ?_ _));exact qa.out) Tryd.underlying40 rfl (by kernel_rfl)) rfl ?_
             exact⟨by first|rfl|(simp [errW_none,errW_some] <;> rfl)|(simp [*,errW_none,errW_some] <;> rfl),by repeat(first|(with_reducible first|exact HB.out|apply below_alloc|apply pw_below_drewN|apply below_drew1|refine below_set ?_ qd.out|refine below_set ?_ qg.out)|exact HB.out)⟩
            ·replace c52:=Bool.eq_false_iff.mpr c52
             subst c52
             have H1:(if (l0.length:Int) ≥ 200 then (some (0,0,(⟨#[]⟩:ByteArray),(⟨#[]⟩:ByteArray),6)) else (some (qf,qh,qi,qm,0)))=some (r1,r2,r3,r4,r5):=by rw [if_neg (show ¬ (false=true) by decide)] at H;exact H
             clear H
             have H:=H1
             clear H1
             by_cases c55:(l0.length:Int) ≥ 200
             ·rw [if_pos c55] at H
              have c55b0:=decide_eq_true c55
              have c55b1:decide (200≤l0.length)=true:=decide_eq_true (by omega)
              clear c55
              simp only [Option.some.injEq,Prod.mk.injEq] at H
              obtain⟨rfl,rfl,rfl,rfl,rfl⟩:=H
              have hnb56:=qe.out
              have hnc56:=qk.out
              have hcz57_0:wc.cell? ⟨qc,0,none⟩=some (.int .i64 0):=(blk_cell qa.out 0).trans rfl
              have hcz57_1:wc.cell? ⟨qc,1,none⟩=some (.int .i64 0):=(blk_cell qa.out 1).trans rfl
              have hcz57_2:wc.cell? ⟨qc,2,none⟩=some (.string (⟨#[]⟩:ByteArray)):=(blk_cell qa.out 2).trans rfl
              have hfz57_0:=blk_frozen qa.out 0
              have hfz57_1:=blk_frozen qa.out 1
              have hfz57_2:=blk_frozen qa.out 2
              go_wp2
              refine bodyPost_ret (results_ctt rfl _ _ qc 40 #[.int .i64 0,.int .i64 0,.string (⟨#[]⟩:ByteArray)] (0,0) _ rfl (by(with_reducible repeat(first|refine blk_drewN ?_ _|refine blk_drew ?_|refine blk_alloc ?_ _));refine blk_put (cs:=#[.int .i64 0,.int .i64 0,.string (⟨#[]⟩:ByteArray)]) ?_ 2 _ rfl;(with_reducible repeat(first|refine blk_drewN ?_ _|refine blk_drew ?_|refine blk_alloc ?_ _));refine blk_put (cs:=#[.int .i64 0,.int .i64 0,.string (⟨#[]⟩:ByteArray)]) ?_ 1 _ rfl;(with_reducible repeat(first|refine blk_drewN ?_ _|refine blk_drew ?_|refine blk_alloc ?_ _));refine blk_put (cs:=#[.int .i64 0,.int .i64 0,.string (⟨#[]⟩:ByteArray)]) ?_ 0 _ rfl;(with_reducible repeat(first|refine blk_drewN ?_ _|refine blk_drew ?_|refine blk_alloc ?_ _));exact qa.out) Tryd.underlying40 rfl (by kernel_rfl)) rfl ?_
              exact⟨by first|rfl|(simp [errW_none,errW_some] <;> rfl)|(simp [*,errW_none,errW_some] <;> rfl),by repeat(first|(with_reducible first|exact HB.out|apply below_alloc|apply pw_below_drewN|apply below_drew1|refine below_set ?_ qd.out|refine below_set ?_ qg.out)|exact HB.out)⟩
             ·rw [if_neg c55] at H
              have c55b0:=decide_eq_false c55
              have c55b1:decide (200≤l0.length)=false:=decide_eq_false (by omega)
              clear c55
              simp only [Option.some.injEq,Prod.mk.injEq] at H
              obtain⟨rfl,rfl,rfl,rfl,rfl⟩:=H
              have hnb58:=qk.out
              have hnc58:=qe.out
              have hcz59_0:wc.cell? ⟨qj,0,none⟩=some (.int .i64 qf):=(blk_cell qb.out 0).trans rfl
              have hcz59_1:wc.cell? ⟨qj,1,none⟩=some (.int .i64 qh):=(blk_cell qb.out 1).trans rfl
              have hcz59_2:wc.cell? ⟨qj,2,none⟩=some (.string qi):=(blk_cell qb.out 2).trans rfl
              have hfz59_0:=blk_frozen qb.out 0
              have hfz59_1:=blk_frozen qb.out 1
              have hfz59_2:=blk_frozen qb.out 2
              have hcz60_0:wc.cell? ⟨qc,0,none⟩=some (.int .i64 0):=(blk_cell qa.out 0).trans rfl
              have hcz60_1:wc.cell? ⟨qc,1,none⟩=some (.int .i64 0):=(blk_cell qa.out 1).trans rfl
              have hcz60_2:wc.cell? ⟨qc,2,none⟩=some (.string (⟨#[]⟩:ByteArray)):=(blk_cell qa.out 2).trans rfl
              have hfz60_0:=blk_frozen qa.out 0
              have hfz60_1:=blk_frozen qa.out 1
              have hfz60_2:=blk_frozen qa.out 2
              go_wp2
              refine bodyPost_ret (results_ctt rfl _ _ qc 40 #[.int .i64 qf,.int .i64 qh,.string qi] (0,0) _ rfl (by(with_reducible repeat(first|refine blk_drewN ?_ _|refine blk_drew ?_|refine blk_alloc ?_ _));refine blk_put (cs:=#[.int .i64 qf,.int .i64 qh,.string (⟨#[]⟩:ByteArray)]) ?_ 2 _ rfl;(with_reducible repeat(first|refine blk_drewN ?_ _|refine blk_drew ?_|refine blk_alloc ?_ _));refine blk_put (cs:=#[.int .i64 qf,.int .i64 0,.string (⟨#[]⟩:ByteArray)]) ?_ 1 _ rfl;(with_reducible repeat(first|refine blk_drewN ?_ _|refine blk_drew ?_|refine blk_alloc ?_ _));refine blk_put (cs:=#[.int .i64 0,.int .i64 0,.string (⟨#[]⟩:ByteArray)]) ?_ 0 _ rfl;(with_reducible repeat(first|refine blk_drewN ?_ _|refine blk_drew ?_|refine blk_alloc ?_ _));exact qa.out) Tryd.underlying40 rfl (by kernel_rfl)) rfl ?_
              exact⟨by first|rfl|(simp [errW_none,errW_some] <;> rfl)|(simp [*,errW_none,errW_some] <;> rfl),by repeat(first|(with_reducible first|exact HB.out|apply below_alloc|apply pw_below_drewN|apply below_drew1|refine below_set ?_ qd.out|refine below_set ?_ qg.out)|exact HB.out)⟩

end Go.Proofs.YtidogkjhjmcliaaDoor.HFnTitlesBack
