-- Laid by myprint.py, a program of this repo, out of the kit's printer and this repo's own texts (wip/hand).
import Derived.Test.YtbdnpfjjaokdbaaHFnCodedx0
namespace Go.Proofs.Ytbdnpfjjaokdbaa.HFnCoded
open Go.RowKit Go.Proofs.YtbdnpfjjaokdbaaW.PrintWords Go.Proofs.YtbdnpfjjaokdbaaW.PrintLast Go.Proofs.YtbdnpfjjaokdbaaW.PrintMore
attribute [local go_sem] max2_int min2_int max_two min_two max_three min_three max_four min_four   -- for this text's walks alone
set_option linter.unusedVariables false
set_option linter.unusedSimpArgs false
theorem Ga : type_of% @Aside0.mk := @Aside0.mk
theorem Gb : type_of% @pw_below_drewN := @pw_below_drewN
theorem Gc : type_of% @below_alloc := @below_alloc
theorem Gd : type_of% @below_drew1 := @below_drew1
theorem Ge : type_of% @blk_frozen := @blk_frozen
theorem Gf : type_of% @blk_cell := @blk_cell
theorem Gg : type_of% @blk_drew := @blk_drew
theorem Gh : type_of% @below_set := @below_set
theorem Gi : type_of% @blk_alloc := @blk_alloc
theorem Gj : type_of% @blk_drewN := @blk_drewN
theorem Gk : type_of% @below_size := @below_size
theorem Gl : type_of% @below_step := @below_step

/-! ### spec_l1In: function 57 -/
def spec_l1In.f (a0 : Int) (a1 : Int) (a2 : Int) : Option (Bool) := if a0 ≥ a1 then (some (decide (a0 ≤ a2))) else (some false)
set_option maxHeartbeats 8000000 in
set_option maxRecDepth 100000 in
theorem spec_l1In.calls (a0 : Int) (a1 : Int) (a2 : Int) (r : Bool) (w : World) (h : spec_l1In.f a0 a1 a2 = some r) :
  Calls Try.prog 57 #[.int .i64 a0,.int .i64 a1,.int .i64 a2] w fun e w'=>e=.returned (.bool r)∧Drawn0 w w':=by
 have H:(if a0 ≥ a1 then (some (decide (a0≤a2))) else (some false))=some r:=h
 clear h
 by_cases c4:a0 ≥ a1
 ·rw [if_pos c4] at H
  have c4b0:decide (a1≤a0)=true:=decide_eq_true c4
  clear c4
  obtain rfl:=Option.some.inj H
  go_enter Try.func57,Try.ntmps57
  go_wp2
  go_ret
  exact⟨by first|rfl|(simp;done)|(simp [*];done),by repeat(first|exact Drawn0.refl _|apply Drawn0.step)⟩
 ·rw [if_neg c4] at H
  have c4b0:decide (a1≤a0)=false:=decide_eq_false c4
  clear c4
  obtain rfl:=Option.some.inj H
  go_enter Try.func57,Try.ntmps57
  go_wp2
  go_ret
  exact⟨by first|rfl|(simp;done)|(simp [*];done),by repeat(first|exact Drawn0.refl _|apply Drawn0.step)⟩

/-! ### spec_l14Side: function 47 -/
def spec_l14Side.f (a0 : Int) : Option (Bool) := (spec_l1In.f a0 4 16).bind fun t149 => (if t149 = true then (some ((Int.tmod a0 4) == 0)) else (some false))
set_option maxHeartbeats 8000000 in
set_option maxRecDepth 100000 in
theorem spec_l14Side.calls (a0 : Int) (r : Bool) (w : World) (h : spec_l14Side.f a0 = some r) :
  Calls Try.prog 47 #[.int .i64 a0] w fun e w'=>e=.returned (.bool r)∧Drawn0 w w':=by
 have H:((spec_l1In.f a0 4 16).bind fun t149=>(if t149=true then (some ((Int.tmod a0 4) == 0)) else (some false)))=some r:=h
 clear h
 replace H:=Option.bind_eq_some_iff.mp H
 obtain⟨t149,A20,H⟩:=H
 replace H:(if t149=true then (some ((Int.tmod a0 4) == 0)) else (some false))=some r:=H
 have A2:=Ga A20
 clear A20
 by_cases c3:t149=true
 ·subst c3
  have H1:(some ((Int.tmod a0 4) == 0))=some r:=by rw [if_pos rfl] at H;exact H
  clear H
  have H:=H1
  clear H1
  obtain rfl:=Option.some.inj H
  go_enter Try.func47,Try.ntmps47
  go_wp2_with (first|((with_reducible refine gate_callee (f:=57) rfl ?_);refine goesL_ (some 4) rfl rfl Try.func57 (by kernel_rfl) rfl #[.int .i64 a0,.int .i64 4,.int .i64 16] rfl (by(try simp only [List.map_toArray,List.map_cons,List.map_nil]);first|done|rfl|(simp only [List.length_drop,List.length_take];rfl)) ?_;(with_reducible refine(spec_l1In.calls a0 4 16 true _ A2.out).mono ?_);rintro e w' ⟨rfl,⟨nd,rfl⟩⟩;refine⟨_,rfl,?_⟩))
  go_ret
  exact⟨by first|rfl|(simp;done)|(simp [*];done),by repeat(first|exact Drawn0.refl _|apply Drawn0.step)⟩
 ·replace c3:=Bool.eq_false_iff.mpr c3
  subst c3
  have H1:(some false)=some r:=by rw [if_neg (show ¬ (false=true) by decide)] at H;exact H
  clear H
  have H:=H1
  clear H1
  obtain rfl:=Option.some.inj H
  go_enter Try.func47,Try.ntmps47
  go_wp2_with (first|((with_reducible refine gate_callee (f:=57) rfl ?_);refine goesL_ (some 4) rfl rfl Try.func57 (by kernel_rfl) rfl #[.int .i64 a0,.int .i64 4,.int .i64 16] rfl (by(try simp only [List.map_toArray,List.map_cons,List.map_nil]);first|done|rfl|(simp only [List.length_drop,List.length_take];rfl)) ?_;(with_reducible refine(spec_l1In.calls a0 4 16 false _ A2.out).mono ?_);rintro e w' ⟨rfl,⟨nd,rfl⟩⟩;refine⟨_,rfl,?_⟩))
  go_ret
  exact⟨by first|rfl|(simp;done)|(simp [*];done),by repeat(first|exact Drawn0.refl _|apply Drawn0.step)⟩

/-! ### spec_l11Byte: function 48 -/
def spec_l11Byte.f (a0 : Int) : Option (Bool) := (spec_l1In.f a0 0 255).bind fun t150 => (some t150)
set_option maxHeartbeats 8000000 in
set_option maxRecDepth 100000 in
theorem spec_l11Byte.calls (a0 : Int) (r : Bool) (w : World) (h : spec_l11Byte.f a0 = some r) :
  Calls Try.prog 48 #[.int .i64 a0] w fun e w'=>e=.returned (.bool r)∧Drawn0 w w':=by
 have H:((spec_l1In.f a0 0 255).bind fun t150=>(some t150))=some r:=h
 clear h
 replace H:=Option.bind_eq_some_iff.mp H
 obtain⟨t150,A20,H⟩:=H
 replace H:(some t150)=some r:=H
 have A2:=Ga A20
 clear A20
 obtain rfl:=Option.some.inj H
 go_enter Try.func48,Try.ntmps48
 go_wp2_with (first|((with_reducible refine gate_callee (f:=57) rfl ?_);refine goesL_ (some 4) rfl rfl Try.func57 (by kernel_rfl) rfl #[.int .i64 a0,.int .i64 0,.int .i64 255] rfl (by(try simp only [List.map_toArray,List.map_cons,List.map_nil]);first|done|rfl|(simp only [List.length_drop,List.length_take];rfl)) ?_;(with_reducible refine(spec_l1In.calls a0 0 255 t150 _ A2.out).mono ?_);rintro e w' ⟨rfl,⟨nd,rfl⟩⟩;refine⟨_,rfl,?_⟩))
 go_ret
 exact⟨by first|rfl|(simp;done)|(simp [*];done),by repeat(first|exact Drawn0.refl _|apply Drawn0.step)⟩

/-! ### spec_PictureOk: function 15 -/
mutual
def spec_PictureOk.j0 : Nat → Bool → Int → Int → List Int → Option (Bool)
 | 0, _, _, _, _ => none
 | k + 1, x24, x152000, x152001, x152002 => if x24 = true then (some false) else (spec_PictureOk.l0 k 0 x152000 x152001 x152002)
def spec_PictureOk.l0 : Nat → Int → Int → Int → List Int → Option (Bool)
 | 0, _, _, _, _ => none
 | k + 1, x3, x152000, x152001, x152002 => if x3 < (x152002.length : Int) then (if 0 ≤ x3 then ((spec_l11Byte.f (rd x152002 x3)).bind fun t155 => (if t155 = true then (spec_PictureOk.l0 k (wrap64 (x3 + 1)) x152000 x152001 x152002) else (some false))) else (none)) else (some true)
end
def spec_PictureOk.f (k : Nat) (a0_0 : Int) (a0_1 : Int) (l0_2 : List Int) : Option (Bool) := (spec_l14Side.f a0_0).bind fun t152 => (if t152 = true then ((spec_l14Side.f a0_1).bind fun t153 => (if t153 = true then (spec_PictureOk.j0 k ((l0_2.length : Int) != (wrap64 (a0_0 * a0_1))) a0_0 a0_1 l0_2) else (spec_PictureOk.j0 k true a0_0 a0_1 l0_2))) else (spec_PictureOk.j0 k true a0_0 a0_1 l0_2))
theorem spec_PictureOk.mono_l : ∀ k, (∀ y0 y1 y2 y3, LeO (spec_PictureOk.j0 k y0 y1 y2 y3) (spec_PictureOk.j0 (k + 1) y0 y1 y2 y3)) ∧ (∀ y0 y1 y2 y3, LeO (spec_PictureOk.l0 k y0 y1 y2 y3) (spec_PictureOk.l0 (k + 1) y0 y1 y2 y3))
 | 0 => ⟨fun _ _ _ _ r h => by simp [spec_PictureOk.j0] at h, fun _ _ _ _ r h => by simp [spec_PictureOk.l0] at h⟩
 | k + 1 => by
  obtain⟨ih0,ih1⟩:=spec_PictureOk.mono_l k
  refine⟨?_,?_⟩
  ·intro y0 y1 y2 y3
   unfold spec_PictureOk.j0
   repeat' first
   | (with_reducible exact ih0 _ _ _ _)
   | (with_reducible exact ih1 _ _ _ _)
   | (with_reducible exact LeO.refl _)
   | (with_reducible exact LeO.none _)
   | (with_reducible refine LeO.ite ?_ ?_)
   | (with_reducible refine LeO.bind ?_ (fun _ => ?_))
   | exact ih0 _ _ _ _
   | exact ih1 _ _ _ _
   | exact LeO.none _
   | refine LeO.ite ?_ ?_
   | refine LeO.bind ?_ (fun _ => ?_)
  ·intro y0 y1 y2 y3
   unfold spec_PictureOk.l0
   repeat' first
   | (with_reducible exact ih0 _ _ _ _)
   | (with_reducible exact ih1 _ _ _ _)
   | (with_reducible exact LeO.refl _)
   | (with_reducible exact LeO.none _)
   | (with_reducible refine LeO.ite ?_ ?_)
   | (with_reducible refine LeO.bind ?_ (fun _ => ?_))
   | exact ih0 _ _ _ _
   | exact ih1 _ _ _ _
   | exact LeO.none _
   | refine LeO.ite ?_ ?_
   | refine LeO.bind ?_ (fun _ => ?_)
theorem spec_PictureOk.mono : ∀ a0 a1 a2 k, LeO (spec_PictureOk.f k a0 a1 a2) (spec_PictureOk.f (k + 1) a0 a1 a2) := by
 intro a0 a1 a2 k
 obtain⟨ih0,ih1⟩:=spec_PictureOk.mono_l k
 unfold spec_PictureOk.f
 repeat' first
   | (with_reducible exact ih0 _ _ _ _)
   | (with_reducible exact ih1 _ _ _ _)
   | (with_reducible exact LeO.refl _)
   | (with_reducible exact LeO.none _)
   | (with_reducible refine LeO.ite ?_ ?_)
   | (with_reducible refine LeO.bind ?_ (fun _ => ?_))
   | exact ih0 _ _ _ _
   | exact ih1 _ _ _ _
   | exact LeO.none _
   | refine LeO.ite ?_ ?_
   | refine LeO.bind ?_ (fun _ => ?_)
set_option maxHeartbeats 8000000 in
set_option maxRecDepth 100000 in
theorem spec_PictureOk.calls (k : Nat) (a0_0 : Int) (a0_1 : Int) (A0_2 : Option Addr) (c0_2 : Nat) (l0_2 : List Int) (r : Bool) (w : World) (hr0_2 : Kd.C (Kd.int .i64) w A0_2 l0_2.length l0_2) (hc0_2 : l0_2.length ≤ c0_2) (h : spec_PictureOk.f k a0_0 a0_1 l0_2 = some r) :
  Calls Try.prog 15 #[.agg #[.int .i64 a0_0,.int .i64 a0_1,.slice A0_2 l0_2.length c0_2]] w fun e w'=>e=.returned (.bool r)∧Below w.heap.size w w':=by
 have hu27:=Try.underlying27
 have HR0_2:=Ga hr0_2
 have HC0_2:=Ga hc0_2
 clear hr0_2 hc0_2
 have HB:=Ga (Below.refl w.heap.size w)
 have H:((spec_l14Side.f a0_0).bind fun t152=>(if t152=true then ((spec_l14Side.f a0_1).bind fun t153=>(if t153=true then (spec_PictureOk.j0 k ((l0_2.length:Int) != (wrap64 (a0_0*a0_1))) a0_0 a0_1 l0_2) else (spec_PictureOk.j0 k true a0_0 a0_1 l0_2))) else (spec_PictureOk.j0 k true a0_0 a0_1 l0_2)))=some r:=h
 clear h
 have HC2:=Ga H
 clear H
 go_enter Try.func15,Try.ntmps15
 go_upto_region 1 with (first|((with_reducible refine gate_dst (N:=1) rfl ?_);(try(refine gate_guard (by rfl) ?_;dsimp only));refine box_event ?hg (N:=1) ?hd (cs:=#[.int .i64 a0_0,.int .i64 a0_1,.slice A0_2 l0_2.length c0_2]) (t:=27) ?hr ?_;(case hd=>rfl);(case hg=>rfl);(case hr=>first|(go_simp;done)|(go_simp;rfl));intro gb151 hg w3 hbox hb;have n0_:=Ga (Gl (by repeat(first|(with_reducible first|exact HB.out|apply Gc|apply Gb|apply Gd)|exact HB.out)) hb);have n1_:=Ga (hbox);have n2_:=Ga ((by rw [hg];exact(Gk (by repeat(first|(with_reducible first|exact HB.out|apply Gc|apply Gb|apply Gd)|exact HB.out))):w.heap.size≤gb151));have n3_:=Ga ((by rw [hg];exact(Gk (by repeat(first|(with_reducible first|exact HB.out|apply Gc|apply Gb|apply Gd)|exact HB.out))):w.heap.size≤gb151));clear HB;have HB:=n0_;have BK151:=n1_;have GW151:=n2_;have GE151:=n3_;clear n0_ n1_ n2_ n3_;clear hb hbox hg))
 (try simp only [Act.put,List.setIfInBounds_toArray,List.set_cons_zero,List.set_cons_succ])
 go_cut [24] (fun v24 wc=>∃ (kq:Nat) (x24_1:Bool),v24=.bool x24_1∧Aside0 (spec_PictureOk.j0 kq x24_1 a0_0 a0_1 l0_2=some r)∧Aside0 (kq≤k)∧Aside0 (wc.heap[gb151]? = some (.cells #[.int .i64 a0_0,.int .i64 a0_1,(.slice A0_2 l0_2.length c0_2)] 27 (0,0)))∧Aside0 (Below w.heap.size w wc))
 case first=>
  have H:=HC2.out
  clear HC2
  replace H:=Option.bind_eq_some_iff.mp H
  obtain⟨t152,A40,H⟩:=H
  replace H:(if t152=true then ((spec_l14Side.f a0_1).bind fun t153=>(if t153=true then (spec_PictureOk.j0 k ((l0_2.length:Int) != (wrap64 (a0_0*a0_1))) a0_0 a0_1 l0_2) else (spec_PictureOk.j0 k true a0_0 a0_1 l0_2))) else (spec_PictureOk.j0 k true a0_0 a0_1 l0_2))=some r:=H
  have A4:=Ga A40
  clear A40
  by_cases c5:t152=true
  ·subst c5
   have H1:((spec_l14Side.f a0_1).bind fun t153=>(if t153=true then (spec_PictureOk.j0 k ((l0_2.length:Int) != (wrap64 (a0_0*a0_1))) a0_0 a0_1 l0_2) else (spec_PictureOk.j0 k true a0_0 a0_1 l0_2)))=some r:=by rw [if_pos rfl] at H;exact H
   clear H
   have H:=H1
   clear H1
   replace H:=Option.bind_eq_some_iff.mp H
   obtain⟨t153,A60,H⟩:=H
   replace H:(if t153=true then (spec_PictureOk.j0 k ((l0_2.length:Int) != (wrap64 (a0_0*a0_1))) a0_0 a0_1 l0_2) else (spec_PictureOk.j0 k true a0_0 a0_1 l0_2))=some r:=H
   have A6:=Ga A60
   clear A60
   by_cases c7:t153=true
   ·subst c7
    have H1:(spec_PictureOk.j0 k ((l0_2.length:Int) != (wrap64 (a0_0*a0_1))) a0_0 a0_1 l0_2)=some r:=by rw [if_pos rfl] at H;exact H
    clear H
    have H:=H1
    clear H1
    have H':=Ga H
    clear H
    have hcz8_0:w3.cell? ⟨gb151,0,none⟩=some (.int .i64 a0_0):=(Gf BK151.out 0).trans rfl
    have hcz8_1:w3.cell? ⟨gb151,1,none⟩=some (.int .i64 a0_1):=(Gf BK151.out 1).trans rfl
    have hcz8_2:w3.cell? ⟨gb151,2,none⟩=some (.slice A0_2 l0_2.length c0_2):=(Gf BK151.out 2).trans rfl
    have hfz8_0:=Ge BK151.out 0
    have hfz8_1:=Ge BK151.out 1
    have hfz8_2:=Ge BK151.out 2
    go_wp2_with (first|((with_reducible refine gate_callee (f:=47) rfl ?_);refine goesL_ (some 6) rfl rfl Try.func47 (by kernel_rfl) rfl #[.int .i64 a0_0] rfl (by(try simp only [List.map_toArray,List.map_cons,List.map_nil]);first|done|rfl|(simp only [List.length_drop,List.length_take];rfl)) ?_;(with_reducible refine(spec_l14Side.calls a0_0 true _ A4.out).mono ?_);rintro e w' ⟨rfl,⟨nd,rfl⟩⟩;refine⟨_,rfl,?_⟩)|(go_at_call 47;(with_reducible refine(spec_l14Side.calls a0_1 true _ A6.out).mono ?_);rintro e w' ⟨rfl,⟨nd,rfl⟩⟩))
    go_meet
    case rel=>exact⟨_,(((l0_2.length:Int) != (wrap64 (a0_0*a0_1)))),(by first|rfl|(simp;done)|(simp [*];done)),H',⟨by first|omega|exact Nat.le_refl _⟩,⟨by(with_reducible repeat(first|refine Gj ?_ _|refine Gg ?_|refine Gi ?_ _));exact BK151.out⟩,⟨by repeat(first|(with_reducible first|exact HB.out|apply Gc|apply Gb|apply Gd|refine Gh ?_ GE151.out)|exact HB.out)⟩⟩
   ·replace c7:=Bool.eq_false_iff.mpr c7
    subst c7
    have H1:(spec_PictureOk.j0 k true a0_0 a0_1 l0_2)=some r:=by rw [if_neg (show ¬ (false=true) by decide)] at H;exact H
    clear H
    have H:=H1
    clear H1
    have H':=Ga H
    clear H
    have hcz9_0:w3.cell? ⟨gb151,0,none⟩=some (.int .i64 a0_0):=(Gf BK151.out 0).trans rfl
    have hcz9_1:w3.cell? ⟨gb151,1,none⟩=some (.int .i64 a0_1):=(Gf BK151.out 1).trans rfl
    have hcz9_2:w3.cell? ⟨gb151,2,none⟩=some (.slice A0_2 l0_2.length c0_2):=(Gf BK151.out 2).trans rfl
    have hfz9_0:=Ge BK151.out 0
    have hfz9_1:=Ge BK151.out 1
    have hfz9_2:=Ge BK151.out 2
    go_wp2_with (first|((with_reducible refine gate_callee (f:=47) rfl ?_);refine goesL_ (some 6) rfl rfl Try.func47 (by kernel_rfl) rfl #[.int .i64 a0_0] rfl (by(try simp only [List.map_toArray,List.map_cons,List.map_nil]);first|done|rfl|(simp only [List.length_drop,List.length_take];rfl)) ?_;(with_reducible refine(spec_l14Side.calls a0_0 true _ A4.out).mono ?_);rintro e w' ⟨rfl,⟨nd,rfl⟩⟩;refine⟨_,rfl,?_⟩)|(go_at_call 47;(with_reducible refine(spec_l14Side.calls a0_1 false _ A6.out).mono ?_);rintro e w' ⟨rfl,⟨nd,rfl⟩⟩))
    go_meet
    case rel=>exact⟨_,(true),(by first|rfl|(simp;done)|(simp [*];done)),H',⟨by first|omega|exact Nat.le_refl _⟩,⟨by(with_reducible repeat(first|refine Gj ?_ _|refine Gg ?_|refine Gi ?_ _));exact BK151.out⟩,⟨by repeat(first|(with_reducible first|exact HB.out|apply Gc|apply Gb|apply Gd|refine Gh ?_ GE151.out)|exact HB.out)⟩⟩
  ·replace c5:=Bool.eq_false_iff.mpr c5
   subst c5
   have H1:(spec_PictureOk.j0 k true a0_0 a0_1 l0_2)=some r:=by rw [if_neg (show ¬ (false=true) by decide)] at H;exact H
   clear H
   have H:=H1
   clear H1
   have H':=Ga H
   clear H
   have hcz10_0:w3.cell? ⟨gb151,0,none⟩=some (.int .i64 a0_0):=(Gf BK151.out 0).trans rfl
   have hcz10_1:w3.cell? ⟨gb151,1,none⟩=some (.int .i64 a0_1):=(Gf BK151.out 1).trans rfl
   have hcz10_2:w3.cell? ⟨gb151,2,none⟩=some (.slice A0_2 l0_2.length c0_2):=(Gf BK151.out 2).trans rfl
   have hfz10_0:=Ge BK151.out 0
   have hfz10_1:=Ge BK151.out 1
   have hfz10_2:=Ge BK151.out 2
   go_wp2_with (first|((with_reducible refine gate_callee (f:=47) rfl ?_);refine goesL_ (some 6) rfl rfl Try.func47 (by kernel_rfl) rfl #[.int .i64 a0_0] rfl (by(try simp only [List.map_toArray,List.map_cons,List.map_nil]);first|done|rfl|(simp only [List.length_drop,List.length_take];rfl)) ?_;(with_reducible refine(spec_l14Side.calls a0_0 false _ A4.out).mono ?_);rintro e w' ⟨rfl,⟨nd,rfl⟩⟩;refine⟨_,rfl,?_⟩))
   go_meet
   case rel=>exact⟨_,(true),(by first|rfl|(simp;done)|(simp [*];done)),H',⟨by first|omega|exact Nat.le_refl _⟩,⟨by(with_reducible repeat(first|refine Gj ?_ _|refine Gg ?_|refine Gi ?_ _));exact BK151.out⟩,⟨by repeat(first|(with_reducible first|exact HB.out|apply Gc|apply Gb|apply Gd|refine Gh ?_ GE151.out)|exact HB.out)⟩⟩
 case rest=>
  clear HC2
  try clear c1
  try clear p2
  try clear c4
  try clear c5
  try clear p6
  try clear c7
  try clear hcz10_0
  try clear hcz10_1
  try clear hcz10_2
  try clear hcz8_0
  try clear hcz8_1
  try clear hcz8_2
  try clear hcz9_0
  try clear hcz9_1
  try clear hcz9_2
  try clear hfz10_0
  try clear hfz10_1
  try clear hfz10_2
  try clear hfz8_0
  try clear hfz8_1
  try clear hfz8_2
  try clear hfz9_0
  try clear hfz9_1
  try clear hfz9_2
  obtain⟨kq,x24_1,rfl,HA,HJ1,BK151,HB⟩:=hcut
  cases kq with
  | zero => exact absurd HA.out (by simp [spec_PictureOk.j0])
  | succ kj1 =>
   have H:=HA.out
   clear HA
   simp only [spec_PictureOk.j0] at H
   by_cases c11:x24_1=true
   ·subst c11
    have H1:(some false)=some r:=by rw [if_pos rfl] at H;exact H
    clear H
    have H:=H1
    clear H1
    obtain rfl:=Option.some.inj H
    go_wp2
    go_ret
    exact⟨by first|rfl|(simp [errW_none,errW_some] <;> rfl)|(simp [*,errW_none,errW_some] <;> rfl),by repeat(first|(with_reducible first|exact HB.out|apply Gc|apply Gb|apply Gd|refine Gh ?_ GE151.out)|exact HB.out)⟩
   ·replace c11:=Bool.eq_false_iff.mpr c11
    subst c11
    have H1:(spec_PictureOk.l0 kj1 0 a0_0 a0_1 l0_2)=some r:=by rw [if_neg (show ¬ (false=true) by decide)] at H;exact H
    clear H
    have H:=H1
    clear H1
    have H':=Ga H
    clear H
    go_wp2
    go_loopg [3] kj1 (fun kq v3 w'=>∃ (x3_2:Int),v3=.int .i64 x3_2∧Aside0 (spec_PictureOk.l0 kq x3_2 a0_0 a0_1 l0_2=some r)∧Aside0 (kq≤kj1)∧Aside0 (w'.heap[gb151]? = some (.cells #[.int .i64 a0_0,.int .i64 a0_1,(.slice A0_2 l0_2.length c0_2)] 27 (0,0)))∧Aside0 (Below w.heap.size w w'))
    case atStart=>exact⟨(0),(by first|rfl|(simp;done)|(simp [*];done)),H',⟨Nat.le_refl _⟩,⟨by(with_reducible repeat(first|refine Gj ?_ _|refine Gg ?_|refine Gi ?_ _));exact BK151.out⟩,⟨by repeat(first|(with_reducible first|exact HB.out|apply Gc|apply Gb|apply Gd|refine Gh ?_ GE151.out)|exact HB.out)⟩⟩
    case round=>
     clear H'
     try clear c1
     try clear p2
     try clear c4
     try clear c5
     try clear p6
     try clear c7
     try clear c11
     try clear hcz10_0
     try clear hcz10_1
     try clear hcz10_2
     try clear hcz8_0
     try clear hcz8_1
     try clear hcz8_2
     try clear hcz9_0
     try clear hcz9_1
     try clear hcz9_2
     try clear hfz10_0
     try clear hfz10_1
     try clear hfz10_2
     try clear hfz8_0
     try clear hfz8_1
     try clear hfz8_2
     try clear hfz9_0
     try clear hfz9_1
     try clear hfz9_2
     try clear p2
     try clear p6
     obtain⟨x3_2,rfl,HA,HK2,BK151,HB⟩:=hrel
     cases gk with
     | zero => exact absurd HA.out (by simp [spec_PictureOk.l0])
     | succ k2 =>
      have H:=HA.out
      clear HA
      simp only [spec_PictureOk.l0] at H
      by_cases c12:x3_2 < (l0_2.length:Int)
      ·rw [if_pos c12] at H
       have c12b0:decide (x3_2 < (l0_2.length:Int))=true:=decide_eq_true c12
       clear c12
       by_cases c13:0≤x3_2
       ·rw [if_pos c13] at H
        have c13b0:decide (0≤x3_2)=true:=decide_eq_true c13
        clear c13
        replace H:=Option.bind_eq_some_iff.mp H
        obtain⟨t155,A140,H⟩:=H
        replace H:(if t155=true then (spec_PictureOk.l0 k2 (wrap64 (x3_2+1)) a0_0 a0_1 l0_2) else (some false))=some r:=H
        have A14:=Ga A140
        clear A140
        by_cases c15:t155=true
        ·subst c15
         have H1:(spec_PictureOk.l0 k2 (wrap64 (x3_2+1)) a0_0 a0_1 l0_2)=some r:=by rw [if_pos rfl] at H;exact H
         clear H
         have H:=H1
         clear H1
         have H':=Ga H
         clear H
         have hcz16_0:wr.cell? ⟨gb151,0,none⟩=some (.int .i64 a0_0):=(Gf BK151.out 0).trans rfl
         have hcz16_1:wr.cell? ⟨gb151,1,none⟩=some (.int .i64 a0_1):=(Gf BK151.out 1).trans rfl
         have hcz16_2:wr.cell? ⟨gb151,2,none⟩=some (.slice A0_2 l0_2.length c0_2):=(Gf BK151.out 2).trans rfl
         have hfz16_0:=Ge BK151.out 0
         have hfz16_1:=Ge BK151.out 1
         have hfz16_2:=Ge BK151.out 2
         have p154:0≤(x3_2:Int):=of_decide_eq_true (by first|(with_reducible assumption)|assumption)
         have q154:x3_2 < (l0_2.length:Int):=of_decide_eq_true (by first|(with_reducible assumption)|assumption)
         obtain⟨ad154,e154,hx154_0⟩:=Kd.at_int HR0_2.out x3_2 p154 q154
         cases e154
         replace hx154_0:=(HB.out.cell (World.block_lt_of_cell? w _ hx154_0)).trans hx154_0
         replace p154:=eq_true p154
         replace q154:=eq_true q154
         go_wp2_with (first|((with_reducible refine gate_callee (f:=48) rfl ?_);refine goesL_ (some 37) rfl rfl Try.func48 (by kernel_rfl) rfl #[.int .i64 (rd l0_2 x3_2)] rfl (by(try simp only [List.map_toArray,List.map_cons,List.map_nil]);first|done|rfl|(simp only [List.length_drop,List.length_take];rfl)) ?_;(with_reducible refine(spec_l11Byte.calls (rd l0_2 x3_2) true _ A14.out).mono ?_);rintro e w' ⟨rfl,⟨nd,rfl⟩⟩;refine⟨_,rfl,?_⟩))
         go_roundg k2
         case measure=>have:=HJ1.out;have:=HK2.out;omega
         case rel=>exact⟨(wrap64 (x3_2+1)),(by first|rfl|(simp;done)|(simp [*];done)),H',⟨by have:=HJ1.out;have:=HK2.out;omega⟩,⟨by(with_reducible repeat(first|refine Gj ?_ _|refine Gg ?_|refine Gi ?_ _));exact BK151.out⟩,⟨by repeat(first|(with_reducible first|exact HB.out|apply Gc|apply Gb|apply Gd|refine Gh ?_ GE151.out)|exact HB.out)⟩⟩
        ·replace c15:=Bool.eq_false_iff.mpr c15
         subst c15
         have H1:(some false)=some r:=by rw [if_neg (show ¬ (false=true) by decide)] at H;exact H
         clear H
         have H:=H1
         clear H1
         obtain rfl:=Option.some.inj H
         have hcz17_0:wr.cell? ⟨gb151,0,none⟩=some (.int .i64 a0_0):=(Gf BK151.out 0).trans rfl
         have hcz17_1:wr.cell? ⟨gb151,1,none⟩=some (.int .i64 a0_1):=(Gf BK151.out 1).trans rfl
         have hcz17_2:wr.cell? ⟨gb151,2,none⟩=some (.slice A0_2 l0_2.length c0_2):=(Gf BK151.out 2).trans rfl
         have hfz17_0:=Ge BK151.out 0
         have hfz17_1:=Ge BK151.out 1
         have hfz17_2:=Ge BK151.out 2
         have p154:0≤(x3_2:Int):=of_decide_eq_true (by first|(with_reducible assumption)|assumption)
         have q154:x3_2 < (l0_2.length:Int):=of_decide_eq_true (by first|(with_reducible assumption)|assumption)
         obtain⟨ad154,e154,hx154_0⟩:=Kd.at_int HR0_2.out x3_2 p154 q154
         cases e154
         replace hx154_0:=(HB.out.cell (World.block_lt_of_cell? w _ hx154_0)).trans hx154_0
         replace p154:=eq_true p154
         replace q154:=eq_true q154
         go_wp2_with (first|((with_reducible refine gate_callee (f:=48) rfl ?_);refine goesL_ (some 37) rfl rfl Try.func48 (by kernel_rfl) rfl #[.int .i64 (rd l0_2 x3_2)] rfl (by(try simp only [List.map_toArray,List.map_cons,List.map_nil]);first|done|rfl|(simp only [List.length_drop,List.length_take];rfl)) ?_;(with_reducible refine(spec_l11Byte.calls (rd l0_2 x3_2) false _ A14.out).mono ?_);rintro e w' ⟨rfl,⟨nd,rfl⟩⟩;refine⟨_,rfl,?_⟩))
         go_ret
         exact⟨by first|rfl|(simp [errW_none,errW_some] <;> rfl)|(simp [*,errW_none,errW_some] <;> rfl),by repeat(first|(with_reducible first|exact HB.out|apply Gc|apply Gb|apply Gd|refine Gh ?_ GE151.out)|exact HB.out)⟩
       ·rw [if_neg c13] at H
        exact absurd H (by simp)
      ·rw [if_neg c12] at H
       have c12b0:decide (x3_2 < (l0_2.length:Int))=false:=decide_eq_false c12
       clear c12
       obtain rfl:=Option.some.inj H
       have hcz18_0:wr.cell? ⟨gb151,0,none⟩=some (.int .i64 a0_0):=(Gf BK151.out 0).trans rfl
       have hcz18_1:wr.cell? ⟨gb151,1,none⟩=some (.int .i64 a0_1):=(Gf BK151.out 1).trans rfl
       have hcz18_2:wr.cell? ⟨gb151,2,none⟩=some (.slice A0_2 l0_2.length c0_2):=(Gf BK151.out 2).trans rfl
       have hfz18_0:=Ge BK151.out 0
       have hfz18_1:=Ge BK151.out 1
       have hfz18_2:=Ge BK151.out 2
       go_wp2
       go_ret
       exact⟨by first|rfl|(simp [errW_none,errW_some] <;> rfl)|(simp [*,errW_none,errW_some] <;> rfl),by repeat(first|(with_reducible first|exact HB.out|apply Gc|apply Gb|apply Gd|refine Gh ?_ GE151.out)|exact HB.out)⟩

/-! ### spec_l14Two: function 66 -/
def spec_l14Two.f (k : Nat) (a0_0 : Int) (a0_1 : Int) (l0_2 : List Int) (a1_0 : Int) (a1_1 : Int) (l1_2 : List Int) : Option (Bool) := (spec_PictureOk.f k a0_0 a0_1 l0_2).bind fun t158 => (if t158 = true then ((spec_PictureOk.f k a1_0 a1_1 l1_2).bind fun t159 => (if t159 = true then (if a0_0 = a1_0 then (some (a0_1 == a1_1)) else (some false)) else (some false))) else (some false))
theorem spec_l14Two.mono : ∀ a0 a1 a2 a3 a4 a5 k, LeO (spec_l14Two.f k a0 a1 a2 a3 a4 a5) (spec_l14Two.f (k + 1) a0 a1 a2 a3 a4 a5) := by
 intro a0 a1 a2 a3 a4 a5 k
 unfold spec_l14Two.f
 repeat' first
   | (with_reducible exact spec_PictureOk.mono _ _ _ _)
   | (with_reducible exact LeO.refl _)
   | (with_reducible exact LeO.none _)
   | (with_reducible refine LeO.ite ?_ ?_)
   | (with_reducible refine LeO.bind ?_ (fun _ => ?_))
   | exact spec_PictureOk.mono _ _ _ _
   | exact LeO.none _
   | refine LeO.ite ?_ ?_
   | refine LeO.bind ?_ (fun _ => ?_)
set_option maxHeartbeats 8000000 in
set_option maxRecDepth 100000 in
theorem spec_l14Two.calls (k : Nat) (a0_0 : Int) (a0_1 : Int) (A0_2 : Option Addr) (c0_2 : Nat) (l0_2 : List Int) (a1_0 : Int) (a1_1 : Int) (A1_2 : Option Addr) (c1_2 : Nat) (l1_2 : List Int) (r : Bool) (w : World) (hr0_2 : Kd.C (Kd.int .i64) w A0_2 l0_2.length l0_2) (hc0_2 : l0_2.length ≤ c0_2) (hr1_2 : Kd.C (Kd.int .i64) w A1_2 l1_2.length l1_2) (hc1_2 : l1_2.length ≤ c1_2) (h : spec_l14Two.f k a0_0 a0_1 l0_2 a1_0 a1_1 l1_2 = some r) :
  Calls Try.prog 66 #[.agg #[.int .i64 a0_0,.int .i64 a0_1,.slice A0_2 l0_2.length c0_2],.agg #[.int .i64 a1_0,.int .i64 a1_1,.slice A1_2 l1_2.length c1_2]] w fun e w'=>e=.returned (.bool r)∧Below w.heap.size w w':=by
 have hu27:=Try.underlying27
 have HR0_2:=Ga hr0_2
 have HC0_2:=Ga hc0_2
 clear hr0_2 hc0_2
 have HR1_2:=Ga hr1_2
 have HC1_2:=Ga hc1_2
 clear hr1_2 hc1_2
 have HB:=Ga (Below.refl w.heap.size w)
 have H:((spec_PictureOk.f k a0_0 a0_1 l0_2).bind fun t158=>(if t158=true then ((spec_PictureOk.f k a1_0 a1_1 l1_2).bind fun t159=>(if t159=true then (if a0_0=a1_0 then (some (a0_1 == a1_1)) else (some false)) else (some false))) else (some false)))=some r:=h
 clear h
 replace H:=Option.bind_eq_some_iff.mp H
 obtain⟨t158,A30,H⟩:=H
 replace H:(if t158=true then ((spec_PictureOk.f k a1_0 a1_1 l1_2).bind fun t159=>(if t159=true then (if a0_0=a1_0 then (some (a0_1 == a1_1)) else (some false)) else (some false))) else (some false))=some r:=H
 have A3:=Ga A30
 clear A30
 by_cases c4:t158=true
 ·subst c4
  have H1:((spec_PictureOk.f k a1_0 a1_1 l1_2).bind fun t159=>(if t159=true then (if a0_0=a1_0 then (some (a0_1 == a1_1)) else (some false)) else (some false)))=some r:=by rw [if_pos rfl] at H;exact H
  clear H
  have H:=H1
  clear H1
  replace H:=Option.bind_eq_some_iff.mp H
  obtain⟨t159,A50,H⟩:=H
  replace H:(if t159=true then (if a0_0=a1_0 then (some (a0_1 == a1_1)) else (some false)) else (some false))=some r:=H
  have A5:=Ga A50
  clear A50
  by_cases c6:t159=true
  ·subst c6
   have H1:(if a0_0=a1_0 then (some (a0_1 == a1_1)) else (some false))=some r:=by rw [if_pos rfl] at H;exact H
   clear H
   have H:=H1
   clear H1
   by_cases c7:a0_0=a1_0
   ·rw [if_pos c7] at H
    have c7b0:(a0_0 == a1_0)=true:=beq_iff_eq.mpr c7
    have c7b1:(a0_0 != a1_0)=false:=bne_eq_false_iff_eq.mpr c7
    clear c7
    obtain rfl:=Option.some.inj H
    go_enter Try.func66,Try.ntmps66
    go_wp2_with (first|((with_reducible refine gate_dst (N:=2) rfl ?_);refine box_event ?hg (N:=2) ?hd (cs:=#[.int .i64 a0_0,.int .i64 a0_1,.slice A0_2 l0_2.length c0_2]) (t:=27) ?hr ?_;(case hd=>rfl);(case hg=>rfl);(case hr=>first|(go_simp;done)|(go_simp;rfl));intro qb hg w8 hbox hb;have n0_:=Ga (Gl (by repeat(first|(with_reducible first|exact HB.out|apply Gc|apply Gb|apply Gd)|exact HB.out)) hb);have n1_:=Ga (hbox);have n2_:=Ga ((by rw [hg];exact(Gk (by repeat(first|(with_reducible first|exact HB.out|apply Gc|apply Gb|apply Gd)|exact HB.out))):w.heap.size≤qb));have n3_:=Ga ((by rw [hg];exact(Gk (by repeat(first|(with_reducible first|exact HB.out|apply Gc|apply Gb|apply Gd)|exact HB.out))):w.heap.size≤qb));clear HB;have HB:=n0_;have qa:=n1_;have GW156:=n2_;have qe:=n3_;clear n0_ n1_ n2_ n3_;clear hb hbox hg)|((with_reducible refine gate_dst (N:=3) rfl ?_);refine box_event ?hg (N:=3) ?hd (cs:=#[.int .i64 a1_0,.int .i64 a1_1,.slice A1_2 l1_2.length c1_2]) (t:=27) ?hr ?_;(case hd=>rfl);(case hg=>rfl);(case hr=>first|(go_simp;done)|(go_simp;rfl));intro qd hg w9 hbox hb;have n0_:=Ga (blk_below (g:=qb) (o:=.cells #[.int .i64 a0_0,.int .i64 a0_1,.slice A0_2 l0_2.length c0_2] 27 (0,0)) (by(with_reducible repeat(first|refine Gj ?_ _|refine Gg ?_|refine Gi ?_ _));exact qa.out) hb);have n1_:=Ga (Gl (by repeat(first|(with_reducible first|exact HB.out|apply Gc|apply Gb|apply Gd|refine Gh ?_ qe.out)|exact HB.out)) hb);have n2_:=Ga (hbox);have n3_:=Ga ((by rw [hg];exact(Gk (by repeat(first|(with_reducible first|exact HB.out|apply Gc|apply Gb|apply Gd|refine Gh ?_ qe.out)|exact HB.out))):w.heap.size≤qd));have n4_:=Ga ((by rw [hg];exact(Gk (by repeat(first|(with_reducible first|exact HB.out|apply Gc|apply Gb|apply Gd|refine Gh ?_ qe.out)|exact HB.out))):w.heap.size≤qd));have n5_:=Ga ((by rw [hg];exact Nat.ne_of_lt (blk_lt (g:=qb) (o:=.cells #[.int .i64 a0_0,.int .i64 a0_1,.slice A0_2 l0_2.length c0_2] 27 (0,0)) (by(with_reducible repeat(first|refine Gj ?_ _|refine Gg ?_|refine Gi ?_ _));exact qa.out)):qb≠qd));have n6_:=Ga ((by rw [hg];exact Nat.ne_of_gt (blk_lt (g:=qb) (o:=.cells #[.int .i64 a0_0,.int .i64 a0_1,.slice A0_2 l0_2.length c0_2] 27 (0,0)) (by(with_reducible repeat(first|refine Gj ?_ _|refine Gg ?_|refine Gi ?_ _));exact qa.out)):qd≠qb));clear qa;clear HB;have qa:=n0_;have HB:=n1_;have qc:=n2_;have GW157:=n3_;have qm:=n4_;have qi:=n5_;have qj:=n6_;clear n0_ n1_ n2_ n3_ n4_ n5_ n6_;clear hb hbox hg;have hnb10:=qi.out;have hnc10:=qj.out;have hcz11_0:w9.cell? ⟨qb,0,none⟩=some (.int .i64 a0_0):=(Gf qa.out 0).trans rfl;have hcz11_1:w9.cell? ⟨qb,1,none⟩=some (.int .i64 a0_1):=(Gf qa.out 1).trans rfl;have hcz11_2:w9.cell? ⟨qb,2,none⟩=some (.slice A0_2 l0_2.length c0_2):=(Gf qa.out 2).trans rfl;have hfz11_0:=Ge qa.out 0;have hfz11_1:=Ge qa.out 1;have hfz11_2:=Ge qa.out 2)|((with_reducible refine gate_callee (f:=15) rfl ?_);refine goesL_ (some 6) rfl rfl Try.func15 (by kernel_rfl) rfl #[.agg #[.int .i64 a0_0,.int .i64 a0_1,.slice A0_2 l0_2.length c0_2]] rfl (by(try simp only [List.map_toArray,List.map_cons,List.map_nil]);first|done|rfl|(simp only [List.length_drop,List.length_take];rfl)) ?_;(with_reducible refine(spec_PictureOk.calls k a0_0 a0_1 _ _ l0_2 true _ ?side1 ?side2 A3.out).mono ?_);(case side1=>repeat(first|exact(Kd.C_below HR0_2.out HB.out)|(with_reducible refine Kd.C_alloc ?_ _)|(with_reducible refine Kd.C_drewN ?_ _)|(with_reducible refine Kd.C_drew ?_)));(case side2=>exact HC0_2.out);rintro e w12 ⟨rfl,hb⟩;refine⟨_,rfl,?_⟩;have n0_:=Ga (blk_below (g:=qb) (o:=.cells #[.int .i64 a0_0,.int .i64 a0_1,.slice A0_2 l0_2.length c0_2] 27 (0,0)) (by(with_reducible repeat(first|refine Gj ?_ _|refine Gg ?_|refine Gi ?_ _));exact qa.out) hb);have n1_:=Ga (blk_below (g:=qd) (o:=.cells #[.int .i64 a1_0,.int .i64 a1_1,.slice A1_2 l1_2.length c1_2] 27 (0,0)) (by(with_reducible repeat(first|refine Gj ?_ _|refine Gg ?_|refine Gi ?_ _));exact qc.out) hb);have n2_:=Ga (Gl (by repeat(first|(with_reducible first|exact HB.out|apply Gc|apply Gb|apply Gd|refine Gh ?_ qe.out|refine Gh ?_ qm.out)|exact HB.out)) hb);clear qa;clear qc;clear HB;have qa:=n0_;have qc:=n1_;have HB:=n2_;clear n0_ n1_ n2_;(try clear hb);(try clear hb2);(try clear hk);(try clear hi);have hcz13_0:w12.cell? ⟨qd,0,none⟩=some (.int .i64 a1_0):=(Gf qc.out 0).trans rfl;have hcz13_1:w12.cell? ⟨qd,1,none⟩=some (.int .i64 a1_1):=(Gf qc.out 1).trans rfl;have hcz13_2:w12.cell? ⟨qd,2,none⟩=some (.slice A1_2 l1_2.length c1_2):=(Gf qc.out 2).trans rfl;have hfz13_0:=Ge qc.out 0;have hfz13_1:=Ge qc.out 1;have hfz13_2:=Ge qc.out 2)|(go_at_call 15;(with_reducible refine(spec_PictureOk.calls k a1_0 a1_1 _ _ l1_2 true _ ?side1 ?side2 A5.out).mono ?_);(case side1=>repeat(first|exact(Kd.C_below HR1_2.out HB.out)|(with_reducible refine Kd.C_alloc ?_ _)|(with_reducible refine Kd.C_drewN ?_ _)|(with_reducible refine Kd.C_drew ?_)));(case side2=>exact HC1_2.out);rintro e w14 ⟨rfl,hb⟩;have n0_:=Ga (blk_below (g:=qb) (o:=.cells #[.int .i64 a0_0,.int .i64 a0_1,.slice A0_2 l0_2.length c0_2] 27 (0,0)) (by(with_reducible repeat(first|refine Gj ?_ _|refine Gg ?_|refine Gi ?_ _));exact qa.out) hb);have n1_:=Ga (blk_below (g:=qd) (o:=.cells #[.int .i64 a1_0,.int .i64 a1_1,.slice A1_2 l1_2.length c1_2] 27 (0,0)) (by(with_reducible repeat(first|refine Gj ?_ _|refine Gg ?_|refine Gi ?_ _));exact qc.out) hb);have n2_:=Ga (Gl (by repeat(first|(with_reducible first|exact HB.out|apply Gc|apply Gb|apply Gd|refine Gh ?_ qe.out|refine Gh ?_ qm.out)|exact HB.out)) hb);clear qa;clear qc;clear HB;have qa:=n0_;have qc:=n1_;have HB:=n2_;clear n0_ n1_ n2_;(try clear hb);(try clear hb2);(try clear hk);(try clear hi);have hcz15_0:w14.cell? ⟨qb,0,none⟩=some (.int .i64 a0_0):=(Gf qa.out 0).trans rfl;have hcz15_1:w14.cell? ⟨qb,1,none⟩=some (.int .i64 a0_1):=(Gf qa.out 1).trans rfl;have hcz15_2:w14.cell? ⟨qb,2,none⟩=some (.slice A0_2 l0_2.length c0_2):=(Gf qa.out 2).trans rfl;have hfz15_0:=Ge qa.out 0;have hfz15_1:=Ge qa.out 1;have hfz15_2:=Ge qa.out 2;have hcz16_0:w14.cell? ⟨qd,0,none⟩=some (.int .i64 a1_0):=(Gf qc.out 0).trans rfl;have hcz16_1:w14.cell? ⟨qd,1,none⟩=some (.int .i64 a1_1):=(Gf qc.out 1).trans rfl;have hcz16_2:w14.cell? ⟨qd,2,none⟩=some (.slice A1_2 l1_2.length c1_2):=(Gf qc.out 2).trans rfl;have hfz16_0:=Ge qc.out 0;have hfz16_1:=Ge qc.out 1;have hfz16_2:=Ge qc.out 2))
    go_ret
    exact⟨by first|rfl|(simp [errW_none,errW_some] <;> rfl)|(simp [*,errW_none,errW_some] <;> rfl),by repeat(first|(with_reducible first|exact HB.out|apply Gc|apply Gb|apply Gd|refine Gh ?_ qe.out|refine Gh ?_ qm.out)|exact HB.out)⟩
   ·rw [if_neg c7] at H
    have c7b0:(a0_0 == a1_0)=false:=beq_eq_false_iff_ne.mpr c7
    have c7b1:(a0_0 != a1_0)=true:=bne_iff_ne.mpr c7
    obtain rfl:=Option.some.inj H
    go_enter Try.func66,Try.ntmps66
    go_wp2_with (first|((with_reducible refine gate_dst (N:=2) rfl ?_);refine box_event ?hg (N:=2) ?hd (cs:=#[.int .i64 a0_0,.int .i64 a0_1,.slice A0_2 l0_2.length c0_2]) (t:=27) ?hr ?_;(case hd=>rfl);(case hg=>rfl);(case hr=>first|(go_simp;done)|(go_simp;rfl));intro qb hg w17 hbox hb;have n0_:=Ga (Gl (by repeat(first|(with_reducible first|exact HB.out|apply Gc|apply Gb|apply Gd)|exact HB.out)) hb);have n1_:=Ga (hbox);have n2_:=Ga ((by rw [hg];exact(Gk (by repeat(first|(with_reducible first|exact HB.out|apply Gc|apply Gb|apply Gd)|exact HB.out))):w.heap.size≤qb));have n3_:=Ga ((by rw [hg];exact(Gk (by repeat(first|(with_reducible first|exact HB.out|apply Gc|apply Gb|apply Gd)|exact HB.out))):w.heap.size≤qb));clear HB;have HB:=n0_;have qa:=n1_;have GW156:=n2_;have qe:=n3_;clear n0_ n1_ n2_ n3_;clear hb hbox hg)|((with_reducible refine gate_dst (N:=3) rfl ?_);refine box_event ?hg (N:=3) ?hd (cs:=#[.int .i64 a1_0,.int .i64 a1_1,.slice A1_2 l1_2.length c1_2]) (t:=27) ?hr ?_;(case hd=>rfl);(case hg=>rfl);(case hr=>first|(go_simp;done)|(go_simp;rfl));intro qd hg w18 hbox hb;have n0_:=Ga (blk_below (g:=qb) (o:=.cells #[.int .i64 a0_0,.int .i64 a0_1,.slice A0_2 l0_2.length c0_2] 27 (0,0)) (by(with_reducible repeat(first|refine Gj ?_ _|refine Gg ?_|refine Gi ?_ _));exact qa.out) hb);have n1_:=Ga (Gl (by repeat(first|(with_reducible first|exact HB.out|apply Gc|apply Gb|apply Gd|refine Gh ?_ qe.out)|exact HB.out)) hb);have n2_:=Ga (hbox);have n3_:=Ga ((by rw [hg];exact(Gk (by repeat(first|(with_reducible first|exact HB.out|apply Gc|apply Gb|apply Gd|refine Gh ?_ qe.out)|exact HB.out))):w.heap.size≤qd));have n4_:=Ga ((by rw [hg];exact(Gk (by repeat(first|(with_reducible first|exact HB.out|apply Gc|apply Gb|apply Gd|refine Gh ?_ qe.out)|exact HB.out))):w.heap.size≤qd));have n5_:=Ga ((by rw [hg];exact Nat.ne_of_lt (blk_lt (g:=qb) (o:=.cells #[.int .i64 a0_0,.int .i64 a0_1,.slice A0_2 l0_2.length c0_2] 27 (0,0)) (by(with_reducible repeat(first|refine Gj ?_ _|refine Gg ?_|refine Gi ?_ _));exact qa.out)):qb≠qd));have n6_:=Ga ((by rw [hg];exact Nat.ne_of_gt (blk_lt (g:=qb) (o:=.cells #[.int .i64 a0_0,.int .i64 a0_1,.slice A0_2 l0_2.length c0_2] 27 (0,0)) (by(with_reducible repeat(first|refine Gj ?_ _|refine Gg ?_|refine Gi ?_ _));exact qa.out)):qd≠qb));clear qa;clear HB;have qa:=n0_;have HB:=n1_;have qc:=n2_;have GW157:=n3_;have qm:=n4_;have qi:=n5_;have qj:=n6_;clear n0_ n1_ n2_ n3_ n4_ n5_ n6_;clear hb hbox hg;have hnb19:=qi.out;have hnc19:=qj.out;have hcz20_0:w18.cell? ⟨qb,0,none⟩=some (.int .i64 a0_0):=(Gf qa.out 0).trans rfl;have hcz20_1:w18.cell? ⟨qb,1,none⟩=some (.int .i64 a0_1):=(Gf qa.out 1).trans rfl;have hcz20_2:w18.cell? ⟨qb,2,none⟩=some (.slice A0_2 l0_2.length c0_2):=(Gf qa.out 2).trans rfl;have hfz20_0:=Ge qa.out 0;have hfz20_1:=Ge qa.out 1;have hfz20_2:=Ge qa.out 2)|((with_reducible refine gate_callee (f:=15) rfl ?_);refine goesL_ (some 6) rfl rfl Try.func15 (by kernel_rfl) rfl #[.agg #[.int .i64 a0_0,.int .i64 a0_1,.slice A0_2 l0_2.length c0_2]] rfl (by(try simp only [List.map_toArray,List.map_cons,List.map_nil]);first|done|rfl|(simp only [List.length_drop,List.length_take];rfl)) ?_;(with_reducible refine(spec_PictureOk.calls k a0_0 a0_1 _ _ l0_2 true _ ?side1 ?side2 A3.out).mono ?_);(case side1=>repeat(first|exact(Kd.C_below HR0_2.out HB.out)|(with_reducible refine Kd.C_alloc ?_ _)|(with_reducible refine Kd.C_drewN ?_ _)|(with_reducible refine Kd.C_drew ?_)));(case side2=>exact HC0_2.out);rintro e w21 ⟨rfl,hb⟩;refine⟨_,rfl,?_⟩;have n0_:=Ga (blk_below (g:=qb) (o:=.cells #[.int .i64 a0_0,.int .i64 a0_1,.slice A0_2 l0_2.length c0_2] 27 (0,0)) (by(with_reducible repeat(first|refine Gj ?_ _|refine Gg ?_|refine Gi ?_ _));exact qa.out) hb);have n1_:=Ga (blk_below (g:=qd) (o:=.cells #[.int .i64 a1_0,.int .i64 a1_1,.slice A1_2 l1_2.length c1_2] 27 (0,0)) (by(with_reducible repeat(first|refine Gj ?_ _|refine Gg ?_|refine Gi ?_ _));exact qc.out) hb);have n2_:=Ga (Gl (by repeat(first|(with_reducible first|exact HB.out|apply Gc|apply Gb|apply Gd|refine Gh ?_ qe.out|refine Gh ?_ qm.out)|exact HB.out)) hb);clear qa;clear qc;clear HB;have qa:=n0_;have qc:=n1_;have HB:=n2_;clear n0_ n1_ n2_;(try clear hb);(try clear hb2);(try clear hk);(try clear hi);have hcz22_0:w21.cell? ⟨qd,0,none⟩=some (.int .i64 a1_0):=(Gf qc.out 0).trans rfl;have hcz22_1:w21.cell? ⟨qd,1,none⟩=some (.int .i64 a1_1):=(Gf qc.out 1).trans rfl;have hcz22_2:w21.cell? ⟨qd,2,none⟩=some (.slice A1_2 l1_2.length c1_2):=(Gf qc.out 2).trans rfl;have hfz22_0:=Ge qc.out 0;have hfz22_1:=Ge qc.out 1;have hfz22_2:=Ge qc.out 2)|(go_at_call 15;(with_reducible refine(spec_PictureOk.calls k a1_0 a1_1 _ _ l1_2 true _ ?side1 ?side2 A5.out).mono ?_);(case side1=>repeat(first|exact(Kd.C_below HR1_2.out HB.out)|(with_reducible refine Kd.C_alloc ?_ _)|(with_reducible refine Kd.C_drewN ?_ _)|(with_reducible refine Kd.C_drew ?_)));(case side2=>exact HC1_2.out);rintro e w23 ⟨rfl,hb⟩;have n0_:=Ga (blk_below (g:=qb) (o:=.cells #[.int .i64 a0_0,.int .i64 a0_1,.slice A0_2 l0_2.length c0_2] 27 (0,0)) (by(with_reducible repeat(first|refine Gj ?_ _|refine Gg ?_|refine Gi ?_ _));exact qa.out) hb);have n1_:=Ga (blk_below (g:=qd) (o:=.cells #[.int .i64 a1_0,.int .i64 a1_1,.slice A1_2 l1_2.length c1_2] 27 (0,0)) (by(with_reducible repeat(first|refine Gj ?_ _|refine Gg ?_|refine Gi ?_ _));exact qc.out) hb);have n2_:=Ga (Gl (by repeat(first|(with_reducible first|exact HB.out|apply Gc|apply Gb|apply Gd|refine Gh ?_ qe.out|refine Gh ?_ qm.out)|exact HB.out)) hb);clear qa;clear qc;clear HB;have qa:=n0_;have qc:=n1_;have HB:=n2_;clear n0_ n1_ n2_;(try clear hb);(try clear hb2);(try clear hk);(try clear hi);have hcz24_0:w23.cell? ⟨qb,0,none⟩=some (.int .i64 a0_0):=(Gf qa.out 0).trans rfl;have hcz24_1:w23.cell? ⟨qb,1,none⟩=some (.int .i64 a0_1):=(Gf qa.out 1).trans rfl;have hcz24_2:w23.cell? ⟨qb,2,none⟩=some (.slice A0_2 l0_2.length c0_2):=(Gf qa.out 2).trans rfl;have hfz24_0:=Ge qa.out 0;have hfz24_1:=Ge qa.out 1;have hfz24_2:=Ge qa.out 2;have hcz25_0:w23.cell? ⟨qd,0,none⟩=some (.int .i64 a1_0):=(Gf qc.out 0).trans rfl;have hcz25_1:w23.cell? ⟨qd,1,none⟩=some (.int .i64 a1_1):=(Gf qc.out 1).trans rfl;have hcz25_2:w23.cell? ⟨qd,2,none⟩=some (.slice A1_2 l1_2.length c1_2):=(Gf qc.out 2).trans rfl;have hfz25_0:=Ge qc.out 0;have hfz25_1:=Ge qc.out 1;have hfz25_2:=Ge qc.out 2))
    go_ret
    exact⟨by first|rfl|(simp [errW_none,errW_some] <;> rfl)|(simp [*,errW_none,errW_some] <;> rfl),by repeat(first|(with_reducible first|exact HB.out|apply Gc|apply Gb|apply Gd|refine Gh ?_ qe.out|refine Gh ?_ qm.out)|exact HB.out)⟩
  ·replace c6:=Bool.eq_false_iff.mpr c6
   subst c6
   have H1:(some false)=some r:=by rw [if_neg (show ¬ (false=true) by decide)] at H;exact H
   clear H
   have H:=H1
   clear H1
   obtain rfl:=Option.some.inj H
   go_enter Try.func66,Try.ntmps66
   go_wp2_with (first|((with_reducible refine gate_dst (N:=2) rfl ?_);refine box_event ?hg (N:=2) ?hd (cs:=#[.int .i64 a0_0,.int .i64 a0_1,.slice A0_2 l0_2.length c0_2]) (t:=27) ?hr ?_;(case hd=>rfl);(case hg=>rfl);(case hr=>first|(go_simp;done)|(go_simp;rfl));intro qb hg w26 hbox hb;have n0_:=Ga (Gl (by repeat(first|(with_reducible first|exact HB.out|apply Gc|apply Gb|apply Gd)|exact HB.out)) hb);have n1_:=Ga (hbox);have n2_:=Ga ((by rw [hg];exact(Gk (by repeat(first|(with_reducible first|exact HB.out|apply Gc|apply Gb|apply Gd)|exact HB.out))):w.heap.size≤qb));have n3_:=Ga ((by rw [hg];exact(Gk (by repeat(first|(with_reducible first|exact HB.out|apply Gc|apply Gb|apply Gd)|exact HB.out))):w.heap.size≤qb));clear HB;have HB:=n0_;have qa:=n1_;have GW156:=n2_;have qe:=n3_;clear n0_ n1_ n2_ n3_;clear hb hbox hg)|((with_reducible refine gate_dst (N:=3) rfl ?_);refine box_event ?hg (N:=3) ?hd (cs:=#[.int .i64 a1_0,.int .i64 a1_1,.slice A1_2 l1_2.length c1_2]) (t:=27) ?hr ?_;(case hd=>rfl);(case hg=>rfl);(case hr=>first|(go_simp;done)|(go_simp;rfl));intro qd hg w27 hbox hb;have n0_:=Ga (blk_below (g:=qb) (o:=.cells #[.int .i64 a0_0,.int .i64 a0_1,.slice A0_2 l0_2.length c0_2] 27 (0,0)) (by(with_reducible repeat(first|refine Gj ?_ _|refine Gg ?_|refine Gi ?_ _));exact qa.out) hb);have n1_:=Ga (Gl (by repeat(first|(with_reducible first|exact HB.out|apply Gc|apply Gb|apply Gd|refine Gh ?_ qe.out)|exact HB.out)) hb);have n2_:=Ga (hbox);have n3_:=Ga ((by rw [hg];exact(Gk (by repeat(first|(with_reducible first|exact HB.out|apply Gc|apply Gb|apply Gd|refine Gh ?_ qe.out)|exact HB.out))):w.heap.size≤qd));have n4_:=Ga ((by rw [hg];exact(Gk (by repeat(first|(with_reducible first|exact HB.out|apply Gc|apply Gb|apply Gd|refine Gh ?_ qe.out)|exact HB.out))):w.heap.size≤qd));have n5_:=Ga ((by rw [hg];exact Nat.ne_of_lt (blk_lt (g:=qb) (o:=.cells #[.int .i64 a0_0,.int .i64 a0_1,.slice A0_2 l0_2.length c0_2] 27 (0,0)) (by(with_reducible repeat(first|refine Gj ?_ _|refine Gg ?_|refine Gi ?_ _));exact qa.out)):qb≠qd));have n6_:=Ga ((by rw [hg];exact Nat.ne_of_gt (blk_lt (g:=qb) (o:=.cells #[.int .i64 a0_0,.int .i64 a0_1,.slice A0_2 l0_2.length c0_2] 27 (0,0)) (by(with_reducible repeat(first|refine Gj ?_ _|refine Gg ?_|refine Gi ?_ _));exact qa.out)):qd≠qb));clear qa;clear HB;have qa:=n0_;have HB:=n1_;have qc:=n2_;have GW157:=n3_;have qm:=n4_;have qi:=n5_;have qj:=n6_;clear n0_ n1_ n2_ n3_ n4_ n5_ n6_;clear hb hbox hg;have hnb28:=qi.out;have hnc28:=qj.out;have hcz29_0:w27.cell? ⟨qb,0,none⟩=some (.int .i64 a0_0):=(Gf qa.out 0).trans rfl;have hcz29_1:w27.cell? ⟨qb,1,none⟩=some (.int .i64 a0_1):=(Gf qa.out 1).trans rfl;have hcz29_2:w27.cell? ⟨qb,2,none⟩=some (.slice A0_2 l0_2.length c0_2):=(Gf qa.out 2).trans rfl;have hfz29_0:=Ge qa.out 0;have hfz29_1:=Ge qa.out 1;have hfz29_2:=Ge qa.out 2)|((with_reducible refine gate_callee (f:=15) rfl ?_);refine goesL_ (some 6) rfl rfl Try.func15 (by kernel_rfl) rfl #[.agg #[.int .i64 a0_0,.int .i64 a0_1,.slice A0_2 l0_2.length c0_2]] rfl (by(try simp only [List.map_toArray,List.map_cons,List.map_nil]);first|done|rfl|(simp only [List.length_drop,List.length_take];rfl)) ?_;(with_reducible refine(spec_PictureOk.calls k a0_0 a0_1 _ _ l0_2 true _ ?side1 ?side2 A3.out).mono ?_);(case side1=>repeat(first|exact(Kd.C_below HR0_2.out HB.out)|(with_reducible refine Kd.C_alloc ?_ _)|(with_reducible refine Kd.C_drewN ?_ _)|(with_reducible refine Kd.C_drew ?_)));(case side2=>exact HC0_2.out);rintro e w30 ⟨rfl,hb⟩;refine⟨_,rfl,?_⟩;have n0_:=Ga (blk_below (g:=qb) (o:=.cells #[.int .i64 a0_0,.int .i64 a0_1,.slice A0_2 l0_2.length c0_2] 27 (0,0)) (by(with_reducible repeat(first|refine Gj ?_ _|refine Gg ?_|refine Gi ?_ _));exact qa.out) hb);have n1_:=Ga (blk_below (g:=qd) (o:=.cells #[.int .i64 a1_0,.int .i64 a1_1,.slice A1_2 l1_2.length c1_2] 27 (0,0)) (by(with_reducible repeat(first|refine Gj ?_ _|refine Gg ?_|refine Gi ?_ _));exact qc.out) hb);have n2_:=Ga (Gl (by repeat(first|(with_reducible first|exact HB.out|apply Gc|apply Gb|apply Gd|refine Gh ?_ qe.out|refine Gh ?_ qm.out)|exact HB.out)) hb);clear qa;clear qc;clear HB;have qa:=n0_;have qc:=n1_;have HB:=n2_;clear n0_ n1_ n2_;(try clear hb);(try clear hb2);(try clear hk);(try clear hi);have hcz31_0:w30.cell? ⟨qd,0,none⟩=some (.int .i64 a1_0):=(Gf qc.out 0).trans rfl;have hcz31_1:w30.cell? ⟨qd,1,none⟩=some (.int .i64 a1_1):=(Gf qc.out 1).trans rfl;have hcz31_2:w30.cell? ⟨qd,2,none⟩=some (.slice A1_2 l1_2.length c1_2):=(Gf qc.out 2).trans rfl;have hfz31_0:=Ge qc.out 0;have hfz31_1:=Ge qc.out 1;have hfz31_2:=Ge qc.out 2)|(go_at_call 15;(with_reducible refine(spec_PictureOk.calls k a1_0 a1_1 _ _ l1_2 false _ ?side1 ?side2 A5.out).mono ?_);(case side1=>repeat(first|exact(Kd.C_below HR1_2.out HB.out)|(with_reducible refine Kd.C_alloc ?_ _)|(with_reducible refine Kd.C_drewN ?_ _)|(with_reducible refine Kd.C_drew ?_)));(case side2=>exact HC1_2.out);rintro e w32 ⟨rfl,hb⟩;have n0_:=Ga (blk_below (g:=qb) (o:=.cells #[.int .i64 a0_0,.int .i64 a0_1,.slice A0_2 l0_2.length c0_2] 27 (0,0)) (by(with_reducible repeat(first|refine Gj ?_ _|refine Gg ?_|refine Gi ?_ _));exact qa.out) hb);have n1_:=Ga (blk_below (g:=qd) (o:=.cells #[.int .i64 a1_0,.int .i64 a1_1,.slice A1_2 l1_2.length c1_2] 27 (0,0)) (by(with_reducible repeat(first|refine Gj ?_ _|refine Gg ?_|refine Gi ?_ _));exact qc.out) hb);have n2_:=Ga (Gl (by repeat(first|(with_reducible first|exact HB.out|apply Gc|apply Gb|apply Gd|refine Gh ?_ qe.out|refine Gh ?_ qm.out)|exact HB.out)) hb);clear qa;clear qc;clear HB;have qa:=n0_;have qc:=n1_;have HB:=n2_;clear n0_ n1_ n2_;(try clear hb);(try clear hb2);(try clear hk);(try clear hi)))
   go_ret
   exact⟨by first|rfl|(simp [errW_none,errW_some] <;> rfl)|(simp [*,errW_none,errW_some] <;> rfl),by repeat(first|(with_reducible first|exact HB.out|apply Gc|apply Gb|apply Gd|refine Gh ?_ qe.out|refine Gh ?_ qm.out)|exact HB.out)⟩
 ·replace c4:=Bool.eq_false_iff.mpr c4
  subst c4
  have H1:(some false)=some r:=by rw [if_neg (show ¬ (false=true) by decide)] at H;exact H
  clear H
  have H:=H1
  clear H1
  obtain rfl:=Option.some.inj H
  go_enter Try.func66,Try.ntmps66
  go_wp2_with (first|((with_reducible refine gate_dst (N:=2) rfl ?_);refine box_event ?hg (N:=2) ?hd (cs:=#[.int .i64 a0_0,.int .i64 a0_1,.slice A0_2 l0_2.length c0_2]) (t:=27) ?hr ?_;(case hd=>rfl);(case hg=>rfl);(case hr=>first|(go_simp;done)|(go_simp;rfl));intro qb hg w33 hbox hb;have n0_:=Ga (Gl (by repeat(first|(with_reducible first|exact HB.out|apply Gc|apply Gb|apply Gd)|exact HB.out)) hb);have n1_:=Ga (hbox);have n2_:=Ga ((by rw [hg];exact(Gk (by repeat(first|(with_reducible first|exact HB.out|apply Gc|apply Gb|apply Gd)|exact HB.out))):w.heap.size≤qb));have n3_:=Ga ((by rw [hg];exact(Gk (by repeat(first|(with_reducible first|exact HB.out|apply Gc|apply Gb|apply Gd)|exact HB.out))):w.heap.size≤qb));clear HB;have HB:=n0_;have qa:=n1_;have GW156:=n2_;have qe:=n3_;clear n0_ n1_ n2_ n3_;clear hb hbox hg)|((with_reducible refine gate_dst (N:=3) rfl ?_);refine box_event ?hg (N:=3) ?hd (cs:=#[.int .i64 a1_0,.int .i64 a1_1,.slice A1_2 l1_2.length c1_2]) (t:=27) ?hr ?_;(case hd=>rfl);(case hg=>rfl);(case hr=>first|(go_simp;done)|(go_simp;rfl));intro qd hg w34 hbox hb;have n0_:=Ga (blk_below (g:=qb) (o:=.cells #[.int .i64 a0_0,.int .i64 a0_1,.slice A0_2 l0_2.length c0_2] 27 (0,0)) (by(with_reducible repeat(first|refine Gj ?_ _|refine Gg ?_|refine Gi ?_ _));exact qa.out) hb);have n1_:=Ga (Gl (by repeat(first|(with_reducible first|exact HB.out|apply Gc|apply Gb|apply Gd|refine Gh ?_ qe.out)|exact HB.out)) hb);have n2_:=Ga (hbox);have n3_:=Ga ((by rw [hg];exact(Gk (by repeat(first|(with_reducible first|exact HB.out|apply Gc|apply Gb|apply Gd|refine Gh ?_ qe.out)|exact HB.out))):w.heap.size≤qd));have n4_:=Ga ((by rw [hg];exact(Gk (by repeat(first|(with_reducible first|exact HB.out|apply Gc|apply Gb|apply Gd|refine Gh ?_ qe.out)|exact HB.out))):w.heap.size≤qd));have n5_:=Ga ((by rw [hg];exact Nat.ne_of_lt (blk_lt (g:=qb) (o:=.cells #[.int .i64 a0_0,.int .i64 a0_1,.slice A0_2 l0_2.length c0_2] 27 (0,0)) (by(with_reducible repeat(first|refine Gj ?_ _|refine Gg ?_|refine Gi ?_ _));exact qa.out)):qb≠qd));have n6_:=Ga ((by rw [hg];exact Nat.ne_of_gt (blk_lt (g:=qb) (o:=.cells #[.int .i64 a0_0,.int .i64 a0_1,.slice A0_2 l0_2.length c0_2] 27 (0,0)) (by(with_reducible repeat(first|refine Gj ?_ _|refine Gg ?_|refine Gi ?_ _));exact qa.out)):qd≠qb));clear qa;clear HB;have qa:=n0_;have HB:=n1_;have qc:=n2_;have GW157:=n3_;have qm:=n4_;have qi:=n5_;have qj:=n6_;clear n0_ n1_ n2_ n3_ n4_ n5_ n6_;clear hb hbox hg;have hnb35:=qi.out;have hnc35:=qj.out;have hcz36_0:w34.cell? ⟨qb,0,none⟩=some (.int .i64 a0_0):=(Gf qa.out 0).trans rfl;have hcz36_1:w34.cell? ⟨qb,1,none⟩=some (.int .i64 a0_1):=(Gf qa.out 1).trans rfl;have hcz36_2:w34.cell? ⟨qb,2,none⟩=some (.slice A0_2 l0_2.length c0_2):=(Gf qa.out 2).trans rfl;have hfz36_0:=Ge qa.out 0;have hfz36_1:=Ge qa.out 1;have hfz36_2:=Ge qa.out 2)|((with_reducible refine gate_callee (f:=15) rfl ?_);refine goesL_ (some 6) rfl rfl Try.func15 (by kernel_rfl) rfl #[.agg #[.int .i64 a0_0,.int .i64 a0_1,.slice A0_2 l0_2.length c0_2]] rfl (by(try simp only [List.map_toArray,List.map_cons,List.map_nil]);first|done|rfl|(simp only [List.length_drop,List.length_take];rfl)) ?_;(with_reducible refine(spec_PictureOk.calls k a0_0 a0_1 _ _ l0_2 false _ ?side1 ?side2 A3.out).mono ?_);(case side1=>repeat(first|exact(Kd.C_below HR0_2.out HB.out)|(with_reducible refine Kd.C_alloc ?_ _)|(with_reducible refine Kd.C_drewN ?_ _)|(with_reducible refine Kd.C_drew ?_)));(case side2=>exact HC0_2.out);rintro e w37 ⟨rfl,hb⟩;refine⟨_,rfl,?_⟩;have n0_:=Ga (blk_below (g:=qb) (o:=.cells #[.int .i64 a0_0,.int .i64 a0_1,.slice A0_2 l0_2.length c0_2] 27 (0,0)) (by(with_reducible repeat(first|refine Gj ?_ _|refine Gg ?_|refine Gi ?_ _));exact qa.out) hb);have n1_:=Ga (blk_below (g:=qd) (o:=.cells #[.int .i64 a1_0,.int .i64 a1_1,.slice A1_2 l1_2.length c1_2] 27 (0,0)) (by(with_reducible repeat(first|refine Gj ?_ _|refine Gg ?_|refine Gi ?_ _));exact qc.out) hb);have n2_:=Ga (Gl (by repeat(first|(with_reducible first|exact HB.out|apply Gc|apply Gb|apply Gd|refine Gh ?_ qe.out|refine Gh ?_ qm.out)|exact HB.out)) hb);clear qa;clear qc;clear HB;have qa:=n0_;have qc:=n1_;have HB:=n2_;clear n0_ n1_ n2_;(try clear hb);(try clear hb2);(try clear hk);(try clear hi)))
  go_ret
  exact⟨by first|rfl|(simp [errW_none,errW_some] <;> rfl)|(simp [*,errW_none,errW_some] <;> rfl),by repeat(first|(with_reducible first|exact HB.out|apply Gc|apply Gb|apply Gd|refine Gh ?_ qe.out|refine Gh ?_ qm.out)|exact HB.out)⟩

/-! ### spec_l14Blocks: function 67 -/
def spec_l14Blocks.f (a0_0 : Int) (a0_1 : Int) (l0_2 : List Int) : Option (Int) := some (wrap64 ((wrap64 (Int.tdiv a0_0 4)) * (wrap64 (Int.tdiv a0_1 4))))
set_option maxHeartbeats 8000000 in
set_option maxRecDepth 100000 in
theorem spec_l14Blocks.calls (a0_0 : Int) (a0_1 : Int) (A0_2 : Option Addr) (c0_2 : Nat) (l0_2 : List Int) (r : Int) (w : World) (hr0_2 : Kd.C (Kd.int .i64) w A0_2 l0_2.length l0_2) (hc0_2 : l0_2.length ≤ c0_2) (h : spec_l14Blocks.f a0_0 a0_1 l0_2 = some r) :
  Calls Try.prog 67 #[.agg #[.int .i64 a0_0,.int .i64 a0_1,.slice A0_2 l0_2.length c0_2]] w fun e w'=>e=.returned (.int .i64 r)∧Below w.heap.size w w':=by
 have hu27:=Try.underlying27
 have HR0_2:=Ga hr0_2
 have HC0_2:=Ga hc0_2
 clear hr0_2 hc0_2
 have HB:=Ga (Below.refl w.heap.size w)
 have H:(some (wrap64 ((wrap64 (Int.tdiv a0_0 4))*(wrap64 (Int.tdiv a0_1 4)))))=some r:=h
 clear h
 obtain rfl:=Option.some.inj H
 go_enter Try.func67,Try.ntmps67
 go_wp2_with (first|((with_reducible refine gate_dst (N:=1) rfl ?_);refine box_event ?hg (N:=1) ?hd (cs:=#[.int .i64 a0_0,.int .i64 a0_1,.slice A0_2 l0_2.length c0_2]) (t:=27) ?hr ?_;(case hd=>rfl);(case hg=>rfl);(case hr=>first|(go_simp;done)|(go_simp;rfl));intro gb160 hg w2 hbox hb;have n0_:=Ga (Gl (by repeat(first|(with_reducible first|exact HB.out|apply Gc|apply Gb|apply Gd)|exact HB.out)) hb);have n1_:=Ga (hbox);have n2_:=Ga ((by rw [hg];exact(Gk (by repeat(first|(with_reducible first|exact HB.out|apply Gc|apply Gb|apply Gd)|exact HB.out))):w.heap.size≤gb160));have n3_:=Ga ((by rw [hg];exact(Gk (by repeat(first|(with_reducible first|exact HB.out|apply Gc|apply Gb|apply Gd)|exact HB.out))):w.heap.size≤gb160));clear HB;have HB:=n0_;have qr:=n1_;have GW160:=n2_;have GE160:=n3_;clear n0_ n1_ n2_ n3_;clear hb hbox hg;have hcz3_0:w2.cell? ⟨gb160,0,none⟩=some (.int .i64 a0_0):=(Gf qr.out 0).trans rfl;have hcz3_1:w2.cell? ⟨gb160,1,none⟩=some (.int .i64 a0_1):=(Gf qr.out 1).trans rfl;have hcz3_2:w2.cell? ⟨gb160,2,none⟩=some (.slice A0_2 l0_2.length c0_2):=(Gf qr.out 2).trans rfl;have hfz3_0:=Ge qr.out 0;have hfz3_1:=Ge qr.out 1;have hfz3_2:=Ge qr.out 2))
 go_ret
 exact⟨by first|rfl|(simp [errW_none,errW_some] <;> rfl)|(simp [*,errW_none,errW_some] <;> rfl),by repeat(first|(with_reducible first|exact HB.out|apply Gc|apply Gb|apply Gd|refine Gh ?_ GE160.out)|exact HB.out)⟩

/-! ### spec_l1Min: function 59 -/
def spec_l1Min.f (a0 : Int) (a1 : Int) : Option (Int) := if a0 < a1 then (some a0) else (some a1)
set_option maxHeartbeats 8000000 in
set_option maxRecDepth 100000 in
theorem spec_l1Min.calls (a0 : Int) (a1 : Int) (r : Int) (w : World) (h : spec_l1Min.f a0 a1 = some r) :
  Calls Try.prog 59 #[.int .i64 a0,.int .i64 a1] w fun e w'=>e=.returned (.int .i64 r)∧Drawn0 w w':=by
 have H:(if a0 < a1 then (some a0) else (some a1))=some r:=h
 clear h
 by_cases c3:a0 < a1
 ·rw [if_pos c3] at H
  have c3b0:decide (a0 < a1)=true:=decide_eq_true c3
  clear c3
  obtain rfl:=Option.some.inj H
  go_enter Try.func59,Try.ntmps59
  go_wp2
  go_ret
  exact⟨by first|rfl|(simp;done)|(simp [*];done),by repeat(first|exact Drawn0.refl _|apply Drawn0.step)⟩
 ·rw [if_neg c3] at H
  have c3b0:decide (a0 < a1)=false:=decide_eq_false c3
  clear c3
  obtain rfl:=Option.some.inj H
  go_enter Try.func59,Try.ntmps59
  go_wp2
  go_ret
  exact⟨by first|rfl|(simp;done)|(simp [*];done),by repeat(first|exact Drawn0.refl _|apply Drawn0.step)⟩

/-! ### spec_l1Max: function 74 -/
def spec_l1Max.f (a0 : Int) (a1 : Int) : Option (Int) := if a0 > a1 then (some a0) else (some a1)
set_option maxHeartbeats 8000000 in
set_option maxRecDepth 100000 in
theorem spec_l1Max.calls (a0 : Int) (a1 : Int) (r : Int) (w : World) (h : spec_l1Max.f a0 a1 = some r) :
  Calls Try.prog 74 #[.int .i64 a0,.int .i64 a1] w fun e w'=>e=.returned (.int .i64 r)∧Drawn0 w w':=by
 have H:(if a0 > a1 then (some a0) else (some a1))=some r:=h
 clear h
 by_cases c3:a0 > a1
 ·rw [if_pos c3] at H
  have c3b0:decide (a1 < a0)=true:=decide_eq_true c3
  clear c3
  obtain rfl:=Option.some.inj H
  go_enter Try.func74,Try.ntmps74
  go_wp2
  go_ret
  exact⟨by first|rfl|(simp;done)|(simp [*];done),by repeat(first|exact Drawn0.refl _|apply Drawn0.step)⟩
 ·rw [if_neg c3] at H
  have c3b0:decide (a1 < a0)=false:=decide_eq_false c3
  clear c3
  obtain rfl:=Option.some.inj H
  go_enter Try.func74,Try.ntmps74
  go_wp2
  go_ret
  exact⟨by first|rfl|(simp;done)|(simp [*];done),by repeat(first|exact Drawn0.refl _|apply Drawn0.step)⟩

/-! ### spec_l14At: function 93 -/
def spec_l14At.f (a0_0 : Int) (a0_1 : Int) (l0_2 : List Int) (a1 : Int) (a2 : Int) : Option (Int) := (spec_l1Max.f 0 a1).bind fun qq => ((spec_l1Min.f (wrap64 (a0_0 - 1)) qq).bind fun ql => ((spec_l1Max.f 0 a2).bind fun qn => ((spec_l1Min.f (wrap64 (a0_1 - 1)) qn).bind fun qh => (if 0 ≤ (wrap64 ((wrap64 (qh * a0_0)) + ql)) then (if (wrap64 ((wrap64 (qh * a0_0)) + ql)) < (l0_2.length : Int) then (some (rd l0_2 (wrap64 ((wrap64 (qh * a0_0)) + ql)))) else (none)) else (none)))))
set_option maxHeartbeats 8000000 in
set_option maxRecDepth 100000 in
theorem spec_l14At.calls (a0_0 : Int) (a0_1 : Int) (A0_2 : Option Addr) (c0_2 : Nat) (l0_2 : List Int) (a1 : Int) (a2 : Int) (r : Int) (w : World) (hr0_2 : Kd.C (Kd.int .i64) w A0_2 l0_2.length l0_2) (hc0_2 : l0_2.length ≤ c0_2) (h : spec_l14At.f a0_0 a0_1 l0_2 a1 a2 = some r) :
  Calls Try.prog 93 #[.agg #[.int .i64 a0_0,.int .i64 a0_1,.slice A0_2 l0_2.length c0_2],.int .i64 a1,.int .i64 a2] w fun e w'=>e=.returned (.int .i64 r)∧Below w.heap.size w w':=by
 have hu27:=Try.underlying27
 have HR0_2:=Ga hr0_2
 have HC0_2:=Ga hc0_2
 clear hr0_2 hc0_2
 have HB:=Ga (Below.refl w.heap.size w)
 have H:((spec_l1Max.f 0 a1).bind fun qq=>((spec_l1Min.f (wrap64 (a0_0 - 1)) qq).bind fun ql=>((spec_l1Max.f 0 a2).bind fun qn=>((spec_l1Min.f (wrap64 (a0_1 - 1)) qn).bind fun qh=>(if 0≤(wrap64 ((wrap64 (qh*a0_0))+ql)) then (if (wrap64 ((wrap64 (qh*a0_0))+ql)) < (l0_2.length:Int) then (some (rd l0_2 (wrap64 ((wrap64 (qh*a0_0))+ql)))) else (none)) else (none))))))=some r:=h
 clear h
 obtain⟨jw,hjw⟩:∃ j_:Int,wrap64 (a0_0 - 1)=j_:=⟨_,rfl⟩
 rw [hjw] at H
 have hjww:IntKind.i64.wrap (a0_0 - 1)=jw:=(i64_w _).trans hjw
 obtain⟨jh,hjh⟩:∃ j_:Int,wrap64 (a0_1 - 1)=j_:=⟨_,rfl⟩
 rw [hjh] at H
 have hjhw:IntKind.i64.wrap (a0_1 - 1)=jh:=(i64_w _).trans hjh
 replace H:=Option.bind_eq_some_iff.mp H
 obtain⟨qq,A40,H⟩:=H
 replace H:((spec_l1Min.f jw qq).bind fun ql=>((spec_l1Max.f 0 a2).bind fun qn=>((spec_l1Min.f jh qn).bind fun qh=>(if 0≤(wrap64 ((wrap64 (qh*a0_0))+ql)) then (if (wrap64 ((wrap64 (qh*a0_0))+ql)) < (l0_2.length:Int) then (some (rd l0_2 (wrap64 ((wrap64 (qh*a0_0))+ql)))) else (none)) else (none)))))=some r:=H
 have A4:=Ga A40
 clear A40
 replace H:=Option.bind_eq_some_iff.mp H
 obtain⟨ql,A50,H⟩:=H
 replace H:((spec_l1Max.f 0 a2).bind fun qn=>((spec_l1Min.f jh qn).bind fun qh=>(if 0≤(wrap64 ((wrap64 (qh*a0_0))+ql)) then (if (wrap64 ((wrap64 (qh*a0_0))+ql)) < (l0_2.length:Int) then (some (rd l0_2 (wrap64 ((wrap64 (qh*a0_0))+ql)))) else (none)) else (none))))=some r:=H
 have A5:=Ga A50
 clear A50
 replace H:=Option.bind_eq_some_iff.mp H
 obtain⟨qn,A60,H⟩:=H
 replace H:((spec_l1Min.f jh qn).bind fun qh=>(if 0≤(wrap64 ((wrap64 (qh*a0_0))+ql)) then (if (wrap64 ((wrap64 (qh*a0_0))+ql)) < (l0_2.length:Int) then (some (rd l0_2 (wrap64 ((wrap64 (qh*a0_0))+ql)))) else (none)) else (none)))=some r:=H
 have A6:=Ga A60
 clear A60
 replace H:=Option.bind_eq_some_iff.mp H
 obtain⟨qh,A70,H⟩:=H
 replace H:(if 0≤(wrap64 ((wrap64 (qh*a0_0))+ql)) then (if (wrap64 ((wrap64 (qh*a0_0))+ql)) < (l0_2.length:Int) then (some (rd l0_2 (wrap64 ((wrap64 (qh*a0_0))+ql)))) else (none)) else (none))=some r:=H
 have A7:=Ga A70
 clear A70
 obtain⟨ji8,hji8⟩:∃ j_:Int,(wrap64 ((wrap64 (qh*a0_0))+ql))=j_:=⟨_,rfl⟩
 replace H:(if 0≤(ji8) then (if (ji8) < (l0_2.length:Int) then (some (rd l0_2 (ji8))) else (none)) else (none))=some r:=by first|(rw [hji8] at H;exact H)|(simp only [hji8] at H ⊢;exact H)
 (try rw [hji8] at A4)
 (try rw [hji8] at A5)
 (try rw [hji8] at A6)
 (try rw [hji8] at A7)
 have hji8w:(IntKind.i64.wrap ((wrap64 (qh*a0_0))+ql))=ji8:=(i64_w _).trans hji8
 by_cases c9:0≤(ji8)
 ·rw [if_pos c9] at H
  have c9b0:decide (0≤(ji8))=true:=decide_eq_true c9
  clear c9
  by_cases c10:(ji8) < (l0_2.length:Int)
  ·rw [if_pos c10] at H
   have c10b0:decide ((ji8) < (l0_2.length:Int))=true:=decide_eq_true c10
   clear c10
   obtain rfl:=Option.some.inj H
   go_enter Try.func93,Try.ntmps93
   go_wp2_with (first|((with_reducible refine gate_dst (N:=3) rfl ?_);refine box_event ?hg (N:=3) ?hd (cs:=#[.int .i64 a0_0,.int .i64 a0_1,.slice A0_2 l0_2.length c0_2]) (t:=27) ?hr ?_;(case hd=>rfl);(case hg=>rfl);(case hr=>first|(go_simp;done)|(go_simp;rfl));intro qk hg w11 hbox hb;have n0_:=Ga (Gl (by repeat(first|(with_reducible first|exact HB.out|apply Gc|apply Gb|apply Gd)|exact HB.out)) hb);have n1_:=Ga (hbox);have n2_:=Ga ((by rw [hg];exact(Gk (by repeat(first|(with_reducible first|exact HB.out|apply Gc|apply Gb|apply Gd)|exact HB.out))):w.heap.size≤qk));have n3_:=Ga ((by rw [hg];exact(Gk (by repeat(first|(with_reducible first|exact HB.out|apply Gc|apply Gb|apply Gd)|exact HB.out))):w.heap.size≤qk));clear HB;have HB:=n0_;have qf:=n1_;have GW161:=n2_;have GE161:=n3_;clear n0_ n1_ n2_ n3_;clear hb hbox hg;have hcz12_0:w11.cell? ⟨qk,0,none⟩=some (.int .i64 a0_0):=(Gf qf.out 0).trans rfl;have hcz12_1:w11.cell? ⟨qk,1,none⟩=some (.int .i64 a0_1):=(Gf qf.out 1).trans rfl;have hcz12_2:w11.cell? ⟨qk,2,none⟩=some (.slice A0_2 l0_2.length c0_2):=(Gf qf.out 2).trans rfl;have hfz12_0:=Ge qf.out 0;have hfz12_1:=Ge qf.out 1;have hfz12_2:=Ge qf.out 2)|(go_at_call 74;(with_reducible refine(spec_l1Max.calls 0 a1 qq _ A4.out).mono ?_);rintro e w' ⟨rfl,⟨nd,rfl⟩⟩;(try first|exact⟨rfl,_,World.drewN_drewN _ _ _⟩|exact⟨rfl,_,Eq.trans (World.drewN_drewN _ _ _) (congrArg (World.drewN _) (Nat.add_assoc _ _ _))⟩))|(go_at_call 59;(with_reducible refine(spec_l1Min.calls jw qq ql _ A5.out).mono ?_);rintro e w' ⟨rfl,⟨nd,rfl⟩⟩;(try first|exact⟨rfl,_,World.drewN_drewN _ _ _⟩|exact⟨rfl,_,Eq.trans (World.drewN_drewN _ _ _) (congrArg (World.drewN _) (Nat.add_assoc _ _ _))⟩))|(go_at_call 74;(with_reducible refine(spec_l1Max.calls 0 a2 qn _ A6.out).mono ?_);rintro e w' ⟨rfl,⟨nd,rfl⟩⟩;(try first|exact⟨rfl,_,World.drewN_drewN _ _ _⟩|exact⟨rfl,_,Eq.trans (World.drewN_drewN _ _ _) (congrArg (World.drewN _) (Nat.add_assoc _ _ _))⟩))|(go_at_call 59;(with_reducible refine(spec_l1Min.calls jh qn qh _ A7.out).mono ?_);rintro e w' ⟨rfl,⟨nd,rfl⟩⟩;(try first|exact⟨rfl,_,World.drewN_drewN _ _ _⟩|exact⟨rfl,_,Eq.trans (World.drewN_drewN _ _ _) (congrArg (World.drewN _) (Nat.add_assoc _ _ _))⟩);have qo:0≤((ji8):Int):=of_decide_eq_true (by first|(with_reducible assumption)|assumption);have qp:(ji8) < (l0_2.length:Int):=of_decide_eq_true (by first|(with_reducible assumption)|assumption);obtain⟨ad166,e166,qg⟩:=Kd.at_int HR0_2.out (ji8) qo qp;cases e166;replace qg:=(HB.out.cell (World.block_lt_of_cell? w _ qg)).trans qg;replace qo:=eq_true qo;replace qp:=eq_true qp))
   repeat(go_quiet (first|((with_reducible refine gate_dst (N:=3) rfl ?_);refine box_event ?hg (N:=3) ?hd (cs:=#[.int .i64 a0_0,.int .i64 a0_1,.slice A0_2 l0_2.length c0_2]) (t:=27) ?hr ?_;(case hd=>rfl);(case hg=>rfl);(case hr=>first|(go_simp;done)|(go_simp;rfl));intro qk hg w11 hbox hb;have n0_:=Ga (Gl (by repeat(first|(with_reducible first|exact HB.out|apply Gc|apply Gb|apply Gd)|exact HB.out)) hb);have n1_:=Ga (hbox);have n2_:=Ga ((by rw [hg];exact(Gk (by repeat(first|(with_reducible first|exact HB.out|apply Gc|apply Gb|apply Gd)|exact HB.out))):w.heap.size≤qk));have n3_:=Ga ((by rw [hg];exact(Gk (by repeat(first|(with_reducible first|exact HB.out|apply Gc|apply Gb|apply Gd)|exact HB.out))):w.heap.size≤qk));clear HB;have HB:=n0_;have qf:=n1_;have GW161:=n2_;have GE161:=n3_;clear n0_ n1_ n2_ n3_;clear hb hbox hg;have hcz12_0:w11.cell? ⟨qk,0,none⟩=some (.int .i64 a0_0):=(Gf qf.out 0).trans rfl;have hcz12_1:w11.cell? ⟨qk,1,none⟩=some (.int .i64 a0_1):=(Gf qf.out 1).trans rfl;have hcz12_2:w11.cell? ⟨qk,2,none⟩=some (.slice A0_2 l0_2.length c0_2):=(Gf qf.out 2).trans rfl;have hfz12_0:=Ge qf.out 0;have hfz12_1:=Ge qf.out 1;have hfz12_2:=Ge qf.out 2)|(go_at_call 74;(with_reducible refine(spec_l1Max.calls 0 a1 qq _ A4.out).mono ?_);rintro e w' ⟨rfl,⟨nd,rfl⟩⟩;(try first|exact⟨rfl,_,World.drewN_drewN _ _ _⟩|exact⟨rfl,_,Eq.trans (World.drewN_drewN _ _ _) (congrArg (World.drewN _) (Nat.add_assoc _ _ _))⟩))|(go_at_call 59;(with_reducible refine(spec_l1Min.calls jw qq ql _ A5.out).mono ?_);rintro e w' ⟨rfl,⟨nd,rfl⟩⟩;(try first|exact⟨rfl,_,World.drewN_drewN _ _ _⟩|exact⟨rfl,_,Eq.trans (World.drewN_drewN _ _ _) (congrArg (World.drewN _) (Nat.add_assoc _ _ _))⟩))|(go_at_call 74;(with_reducible refine(spec_l1Max.calls 0 a2 qn _ A6.out).mono ?_);rintro e w' ⟨rfl,⟨nd,rfl⟩⟩;(try first|exact⟨rfl,_,World.drewN_drewN _ _ _⟩|exact⟨rfl,_,Eq.trans (World.drewN_drewN _ _ _) (congrArg (World.drewN _) (Nat.add_assoc _ _ _))⟩))|(go_at_call 59;(with_reducible refine(spec_l1Min.calls jh qn qh _ A7.out).mono ?_);rintro e w' ⟨rfl,⟨nd,rfl⟩⟩;(try first|exact⟨rfl,_,World.drewN_drewN _ _ _⟩|exact⟨rfl,_,Eq.trans (World.drewN_drewN _ _ _) (congrArg (World.drewN _) (Nat.add_assoc _ _ _))⟩);have qo:0≤((ji8):Int):=of_decide_eq_true (by first|(with_reducible assumption)|assumption);have qp:(ji8) < (l0_2.length:Int):=of_decide_eq_true (by first|(with_reducible assumption)|assumption);obtain⟨ad166,e166,qg⟩:=Kd.at_int HR0_2.out (ji8) qo qp;cases e166;replace qg:=(HB.out.cell (World.block_lt_of_cell? w _ qg)).trans qg;replace qo:=eq_true qo;replace qp:=eq_true qp));try go_wp2_with (first|((with_reducible refine gate_dst (N:=3) rfl ?_);refine box_event ?hg (N:=3) ?hd (cs:=#[.int .i64 a0_0,.int .i64 a0_1,.slice A0_2 l0_2.length c0_2]) (t:=27) ?hr ?_;(case hd=>rfl);(case hg=>rfl);(case hr=>first|(go_simp;done)|(go_simp;rfl));intro qk hg w11 hbox hb;have n0_:=Ga (Gl (by repeat(first|(with_reducible first|exact HB.out|apply Gc|apply Gb|apply Gd)|exact HB.out)) hb);have n1_:=Ga (hbox);have n2_:=Ga ((by rw [hg];exact(Gk (by repeat(first|(with_reducible first|exact HB.out|apply Gc|apply Gb|apply Gd)|exact HB.out))):w.heap.size≤qk));have n3_:=Ga ((by rw [hg];exact(Gk (by repeat(first|(with_reducible first|exact HB.out|apply Gc|apply Gb|apply Gd)|exact HB.out))):w.heap.size≤qk));clear HB;have HB:=n0_;have qf:=n1_;have GW161:=n2_;have GE161:=n3_;clear n0_ n1_ n2_ n3_;clear hb hbox hg;have hcz12_0:w11.cell? ⟨qk,0,none⟩=some (.int .i64 a0_0):=(Gf qf.out 0).trans rfl;have hcz12_1:w11.cell? ⟨qk,1,none⟩=some (.int .i64 a0_1):=(Gf qf.out 1).trans rfl;have hcz12_2:w11.cell? ⟨qk,2,none⟩=some (.slice A0_2 l0_2.length c0_2):=(Gf qf.out 2).trans rfl;have hfz12_0:=Ge qf.out 0;have hfz12_1:=Ge qf.out 1;have hfz12_2:=Ge qf.out 2)|(go_at_call 74;(with_reducible refine(spec_l1Max.calls 0 a1 qq _ A4.out).mono ?_);rintro e w' ⟨rfl,⟨nd,rfl⟩⟩;(try first|exact⟨rfl,_,World.drewN_drewN _ _ _⟩|exact⟨rfl,_,Eq.trans (World.drewN_drewN _ _ _) (congrArg (World.drewN _) (Nat.add_assoc _ _ _))⟩))|(go_at_call 59;(with_reducible refine(spec_l1Min.calls jw qq ql _ A5.out).mono ?_);rintro e w' ⟨rfl,⟨nd,rfl⟩⟩;(try first|exact⟨rfl,_,World.drewN_drewN _ _ _⟩|exact⟨rfl,_,Eq.trans (World.drewN_drewN _ _ _) (congrArg (World.drewN _) (Nat.add_assoc _ _ _))⟩))|(go_at_call 74;(with_reducible refine(spec_l1Max.calls 0 a2 qn _ A6.out).mono ?_);rintro e w' ⟨rfl,⟨nd,rfl⟩⟩;(try first|exact⟨rfl,_,World.drewN_drewN _ _ _⟩|exact⟨rfl,_,Eq.trans (World.drewN_drewN _ _ _) (congrArg (World.drewN _) (Nat.add_assoc _ _ _))⟩))|(go_at_call 59;(with_reducible refine(spec_l1Min.calls jh qn qh _ A7.out).mono ?_);rintro e w' ⟨rfl,⟨nd,rfl⟩⟩;(try first|exact⟨rfl,_,World.drewN_drewN _ _ _⟩|exact⟨rfl,_,Eq.trans (World.drewN_drewN _ _ _) (congrArg (World.drewN _) (Nat.add_assoc _ _ _))⟩);have qo:0≤((ji8):Int):=of_decide_eq_true (by first|(with_reducible assumption)|assumption);have qp:(ji8) < (l0_2.length:Int):=of_decide_eq_true (by first|(with_reducible assumption)|assumption);obtain⟨ad166,e166,qg⟩:=Kd.at_int HR0_2.out (ji8) qo qp;cases e166;replace qg:=(HB.out.cell (World.block_lt_of_cell? w _ qg)).trans qg;replace qo:=eq_true qo;replace qp:=eq_true qp)))
   go_ret
   exact⟨by first|rfl|(simp [errW_none,errW_some] <;> rfl)|(simp only [← hji8];first|rfl|(simp [errW_none,errW_some] <;> rfl))|(simp [*,errW_none,errW_some] <;> rfl),by repeat(first|(with_reducible first|exact HB.out|apply Gc|apply Gb|apply Gd|refine Gh ?_ GE161.out)|exact HB.out)⟩
  ·rw [if_neg c10] at H
   exact absurd H (by simp)
 ·rw [if_neg c9] at H
  exact absurd H (by simp)

end Go.Proofs.Ytbdnpfjjaokdbaa.HFnCoded
