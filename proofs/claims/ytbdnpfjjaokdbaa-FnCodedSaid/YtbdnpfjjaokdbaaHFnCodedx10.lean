-- Laid by myprint.py, a program of this repo, out of the kit's printer and this repo's own texts (wip/hand).
import Derived.Test.YtbdnpfjjaokdbaaHFnCodedx0
import Derived.Test.YtbdnpfjjaokdbaaHFnCodedx1
namespace Go.Proofs.Ytbdnpfjjaokdbaa.HFnCoded
open Go.RowKit Go.Proofs.YtbdnpfjjaokdbaaW.PrintWords Go.Proofs.YtbdnpfjjaokdbaaW.PrintLast Go.Proofs.YtbdnpfjjaokdbaaW.PrintMore
attribute [local go_sem] max2_int min2_int max_two min_two max_three min_three max_four min_four   -- for this text's walks alone
set_option linter.unusedVariables false
set_option linter.unusedSimpArgs false
theorem Ka : type_of% @Aside0.mk := @Aside0.mk
theorem Kb : type_of% @pw_below_drewN := @pw_below_drewN
theorem Kc : type_of% @blk_cell := @blk_cell
theorem Ke : type_of% @below_drew1 := @below_drew1
theorem Kf : type_of% @below_alloc := @below_alloc
theorem Kg : type_of% @blk_drew := @blk_drew
theorem Kh : type_of% @below_set := @below_set
theorem Ki : type_of% @blk_frozen := @blk_frozen
theorem Kj : type_of% @blk_alloc := @blk_alloc
theorem Kk : type_of% @blk_drewN := @blk_drewN
theorem Kl : type_of% @below_size := @below_size
theorem Km : type_of% @blk_below := @blk_below
theorem Kn : type_of% @below_step := @below_step
theorem Ko : type_of% @gate_callee := @gate_callee

/-! ### impl_bothOk: function 69 -/
def impl_bothOk.f (a0_0 : Int) (a0_1 : Int) (l0_2 : List Int) (a1_0 : Int) (a1_1 : Int) (l1_2 : List Int) : Option (Bool) := (impl_PictureOk.f a0_0 a0_1 l0_2).bind fun t242 => (if t242 = true then ((impl_PictureOk.f a1_0 a1_1 l1_2).bind fun t243 => (if t243 = true then (if a0_0 = a1_0 then (some (a0_1 == a1_1)) else (some false)) else (some false))) else (some false))
set_option maxHeartbeats 8000000 in
set_option maxRecDepth 100000 in
theorem impl_bothOk.calls (a0_0 : Int) (a0_1 : Int) (A0_2 : Option Addr) (c0_2 : Nat) (l0_2 : List Int) (a1_0 : Int) (a1_1 : Int) (A1_2 : Option Addr) (c1_2 : Nat) (l1_2 : List Int) (r : Bool) (w : World) (hr0_2 : Kd.C (Kd.int .i64) w A0_2 l0_2.length l0_2) (hc0_2 : l0_2.length ≤ c0_2) (hr1_2 : Kd.C (Kd.int .i64) w A1_2 l1_2.length l1_2) (hc1_2 : l1_2.length ≤ c1_2) (h : impl_bothOk.f a0_0 a0_1 l0_2 a1_0 a1_1 l1_2 = some r) :
  Calls Try.prog 69 #[.agg #[.int .i64 a0_0,.int .i64 a0_1,.slice A0_2 l0_2.length c0_2],.agg #[.int .i64 a1_0,.int .i64 a1_1,.slice A1_2 l1_2.length c1_2]] w fun e w'=>e=.returned (.bool r)∧Below w.heap.size w w':=by
 have hu27:=Try.underlying27
 have HR0_2:=Ka hr0_2
 have HC0_2:=Ka hc0_2
 clear hr0_2 hc0_2
 have HR1_2:=Ka hr1_2
 have HC1_2:=Ka hc1_2
 clear hr1_2 hc1_2
 have HB:=Ka (Below.refl w.heap.size w)
 have H:((impl_PictureOk.f a0_0 a0_1 l0_2).bind fun t242=>(if t242=true then ((impl_PictureOk.f a1_0 a1_1 l1_2).bind fun t243=>(if t243=true then (if a0_0=a1_0 then (some (a0_1 == a1_1)) else (some false)) else (some false))) else (some false)))=some r:=h
 clear h
 replace H:=Option.bind_eq_some_iff.mp H
 obtain⟨t242,A30,H⟩:=H
 replace H:(if t242=true then ((impl_PictureOk.f a1_0 a1_1 l1_2).bind fun t243=>(if t243=true then (if a0_0=a1_0 then (some (a0_1 == a1_1)) else (some false)) else (some false))) else (some false))=some r:=H
 have A3:=Ka A30
 clear A30
 by_cases c4:t242=true
 ·subst c4
  have H1:((impl_PictureOk.f a1_0 a1_1 l1_2).bind fun t243=>(if t243=true then (if a0_0=a1_0 then (some (a0_1 == a1_1)) else (some false)) else (some false)))=some r:=by rw [if_pos rfl] at H;exact H
  clear H
  have H:=H1
  clear H1
  replace H:=Option.bind_eq_some_iff.mp H
  obtain⟨t243,A50,H⟩:=H
  replace H:(if t243=true then (if a0_0=a1_0 then (some (a0_1 == a1_1)) else (some false)) else (some false))=some r:=H
  have A5:=Ka A50
  clear A50
  by_cases c6:t243=true
  ·subst c6
   have H1:(if a0_0=a1_0 then (some (a0_1 == a1_1)) else (some false))=some r:=by rw [if_pos rfl] at H;exact H
   clear H
   have H:=H1
   clear H1
   by_cases c7:a0_0=a1_0
   ·rw [if_pos c7] at H
    have c7b0:(a0_0 == a1_0)=true:=beq_iff_eq.mpr c7
    have c7b1:(a0_0 != a1_0)=false:=bne_eq_false_iff_eq.mpr c7
    clear c7
    obtain rfl:=Option.some.inj H
    go_enter Try.func69,Try.ntmps69
    go_wp2_with (first|((with_reducible refine gate_dst (N:=2) rfl ?_);refine box_event ?hg (N:=2) ?hd (cs:=#[.int .i64 a0_0,.int .i64 a0_1,.slice A0_2 l0_2.length c0_2]) (t:=27) ?hr ?_;(case hd=>rfl);(case hg=>rfl);(case hr=>first|(go_simp;done)|(go_simp;rfl));intro gb240 hg w8 hbox hb;have n0_:=Ka (Kn (by repeat(first|(with_reducible first|exact HB.out|apply Kf|apply Kb|apply Ke)|exact HB.out)) hb);have n1_:=Ka (hbox);have n2_:=Ka ((by rw [hg];exact(Kl (by repeat(first|(with_reducible first|exact HB.out|apply Kf|apply Kb|apply Ke)|exact HB.out))):w.heap.size≤gb240));have n3_:=Ka ((by rw [hg];exact(Kl (by repeat(first|(with_reducible first|exact HB.out|apply Kf|apply Kb|apply Ke)|exact HB.out))):w.heap.size≤gb240));clear HB;have HB:=n0_;have BK240:=n1_;have GW240:=n2_;have GE240:=n3_;clear n0_ n1_ n2_ n3_;clear hb hbox hg)|((with_reducible refine gate_dst (N:=3) rfl ?_);refine box_event ?hg (N:=3) ?hd (cs:=#[.int .i64 a1_0,.int .i64 a1_1,.slice A1_2 l1_2.length c1_2]) (t:=27) ?hr ?_;(case hd=>rfl);(case hg=>rfl);(case hr=>first|(go_simp;done)|(go_simp;rfl));intro gb241 hg w9 hbox hb;have n0_:=Ka (Km (g:=gb240) (o:=.cells #[.int .i64 a0_0,.int .i64 a0_1,.slice A0_2 l0_2.length c0_2] 27 (0,0)) (by(with_reducible repeat(first|refine Kk ?_ _|refine Kg ?_|refine Kj ?_ _));exact BK240.out) hb);have n1_:=Ka (Kn (by repeat(first|(with_reducible first|exact HB.out|apply Kf|apply Kb|apply Ke|refine Kh ?_ GE240.out)|exact HB.out)) hb);have n2_:=Ka (hbox);have n3_:=Ka ((by rw [hg];exact(Kl (by repeat(first|(with_reducible first|exact HB.out|apply Kf|apply Kb|apply Ke|refine Kh ?_ GE240.out)|exact HB.out))):w.heap.size≤gb241));have n4_:=Ka ((by rw [hg];exact(Kl (by repeat(first|(with_reducible first|exact HB.out|apply Kf|apply Kb|apply Ke|refine Kh ?_ GE240.out)|exact HB.out))):w.heap.size≤gb241));have n5_:=Ka ((by rw [hg];exact Nat.ne_of_lt (blk_lt (g:=gb240) (o:=.cells #[.int .i64 a0_0,.int .i64 a0_1,.slice A0_2 l0_2.length c0_2] 27 (0,0)) (by(with_reducible repeat(first|refine Kk ?_ _|refine Kg ?_|refine Kj ?_ _));exact BK240.out)):gb240≠gb241));have n6_:=Ka ((by rw [hg];exact Nat.ne_of_gt (blk_lt (g:=gb240) (o:=.cells #[.int .i64 a0_0,.int .i64 a0_1,.slice A0_2 l0_2.length c0_2] 27 (0,0)) (by(with_reducible repeat(first|refine Kk ?_ _|refine Kg ?_|refine Kj ?_ _));exact BK240.out)):gb241≠gb240));clear BK240;clear HB;have BK240:=n0_;have HB:=n1_;have BK241:=n2_;have GW241:=n3_;have GE241:=n4_;have NB240_241:=n5_;have NB241_240:=n6_;clear n0_ n1_ n2_ n3_ n4_ n5_ n6_;clear hb hbox hg;have hnb10:=NB240_241.out;have hnc10:=NB241_240.out;have hcz11_0:w9.cell? ⟨gb240,0,none⟩=some (.int .i64 a0_0):=(Kc BK240.out 0).trans rfl;have hcz11_1:w9.cell? ⟨gb240,1,none⟩=some (.int .i64 a0_1):=(Kc BK240.out 1).trans rfl;have hcz11_2:w9.cell? ⟨gb240,2,none⟩=some (.slice A0_2 l0_2.length c0_2):=(Kc BK240.out 2).trans rfl;have hfz11_0:=Ki BK240.out 0;have hfz11_1:=Ki BK240.out 1;have hfz11_2:=Ki BK240.out 2)|((with_reducible refine Ko (f:=17) rfl ?_);refine goesL_ (some 6) rfl rfl Try.func17 (by kernel_rfl) rfl #[.agg #[.int .i64 a0_0,.int .i64 a0_1,.slice A0_2 l0_2.length c0_2]] rfl (by(try simp only [List.map_toArray,List.map_cons,List.map_nil]);first|done|rfl|(simp only [List.length_drop,List.length_take];rfl)) ?_;(with_reducible refine(impl_PictureOk.calls a0_0 a0_1 _ _ l0_2 true _ ?side1 ?side2 A3.out).mono ?_);(case side1=>repeat(first|exact(Kd.C_below HR0_2.out HB.out)|(with_reducible refine Kd.C_alloc ?_ _)|(with_reducible refine Kd.C_drewN ?_ _)|(with_reducible refine Kd.C_drew ?_)));(case side2=>exact HC0_2.out);rintro e w12 ⟨rfl,hb⟩;refine⟨_,rfl,?_⟩;have n0_:=Ka (Km (g:=gb240) (o:=.cells #[.int .i64 a0_0,.int .i64 a0_1,.slice A0_2 l0_2.length c0_2] 27 (0,0)) (by(with_reducible repeat(first|refine Kk ?_ _|refine Kg ?_|refine Kj ?_ _));exact BK240.out) hb);have n1_:=Ka (Km (g:=gb241) (o:=.cells #[.int .i64 a1_0,.int .i64 a1_1,.slice A1_2 l1_2.length c1_2] 27 (0,0)) (by(with_reducible repeat(first|refine Kk ?_ _|refine Kg ?_|refine Kj ?_ _));exact BK241.out) hb);have n2_:=Ka (Kn (by repeat(first|(with_reducible first|exact HB.out|apply Kf|apply Kb|apply Ke|refine Kh ?_ GE240.out|refine Kh ?_ GE241.out)|exact HB.out)) hb);clear BK240;clear BK241;clear HB;have BK240:=n0_;have BK241:=n1_;have HB:=n2_;clear n0_ n1_ n2_;(try clear hb);(try clear hb2);(try clear hk);(try clear hi);have hcz13_0:w12.cell? ⟨gb241,0,none⟩=some (.int .i64 a1_0):=(Kc BK241.out 0).trans rfl;have hcz13_1:w12.cell? ⟨gb241,1,none⟩=some (.int .i64 a1_1):=(Kc BK241.out 1).trans rfl;have hcz13_2:w12.cell? ⟨gb241,2,none⟩=some (.slice A1_2 l1_2.length c1_2):=(Kc BK241.out 2).trans rfl;have hfz13_0:=Ki BK241.out 0;have hfz13_1:=Ki BK241.out 1;have hfz13_2:=Ki BK241.out 2)|(go_at_call 17;(with_reducible refine(impl_PictureOk.calls a1_0 a1_1 _ _ l1_2 true _ ?side1 ?side2 A5.out).mono ?_);(case side1=>repeat(first|exact(Kd.C_below HR1_2.out HB.out)|(with_reducible refine Kd.C_alloc ?_ _)|(with_reducible refine Kd.C_drewN ?_ _)|(with_reducible refine Kd.C_drew ?_)));(case side2=>exact HC1_2.out);rintro e w14 ⟨rfl,hb⟩;have n0_:=Ka (Km (g:=gb240) (o:=.cells #[.int .i64 a0_0,.int .i64 a0_1,.slice A0_2 l0_2.length c0_2] 27 (0,0)) (by(with_reducible repeat(first|refine Kk ?_ _|refine Kg ?_|refine Kj ?_ _));exact BK240.out) hb);have n1_:=Ka (Km (g:=gb241) (o:=.cells #[.int .i64 a1_0,.int .i64 a1_1,.slice A1_2 l1_2.length c1_2] 27 (0,0)) (by(with_reducible repeat(first|refine Kk ?_ _|refine Kg ?_|refine Kj ?_ _));exact BK241.out) hb);have n2_:=Ka (Kn (by repeat(first|(with_reducible first|exact HB.out|apply Kf|apply Kb|apply Ke|refine Kh ?_ GE240.out|refine Kh ?_ GE241.out)|exact HB.out)) hb);clear BK240;clear BK241;clear HB;have BK240:=n0_;have BK241:=n1_;have HB:=n2_;clear n0_ n1_ n2_;(try clear hb);(try clear hb2);(try clear hk);(try clear hi);have hcz15_0:w14.cell? ⟨gb240,0,none⟩=some (.int .i64 a0_0):=(Kc BK240.out 0).trans rfl;have hcz15_1:w14.cell? ⟨gb240,1,none⟩=some (.int .i64 a0_1):=(Kc BK240.out 1).trans rfl;have hcz15_2:w14.cell? ⟨gb240,2,none⟩=some (.slice A0_2 l0_2.length c0_2):=(Kc BK240.out 2).trans rfl;have hfz15_0:=Ki BK240.out 0;have hfz15_1:=Ki BK240.out 1;have hfz15_2:=Ki BK240.out 2;have hcz16_0:w14.cell? ⟨gb241,0,none⟩=some (.int .i64 a1_0):=(Kc BK241.out 0).trans rfl;have hcz16_1:w14.cell? ⟨gb241,1,none⟩=some (.int .i64 a1_1):=(Kc BK241.out 1).trans rfl;have hcz16_2:w14.cell? ⟨gb241,2,none⟩=some (.slice A1_2 l1_2.length c1_2):=(Kc BK241.out 2).trans rfl;have hfz16_0:=Ki BK241.out 0;have hfz16_1:=Ki BK241.out 1;have hfz16_2:=Ki BK241.out 2))
    go_ret
    exact⟨by first|rfl|(simp [errW_none,errW_some] <;> rfl)|(simp [*,errW_none,errW_some] <;> rfl),by repeat(first|(with_reducible first|exact HB.out|apply Kf|apply Kb|apply Ke|refine Kh ?_ GE240.out|refine Kh ?_ GE241.out)|exact HB.out)⟩
   ·rw [if_neg c7] at H
    have c7b0:(a0_0 == a1_0)=false:=beq_eq_false_iff_ne.mpr c7
    have c7b1:(a0_0 != a1_0)=true:=bne_iff_ne.mpr c7
    obtain rfl:=Option.some.inj H
    go_enter Try.func69,Try.ntmps69
    go_wp2_with (first|((with_reducible refine gate_dst (N:=2) rfl ?_);refine box_event ?hg (N:=2) ?hd (cs:=#[.int .i64 a0_0,.int .i64 a0_1,.slice A0_2 l0_2.length c0_2]) (t:=27) ?hr ?_;(case hd=>rfl);(case hg=>rfl);(case hr=>first|(go_simp;done)|(go_simp;rfl));intro gb240 hg w17 hbox hb;have n0_:=Ka (Kn (by repeat(first|(with_reducible first|exact HB.out|apply Kf|apply Kb|apply Ke)|exact HB.out)) hb);have n1_:=Ka (hbox);have n2_:=Ka ((by rw [hg];exact(Kl (by repeat(first|(with_reducible first|exact HB.out|apply Kf|apply Kb|apply Ke)|exact HB.out))):w.heap.size≤gb240));have n3_:=Ka ((by rw [hg];exact(Kl (by repeat(first|(with_reducible first|exact HB.out|apply Kf|apply Kb|apply Ke)|exact HB.out))):w.heap.size≤gb240));clear HB;have HB:=n0_;have BK240:=n1_;have GW240:=n2_;have GE240:=n3_;clear n0_ n1_ n2_ n3_;clear hb hbox hg)|((with_reducible refine gate_dst (N:=3) rfl ?_);refine box_event ?hg (N:=3) ?hd (cs:=#[.int .i64 a1_0,.int .i64 a1_1,.slice A1_2 l1_2.length c1_2]) (t:=27) ?hr ?_;(case hd=>rfl);(case hg=>rfl);(case hr=>first|(go_simp;done)|(go_simp;rfl));intro gb241 hg w18 hbox hb;have n0_:=Ka (Km (g:=gb240) (o:=.cells #[.int .i64 a0_0,.int .i64 a0_1,.slice A0_2 l0_2.length c0_2] 27 (0,0)) (by(with_reducible repeat(first|refine Kk ?_ _|refine Kg ?_|refine Kj ?_ _));exact BK240.out) hb);have n1_:=Ka (Kn (by repeat(first|(with_reducible first|exact HB.out|apply Kf|apply Kb|apply Ke|refine Kh ?_ GE240.out)|exact HB.out)) hb);have n2_:=Ka (hbox);have n3_:=Ka ((by rw [hg];exact(Kl (by repeat(first|(with_reducible first|exact HB.out|apply Kf|apply Kb|apply Ke|refine Kh ?_ GE240.out)|exact HB.out))):w.heap.size≤gb241));have n4_:=Ka ((by rw [hg];exact(Kl (by repeat(first|(with_reducible first|exact HB.out|apply Kf|apply Kb|apply Ke|refine Kh ?_ GE240.out)|exact HB.out))):w.heap.size≤gb241));have n5_:=Ka ((by rw [hg];exact Nat.ne_of_lt (blk_lt (g:=gb240) (o:=.cells #[.int .i64 a0_0,.int .i64 a0_1,.slice A0_2 l0_2.length c0_2] 27 (0,0)) (by(with_reducible repeat(first|refine Kk ?_ _|refine Kg ?_|refine Kj ?_ _));exact BK240.out)):gb240≠gb241));have n6_:=Ka ((by rw [hg];exact Nat.ne_of_gt (blk_lt (g:=gb240) (o:=.cells #[.int .i64 a0_0,.int .i64 a0_1,.slice A0_2 l0_2.length c0_2] 27 (0,0)) (by(with_reducible repeat(first|refine Kk ?_ _|refine Kg ?_|refine Kj ?_ _));exact BK240.out)):gb241≠gb240));clear BK240;clear HB;have BK240:=n0_;have HB:=n1_;have BK241:=n2_;have GW241:=n3_;have GE241:=n4_;have NB240_241:=n5_;have NB241_240:=n6_;clear n0_ n1_ n2_ n3_ n4_ n5_ n6_;clear hb hbox hg;have hnb19:=NB240_241.out;have hnc19:=NB241_240.out;have hcz20_0:w18.cell? ⟨gb240,0,none⟩=some (.int .i64 a0_0):=(Kc BK240.out 0).trans rfl;have hcz20_1:w18.cell? ⟨gb240,1,none⟩=some (.int .i64 a0_1):=(Kc BK240.out 1).trans rfl;have hcz20_2:w18.cell? ⟨gb240,2,none⟩=some (.slice A0_2 l0_2.length c0_2):=(Kc BK240.out 2).trans rfl;have hfz20_0:=Ki BK240.out 0;have hfz20_1:=Ki BK240.out 1;have hfz20_2:=Ki BK240.out 2)|((with_reducible refine Ko (f:=17) rfl ?_);refine goesL_ (some 6) rfl rfl Try.func17 (by kernel_rfl) rfl #[.agg #[.int .i64 a0_0,.int .i64 a0_1,.slice A0_2 l0_2.length c0_2]] rfl (by(try simp only [List.map_toArray,List.map_cons,List.map_nil]);first|done|rfl|(simp only [List.length_drop,List.length_take];rfl)) ?_;(with_reducible refine(impl_PictureOk.calls a0_0 a0_1 _ _ l0_2 true _ ?side1 ?side2 A3.out).mono ?_);(case side1=>repeat(first|exact(Kd.C_below HR0_2.out HB.out)|(with_reducible refine Kd.C_alloc ?_ _)|(with_reducible refine Kd.C_drewN ?_ _)|(with_reducible refine Kd.C_drew ?_)));(case side2=>exact HC0_2.out);rintro e w21 ⟨rfl,hb⟩;refine⟨_,rfl,?_⟩;have n0_:=Ka (Km (g:=gb240) (o:=.cells #[.int .i64 a0_0,.int .i64 a0_1,.slice A0_2 l0_2.length c0_2] 27 (0,0)) (by(with_reducible repeat(first|refine Kk ?_ _|refine Kg ?_|refine Kj ?_ _));exact BK240.out) hb);have n1_:=Ka (Km (g:=gb241) (o:=.cells #[.int .i64 a1_0,.int .i64 a1_1,.slice A1_2 l1_2.length c1_2] 27 (0,0)) (by(with_reducible repeat(first|refine Kk ?_ _|refine Kg ?_|refine Kj ?_ _));exact BK241.out) hb);have n2_:=Ka (Kn (by repeat(first|(with_reducible first|exact HB.out|apply Kf|apply Kb|apply Ke|refine Kh ?_ GE240.out|refine Kh ?_ GE241.out)|exact HB.out)) hb);clear BK240;clear BK241;clear HB;have BK240:=n0_;have BK241:=n1_;have HB:=n2_;clear n0_ n1_ n2_;(try clear hb);(try clear hb2);(try clear hk);(try clear hi);have hcz22_0:w21.cell? ⟨gb241,0,none⟩=some (.int .i64 a1_0):=(Kc BK241.out 0).trans rfl;have hcz22_1:w21.cell? ⟨gb241,1,none⟩=some (.int .i64 a1_1):=(Kc BK241.out 1).trans rfl;have hcz22_2:w21.cell? ⟨gb241,2,none⟩=some (.slice A1_2 l1_2.length c1_2):=(Kc BK241.out 2).trans rfl;have hfz22_0:=Ki BK241.out 0;have hfz22_1:=Ki BK241.out 1;have hfz22_2:=Ki BK241.out 2)|(go_at_call 17;(with_reducible refine(impl_PictureOk.calls a1_0 a1_1 _ _ l1_2 true _ ?side1 ?side2 A5.out).mono ?_);(case side1=>repeat(first|exact(Kd.C_below HR1_2.out HB.out)|(with_reducible refine Kd.C_alloc ?_ _)|(with_reducible refine Kd.C_drewN ?_ _)|(with_reducible refine Kd.C_drew ?_)));(case side2=>exact HC1_2.out);rintro e w23 ⟨rfl,hb⟩;have n0_:=Ka (Km (g:=gb240) (o:=.cells #[.int .i64 a0_0,.int .i64 a0_1,.slice A0_2 l0_2.length c0_2] 27 (0,0)) (by(with_reducible repeat(first|refine Kk ?_ _|refine Kg ?_|refine Kj ?_ _));exact BK240.out) hb);have n1_:=Ka (Km (g:=gb241) (o:=.cells #[.int .i64 a1_0,.int .i64 a1_1,.slice A1_2 l1_2.length c1_2] 27 (0,0)) (by(with_reducible repeat(first|refine Kk ?_ _|refine Kg ?_|refine Kj ?_ _));exact BK241.out) hb);have n2_:=Ka (Kn (by repeat(first|(with_reducible first|exact HB.out|apply Kf|apply Kb|apply Ke|refine Kh ?_ GE240.out|refine Kh ?_ GE241.out)|exact HB.out)) hb);clear BK240;clear BK241;clear HB;have BK240:=n0_;have BK241:=n1_;have HB:=n2_;clear n0_ n1_ n2_;(try clear hb);(try clear hb2);(try clear hk);(try clear hi);have hcz24_0:w23.cell? ⟨gb240,0,none⟩=some (.int .i64 a0_0):=(Kc BK240.out 0).trans rfl;have hcz24_1:w23.cell? ⟨gb240,1,none⟩=some (.int .i64 a0_1):=(Kc BK240.out 1).trans rfl;have hcz24_2:w23.cell? ⟨gb240,2,none⟩=some (.slice A0_2 l0_2.length c0_2):=(Kc BK240.out 2).trans rfl;have hfz24_0:=Ki BK240.out 0;have hfz24_1:=Ki BK240.out 1;have hfz24_2:=Ki BK240.out 2;have hcz25_0:w23.cell? ⟨gb241,0,none⟩=some (.int .i64 a1_0):=(Kc BK241.out 0).trans rfl;have hcz25_1:w23.cell? ⟨gb241,1,none⟩=some (.int .i64 a1_1):=(Kc BK241.out 1).trans rfl;have hcz25_2:w23.cell? ⟨gb241,2,none⟩=some (.slice A1_2 l1_2.length c1_2):=(Kc BK241.out 2).trans rfl;have hfz25_0:=Ki BK241.out 0;have hfz25_1:=Ki BK241.out 1;have hfz25_2:=Ki BK241.out 2))
    go_ret
    exact⟨by first|rfl|(simp [errW_none,errW_some] <;> rfl)|(simp [*,errW_none,errW_some] <;> rfl),by repeat(first|(with_reducible first|exact HB.out|apply Kf|apply Kb|apply Ke|refine Kh ?_ GE240.out|refine Kh ?_ GE241.out)|exact HB.out)⟩
  ·replace c6:=Bool.eq_false_iff.mpr c6
   subst c6
   have H1:(some false)=some r:=by rw [if_neg (show ¬ (false=true) by decide)] at H;exact H
   clear H
   have H:=H1
   clear H1
   obtain rfl:=Option.some.inj H
   go_enter Try.func69,Try.ntmps69
   go_wp2_with (first|((with_reducible refine gate_dst (N:=2) rfl ?_);refine box_event ?hg (N:=2) ?hd (cs:=#[.int .i64 a0_0,.int .i64 a0_1,.slice A0_2 l0_2.length c0_2]) (t:=27) ?hr ?_;(case hd=>rfl);(case hg=>rfl);(case hr=>first|(go_simp;done)|(go_simp;rfl));intro gb240 hg w26 hbox hb;have n0_:=Ka (Kn (by repeat(first|(with_reducible first|exact HB.out|apply Kf|apply Kb|apply Ke)|exact HB.out)) hb);have n1_:=Ka (hbox);have n2_:=Ka ((by rw [hg];exact(Kl (by repeat(first|(with_reducible first|exact HB.out|apply Kf|apply Kb|apply Ke)|exact HB.out))):w.heap.size≤gb240));have n3_:=Ka ((by rw [hg];exact(Kl (by repeat(first|(with_reducible first|exact HB.out|apply Kf|apply Kb|apply Ke)|exact HB.out))):w.heap.size≤gb240));clear HB;have HB:=n0_;have BK240:=n1_;have GW240:=n2_;have GE240:=n3_;clear n0_ n1_ n2_ n3_;clear hb hbox hg)|((with_reducible refine gate_dst (N:=3) rfl ?_);refine box_event ?hg (N:=3) ?hd (cs:=#[.int .i64 a1_0,.int .i64 a1_1,.slice A1_2 l1_2.length c1_2]) (t:=27) ?hr ?_;(case hd=>rfl);(case hg=>rfl);(case hr=>first|(go_simp;done)|(go_simp;rfl));intro gb241 hg w27 hbox hb;have n0_:=Ka (Km (g:=gb240) (o:=.cells #[.int .i64 a0_0,.int .i64 a0_1,.slice A0_2 l0_2.length c0_2] 27 (0,0)) (by(with_reducible repeat(first|refine Kk ?_ _|refine Kg ?_|refine Kj ?_ _));exact BK240.out) hb);have n1_:=Ka (Kn (by repeat(first|(with_reducible first|exact HB.out|apply Kf|apply Kb|apply Ke|refine Kh ?_ GE240.out)|exact HB.out)) hb);have n2_:=Ka (hbox);have n3_:=Ka ((by rw [hg];exact(Kl (by repeat(first|(with_reducible first|exact HB.out|apply Kf|apply Kb|apply Ke|refine Kh ?_ GE240.out)|exact HB.out))):w.heap.size≤gb241));have n4_:=Ka ((by rw [hg];exact(Kl (by repeat(first|(with_reducible first|exact HB.out|apply Kf|apply Kb|apply Ke|refine Kh ?_ GE240.out)|exact HB.out))):w.heap.size≤gb241));have n5_:=Ka ((by rw [hg];exact Nat.ne_of_lt (blk_lt (g:=gb240) (o:=.cells #[.int .i64 a0_0,.int .i64 a0_1,.slice A0_2 l0_2.length c0_2] 27 (0,0)) (by(with_reducible repeat(first|refine Kk ?_ _|refine Kg ?_|refine Kj ?_ _));exact BK240.out)):gb240≠gb241));have n6_:=Ka ((by rw [hg];exact Nat.ne_of_gt (blk_lt (g:=gb240) (o:=.cells #[.int .i64 a0_0,.int .i64 a0_1,.slice A0_2 l0_2.length c0_2] 27 (0,0)) (by(with_reducible repeat(first|refine Kk ?_ _|refine Kg ?_|refine Kj ?_ _));exact BK240.out)):gb241≠gb240));clear BK240;clear HB;have BK240:=n0_;have HB:=n1_;have BK241:=n2_;have GW241:=n3_;have GE241:=n4_;have NB240_241:=n5_;have NB241_240:=n6_;clear n0_ n1_ n2_ n3_ n4_ n5_ n6_;clear hb hbox hg;have hnb28:=NB240_241.out;have hnc28:=NB241_240.out;have hcz29_0:w27.cell? ⟨gb240,0,none⟩=some (.int .i64 a0_0):=(Kc BK240.out 0).trans rfl;have hcz29_1:w27.cell? ⟨gb240,1,none⟩=some (.int .i64 a0_1):=(Kc BK240.out 1).trans rfl;have hcz29_2:w27.cell? ⟨gb240,2,none⟩=some (.slice A0_2 l0_2.length c0_2):=(Kc BK240.out 2).trans rfl;have hfz29_0:=Ki BK240.out 0;have hfz29_1:=Ki BK240.out 1;have hfz29_2:=Ki BK240.out 2)|((with_reducible refine Ko (f:=17) rfl ?_);refine goesL_ (some 6) rfl rfl Try.func17 (by kernel_rfl) rfl #[.agg #[.int .i64 a0_0,.int .i64 a0_1,.slice A0_2 l0_2.length c0_2]] rfl (by(try simp only [List.map_toArray,List.map_cons,List.map_nil]);first|done|rfl|(simp only [List.length_drop,List.length_take];rfl)) ?_;(with_reducible refine(impl_PictureOk.calls a0_0 a0_1 _ _ l0_2 true _ ?side1 ?side2 A3.out).mono ?_);(case side1=>repeat(first|exact(Kd.C_below HR0_2.out HB.out)|(with_reducible refine Kd.C_alloc ?_ _)|(with_reducible refine Kd.C_drewN ?_ _)|(with_reducible refine Kd.C_drew ?_)));(case side2=>exact HC0_2.out);rintro e w30 ⟨rfl,hb⟩;refine⟨_,rfl,?_⟩;have n0_:=Ka (Km (g:=gb240) (o:=.cells #[.int .i64 a0_0,.int .i64 a0_1,.slice A0_2 l0_2.length c0_2] 27 (0,0)) (by(with_reducible repeat(first|refine Kk ?_ _|refine Kg ?_|refine Kj ?_ _));exact BK240.out) hb);have n1_:=Ka (Km (g:=gb241) (o:=.cells #[.int .i64 a1_0,.int .i64 a1_1,.slice A1_2 l1_2.length c1_2] 27 (0,0)) (by(with_reducible repeat(first|refine Kk ?_ _|refine Kg ?_|refine Kj ?_ _));exact BK241.out) hb);have n2_:=Ka (Kn (by repeat(first|(with_reducible first|exact HB.out|apply Kf|apply Kb|apply Ke|refine Kh ?_ GE240.out|refine Kh ?_ GE241.out)|exact HB.out)) hb);clear BK240;clear BK241;clear HB;have BK240:=n0_;have BK241:=n1_;have HB:=n2_;clear n0_ n1_ n2_;(try clear hb);(try clear hb2);(try clear hk);(try clear hi);have hcz31_0:w30.cell? ⟨gb241,0,none⟩=some (.int .i64 a1_0):=(Kc BK241.out 0).trans rfl;have hcz31_1:w30.cell? ⟨gb241,1,none⟩=some (.int .i64 a1_1):=(Kc BK241.out 1).trans rfl;have hcz31_2:w30.cell? ⟨gb241,2,none⟩=some (.slice A1_2 l1_2.length c1_2):=(Kc BK241.out 2).trans rfl;have hfz31_0:=Ki BK241.out 0;have hfz31_1:=Ki BK241.out 1;have hfz31_2:=Ki BK241.out 2)|(go_at_call 17;(with_reducible refine(impl_PictureOk.calls a1_0 a1_1 _ _ l1_2 false _ ?side1 ?side2 A5.out).mono ?_);(case side1=>repeat(first|exact(Kd.C_below HR1_2.out HB.out)|(with_reducible refine Kd.C_alloc ?_ _)|(with_reducible refine Kd.C_drewN ?_ _)|(with_reducible refine Kd.C_drew ?_)));(case side2=>exact HC1_2.out);rintro e w32 ⟨rfl,hb⟩;have n0_:=Ka (Km (g:=gb240) (o:=.cells #[.int .i64 a0_0,.int .i64 a0_1,.slice A0_2 l0_2.length c0_2] 27 (0,0)) (by(with_reducible repeat(first|refine Kk ?_ _|refine Kg ?_|refine Kj ?_ _));exact BK240.out) hb);have n1_:=Ka (Km (g:=gb241) (o:=.cells #[.int .i64 a1_0,.int .i64 a1_1,.slice A1_2 l1_2.length c1_2] 27 (0,0)) (by(with_reducible repeat(first|refine Kk ?_ _|refine Kg ?_|refine Kj ?_ _));exact BK241.out) hb);have n2_:=Ka (Kn (by repeat(first|(with_reducible first|exact HB.out|apply Kf|apply Kb|apply Ke|refine Kh ?_ GE240.out|refine Kh ?_ GE241.out)|exact HB.out)) hb);clear BK240;clear BK241;clear HB;have BK240:=n0_;have BK241:=n1_;have HB:=n2_;clear n0_ n1_ n2_;(try clear hb);(try clear hb2);(try clear hk);(try clear hi)))
   go_ret
   exact⟨by first|rfl|(simp [errW_none,errW_some] <;> rfl)|(simp [*,errW_none,errW_some] <;> rfl),by repeat(first|(with_reducible first|exact HB.out|apply Kf|apply Kb|apply Ke|refine Kh ?_ GE240.out|refine Kh ?_ GE241.out)|exact HB.out)⟩
 ·replace c4:=Bool.eq_false_iff.mpr c4
  subst c4
  have H1:(some false)=some r:=by rw [if_neg (show ¬ (false=true) by decide)] at H;exact H
  clear H
  have H:=H1
  clear H1
  obtain rfl:=Option.some.inj H
  go_enter Try.func69,Try.ntmps69
  go_wp2_with (first|((with_reducible refine gate_dst (N:=2) rfl ?_);refine box_event ?hg (N:=2) ?hd (cs:=#[.int .i64 a0_0,.int .i64 a0_1,.slice A0_2 l0_2.length c0_2]) (t:=27) ?hr ?_;(case hd=>rfl);(case hg=>rfl);(case hr=>first|(go_simp;done)|(go_simp;rfl));intro gb240 hg w33 hbox hb;have n0_:=Ka (Kn (by repeat(first|(with_reducible first|exact HB.out|apply Kf|apply Kb|apply Ke)|exact HB.out)) hb);have n1_:=Ka (hbox);have n2_:=Ka ((by rw [hg];exact(Kl (by repeat(first|(with_reducible first|exact HB.out|apply Kf|apply Kb|apply Ke)|exact HB.out))):w.heap.size≤gb240));have n3_:=Ka ((by rw [hg];exact(Kl (by repeat(first|(with_reducible first|exact HB.out|apply Kf|apply Kb|apply Ke)|exact HB.out))):w.heap.size≤gb240));clear HB;have HB:=n0_;have BK240:=n1_;have GW240:=n2_;have GE240:=n3_;clear n0_ n1_ n2_ n3_;clear hb hbox hg)|((with_reducible refine gate_dst (N:=3) rfl ?_);refine box_event ?hg (N:=3) ?hd (cs:=#[.int .i64 a1_0,.int .i64 a1_1,.slice A1_2 l1_2.length c1_2]) (t:=27) ?hr ?_;(case hd=>rfl);(case hg=>rfl);(case hr=>first|(go_simp;done)|(go_simp;rfl));intro gb241 hg w34 hbox hb;have n0_:=Ka (Km (g:=gb240) (o:=.cells #[.int .i64 a0_0,.int .i64 a0_1,.slice A0_2 l0_2.length c0_2] 27 (0,0)) (by(with_reducible repeat(first|refine Kk ?_ _|refine Kg ?_|refine Kj ?_ _));exact BK240.out) hb);have n1_:=Ka (Kn (by repeat(first|(with_reducible first|exact HB.out|apply Kf|apply Kb|apply Ke|refine Kh ?_ GE240.out)|exact HB.out)) hb);have n2_:=Ka (hbox);have n3_:=Ka ((by rw [hg];exact(Kl (by repeat(first|(with_reducible first|exact HB.out|apply Kf|apply Kb|apply Ke|refine Kh ?_ GE240.out)|exact HB.out))):w.heap.size≤gb241));have n4_:=Ka ((by rw [hg];exact(Kl (by repeat(first|(with_reducible first|exact HB.out|apply Kf|apply Kb|apply Ke|refine Kh ?_ GE240.out)|exact HB.out))):w.heap.size≤gb241));have n5_:=Ka ((by rw [hg];exact Nat.ne_of_lt (blk_lt (g:=gb240) (o:=.cells #[.int .i64 a0_0,.int .i64 a0_1,.slice A0_2 l0_2.length c0_2] 27 (0,0)) (by(with_reducible repeat(first|refine Kk ?_ _|refine Kg ?_|refine Kj ?_ _));exact BK240.out)):gb240≠gb241));have n6_:=Ka ((by rw [hg];exact Nat.ne_of_gt (blk_lt (g:=gb240) (o:=.cells #[.int .i64 a0_0,.int .i64 a0_1,.slice A0_2 l0_2.length c0_2] 27 (0,0)) (by(with_reducible repeat(first|refine Kk ?_ _|refine Kg ?_|refine Kj ?_ _));exact BK240.out)):gb241≠gb240));clear BK240;clear HB;have BK240:=n0_;have HB:=n1_;have BK241:=n2_;have GW241:=n3_;have GE241:=n4_;have NB240_241:=n5_;have NB241_240:=n6_;clear n0_ n1_ n2_ n3_ n4_ n5_ n6_;clear hb hbox hg;have hnb35:=NB240_241.out;have hnc35:=NB241_240.out;have hcz36_0:w34.cell? ⟨gb240,0,none⟩=some (.int .i64 a0_0):=(Kc BK240.out 0).trans rfl;have hcz36_1:w34.cell? ⟨gb240,1,none⟩=some (.int .i64 a0_1):=(Kc BK240.out 1).trans rfl;have hcz36_2:w34.cell? ⟨gb240,2,none⟩=some (.slice A0_2 l0_2.length c0_2):=(Kc BK240.out 2).trans rfl;have hfz36_0:=Ki BK240.out 0;have hfz36_1:=Ki BK240.out 1;have hfz36_2:=Ki BK240.out 2)|((with_reducible refine Ko (f:=17) rfl ?_);refine goesL_ (some 6) rfl rfl Try.func17 (by kernel_rfl) rfl #[.agg #[.int .i64 a0_0,.int .i64 a0_1,.slice A0_2 l0_2.length c0_2]] rfl (by(try simp only [List.map_toArray,List.map_cons,List.map_nil]);first|done|rfl|(simp only [List.length_drop,List.length_take];rfl)) ?_;(with_reducible refine(impl_PictureOk.calls a0_0 a0_1 _ _ l0_2 false _ ?side1 ?side2 A3.out).mono ?_);(case side1=>repeat(first|exact(Kd.C_below HR0_2.out HB.out)|(with_reducible refine Kd.C_alloc ?_ _)|(with_reducible refine Kd.C_drewN ?_ _)|(with_reducible refine Kd.C_drew ?_)));(case side2=>exact HC0_2.out);rintro e w37 ⟨rfl,hb⟩;refine⟨_,rfl,?_⟩;have n0_:=Ka (Km (g:=gb240) (o:=.cells #[.int .i64 a0_0,.int .i64 a0_1,.slice A0_2 l0_2.length c0_2] 27 (0,0)) (by(with_reducible repeat(first|refine Kk ?_ _|refine Kg ?_|refine Kj ?_ _));exact BK240.out) hb);have n1_:=Ka (Km (g:=gb241) (o:=.cells #[.int .i64 a1_0,.int .i64 a1_1,.slice A1_2 l1_2.length c1_2] 27 (0,0)) (by(with_reducible repeat(first|refine Kk ?_ _|refine Kg ?_|refine Kj ?_ _));exact BK241.out) hb);have n2_:=Ka (Kn (by repeat(first|(with_reducible first|exact HB.out|apply Kf|apply Kb|apply Ke|refine Kh ?_ GE240.out|refine Kh ?_ GE241.out)|exact HB.out)) hb);clear BK240;clear BK241;clear HB;have BK240:=n0_;have BK241:=n1_;have HB:=n2_;clear n0_ n1_ n2_;(try clear hb);(try clear hb2);(try clear hk);(try clear hi)))
  go_ret
  exact⟨by first|rfl|(simp [errW_none,errW_some] <;> rfl)|(simp [*,errW_none,errW_some] <;> rfl),by repeat(first|(with_reducible first|exact HB.out|apply Kf|apply Kb|apply Ke|refine Kh ?_ GE240.out|refine Kh ?_ GE241.out)|exact HB.out)⟩

/-! ### impl_offBy: function 87 -/
def impl_offBy.l0 : Nat → List Int → Int → List Int → Int → Int → Option (Int)
 | 0, _, _, _, _, _ => none
 | k + 1, x1, x5, x8, x9, x10 => if x10 < x9 then (if 0 ≤ x10 then (if x10 < (x8.length : Int) then (if x10 < (x1.length : Int) then (impl_offBy.l0 k x1 (wrap64 (x5 + (mx (wrap64 ((rd x8 x10) - (rd x1 x10))) (wrap64 ((rd x1 x10) - (rd x8 x10)))))) x8 x9 (wrap64 (x10 + 1))) else (none)) else (none)) else (none)) else (some x5)
def impl_offBy.f (k : Nat) (l0 : List Int) (l1 : List Int) : Option (Int) := impl_offBy.l0 k l1 0 l0 (l0.length : Int) 0
theorem impl_offBy.mono_l : ∀ k, (∀ y0 y1 y2 y3 y4, LeO (impl_offBy.l0 k y0 y1 y2 y3 y4) (impl_offBy.l0 (k + 1) y0 y1 y2 y3 y4))
 | 0 => fun _ _ _ _ _ r h => by simp [impl_offBy.l0] at h
 | k + 1 => by
  have ih0:=impl_offBy.mono_l k
  ·intro y0 y1 y2 y3 y4
   unfold impl_offBy.l0
   repeat' first
   | (with_reducible exact ih0 _ _ _ _ _)
   | (with_reducible exact LeO.refl _)
   | (with_reducible exact LeO.none _)
   | (with_reducible refine LeO.ite ?_ ?_)
   | (with_reducible refine LeO.bind ?_ (fun _ => ?_))
   | exact ih0 _ _ _ _ _
   | exact LeO.none _
   | refine LeO.ite ?_ ?_
   | refine LeO.bind ?_ (fun _ => ?_)
theorem impl_offBy.mono : ∀ a0 a1 k, LeO (impl_offBy.f k a0 a1) (impl_offBy.f (k + 1) a0 a1) := by
 intro a0 a1 k
 have ih0:=impl_offBy.mono_l k
 unfold impl_offBy.f
 repeat' first
   | (with_reducible exact ih0 _ _ _ _ _)
   | (with_reducible exact LeO.refl _)
   | (with_reducible exact LeO.none _)
   | (with_reducible refine LeO.ite ?_ ?_)
   | (with_reducible refine LeO.bind ?_ (fun _ => ?_))
   | exact ih0 _ _ _ _ _
   | exact LeO.none _
   | refine LeO.ite ?_ ?_
   | refine LeO.bind ?_ (fun _ => ?_)
set_option maxHeartbeats 8000000 in
set_option maxRecDepth 100000 in
theorem impl_offBy.calls (k : Nat) (A0 : Option Addr) (c0 : Nat) (l0 : List Int) (A1 : Option Addr) (c1 : Nat) (l1 : List Int) (r : Int) (w : World) (hr0 : Kd.C (Kd.int .i64) w A0 l0.length l0) (hc0 : l0.length ≤ c0) (hr1 : Kd.C (Kd.int .i64) w A1 l1.length l1) (hc1 : l1.length ≤ c1) (h : impl_offBy.f k l0 l1 = some r) :
  Calls Try.prog 87 #[.slice A0 l0.length c0,.slice A1 l1.length c1] w fun e w'=>e=.returned (.int .i64 r)∧Below w.heap.size w w':=by
 have HR0:=Ka hr0
 have HC0:=Ka hc0
 clear hr0 hc0
 have HR1:=Ka hr1
 have HC1:=Ka hc1
 clear hr1 hc1
 have HB:=Ka (Below.refl w.heap.size w)
 have H:(impl_offBy.l0 k l1 0 l0 (l0.length:Int) 0)=some r:=h
 clear h
 have H':=Ka H
 clear H
 go_enter Try.func87,Try.ntmps87
 go_wp2
 repeat(go_quiet (fail);try go_wp2)
 go_loopg [5,10] k (fun kq v5 v10 w'=>∃ (x5_1:Int) (x10_1:Int),v5=.int .i64 x5_1∧v10=.int .i64 x10_1∧Aside0 (impl_offBy.l0 kq l1 x5_1 l0 (l0.length:Int) x10_1=some r)∧Aside0 (kq≤k)∧Aside0 (Below w.heap.size w w'))
 case atStart=>exact⟨(0),(0),(by first|rfl|(simp;done)|(simp [*];done)),(by first|rfl|(simp;done)|(simp [*];done)),H',⟨Nat.le_refl _⟩,⟨by repeat(first|(with_reducible first|exact HB.out|apply Kf|apply Kb|apply Ke)|exact HB.out)⟩⟩
 case round=>
  clear H'
  try clear c1
  try clear p2
  obtain⟨x5_1,x10_1,rfl,rfl,HA,HK1,HB⟩:=hrel
  cases gk with
  | zero => exact absurd HA.out (by simp [impl_offBy.l0])
  | succ k1 =>
   have H:=HA.out
   clear HA
   simp only [impl_offBy.l0] at H
   by_cases c3:x10_1 < (l0.length:Int)
   ·rw [if_pos c3] at H
    have c3b0:decide (x10_1 < (l0.length:Int))=true:=decide_eq_true c3
    clear c3
    by_cases c4:0≤x10_1
    ·rw [if_pos c4] at H
     have c4b0:decide (0≤x10_1)=true:=decide_eq_true c4
     clear c4
     by_cases c5:x10_1 < (l0.length:Int)
     ·rw [if_pos c5] at H
      have c5b0:decide (x10_1 < (l0.length:Int))=true:=decide_eq_true c5
      clear c5
      by_cases c6:x10_1 < (l1.length:Int)
      ·rw [if_pos c6] at H
       have c6b0:decide (x10_1 < (l1.length:Int))=true:=decide_eq_true c6
       clear c6
       obtain⟨ji7,hji7⟩:∃ j_:Int,(mx (wrap64 ((rd l0 x10_1) - (rd l1 x10_1))) (wrap64 ((rd l1 x10_1) - (rd l0 x10_1))))=j_:=⟨_,rfl⟩
       replace H:(impl_offBy.l0 k1 l1 (wrap64 (x5_1+(ji7))) l0 (l0.length:Int) (wrap64 (x10_1+1)))=some r:=by first|(rw [hji7] at H;exact H)|(simp only [hji7] at H ⊢;exact H)
       have hji7_:(if (wrap64 ((rd l0 x10_1) - (rd l1 x10_1))) < (wrap64 ((rd l1 x10_1) - (rd l0 x10_1))) then (wrap64 ((rd l1 x10_1) - (rd l0 x10_1))) else (wrap64 ((rd l0 x10_1) - (rd l1 x10_1))))=ji7:=hji7
       have H':=Ka H
       clear H
       have p244:0≤(x10_1:Int):=of_decide_eq_true (by first|(with_reducible assumption)|assumption)
       have q244:x10_1 < (l0.length:Int):=of_decide_eq_true (by first|(with_reducible assumption)|assumption)
       obtain⟨ad244,e244,hx244_0⟩:=Kd.at_int HR0.out x10_1 p244 q244
       cases e244
       replace hx244_0:=(HB.out.cell (World.block_lt_of_cell? w _ hx244_0)).trans hx244_0
       replace p244:=eq_true p244
       replace q244:=eq_true q244
       have p245:0≤(x10_1:Int):=of_decide_eq_true (by first|(with_reducible assumption)|assumption)
       have q245:x10_1 < (l1.length:Int):=of_decide_eq_true (by first|(with_reducible assumption)|assumption)
       obtain⟨ad245,e245,hx245_0⟩:=Kd.at_int HR1.out x10_1 p245 q245
       cases e245
       replace hx245_0:=(HB.out.cell (World.block_lt_of_cell? w _ hx245_0)).trans hx245_0
       replace p245:=eq_true p245
       replace q245:=eq_true q245
       have p246:0≤(x10_1:Int):=of_decide_eq_true (by first|(with_reducible assumption)|assumption)
       have q246:x10_1 < (l1.length:Int):=of_decide_eq_true (by first|(with_reducible assumption)|assumption)
       obtain⟨ad246,e246,hx246_0⟩:=Kd.at_int HR1.out x10_1 p246 q246
       obtain rfl:ad245=ad246:=(by injection e246)
       replace hx246_0:=(HB.out.cell (World.block_lt_of_cell? w _ hx246_0)).trans hx246_0
       replace p246:=eq_true p246
       replace q246:=eq_true q246
       go_wp2
       repeat(go_quiet (fail);try go_wp2)
       go_roundg k1
       case measure=>have:=HK1.out;omega
       case rel=>exact⟨(wrap64 (x5_1+(ji7))),(wrap64 (x10_1+1)),(by first|rfl|(simp;done)|(simp only [← hji7] <;> (first|rfl|simp))|(simp [*];done)),(by first|rfl|(simp;done)|(simp [*];done)),H',⟨by have:=HK1.out;omega⟩,⟨by repeat(first|(with_reducible first|exact HB.out|apply Kf|apply Kb|apply Ke)|exact HB.out)⟩⟩
      ·rw [if_neg c6] at H
       exact absurd H (by simp)
     ·rw [if_neg c5] at H
      exact absurd H (by simp)
    ·rw [if_neg c4] at H
     exact absurd H (by simp)
   ·rw [if_neg c3] at H
    have c3b0:decide (x10_1 < (l0.length:Int))=false:=decide_eq_false c3
    clear c3
    obtain rfl:=Option.some.inj H
    go_wp2
    repeat(go_quiet (fail);try go_wp2)
    go_ret
    exact⟨by first|rfl|(simp [errW_none,errW_some] <;> rfl)|(simp [*,errW_none,errW_some] <;> rfl),by repeat(first|(with_reducible first|exact HB.out|apply Kf|apply Kb|apply Ke)|exact HB.out)⟩

/-! ### cmp_Or_int: function 90 -/
def cmp_Or_int.l0 : Nat → Int → List Int → Int → Int → Option (Int)
 | 0, _, _, _, _ => none
 | k + 1, x3, x6, x7, x8 => if x8 < x7 then (if 0 ≤ x8 then (if x8 < (x6.length : Int) then (if (rd x6 x8) = x3 then (cmp_Or_int.l0 k x3 x6 x7 (wrap64 (x8 + 1))) else (some (rd x6 x8))) else (none)) else (none)) else (some x3)
def cmp_Or_int.f (k : Nat) (l0 : List Int) : Option (Int) := cmp_Or_int.l0 k 0 l0 (l0.length : Int) 0
theorem cmp_Or_int.mono_l : ∀ k, (∀ y0 y1 y2 y3, LeO (cmp_Or_int.l0 k y0 y1 y2 y3) (cmp_Or_int.l0 (k + 1) y0 y1 y2 y3))
 | 0 => fun _ _ _ _ r h => by simp [cmp_Or_int.l0] at h
 | k + 1 => by
  have ih0:=cmp_Or_int.mono_l k
  ·intro y0 y1 y2 y3
   unfold cmp_Or_int.l0
   repeat' first
   | (with_reducible exact ih0 _ _ _ _)
   | (with_reducible exact LeO.refl _)
   | (with_reducible exact LeO.none _)
   | (with_reducible refine LeO.ite ?_ ?_)
   | (with_reducible refine LeO.bind ?_ (fun _ => ?_))
   | exact ih0 _ _ _ _
   | exact LeO.none _
   | refine LeO.ite ?_ ?_
   | refine LeO.bind ?_ (fun _ => ?_)
theorem cmp_Or_int.mono : ∀ a0 k, LeO (cmp_Or_int.f k a0) (cmp_Or_int.f (k + 1) a0) := by
 intro a0 k
 have ih0:=cmp_Or_int.mono_l k
 unfold cmp_Or_int.f
 repeat' first
   | (with_reducible exact ih0 _ _ _ _)
   | (with_reducible exact LeO.refl _)
   | (with_reducible exact LeO.none _)
   | (with_reducible refine LeO.ite ?_ ?_)
   | (with_reducible refine LeO.bind ?_ (fun _ => ?_))
   | exact ih0 _ _ _ _
   | exact LeO.none _
   | refine LeO.ite ?_ ?_
   | refine LeO.bind ?_ (fun _ => ?_)
set_option maxHeartbeats 8000000 in
set_option maxRecDepth 100000 in
theorem cmp_Or_int.calls (k : Nat) (A0 : Option Addr) (c0 : Nat) (l0 : List Int) (r : Int) (w : World) (hr0 : Kd.C (Kd.int .i64) w A0 l0.length l0) (hc0 : l0.length ≤ c0) (h : cmp_Or_int.f k l0 = some r) :
  Calls Try.prog 90 #[.slice A0 l0.length c0] w fun e w'=>e=.returned (.int .i64 r)∧Drawn0 w w':=by
 have HR0:=Ka hr0
 have HC0:=Ka hc0
 clear hr0 hc0
 have H:(cmp_Or_int.l0 k 0 l0 (l0.length:Int) 0)=some r:=h
 clear h
 have H':=Ka H
 clear H
 go_enter Try.func90,Try.ntmps90
 go_wp2
 go_loopg [8] k (fun kq v8 w'=>∃ (x8_1:Int),v8=.int .i64 x8_1∧Aside0 (cmp_Or_int.l0 kq 0 l0 (l0.length:Int) x8_1=some r)∧Aside0 (kq≤k)∧Drawn0 w w')
 case atStart=>exact⟨(0),(by first|rfl|(simp;done)|(simp [*];done)),H',⟨Nat.le_refl _⟩,by repeat(first|exact Drawn0.refl _|apply Drawn0.step)⟩
 case round=>
  clear H'
  obtain⟨x8_1,rfl,HA,HK1,⟨m1,rfl⟩⟩:=hrel
  cases gk with
  | zero => exact absurd HA.out (by simp [cmp_Or_int.l0])
  | succ k1 =>
   have H:=HA.out
   clear HA
   simp only [cmp_Or_int.l0] at H
   by_cases c2:x8_1 < (l0.length:Int)
   ·rw [if_pos c2] at H
    have c2b0:decide (x8_1 < (l0.length:Int))=true:=decide_eq_true c2
    clear c2
    by_cases c3:0≤x8_1
    ·rw [if_pos c3] at H
     have c3b0:decide (0≤x8_1)=true:=decide_eq_true c3
     clear c3
     by_cases c4:x8_1 < (l0.length:Int)
     ·rw [if_pos c4] at H
      have c4b0:decide (x8_1 < (l0.length:Int))=true:=decide_eq_true c4
      clear c4
      by_cases c5:(rd l0 x8_1)=0
      ·rw [if_pos c5] at H
       have c5b0:((rd l0 x8_1) == 0)=true:=beq_iff_eq.mpr c5
       have c5b1:((rd l0 x8_1) != 0)=false:=bne_eq_false_iff_eq.mpr c5
       clear c5
       have H':=Ka H
       clear H
       have p247:0≤(x8_1:Int):=of_decide_eq_true (by first|(with_reducible assumption)|assumption)
       have q247:x8_1 < (l0.length:Int):=of_decide_eq_true (by first|(with_reducible assumption)|assumption)
       obtain⟨ad247,e247,hx247_0⟩:=Kd.at_int HR0.out x8_1 p247 q247
       cases e247
       replace p247:=eq_true p247
       replace q247:=eq_true q247
       go_wp2
       go_roundg k1
       case measure=>have:=HK1.out;omega
       case rel=>exact⟨(wrap64 (x8_1+1)),(by first|rfl|(simp;done)|(simp [*];done)),H',⟨by have:=HK1.out;omega⟩,by repeat(first|exact Drawn0.refl _|apply Drawn0.step)⟩
      ·rw [if_neg c5] at H
       have c5b0:((rd l0 x8_1) == 0)=false:=beq_eq_false_iff_ne.mpr c5
       have c5b1:((rd l0 x8_1) != 0)=true:=bne_iff_ne.mpr c5
       obtain rfl:=Option.some.inj H
       have p247:0≤(x8_1:Int):=of_decide_eq_true (by first|(with_reducible assumption)|assumption)
       have q247:x8_1 < (l0.length:Int):=of_decide_eq_true (by first|(with_reducible assumption)|assumption)
       obtain⟨ad247,e247,hx247_0⟩:=Kd.at_int HR0.out x8_1 p247 q247
       cases e247
       replace p247:=eq_true p247
       replace q247:=eq_true q247
       go_wp2
       go_ret
       exact⟨by first|rfl|(simp;done)|(simp [*];done),by repeat(first|exact Drawn0.refl _|apply Drawn0.step)⟩
     ·rw [if_neg c4] at H
      exact absurd H (by simp)
    ·rw [if_neg c3] at H
     exact absurd H (by simp)
   ·rw [if_neg c2] at H
    have c2b0:decide (x8_1 < (l0.length:Int))=false:=decide_eq_false c2
    clear c2
    obtain rfl:=Option.some.inj H
    go_wp2
    go_ret
    exact⟨by first|rfl|(simp;done)|(simp [*];done),by repeat(first|exact Drawn0.refl _|apply Drawn0.step)⟩

/-! ### cmp_isNaN_int64: function 98 -/
def cmp_isNaN_int64.f (a0 : Int) : Option (Bool) := some (a0 != a0)
set_option maxHeartbeats 8000000 in
set_option maxRecDepth 100000 in
theorem cmp_isNaN_int64.calls (a0 : Int) (r : Bool) (w : World) (h : cmp_isNaN_int64.f a0 = some r) :
  Calls Try.prog 98 #[.int .i64 a0] w fun e w'=>e=.returned (.bool r)∧Drawn0 w w':=by
 have H:(some (a0 != a0))=some r:=h
 clear h
 obtain rfl:=Option.some.inj H
 go_enter Try.func98,Try.ntmps98
 go_wp2
 go_ret
 exact⟨by first|rfl|(simp;done)|(simp [*];done),by repeat(first|exact Drawn0.refl _|apply Drawn0.step)⟩

/-! ### cmp_Compare_int64: function 91 -/
def cmp_Compare_int64.f (a0 : Int) (a1 : Int) : Option (Int) := (cmp_isNaN_int64.f a0).bind fun t248 => ((cmp_isNaN_int64.f a1).bind fun t249 => (if t248 = true then (if t249 = true then (some 0) else (some (-1))) else (if t249 = true then (some 1) else (if a0 < a1 then (some (-1)) else (if a0 > a1 then (some 1) else (some 0))))))
set_option maxHeartbeats 8000000 in
set_option maxRecDepth 100000 in
theorem cmp_Compare_int64.calls (a0 : Int) (a1 : Int) (r : Int) (w : World) (h : cmp_Compare_int64.f a0 a1 = some r) :
  Calls Try.prog 91 #[.int .i64 a0,.int .i64 a1] w fun e w'=>e=.returned (.int .i64 r)∧Drawn0 w w':=by
 have H:((cmp_isNaN_int64.f a0).bind fun t248=>((cmp_isNaN_int64.f a1).bind fun t249=>(if t248=true then (if t249=true then (some 0) else (some (-1))) else (if t249=true then (some 1) else (if a0 < a1 then (some (-1)) else (if a0 > a1 then (some 1) else (some 0)))))))=some r:=h
 clear h
 replace H:=Option.bind_eq_some_iff.mp H
 obtain⟨t248,A30,H⟩:=H
 replace H:((cmp_isNaN_int64.f a1).bind fun t249=>(if t248=true then (if t249=true then (some 0) else (some (-1))) else (if t249=true then (some 1) else (if a0 < a1 then (some (-1)) else (if a0 > a1 then (some 1) else (some 0))))))=some r:=H
 have A3:=Ka A30
 clear A30
 replace H:=Option.bind_eq_some_iff.mp H
 obtain⟨t249,A40,H⟩:=H
 replace H:(if t248=true then (if t249=true then (some 0) else (some (-1))) else (if t249=true then (some 1) else (if a0 < a1 then (some (-1)) else (if a0 > a1 then (some 1) else (some 0)))))=some r:=H
 have A4:=Ka A40
 clear A40
 by_cases c5:t248=true
 ·subst c5
  have H1:(if t249=true then (some 0) else (some (-1)))=some r:=by rw [if_pos rfl] at H;exact H
  clear H
  have H:=H1
  clear H1
  by_cases c6:t249=true
  ·subst c6
   have H1:(some 0)=some r:=by rw [if_pos rfl] at H;exact H
   clear H
   have H:=H1
   clear H1
   obtain rfl:=Option.some.inj H
   go_enter Try.func91,Try.ntmps91
   go_wp2_with (first|((with_reducible refine Ko (f:=98) rfl ?_);refine goesL_ (some 8) rfl rfl Try.func98 (by kernel_rfl) rfl #[.int .i64 a0] rfl (by(try simp only [List.map_toArray,List.map_cons,List.map_nil]);first|done|rfl|(simp only [List.length_drop,List.length_take];rfl)) ?_;(with_reducible refine(cmp_isNaN_int64.calls a0 true _ A3.out).mono ?_);rintro e w' ⟨rfl,⟨nd,rfl⟩⟩;refine⟨_,rfl,?_⟩)|((with_reducible refine Ko (f:=98) rfl ?_);refine goesL_ (some 10) rfl rfl Try.func98 (by kernel_rfl) rfl #[.int .i64 a1] rfl (by(try simp only [List.map_toArray,List.map_cons,List.map_nil]);first|done|rfl|(simp only [List.length_drop,List.length_take];rfl)) ?_;(with_reducible refine(cmp_isNaN_int64.calls a1 true _ A4.out).mono ?_);rintro e w' ⟨rfl,⟨nd,rfl⟩⟩;refine⟨_,rfl,?_⟩))
   go_ret
   exact⟨by first|rfl|(simp;done)|(simp [*];done),by repeat(first|exact Drawn0.refl _|apply Drawn0.step)⟩
  ·replace c6:=Bool.eq_false_iff.mpr c6
   subst c6
   have H1:(some (-1))=some r:=by rw [if_neg (show ¬ (false=true) by decide)] at H;exact H
   clear H
   have H:=H1
   clear H1
   obtain rfl:=Option.some.inj H
   go_enter Try.func91,Try.ntmps91
   go_wp2_with (first|((with_reducible refine Ko (f:=98) rfl ?_);refine goesL_ (some 8) rfl rfl Try.func98 (by kernel_rfl) rfl #[.int .i64 a0] rfl (by(try simp only [List.map_toArray,List.map_cons,List.map_nil]);first|done|rfl|(simp only [List.length_drop,List.length_take];rfl)) ?_;(with_reducible refine(cmp_isNaN_int64.calls a0 true _ A3.out).mono ?_);rintro e w' ⟨rfl,⟨nd,rfl⟩⟩;refine⟨_,rfl,?_⟩)|((with_reducible refine Ko (f:=98) rfl ?_);refine goesL_ (some 10) rfl rfl Try.func98 (by kernel_rfl) rfl #[.int .i64 a1] rfl (by(try simp only [List.map_toArray,List.map_cons,List.map_nil]);first|done|rfl|(simp only [List.length_drop,List.length_take];rfl)) ?_;(with_reducible refine(cmp_isNaN_int64.calls a1 false _ A4.out).mono ?_);rintro e w' ⟨rfl,⟨nd,rfl⟩⟩;refine⟨_,rfl,?_⟩))
   go_ret
   exact⟨by first|rfl|(simp;done)|(simp [*];done),by repeat(first|exact Drawn0.refl _|apply Drawn0.step)⟩
 ·replace c5:=Bool.eq_false_iff.mpr c5
  subst c5
  have H1:(if t249=true then (some 1) else (if a0 < a1 then (some (-1)) else (if a0 > a1 then (some 1) else (some 0))))=some r:=by rw [if_neg (show ¬ (false=true) by decide)] at H;exact H
  clear H
  have H:=H1
  clear H1
  by_cases c7:t249=true
  ·subst c7
   have H1:(some 1)=some r:=by rw [if_pos rfl] at H;exact H
   clear H
   have H:=H1
   clear H1
   obtain rfl:=Option.some.inj H
   go_enter Try.func91,Try.ntmps91
   go_wp2_with (first|((with_reducible refine Ko (f:=98) rfl ?_);refine goesL_ (some 8) rfl rfl Try.func98 (by kernel_rfl) rfl #[.int .i64 a0] rfl (by(try simp only [List.map_toArray,List.map_cons,List.map_nil]);first|done|rfl|(simp only [List.length_drop,List.length_take];rfl)) ?_;(with_reducible refine(cmp_isNaN_int64.calls a0 false _ A3.out).mono ?_);rintro e w' ⟨rfl,⟨nd,rfl⟩⟩;refine⟨_,rfl,?_⟩)|((with_reducible refine Ko (f:=98) rfl ?_);refine goesL_ (some 10) rfl rfl Try.func98 (by kernel_rfl) rfl #[.int .i64 a1] rfl (by(try simp only [List.map_toArray,List.map_cons,List.map_nil]);first|done|rfl|(simp only [List.length_drop,List.length_take];rfl)) ?_;(with_reducible refine(cmp_isNaN_int64.calls a1 true _ A4.out).mono ?_);rintro e w' ⟨rfl,⟨nd,rfl⟩⟩;refine⟨_,rfl,?_⟩))
   go_ret
   exact⟨by first|rfl|(simp;done)|(simp [*];done),by repeat(first|exact Drawn0.refl _|apply Drawn0.step)⟩
  ·replace c7:=Bool.eq_false_iff.mpr c7
   subst c7
   have H1:(if a0 < a1 then (some (-1)) else (if a0 > a1 then (some 1) else (some 0)))=some r:=by rw [if_neg (show ¬ (false=true) by decide)] at H;exact H
   clear H
   have H:=H1
   clear H1
   by_cases c8:a0 < a1
   ·rw [if_pos c8] at H
    have c8b0:decide (a0 < a1)=true:=decide_eq_true c8
    clear c8
    obtain rfl:=Option.some.inj H
    go_enter Try.func91,Try.ntmps91
    go_wp2_with (first|((with_reducible refine Ko (f:=98) rfl ?_);refine goesL_ (some 8) rfl rfl Try.func98 (by kernel_rfl) rfl #[.int .i64 a0] rfl (by(try simp only [List.map_toArray,List.map_cons,List.map_nil]);first|done|rfl|(simp only [List.length_drop,List.length_take];rfl)) ?_;(with_reducible refine(cmp_isNaN_int64.calls a0 false _ A3.out).mono ?_);rintro e w' ⟨rfl,⟨nd,rfl⟩⟩;refine⟨_,rfl,?_⟩)|((with_reducible refine Ko (f:=98) rfl ?_);refine goesL_ (some 10) rfl rfl Try.func98 (by kernel_rfl) rfl #[.int .i64 a1] rfl (by(try simp only [List.map_toArray,List.map_cons,List.map_nil]);first|done|rfl|(simp only [List.length_drop,List.length_take];rfl)) ?_;(with_reducible refine(cmp_isNaN_int64.calls a1 false _ A4.out).mono ?_);rintro e w' ⟨rfl,⟨nd,rfl⟩⟩;refine⟨_,rfl,?_⟩))
    go_ret
    exact⟨by first|rfl|(simp;done)|(simp [*];done),by repeat(first|exact Drawn0.refl _|apply Drawn0.step)⟩
   ·rw [if_neg c8] at H
    have c8b0:decide (a0 < a1)=false:=decide_eq_false c8
    clear c8
    by_cases c9:a0 > a1
    ·rw [if_pos c9] at H
     have c9b0:decide (a1 < a0)=true:=decide_eq_true c9
     clear c9
     obtain rfl:=Option.some.inj H
     go_enter Try.func91,Try.ntmps91
     go_wp2_with (first|((with_reducible refine Ko (f:=98) rfl ?_);refine goesL_ (some 8) rfl rfl Try.func98 (by kernel_rfl) rfl #[.int .i64 a0] rfl (by(try simp only [List.map_toArray,List.map_cons,List.map_nil]);first|done|rfl|(simp only [List.length_drop,List.length_take];rfl)) ?_;(with_reducible refine(cmp_isNaN_int64.calls a0 false _ A3.out).mono ?_);rintro e w' ⟨rfl,⟨nd,rfl⟩⟩;refine⟨_,rfl,?_⟩)|((with_reducible refine Ko (f:=98) rfl ?_);refine goesL_ (some 10) rfl rfl Try.func98 (by kernel_rfl) rfl #[.int .i64 a1] rfl (by(try simp only [List.map_toArray,List.map_cons,List.map_nil]);first|done|rfl|(simp only [List.length_drop,List.length_take];rfl)) ?_;(with_reducible refine(cmp_isNaN_int64.calls a1 false _ A4.out).mono ?_);rintro e w' ⟨rfl,⟨nd,rfl⟩⟩;refine⟨_,rfl,?_⟩))
     go_ret
     exact⟨by first|rfl|(simp;done)|(simp [*];done),by repeat(first|exact Drawn0.refl _|apply Drawn0.step)⟩
    ·rw [if_neg c9] at H
     have c9b0:decide (a1 < a0)=false:=decide_eq_false c9
     clear c9
     obtain rfl:=Option.some.inj H
     go_enter Try.func91,Try.ntmps91
     go_wp2_with (first|((with_reducible refine Ko (f:=98) rfl ?_);refine goesL_ (some 8) rfl rfl Try.func98 (by kernel_rfl) rfl #[.int .i64 a0] rfl (by(try simp only [List.map_toArray,List.map_cons,List.map_nil]);first|done|rfl|(simp only [List.length_drop,List.length_take];rfl)) ?_;(with_reducible refine(cmp_isNaN_int64.calls a0 false _ A3.out).mono ?_);rintro e w' ⟨rfl,⟨nd,rfl⟩⟩;refine⟨_,rfl,?_⟩)|((with_reducible refine Ko (f:=98) rfl ?_);refine goesL_ (some 10) rfl rfl Try.func98 (by kernel_rfl) rfl #[.int .i64 a1] rfl (by(try simp only [List.map_toArray,List.map_cons,List.map_nil]);first|done|rfl|(simp only [List.length_drop,List.length_take];rfl)) ?_;(with_reducible refine(cmp_isNaN_int64.calls a1 false _ A4.out).mono ?_);rintro e w' ⟨rfl,⟨nd,rfl⟩⟩;refine⟨_,rfl,?_⟩))
     go_ret
     exact⟨by first|rfl|(simp;done)|(simp [*];done),by repeat(first|exact Drawn0.refl _|apply Drawn0.step)⟩

/-! ### impl_motion_1: function 89 -/
def impl_motion_1.f (k : Nat) (a0_0 : Int) (a0_1 : Int) (a0_2 : Int) (a1_0 : Int) (a1_1 : Int) (a1_2 : Int) : Option (Int) := (cmp_Compare_int64.f a0_0 a1_0).bind fun t252 => ((cmp_Compare_int64.f (wrap64 ((wrap64 (a0_1 * a0_1)) + (wrap64 (a0_2 * a0_2)))) (wrap64 ((wrap64 (a1_1 * a1_1)) + (wrap64 (a1_2 * a1_2))))).bind fun t253 => ((cmp_Compare_int64.f a0_2 a1_2).bind fun t254 => ((cmp_Compare_int64.f a0_1 a1_1).bind fun t255 => ((cmp_Or_int.f k (([t252, t253, t254, t255] : List Int))).bind fun t259 => (some t259)))))
theorem impl_motion_1.mono : ∀ a0 a1 a2 a3 a4 a5 k, LeO (impl_motion_1.f k a0 a1 a2 a3 a4 a5) (impl_motion_1.f (k + 1) a0 a1 a2 a3 a4 a5) := by
 intro a0 a1 a2 a3 a4 a5 k
 unfold impl_motion_1.f
 repeat' first
   | (with_reducible exact cmp_Or_int.mono _ _)
   | (with_reducible exact LeO.refl _)
   | (with_reducible exact LeO.none _)
   | (with_reducible refine LeO.ite ?_ ?_)
   | (with_reducible refine LeO.bind ?_ (fun _ => ?_))
   | exact cmp_Or_int.mono _ _
   | exact LeO.none _
   | refine LeO.ite ?_ ?_
   | refine LeO.bind ?_ (fun _ => ?_)
def impl_motion_1.T1 : Bool × List (List Nat × List Nat) := (true, [([], []), ([0], [0]), ([], []), ([2], [2]), ([1, 3], [1, 3]), ([], []), ([5], [5]), ([], []), ([7], [7]), ([6, 8], [6, 8]), ([], []), ([10], [10]), ([], []), ([12], [12]), ([11, 13], [11, 13]), ([9, 14], [9, 14]), ([], []), ([16], [16]), ([], []), ([18], [18]), ([17, 19], [17, 19]), ([], []), ([21], [21]), ([], []), ([23], [23]), ([22, 24], [22, 24]), ([20, 25], [20, 25]), ([15, 26, 4], [15, 26]), ([], []), ([28], [28]), ([], []), ([30], [30]), ([29, 31, 27], [29, 31]), ([], []), ([33], [33]), ([], []), ([35], [35]), ([34, 36, 32], [34, 36]), ([4, 27, 32, 37], [4, 27, 32, 37]), ([38, 37], [38]), ([39, 39, 0, 1, 2, 3, 4, 5, 6, 7, 8, 9, 10, 11, 12, 13, 14, 15, 16, 17, 18, 19, 20, 21, 22, 23, 24, 25, 26, 27, 28, 29, 30, 31, 32, 33, 34, 35, 36, 37, 38, 39], [39])])
def impl_motion_1.B1 : List Nat := [0, 1, 0, 4, 15, 0, 32, 0, 128, 480, 0, 1024, 0, 4096, 15360, 32736, 0, 65536, 0, 262144, 983040, 0, 2097152, 0, 8388608, 31457280, 67043328, 134217727, 0, 268435456, 0, 1073741824, 4294967295, 0, 8589934592, 0, 34359738368, 137438953471, 274877906943, 549755813887, 1099511627775]
theorem impl_motion_1.tab1 : rtab .any (opsOf Try.f89 1) = impl_motion_1.T1 := by kernel_rfl
theorem impl_motion_1.bits1 : waitsOk impl_motion_1.T1.2 impl_motion_1.B1 = true := by kernel_rfl
set_option maxHeartbeats 8000000 in
set_option maxRecDepth 100000 in
theorem impl_motion_1.calls (k : Nat) (a0_0 : Int) (a0_1 : Int) (a0_2 : Int) (a1_0 : Int) (a1_1 : Int) (a1_2 : Int) (r : Int) (w : World) (h : impl_motion_1.f k a0_0 a0_1 a0_2 a1_0 a1_1 a1_2 = some r) :
  Calls Try.prog 89 #[.agg #[.int .i64 a0_0,.int .i64 a0_1,.int .i64 a0_2],.agg #[.int .i64 a1_0,.int .i64 a1_1,.int .i64 a1_2]] w fun e w'=>e=.returned (.int .i64 r)∧Below w.heap.size w w':=by
 have hu89:=Try.underlying89
 have HB:=Ka (Below.refl w.heap.size w)
 have H:((cmp_Compare_int64.f a0_0 a1_0).bind fun t252=>((cmp_Compare_int64.f (wrap64 ((wrap64 (a0_1*a0_1))+(wrap64 (a0_2*a0_2)))) (wrap64 ((wrap64 (a1_1*a1_1))+(wrap64 (a1_2*a1_2))))).bind fun t253=>((cmp_Compare_int64.f a0_2 a1_2).bind fun t254=>((cmp_Compare_int64.f a0_1 a1_1).bind fun t255=>((cmp_Or_int.f k (([t252,t253,t254,t255]:List Int))).bind fun t259=>(some t259))))))=some r:=h
 clear h
 replace H:=Option.bind_eq_some_iff.mp H
 obtain⟨t252,A30,H⟩:=H
 replace H:((cmp_Compare_int64.f (wrap64 ((wrap64 (a0_1*a0_1))+(wrap64 (a0_2*a0_2)))) (wrap64 ((wrap64 (a1_1*a1_1))+(wrap64 (a1_2*a1_2))))).bind fun t253=>((cmp_Compare_int64.f a0_2 a1_2).bind fun t254=>((cmp_Compare_int64.f a0_1 a1_1).bind fun t255=>((cmp_Or_int.f k (([t252,t253,t254,t255]:List Int))).bind fun t259=>(some t259)))))=some r:=H
 have A3:=Ka A30
 clear A30
 replace H:=Option.bind_eq_some_iff.mp H
 obtain⟨t253,A40,H⟩:=H
 replace H:((cmp_Compare_int64.f a0_2 a1_2).bind fun t254=>((cmp_Compare_int64.f a0_1 a1_1).bind fun t255=>((cmp_Or_int.f k (([t252,t253,t254,t255]:List Int))).bind fun t259=>(some t259))))=some r:=H
 have A4:=Ka A40
 clear A40
 replace H:=Option.bind_eq_some_iff.mp H
 obtain⟨t254,A50,H⟩:=H
 replace H:((cmp_Compare_int64.f a0_1 a1_1).bind fun t255=>((cmp_Or_int.f k (([t252,t253,t254,t255]:List Int))).bind fun t259=>(some t259)))=some r:=H
 have A5:=Ka A50
 clear A50
 replace H:=Option.bind_eq_some_iff.mp H
 obtain⟨t255,A60,H⟩:=H
 replace H:((cmp_Or_int.f k (([t252,t253,t254,t255]:List Int))).bind fun t259=>(some t259))=some r:=H
 have A6:=Ka A60
 clear A60
 obtain⟨y256,hy256⟩:∃ y_:List Int,y_=(([t252,t253,t254,t255]:List Int)):=⟨_,rfl⟩
 replace H:((cmp_Or_int.f k y256).bind fun t259=>(some t259))=some r:=by first|(rw [hy256];with_reducible exact H)|(have H2_:=(Option.bind_some _ _).symm.trans H;rw [hy256];with_reducible exact H2_)|(have H2_:=(Option.bind_some _ _).symm.trans H;with_reducible exact H2_)|with_reducible exact H|(rw [hy256];exact H)|exact H
 have Ny256:=Ka hy256
 clear hy256
 replace H:=Option.bind_eq_some_iff.mp H
 obtain⟨t259,A70,H⟩:=H
 replace H:(some t259)=some r:=H
 have A7:=Ka A70
 clear A70
 obtain rfl:=Option.some.inj H
 go_enter Try.func89,Try.ntmps89
 try go_wp2_with (first|((with_reducible refine gate_dst (N:=2) rfl ?_);refine box_event ?hg (N:=2) ?hd (cs:=#[.int .i64 a0_0,.int .i64 a0_1,.int .i64 a0_2]) (t:=89) ?hr ?_;(case hd=>rfl);(case hg=>rfl);(case hr=>first|(go_simp;done)|(go_simp;rfl));intro qc hg w8 hbox hb;have n0_:=Ka (Kn (by repeat(first|(with_reducible first|exact HB.out|apply Kf|apply Kb|apply Ke)|exact HB.out)) hb);have n1_:=Ka (hbox);have n2_:=Ka ((by rw [hg];exact(Kl (by repeat(first|(with_reducible first|exact HB.out|apply Kf|apply Kb|apply Ke)|exact HB.out))):w.heap.size≤qc));have n3_:=Ka ((by rw [hg];exact(Kl (by repeat(first|(with_reducible first|exact HB.out|apply Kf|apply Kb|apply Ke)|exact HB.out))):w.heap.size≤qc));clear HB;have HB:=n0_;have qa:=n1_;have GW250:=n2_;have qe:=n3_;clear n0_ n1_ n2_ n3_;clear hb hbox hg)|((with_reducible refine gate_dst (N:=3) rfl ?_);refine box_event ?hg (N:=3) ?hd (cs:=#[.int .i64 a1_0,.int .i64 a1_1,.int .i64 a1_2]) (t:=89) ?hr ?_;(case hd=>rfl);(case hg=>rfl);(case hr=>first|(go_simp;done)|(go_simp;rfl));intro qd hg w9 hbox hb;have n0_:=Ka (Km (g:=qc) (o:=.cells #[.int .i64 a0_0,.int .i64 a0_1,.int .i64 a0_2] 89 (0,0)) (by(with_reducible repeat(first|refine Kk ?_ _|refine Kg ?_|refine Kj ?_ _));exact qa.out) hb);have n1_:=Ka (Kn (by repeat(first|(with_reducible first|exact HB.out|apply Kf|apply Kb|apply Ke|refine Kh ?_ qe.out)|exact HB.out)) hb);have n2_:=Ka (hbox);have n3_:=Ka ((by rw [hg];exact(Kl (by repeat(first|(with_reducible first|exact HB.out|apply Kf|apply Kb|apply Ke|refine Kh ?_ qe.out)|exact HB.out))):w.heap.size≤qd));have n4_:=Ka ((by rw [hg];exact(Kl (by repeat(first|(with_reducible first|exact HB.out|apply Kf|apply Kb|apply Ke|refine Kh ?_ qe.out)|exact HB.out))):w.heap.size≤qd));have n5_:=Ka ((by rw [hg];exact Nat.ne_of_lt (blk_lt (g:=qc) (o:=.cells #[.int .i64 a0_0,.int .i64 a0_1,.int .i64 a0_2] 89 (0,0)) (by(with_reducible repeat(first|refine Kk ?_ _|refine Kg ?_|refine Kj ?_ _));exact qa.out)):qc≠qd));have n6_:=Ka ((by rw [hg];exact Nat.ne_of_gt (blk_lt (g:=qc) (o:=.cells #[.int .i64 a0_0,.int .i64 a0_1,.int .i64 a0_2] 89 (0,0)) (by(with_reducible repeat(first|refine Kk ?_ _|refine Kg ?_|refine Kj ?_ _));exact qa.out)):qd≠qc));clear qa;clear HB;have qa:=n0_;have HB:=n1_;have qb:=n2_;have GW251:=n3_;have GE251:=n4_;have NB250_251:=n5_;have NB251_250:=n6_;clear n0_ n1_ n2_ n3_ n4_ n5_ n6_;clear hb hbox hg))
 have n0_:=Ka (Kg qa.out)
 have n1_:=Ka (Kg qb.out)
 have n2_:=Ka (Ke HB.out)
 clear qa
 clear qb
 clear HB
 have qa:=n0_
 have qb:=n1_
 have HB:=n2_
 clear n0_ n1_ n2_
 refine start_ (n:=41) (S:=fun w'=>w'.cell? ⟨qc,0,none⟩=some (.int .i64 a0_0)∧w'.cell? ⟨qc,1,none⟩=some (.int .i64 a0_1)∧w'.cell? ⟨qc,2,none⟩=some (.int .i64 a0_2)∧w'.cell? ⟨qd,0,none⟩=some (.int .i64 a1_0)∧w'.cell? ⟨qd,1,none⟩=some (.int .i64 a1_1)∧w'.cell? ⟨qd,2,none⟩=some (.int .i64 a1_2)) (ds:=[]) #[false,false,false,false,false,false,false,false,false,false,false,false,false,false,false,false,false,false,false,false,false,false,false,false,false,false,false,false,false,false,false,false,false,false,false,false,false,false,false,false,false] (by kernel_rfl) rfl rfl ⟨(Kc qa.out 0).trans rfl,(Kc qa.out 1).trans rfl,(Kc qa.out 2).trans rfl,(Kc qb.out 0).trans rfl,(Kc qb.out 1).trans rfl,(Kc qb.out 2).trans rfl⟩ (fun hHeld=>?_);refine with_tabW impl_motion_1.tab1 impl_motion_1.bits1 (fun HT_ HW_=>?_)
 generalize w9.drew=w10 at qa qb HB hHeld ⊢
 refine pure_ (i:=0) (N:=some 5) (v:=?_) (a':=?_) #[true,false,false,false,false,false,false,false,false,false,false,false,false,false,false,false,false,false,false,false,false,false,false,false,false,false,false,false,false,false,false,false,false,false,false,false,false,false,false,false,false] rfl rfl (any_of HT_.out (by kernel_rfl)) (fun _ _ _ h=>h) (Or.inl ⟨by rfl,?_⟩) ?_ ?_
 rotate_left
 ·intro w'
  go_simp
  with_reducible rfl
 rotate_left
 ·simp only [Act.put,List.setIfInBounds_toArray,List.set_cons_zero,List.set_cons_succ,i64_w,i32_w]
  rfl
 refine pure_ (i:=2) (N:=some 7) (v:=?_) (a':=?_) #[true,false,true,false,false,false,false,false,false,false,false,false,false,false,false,false,false,false,false,false,false,false,false,false,false,false,false,false,false,false,false,false,false,false,false,false,false,false,false,false,false] rfl rfl (any_of HT_.out (by kernel_rfl)) (fun _ _ _ h=>h) (Or.inl ⟨by rfl,?_⟩) ?_ ?_
 rotate_left
 ·intro w'
  go_simp
  with_reducible rfl
 rotate_left
 ·simp only [Act.put,List.setIfInBounds_toArray,List.set_cons_zero,List.set_cons_succ,i64_w,i32_w]
  rfl
 refine pure_ (i:=5) (N:=some 10) (v:=?_) (a':=?_) #[true,false,true,false,false,true,false,false,false,false,false,false,false,false,false,false,false,false,false,false,false,false,false,false,false,false,false,false,false,false,false,false,false,false,false,false,false,false,false,false,false] rfl rfl (any_of HT_.out (by kernel_rfl)) (fun _ _ _ h=>h) (Or.inl ⟨by rfl,?_⟩) ?_ ?_
 rotate_left
 ·intro w'
  go_simp
  with_reducible rfl
 rotate_left
 ·simp only [Act.put,List.setIfInBounds_toArray,List.set_cons_zero,List.set_cons_succ,i64_w,i32_w]
  rfl
 refine pure_ (i:=7) (N:=some 12) (v:=?_) (a':=?_) #[true,false,true,false,false,true,false,true,false,false,false,false,false,false,false,false,false,false,false,false,false,false,false,false,false,false,false,false,false,false,false,false,false,false,false,false,false,false,false,false,false] rfl rfl (any_of HT_.out (by kernel_rfl)) (fun _ _ _ h=>h) (Or.inl ⟨by rfl,?_⟩) ?_ ?_
 rotate_left
 ·intro w'
  go_simp
  with_reducible rfl
 rotate_left
 ·simp only [Act.put,List.setIfInBounds_toArray,List.set_cons_zero,List.set_cons_succ,i64_w,i32_w]
  rfl
 refine pure_ (i:=10) (N:=some 15) (v:=?_) (a':=?_) #[true,false,true,false,false,true,false,true,false,false,true,false,false,false,false,false,false,false,false,false,false,false,false,false,false,false,false,false,false,false,false,false,false,false,false,false,false,false,false,false,false] rfl rfl (any_of HT_.out (by kernel_rfl)) (fun _ _ _ h=>h) (Or.inl ⟨by rfl,?_⟩) ?_ ?_
 rotate_left
 ·intro w'
  go_simp
  with_reducible rfl
 rotate_left
 ·simp only [Act.put,List.setIfInBounds_toArray,List.set_cons_zero,List.set_cons_succ,i64_w,i32_w]
  rfl
 refine pure_ (i:=12) (N:=some 17) (v:=?_) (a':=?_) #[true,false,true,false,false,true,false,true,false,false,true,false,true,false,false,false,false,false,false,false,false,false,false,false,false,false,false,false,false,false,false,false,false,false,false,false,false,false,false,false,false] rfl rfl (any_of HT_.out (by kernel_rfl)) (fun _ _ _ h=>h) (Or.inl ⟨by rfl,?_⟩) ?_ ?_
 rotate_left
 ·intro w'
  go_simp
  with_reducible rfl
 rotate_left
 ·simp only [Act.put,List.setIfInBounds_toArray,List.set_cons_zero,List.set_cons_succ,i64_w,i32_w]
  rfl
 refine pure_ (i:=16) (N:=some 21) (v:=?_) (a':=?_) #[true,false,true,false,false,true,false,true,false,false,true,false,true,false,false,false,true,false,false,false,false,false,false,false,false,false,false,false,false,false,false,false,false,false,false,false,false,false,false,false,false] rfl rfl (any_of HT_.out (by kernel_rfl)) (fun _ _ _ h=>h) (Or.inl ⟨by rfl,?_⟩) ?_ ?_
 rotate_left
 ·intro w'
  go_simp
  with_reducible rfl
 rotate_left
 ·simp only [Act.put,List.setIfInBounds_toArray,List.set_cons_zero,List.set_cons_succ,i64_w,i32_w]
  rfl
 refine pure_ (i:=18) (N:=some 23) (v:=?_) (a':=?_) #[true,false,true,false,false,true,false,true,false,false,true,false,true,false,false,false,true,false,true,false,false,false,false,false,false,false,false,false,false,false,false,false,false,false,false,false,false,false,false,false,false] rfl rfl (any_of HT_.out (by kernel_rfl)) (fun _ _ _ h=>h) (Or.inl ⟨by rfl,?_⟩) ?_ ?_
 rotate_left
 ·intro w'
  go_simp
  with_reducible rfl
 rotate_left
 ·simp only [Act.put,List.setIfInBounds_toArray,List.set_cons_zero,List.set_cons_succ,i64_w,i32_w]
  rfl
 refine pure_ (i:=21) (N:=some 26) (v:=?_) (a':=?_) #[true,false,true,false,false,true,false,true,false,false,true,false,true,false,false,false,true,false,true,false,false,true,false,false,false,false,false,false,false,false,false,false,false,false,false,false,false,false,false,false,false] rfl rfl (any_of HT_.out (by kernel_rfl)) (fun _ _ _ h=>h) (Or.inl ⟨by rfl,?_⟩) ?_ ?_
 rotate_left
 ·intro w'
  go_simp
  with_reducible rfl
 rotate_left
 ·simp only [Act.put,List.setIfInBounds_toArray,List.set_cons_zero,List.set_cons_succ,i64_w,i32_w]
  rfl
 refine pure_ (i:=23) (N:=some 28) (v:=?_) (a':=?_) #[true,false,true,false,false,true,false,true,false,false,true,false,true,false,false,false,true,false,true,false,false,true,false,true,false,false,false,false,false,false,false,false,false,false,false,false,false,false,false,false,false] rfl rfl (any_of HT_.out (by kernel_rfl)) (fun _ _ _ h=>h) (Or.inl ⟨by rfl,?_⟩) ?_ ?_
 rotate_left
 ·intro w'
  go_simp
  with_reducible rfl
 rotate_left
 ·simp only [Act.put,List.setIfInBounds_toArray,List.set_cons_zero,List.set_cons_succ,i64_w,i32_w]
  rfl
 refine pure_ (i:=28) (N:=some 33) (v:=?_) (a':=?_) #[true,false,true,false,false,true,false,true,false,false,true,false,true,false,false,false,true,false,true,false,false,true,false,true,false,false,false,false,true,false,false,false,false,false,false,false,false,false,false,false,false] rfl rfl (any_of HT_.out (by kernel_rfl)) (fun _ _ _ h=>h) (Or.inl ⟨by rfl,?_⟩) ?_ ?_
 rotate_left
 ·intro w'
  go_simp
  with_reducible rfl
 rotate_left
 ·simp only [Act.put,List.setIfInBounds_toArray,List.set_cons_zero,List.set_cons_succ,i64_w,i32_w]
  rfl
 refine pure_ (i:=30) (N:=some 35) (v:=?_) (a':=?_) #[true,false,true,false,false,true,false,true,false,false,true,false,true,false,false,false,true,false,true,false,false,true,false,true,false,false,false,false,true,false,true,false,false,false,false,false,false,false,false,false,false] rfl rfl (any_of HT_.out (by kernel_rfl)) (fun _ _ _ h=>h) (Or.inl ⟨by rfl,?_⟩) ?_ ?_
 rotate_left
 ·intro w'
  go_simp
  with_reducible rfl
 rotate_left
 ·simp only [Act.put,List.setIfInBounds_toArray,List.set_cons_zero,List.set_cons_succ,i64_w,i32_w]
  rfl
 refine pure_ (i:=33) (N:=some 38) (v:=?_) (a':=?_) #[true,false,true,false,false,true,false,true,false,false,true,false,true,false,false,false,true,false,true,false,false,true,false,true,false,false,false,false,true,false,true,false,false,true,false,false,false,false,false,false,false] rfl rfl (any_of HT_.out (by kernel_rfl)) (fun _ _ _ h=>h) (Or.inl ⟨by rfl,?_⟩) ?_ ?_
 rotate_left
 ·intro w'
  go_simp
  with_reducible rfl
 rotate_left
 ·simp only [Act.put,List.setIfInBounds_toArray,List.set_cons_zero,List.set_cons_succ,i64_w,i32_w]
  rfl
 refine pure_ (i:=35) (N:=some 40) (v:=?_) (a':=?_) #[true,false,true,false,false,true,false,true,false,false,true,false,true,false,false,false,true,false,true,false,false,true,false,true,false,false,false,false,true,false,true,false,false,true,false,true,false,false,false,false,false] rfl rfl (any_of HT_.out (by kernel_rfl)) (fun _ _ _ h=>h) (Or.inl ⟨by rfl,?_⟩) ?_ ?_
 rotate_left
 ·intro w'
  go_simp
  with_reducible rfl
 rotate_left
 ·simp only [Act.put,List.setIfInBounds_toArray,List.set_cons_zero,List.set_cons_succ,i64_w,i32_w]
  rfl
 refine take_ (i:=1) (N:=some 6) (v:=?_) (a':=?_) #[true,true,true,false,false,true,false,true,false,false,true,false,true,false,false,false,true,false,true,false,false,true,false,true,false,false,false,false,true,false,true,false,false,true,false,true,false,false,false,false,false] rfl rfl (take_ofW HT_.out HW_.out (by kernel_rfl)) (fun _ _ _ h=>h) (Or.inl ⟨by rfl,?_⟩) hHeld ?_ ?_
 rotate_left
 ·rintro w' ⟨s0,s1,s2,s3,s4,s5⟩
  go_simp
  with_reducible rfl
 rotate_left
 ·simp only [Act.put,List.setIfInBounds_toArray,List.set_cons_zero,List.set_cons_succ,i64_w,i32_w]
  rfl
 refine take_ (i:=3) (N:=some 8) (v:=?_) (a':=?_) #[true,true,true,true,false,true,false,true,false,false,true,false,true,false,false,false,true,false,true,false,false,true,false,true,false,false,false,false,true,false,true,false,false,true,false,true,false,false,false,false,false] rfl rfl (take_ofW HT_.out HW_.out (by kernel_rfl)) (fun _ _ _ h=>h) (Or.inl ⟨by rfl,?_⟩) hHeld ?_ ?_
 rotate_left
 ·rintro w' ⟨s0,s1,s2,s3,s4,s5⟩
  go_simp
  with_reducible rfl
 rotate_left
 ·simp only [Act.put,List.setIfInBounds_toArray,List.set_cons_zero,List.set_cons_succ,i64_w,i32_w]
  rfl
 refine take_ (i:=6) (N:=some 11) (v:=?_) (a':=?_) #[true,true,true,true,false,true,true,true,false,false,true,false,true,false,false,false,true,false,true,false,false,true,false,true,false,false,false,false,true,false,true,false,false,true,false,true,false,false,false,false,false] rfl rfl (take_ofW HT_.out HW_.out (by kernel_rfl)) (fun _ _ _ h=>h) (Or.inl ⟨by rfl,?_⟩) hHeld ?_ ?_
 rotate_left
 ·rintro w' ⟨s0,s1,s2,s3,s4,s5⟩
  go_simp
  with_reducible rfl
 rotate_left
 ·simp only [Act.put,List.setIfInBounds_toArray,List.set_cons_zero,List.set_cons_succ,i64_w,i32_w]
  rfl
 refine take_ (i:=8) (N:=some 13) (v:=?_) (a':=?_) #[true,true,true,true,false,true,true,true,true,false,true,false,true,false,false,false,true,false,true,false,false,true,false,true,false,false,false,false,true,false,true,false,false,true,false,true,false,false,false,false,false] rfl rfl (take_ofW HT_.out HW_.out (by kernel_rfl)) (fun _ _ _ h=>h) (Or.inl ⟨by rfl,?_⟩) hHeld ?_ ?_
 rotate_left
 ·rintro w' ⟨s0,s1,s2,s3,s4,s5⟩
  go_simp
  with_reducible rfl
 rotate_left
 ·simp only [Act.put,List.setIfInBounds_toArray,List.set_cons_zero,List.set_cons_succ,i64_w,i32_w]
  rfl
 refine pure_ (i:=9) (N:=some 14) (v:=?_) (a':=?_) #[true,true,true,true,false,true,true,true,true,true,true,false,true,false,false,false,true,false,true,false,false,true,false,true,false,false,false,false,true,false,true,false,false,true,false,true,false,false,false,false,false] rfl rfl (any_of HT_.out (by kernel_rfl)) (fun _ _ _ h=>h) (Or.inl ⟨by rfl,?_⟩) ?_ ?_
 rotate_left
 ·intro w'
  go_simp
  with_reducible rfl
 rotate_left
 ·simp only [Act.put,List.setIfInBounds_toArray,List.set_cons_zero,List.set_cons_succ,i64_w,i32_w]
  rfl
 refine take_ (i:=11) (N:=some 16) (v:=?_) (a':=?_) #[true,true,true,true,false,true,true,true,true,true,true,true,true,false,false,false,true,false,true,false,false,true,false,true,false,false,false,false,true,false,true,false,false,true,false,true,false,false,false,false,false] rfl rfl (take_ofW HT_.out HW_.out (by kernel_rfl)) (fun _ _ _ h=>h) (Or.inl ⟨by rfl,?_⟩) hHeld ?_ ?_
 rotate_left
 ·rintro w' ⟨s0,s1,s2,s3,s4,s5⟩
  go_simp
  with_reducible rfl
 rotate_left
 ·simp only [Act.put,List.setIfInBounds_toArray,List.set_cons_zero,List.set_cons_succ,i64_w,i32_w]
  rfl
 refine take_ (i:=13) (N:=some 18) (v:=?_) (a':=?_) #[true,true,true,true,false,true,true,true,true,true,true,true,true,true,false,false,true,false,true,false,false,true,false,true,false,false,false,false,true,false,true,false,false,true,false,true,false,false,false,false,false] rfl rfl (take_ofW HT_.out HW_.out (by kernel_rfl)) (fun _ _ _ h=>h) (Or.inl ⟨by rfl,?_⟩) hHeld ?_ ?_
 rotate_left
 ·rintro w' ⟨s0,s1,s2,s3,s4,s5⟩
  go_simp
  with_reducible rfl
 rotate_left
 ·simp only [Act.put,List.setIfInBounds_toArray,List.set_cons_zero,List.set_cons_succ,i64_w,i32_w]
  rfl
 refine pure_ (i:=14) (N:=some 19) (v:=?_) (a':=?_) #[true,true,true,true,false,true,true,true,true,true,true,true,true,true,true,false,true,false,true,false,false,true,false,true,false,false,false,false,true,false,true,false,false,true,false,true,false,false,false,false,false] rfl rfl (any_of HT_.out (by kernel_rfl)) (fun _ _ _ h=>h) (Or.inl ⟨by rfl,?_⟩) ?_ ?_
 rotate_left
 ·intro w'
  go_simp
  with_reducible rfl
 rotate_left
 ·simp only [Act.put,List.setIfInBounds_toArray,List.set_cons_zero,List.set_cons_succ,i64_w,i32_w]
  rfl
 refine pure_ (i:=15) (N:=some 20) (v:=?_) (a':=?_) #[true,true,true,true,false,true,true,true,true,true,true,true,true,true,true,true,true,false,true,false,false,true,false,true,false,false,false,false,true,false,true,false,false,true,false,true,false,false,false,false,false] rfl rfl (any_of HT_.out (by kernel_rfl)) (fun _ _ _ h=>h) (Or.inl ⟨by rfl,?_⟩) ?_ ?_
 rotate_left
 ·intro w'
  go_simp
  with_reducible rfl
 rotate_left
 ·simp only [Act.put,List.setIfInBounds_toArray,List.set_cons_zero,List.set_cons_succ,i64_w,i32_w]
  rfl
 refine take_ (i:=17) (N:=some 22) (v:=?_) (a':=?_) #[true,true,true,true,false,true,true,true,true,true,true,true,true,true,true,true,true,true,true,false,false,true,false,true,false,false,false,false,true,false,true,false,false,true,false,true,false,false,false,false,false] rfl rfl (take_ofW HT_.out HW_.out (by kernel_rfl)) (fun _ _ _ h=>h) (Or.inl ⟨by rfl,?_⟩) hHeld ?_ ?_
 rotate_left
 ·rintro w' ⟨s0,s1,s2,s3,s4,s5⟩
  go_simp
  with_reducible rfl
 rotate_left
 ·simp only [Act.put,List.setIfInBounds_toArray,List.set_cons_zero,List.set_cons_succ,i64_w,i32_w]
  rfl
 refine take_ (i:=19) (N:=some 24) (v:=?_) (a':=?_) #[true,true,true,true,false,true,true,true,true,true,true,true,true,true,true,true,true,true,true,true,false,true,false,true,false,false,false,false,true,false,true,false,false,true,false,true,false,false,false,false,false] rfl rfl (take_ofW HT_.out HW_.out (by kernel_rfl)) (fun _ _ _ h=>h) (Or.inl ⟨by rfl,?_⟩) hHeld ?_ ?_
 rotate_left
 ·rintro w' ⟨s0,s1,s2,s3,s4,s5⟩
  go_simp
  with_reducible rfl
 rotate_left
 ·simp only [Act.put,List.setIfInBounds_toArray,List.set_cons_zero,List.set_cons_succ,i64_w,i32_w]
  rfl
 refine pure_ (i:=20) (N:=some 25) (v:=?_) (a':=?_) #[true,true,true,true,false,true,true,true,true,true,true,true,true,true,true,true,true,true,true,true,true,true,false,true,false,false,false,false,true,false,true,false,false,true,false,true,false,false,false,false,false] rfl rfl (any_of HT_.out (by kernel_rfl)) (fun _ _ _ h=>h) (Or.inl ⟨by rfl,?_⟩) ?_ ?_
 rotate_left
 ·intro w'
  go_simp
  with_reducible rfl
 rotate_left
 ·simp only [Act.put,List.setIfInBounds_toArray,List.set_cons_zero,List.set_cons_succ,i64_w,i32_w]
  rfl
 refine take_ (i:=22) (N:=some 27) (v:=?_) (a':=?_) #[true,true,true,true,false,true,true,true,true,true,true,true,true,true,true,true,true,true,true,true,true,true,true,true,false,false,false,false,true,false,true,false,false,true,false,true,false,false,false,false,false] rfl rfl (take_ofW HT_.out HW_.out (by kernel_rfl)) (fun _ _ _ h=>h) (Or.inl ⟨by rfl,?_⟩) hHeld ?_ ?_
 rotate_left
 ·rintro w' ⟨s0,s1,s2,s3,s4,s5⟩
  go_simp
  with_reducible rfl
 rotate_left
 ·simp only [Act.put,List.setIfInBounds_toArray,List.set_cons_zero,List.set_cons_succ,i64_w,i32_w]
  rfl
 refine take_ (i:=24) (N:=some 29) (v:=?_) (a':=?_) #[true,true,true,true,false,true,true,true,true,true,true,true,true,true,true,true,true,true,true,true,true,true,true,true,true,false,false,false,true,false,true,false,false,true,false,true,false,false,false,false,false] rfl rfl (take_ofW HT_.out HW_.out (by kernel_rfl)) (fun _ _ _ h=>h) (Or.inl ⟨by rfl,?_⟩) hHeld ?_ ?_
 rotate_left
 ·rintro w' ⟨s0,s1,s2,s3,s4,s5⟩
  go_simp
  with_reducible rfl
 rotate_left
 ·simp only [Act.put,List.setIfInBounds_toArray,List.set_cons_zero,List.set_cons_succ,i64_w,i32_w]
  rfl
 refine pure_ (i:=25) (N:=some 30) (v:=?_) (a':=?_) #[true,true,true,true,false,true,true,true,true,true,true,true,true,true,true,true,true,true,true,true,true,true,true,true,true,true,false,false,true,false,true,false,false,true,false,true,false,false,false,false,false] rfl rfl (any_of HT_.out (by kernel_rfl)) (fun _ _ _ h=>h) (Or.inl ⟨by rfl,?_⟩) ?_ ?_
 rotate_left
 ·intro w'
  go_simp
  with_reducible rfl
 rotate_left
 ·simp only [Act.put,List.setIfInBounds_toArray,List.set_cons_zero,List.set_cons_succ,i64_w,i32_w]
  rfl
 refine pure_ (i:=26) (N:=some 31) (v:=?_) (a':=?_) #[true,true,true,true,false,true,true,true,true,true,true,true,true,true,true,true,true,true,true,true,true,true,true,true,true,true,true,false,true,false,true,false,false,true,false,true,false,false,false,false,false] rfl rfl (any_of HT_.out (by kernel_rfl)) (fun _ _ _ h=>h) (Or.inl ⟨by rfl,?_⟩) ?_ ?_
 rotate_left
 ·intro w'
  go_simp
  with_reducible rfl
 rotate_left
 ·simp only [Act.put,List.setIfInBounds_toArray,List.set_cons_zero,List.set_cons_succ,i64_w,i32_w]
  rfl
 refine take_ (i:=29) (N:=some 34) (v:=?_) (a':=?_) #[true,true,true,true,false,true,true,true,true,true,true,true,true,true,true,true,true,true,true,true,true,true,true,true,true,true,true,false,true,true,true,false,false,true,false,true,false,false,false,false,false] rfl rfl (take_ofW HT_.out HW_.out (by kernel_rfl)) (fun _ _ _ h=>h) (Or.inl ⟨by rfl,?_⟩) hHeld ?_ ?_
 rotate_left
 ·rintro w' ⟨s0,s1,s2,s3,s4,s5⟩
  go_simp
  with_reducible rfl
 rotate_left
 ·simp only [Act.put,List.setIfInBounds_toArray,List.set_cons_zero,List.set_cons_succ,i64_w,i32_w]
  rfl
 refine take_ (i:=31) (N:=some 36) (v:=?_) (a':=?_) #[true,true,true,true,false,true,true,true,true,true,true,true,true,true,true,true,true,true,true,true,true,true,true,true,true,true,true,false,true,true,true,true,false,true,false,true,false,false,false,false,false] rfl rfl (take_ofW HT_.out HW_.out (by kernel_rfl)) (fun _ _ _ h=>h) (Or.inl ⟨by rfl,?_⟩) hHeld ?_ ?_
 rotate_left
 ·rintro w' ⟨s0,s1,s2,s3,s4,s5⟩
  go_simp
  with_reducible rfl
 rotate_left
 ·simp only [Act.put,List.setIfInBounds_toArray,List.set_cons_zero,List.set_cons_succ,i64_w,i32_w]
  rfl
 refine take_ (i:=34) (N:=some 39) (v:=?_) (a':=?_) #[true,true,true,true,false,true,true,true,true,true,true,true,true,true,true,true,true,true,true,true,true,true,true,true,true,true,true,false,true,true,true,true,false,true,true,true,false,false,false,false,false] rfl rfl (take_ofW HT_.out HW_.out (by kernel_rfl)) (fun _ _ _ h=>h) (Or.inl ⟨by rfl,?_⟩) hHeld ?_ ?_
 rotate_left
 ·rintro w' ⟨s0,s1,s2,s3,s4,s5⟩
  go_simp
  with_reducible rfl
 rotate_left
 ·simp only [Act.put,List.setIfInBounds_toArray,List.set_cons_zero,List.set_cons_succ,i64_w,i32_w]
  rfl
 refine take_ (i:=36) (N:=some 41) (v:=?_) (a':=?_) #[true,true,true,true,false,true,true,true,true,true,true,true,true,true,true,true,true,true,true,true,true,true,true,true,true,true,true,false,true,true,true,true,false,true,true,true,true,false,false,false,false] rfl rfl (take_ofW HT_.out HW_.out (by kernel_rfl)) (fun _ _ _ h=>h) (Or.inl ⟨by rfl,?_⟩) hHeld ?_ ?_
 rotate_left
 ·rintro w' ⟨s0,s1,s2,s3,s4,s5⟩
  go_simp
  with_reducible rfl
 rotate_left
 ·simp only [Act.put,List.setIfInBounds_toArray,List.set_cons_zero,List.set_cons_succ,i64_w,i32_w]
  rfl
 refine one_ (i:=4) (N:=some 9) #[true,true,true,true,true,true,true,true,true,true,true,true,true,true,true,true,true,true,true,true,true,true,true,true,true,true,true,false,true,true,true,true,false,true,true,true,true,false,false,false,false] rfl rfl (one_of HT_.out (by kernel_rfl)) (by decide) (fun K hK=>?_)
 refine goes_ Try.func91 (by kernel_rfl) rfl #[.int .i64 a0_0,.int .i64 a1_0] (by rfl) rfl rfl (by(try simp only [List.map_toArray,List.map_cons,List.map_nil]);first|done|rfl|(simp only [List.length_drop,List.length_take];rfl)) ?_
 with_reducible refine(cmp_Compare_int64.calls a0_0 a1_0 t252 _ A3.out).mono ?_
 rintro e w' ⟨rfl,⟨nd,rfl⟩⟩
 refine⟨_,rfl,?_⟩
 refine hK.out _ _ ⟨(Kc qa.out 0).trans rfl,(Kc qa.out 1).trans rfl,(Kc qa.out 2).trans rfl,(Kc qb.out 0).trans rfl,(Kc qb.out 1).trans rfl,(Kc qb.out 2).trans rfl⟩ (fun hHeld=>?_)
 clear hK K
 refine norm_ (a':=?_) ?_ ?_
 rotate_left
 ·show Act.put _ (some 9) _=_
  simp only [Act.put,List.setIfInBounds_toArray,List.set_cons_zero,List.set_cons_succ,i64_w,i32_w]
  rfl
 refine one_ (i:=27) (N:=some 32) #[true,true,true,true,true,true,true,true,true,true,true,true,true,true,true,true,true,true,true,true,true,true,true,true,true,true,true,true,true,true,true,true,false,true,true,true,true,false,false,false,false] rfl rfl (one_of HT_.out (by kernel_rfl)) (by decide) (fun K hK=>?_)
 refine goes_ Try.func91 (by kernel_rfl) rfl #[.int .i64 (wrap64 ((wrap64 (a0_1*a0_1))+(wrap64 (a0_2*a0_2)))),.int .i64 (wrap64 ((wrap64 (a1_1*a1_1))+(wrap64 (a1_2*a1_2))))] (by rfl) rfl rfl (by(try simp only [List.map_toArray,List.map_cons,List.map_nil]);first|done|rfl|(simp only [List.length_drop,List.length_take];rfl)) ?_
 with_reducible refine(cmp_Compare_int64.calls (wrap64 ((wrap64 (a0_1*a0_1))+(wrap64 (a0_2*a0_2)))) (wrap64 ((wrap64 (a1_1*a1_1))+(wrap64 (a1_2*a1_2)))) t253 _ A4.out).mono ?_
 rintro e w' ⟨rfl,⟨nd,rfl⟩⟩
 refine⟨_,rfl,?_⟩
 refine hK.out _ _ ⟨(Kc qa.out 0).trans rfl,(Kc qa.out 1).trans rfl,(Kc qa.out 2).trans rfl,(Kc qb.out 0).trans rfl,(Kc qb.out 1).trans rfl,(Kc qb.out 2).trans rfl⟩ (fun hHeld=>?_)
 clear hK K
 refine norm_ (a':=?_) ?_ ?_
 rotate_left
 ·show Act.put _ (some 32) _=_
  simp only [Act.put,List.setIfInBounds_toArray,List.set_cons_zero,List.set_cons_succ,i64_w,i32_w]
  rfl
 refine one_ (i:=32) (N:=some 37) #[true,true,true,true,true,true,true,true,true,true,true,true,true,true,true,true,true,true,true,true,true,true,true,true,true,true,true,true,true,true,true,true,true,true,true,true,true,false,false,false,false] rfl rfl (one_of HT_.out (by kernel_rfl)) (by decide) (fun K hK=>?_)
 refine goes_ Try.func91 (by kernel_rfl) rfl #[.int .i64 a0_2,.int .i64 a1_2] (by rfl) rfl rfl (by(try simp only [List.map_toArray,List.map_cons,List.map_nil]);first|done|rfl|(simp only [List.length_drop,List.length_take];rfl)) ?_
 with_reducible refine(cmp_Compare_int64.calls a0_2 a1_2 t254 _ A5.out).mono ?_
 rintro e w' ⟨rfl,⟨nd,rfl⟩⟩
 refine⟨_,rfl,?_⟩
 refine hK.out _ _ ⟨(Kc qa.out 0).trans rfl,(Kc qa.out 1).trans rfl,(Kc qa.out 2).trans rfl,(Kc qb.out 0).trans rfl,(Kc qb.out 1).trans rfl,(Kc qb.out 2).trans rfl⟩ (fun hHeld=>?_)
 clear hK K
 refine norm_ (a':=?_) ?_ ?_
 rotate_left
 ·show Act.put _ (some 37) _=_
  simp only [Act.put,List.setIfInBounds_toArray,List.set_cons_zero,List.set_cons_succ,i64_w,i32_w]
  rfl
 refine one_ (i:=37) (N:=some 42) #[true,true,true,true,true,true,true,true,true,true,true,true,true,true,true,true,true,true,true,true,true,true,true,true,true,true,true,true,true,true,true,true,true,true,true,true,true,true,false,false,false] rfl rfl (one_of HT_.out (by kernel_rfl)) (by decide) (fun K hK=>?_)
 refine goes_ Try.func91 (by kernel_rfl) rfl #[.int .i64 a0_1,.int .i64 a1_1] (by rfl) rfl rfl (by(try simp only [List.map_toArray,List.map_cons,List.map_nil]);first|done|rfl|(simp only [List.length_drop,List.length_take];rfl)) ?_
 with_reducible refine(cmp_Compare_int64.calls a0_1 a1_1 t255 _ A6.out).mono ?_
 rintro e w' ⟨rfl,⟨nd,rfl⟩⟩
 refine⟨_,rfl,?_⟩
 refine hK.out _ _ ⟨(Kc qa.out 0).trans rfl,(Kc qa.out 1).trans rfl,(Kc qa.out 2).trans rfl,(Kc qb.out 0).trans rfl,(Kc qb.out 1).trans rfl,(Kc qb.out 2).trans rfl⟩ (fun hHeld=>?_)
 clear hK K
 refine norm_ (a':=?_) ?_ ?_
 rotate_left
 ·show Act.put _ (some 42) _=_
  simp only [Act.put,List.setIfInBounds_toArray,List.set_cons_zero,List.set_cons_succ,i64_w,i32_w]
  rfl
 refine one_ (i:=38) (N:=some 43) #[true,true,true,true,true,true,true,true,true,true,true,true,true,true,true,true,true,true,true,true,true,true,true,true,true,true,true,true,true,true,true,true,true,true,true,true,true,true,true,false,false] rfl rfl (one_of HT_.out (by kernel_rfl)) (by decide) (fun K hK=>?_)
 refine Kd.R_lit_step (Kd.int .i64) _ 3 ?hg (N:=43) ?hd (xs:=([t252,t253,t254,t255]:List Int)) (inner:=[.int .i64 t252,.int .i64 t253,.int .i64 t254,.int .i64 t255]) (ok:=fun _=>True) (okp:=fun _=>True) ?hr ?hp (fun _ hk=>hk) trivial (Below.refl _ _) (Nat.le_refl _) (by simp) ?_;(case hd=>rfl);(case hg=>rfl);(case hr=>first|(go_simp;done)|(go_simp;rfl));(case hp=>exact(Reps.one (show Kd.M (Kd.int .i64) _ _ _ t252 [.int .i64 t252] from rfl) (Reps.one (show Kd.M (Kd.int .i64) _ _ _ t253 [.int .i64 t253] from rfl) (Reps.one (show Kd.M (Kd.int .i64) _ _ _ t254 [.int .i64 t254] from rfl) (Reps.one (show Kd.M (Kd.int .i64) _ _ _ t255 [.int .i64 t255] from rfl) (Reps.none _ _))))))
 intro v257 w11 ho12 hb hg_ hnew_
 clear hg_ hnew_
 (first|rw [← Ny256.out] at ho12|(simp only [Int.reduceToNat] at ho12;rw [← Ny256.out] at ho12))
 have n0_:=Ka (Kd.R_lower ho12 (Kl (by repeat(first|(with_reducible first|exact HB.out|apply Kf|apply Kb|apply Ke|refine Kh ?_ qe.out|refine Kh ?_ GE251.out)|exact HB.out))))
 have n1_:=Ka (Km (g:=qc) (o:=.cells #[.int .i64 a0_0,.int .i64 a0_1,.int .i64 a0_2] 89 (0,0)) (by(with_reducible repeat(first|refine Kk ?_ _|refine Kg ?_|refine Kj ?_ _));exact qa.out) hb)
 have n2_:=Ka (Km (g:=qd) (o:=.cells #[.int .i64 a1_0,.int .i64 a1_1,.int .i64 a1_2] 89 (0,0)) (by(with_reducible repeat(first|refine Kk ?_ _|refine Kg ?_|refine Kj ?_ _));exact qb.out) hb)
 have n3_:=Ka (Kn (by repeat(first|(with_reducible first|exact HB.out|apply Kf|apply Kb|apply Ke|refine Kh ?_ qe.out|refine Kh ?_ GE251.out)|exact HB.out)) hb)
 clear qa
 clear qb
 clear HB
 have HO258:=n0_
 have qa:=n1_
 have qb:=n2_
 have HB:=n3_
 clear n0_ n1_ n2_ n3_
 clear hb ho12
 obtain⟨Ao13,co13,eo13⟩:=Kd.R_slice HO258.out
 (first|subst eo13|(injection eo13 with f1_ f2_ f3_;have f4_:=f1_.symm;have f5_:=f3_.symm;clear f1_ f2_ f3_;subst f4_;subst f5_))
 refine hK.out _ _ ⟨(Kc qa.out 0).trans rfl,(Kc qa.out 1).trans rfl,(Kc qa.out 2).trans rfl,(Kc qb.out 0).trans rfl,(Kc qb.out 1).trans rfl,(Kc qb.out 2).trans rfl⟩ (fun hHeld=>?_)
 clear hK K
 refine norm_ (a':=?_) ?_ ?_
 rotate_left
 ·show Act.put _ (some 43) _=_
  simp only [Act.put,List.setIfInBounds_toArray,List.set_cons_zero,List.set_cons_succ,i64_w,i32_w]
  rfl
 refine one_ (i:=39) (N:=some 44) #[true,true,true,true,true,true,true,true,true,true,true,true,true,true,true,true,true,true,true,true,true,true,true,true,true,true,true,true,true,true,true,true,true,true,true,true,true,true,true,true,false] rfl rfl (one_of HT_.out (by kernel_rfl)) (by decide) (fun K hK=>?_)
 refine goes_ Try.func90 (by kernel_rfl) rfl #[.slice Ao13 y256.length co13] (by rfl) rfl rfl (by(try simp only [List.map_toArray,List.map_cons,List.map_nil]);first|done|rfl|(simp only [List.length_drop,List.length_take];rfl)) ?_
 with_reducible refine(cmp_Or_int.calls k _ _ y256 t259 _ ?side1 ?side2 A7.out).mono ?_
 (case side1=>repeat(first|exact(Kd.R_reads' HO258.out).2.2|(with_reducible refine Kd.C_alloc ?_ _)|(with_reducible refine Kd.C_drewN ?_ _)|(with_reducible refine Kd.C_drew ?_)))
 (case side2=>exact(Kd.R_reads' HO258.out).2.1)
 rintro e w' ⟨rfl,⟨nd,rfl⟩⟩
 refine⟨_,rfl,?_⟩
 refine hK.out _ _ ⟨(Kc qa.out 0).trans rfl,(Kc qa.out 1).trans rfl,(Kc qa.out 2).trans rfl,(Kc qb.out 0).trans rfl,(Kc qb.out 1).trans rfl,(Kc qb.out 2).trans rfl⟩ (fun hHeld=>?_)
 clear hK K
 refine norm_ (a':=?_) ?_ ?_
 rotate_left
 ·show Act.put _ (some 44) _=_
  simp only [Act.put,List.setIfInBounds_toArray,List.set_cons_zero,List.set_cons_succ,i64_w,i32_w]
  rfl
 refine pure_ (i:=40) (N:=some 4) (v:=?_) (a':=?_) #[true,true,true,true,true,true,true,true,true,true,true,true,true,true,true,true,true,true,true,true,true,true,true,true,true,true,true,true,true,true,true,true,true,true,true,true,true,true,true,true,true] rfl rfl (any_of HT_.out (by kernel_rfl)) (fun _ _ _ h=>h) (Or.inl ⟨by rfl,?_⟩) ?_ ?_
 rotate_left
 ·intro w'
  go_simp
  with_reducible rfl
 rotate_left
 ·simp only [Act.put,List.setIfInBounds_toArray,List.set_cons_zero,List.set_cons_succ,i64_w,i32_w]
  rfl
 refine done_ (done_of HT_.out (by kernel_rfl)) ?_
 try go_wp2
 go_ret
 exact⟨by first|rfl|(simp [errW_none,errW_some] <;> rfl)|(simp [*,errW_none,errW_some] <;> rfl),by repeat(first|(with_reducible first|exact HB.out|apply Kf|apply Kb|apply Ke|refine Kh ?_ qe.out|refine Kh ?_ GE251.out)|exact HB.out)⟩

end Go.Proofs.Ytbdnpfjjaokdbaa.HFnCoded
