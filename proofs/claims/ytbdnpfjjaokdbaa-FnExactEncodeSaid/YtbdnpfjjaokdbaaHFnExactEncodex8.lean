-- Laid by myprint.py, a program of this repo, out of the kit's printer and this repo's own texts (wip/hand).
import Derived.Test.YtbdnpfjjaokdbaaHFnExactEncodex0
import Derived.Test.YtbdnpfjjaokdbaaHFnExactEncodex7
namespace Go.Proofs.Ytbdnpfjjaokdbaa.HFnExactEncode
open Go.RowKit Go.Proofs.YtbdnpfjjaokdbaaW.PrintWords Go.Proofs.YtbdnpfjjaokdbaaW.PrintLast Go.Proofs.YtbdnpfjjaokdbaaW.PrintMore
attribute [local go_sem] max2_int min2_int max_two min_two max_three min_three max_four min_four   -- for this text's walks alone
set_option linter.unusedVariables false
set_option linter.unusedSimpArgs false
theorem Ia : type_of% @Aside0.mk := @Aside0.mk
theorem Ib : type_of% @pw_below_drewN := @pw_below_drewN
theorem Ic : type_of% @below_alloc := @below_alloc
theorem Id : type_of% @below_drew1 := @below_drew1
theorem Ie : type_of% @blk_frozen := @blk_frozen
theorem If : type_of% @blk_drew := @blk_drew
theorem Ig : type_of% @blk_cell := @blk_cell
theorem Ih : type_of% @below_set := @below_set
theorem Ii : type_of% @below_size := @below_size
theorem Ij : type_of% @blk_alloc := @blk_alloc
theorem Ik : type_of% @blk_drewN := @blk_drewN
theorem Il : type_of% @below_step := @below_step
theorem Im : type_of% @gate_callee := @gate_callee
theorem In : type_of% @blk_below := @blk_below

/-! ### impl_bothOk: function 69 -/
def impl_bothOk.f (a0_0 : Int) (a0_1 : Int) (l0_2 : List Int) (a1_0 : Int) (a1_1 : Int) (l1_2 : List Int) : Option (Bool) := (impl_PictureOk.f a0_0 a0_1 l0_2).bind fun t253 => (if t253 = true then ((impl_PictureOk.f a1_0 a1_1 l1_2).bind fun t254 => (if t254 = true then (if a0_0 = a1_0 then (some (a0_1 == a1_1)) else (some false)) else (some false))) else (some false))
set_option maxHeartbeats 8000000 in
set_option maxRecDepth 100000 in
theorem impl_bothOk.calls (a0_0 : Int) (a0_1 : Int) (A0_2 : Option Addr) (c0_2 : Nat) (l0_2 : List Int) (a1_0 : Int) (a1_1 : Int) (A1_2 : Option Addr) (c1_2 : Nat) (l1_2 : List Int) (r : Bool) (w : World) (hr0_2 : Kd.C (Kd.int .i64) w A0_2 l0_2.length l0_2) (hc0_2 : l0_2.length ≤ c0_2) (hr1_2 : Kd.C (Kd.int .i64) w A1_2 l1_2.length l1_2) (hc1_2 : l1_2.length ≤ c1_2) (h : impl_bothOk.f a0_0 a0_1 l0_2 a1_0 a1_1 l1_2 = some r) :
  Calls Try.prog 69 #[.agg #[.int .i64 a0_0,.int .i64 a0_1,.slice A0_2 l0_2.length c0_2],.agg #[.int .i64 a1_0,.int .i64 a1_1,.slice A1_2 l1_2.length c1_2]] w fun e w'=>e=.returned (.bool r)∧Below w.heap.size w w':=by
 have hu27:=Try.underlying27
 have HR0_2:=Ia hr0_2
 have HC0_2:=Ia hc0_2
 clear hr0_2 hc0_2
 have HR1_2:=Ia hr1_2
 have HC1_2:=Ia hc1_2
 clear hr1_2 hc1_2
 have HB:=Ia (Below.refl w.heap.size w)
 have H:((impl_PictureOk.f a0_0 a0_1 l0_2).bind fun t253=>(if t253=true then ((impl_PictureOk.f a1_0 a1_1 l1_2).bind fun t254=>(if t254=true then (if a0_0=a1_0 then (some (a0_1 == a1_1)) else (some false)) else (some false))) else (some false)))=some r:=h
 clear h
 replace H:=Option.bind_eq_some_iff.mp H
 obtain⟨t253,A30,H⟩:=H
 replace H:(if t253=true then ((impl_PictureOk.f a1_0 a1_1 l1_2).bind fun t254=>(if t254=true then (if a0_0=a1_0 then (some (a0_1 == a1_1)) else (some false)) else (some false))) else (some false))=some r:=H
 have A3:=Ia A30
 clear A30
 by_cases c4:t253=true
 ·subst c4
  have H1:((impl_PictureOk.f a1_0 a1_1 l1_2).bind fun t254=>(if t254=true then (if a0_0=a1_0 then (some (a0_1 == a1_1)) else (some false)) else (some false)))=some r:=by rw [if_pos rfl] at H;exact H
  clear H
  have H:=H1
  clear H1
  replace H:=Option.bind_eq_some_iff.mp H
  obtain⟨t254,A50,H⟩:=H
  replace H:(if t254=true then (if a0_0=a1_0 then (some (a0_1 == a1_1)) else (some false)) else (some false))=some r:=H
  have A5:=Ia A50
  clear A50
  by_cases c6:t254=true
  ·subst c6
   have H1:(if a0_0=a1_0 then (some (a0_1 == a1_1)) else (some false))=some r:=by rw [if_pos rfl] at H;exact H
   clear H
   have H:=H1
   clear H1
   by_cases c7:a0_0=a1_0
   ·rw [if_pos c7] at H
    have c7b0:(a0_0 == a1_0)=true:=beq_iff_eq.mpr c7
    have c7b1:(a0_0 != a1_0)=false:=bne_eq_false_iff_eq.mpr c7
    clear c7
    obtain rfl:=Option.some.inj H
    go_enter Try.func69,Try.ntmps69
    go_wp2_with (first|((with_reducible refine gate_dst (N:=2) rfl ?_);refine box_event ?hg (N:=2) ?hd (cs:=#[.int .i64 a0_0,.int .i64 a0_1,.slice A0_2 l0_2.length c0_2]) (t:=27) ?hr ?_;(case hd=>rfl);(case hg=>rfl);(case hr=>first|(go_simp;done)|(go_simp;rfl));intro gb251 hg w8 hbox hb;have n0_:=Ia (Il (by repeat(first|(with_reducible first|exact HB.out|apply Ic|apply Ib|apply Id)|exact HB.out)) hb);have n1_:=Ia (hbox);have n2_:=Ia ((by rw [hg];exact(Ii (by repeat(first|(with_reducible first|exact HB.out|apply Ic|apply Ib|apply Id)|exact HB.out))):w.heap.size≤gb251));have n3_:=Ia ((by rw [hg];exact(Ii (by repeat(first|(with_reducible first|exact HB.out|apply Ic|apply Ib|apply Id)|exact HB.out))):w.heap.size≤gb251));clear HB;have HB:=n0_;have BK251:=n1_;have GW251:=n2_;have GE251:=n3_;clear n0_ n1_ n2_ n3_;clear hb hbox hg)|((with_reducible refine gate_dst (N:=3) rfl ?_);refine box_event ?hg (N:=3) ?hd (cs:=#[.int .i64 a1_0,.int .i64 a1_1,.slice A1_2 l1_2.length c1_2]) (t:=27) ?hr ?_;(case hd=>rfl);(case hg=>rfl);(case hr=>first|(go_simp;done)|(go_simp;rfl));intro gb252 hg w9 hbox hb;have n0_:=Ia (In (g:=gb251) (o:=.cells #[.int .i64 a0_0,.int .i64 a0_1,.slice A0_2 l0_2.length c0_2] 27 (0,0)) (by(with_reducible repeat(first|refine Ik ?_ _|refine If ?_|refine Ij ?_ _));exact BK251.out) hb);have n1_:=Ia (Il (by repeat(first|(with_reducible first|exact HB.out|apply Ic|apply Ib|apply Id|refine Ih ?_ GE251.out)|exact HB.out)) hb);have n2_:=Ia (hbox);have n3_:=Ia ((by rw [hg];exact(Ii (by repeat(first|(with_reducible first|exact HB.out|apply Ic|apply Ib|apply Id|refine Ih ?_ GE251.out)|exact HB.out))):w.heap.size≤gb252));have n4_:=Ia ((by rw [hg];exact(Ii (by repeat(first|(with_reducible first|exact HB.out|apply Ic|apply Ib|apply Id|refine Ih ?_ GE251.out)|exact HB.out))):w.heap.size≤gb252));have n5_:=Ia ((by rw [hg];exact Nat.ne_of_lt (blk_lt (g:=gb251) (o:=.cells #[.int .i64 a0_0,.int .i64 a0_1,.slice A0_2 l0_2.length c0_2] 27 (0,0)) (by(with_reducible repeat(first|refine Ik ?_ _|refine If ?_|refine Ij ?_ _));exact BK251.out)):gb251≠gb252));have n6_:=Ia ((by rw [hg];exact Nat.ne_of_gt (blk_lt (g:=gb251) (o:=.cells #[.int .i64 a0_0,.int .i64 a0_1,.slice A0_2 l0_2.length c0_2] 27 (0,0)) (by(with_reducible repeat(first|refine Ik ?_ _|refine If ?_|refine Ij ?_ _));exact BK251.out)):gb252≠gb251));clear BK251;clear HB;have BK251:=n0_;have HB:=n1_;have BK252:=n2_;have GW252:=n3_;have GE252:=n4_;have NB251_252:=n5_;have NB252_251:=n6_;clear n0_ n1_ n2_ n3_ n4_ n5_ n6_;clear hb hbox hg;have hnb10:=NB251_252.out;have hnc10:=NB252_251.out;have hcz11_0:w9.cell? ⟨gb251,0,none⟩=some (.int .i64 a0_0):=(Ig BK251.out 0).trans rfl;have hcz11_1:w9.cell? ⟨gb251,1,none⟩=some (.int .i64 a0_1):=(Ig BK251.out 1).trans rfl;have hcz11_2:w9.cell? ⟨gb251,2,none⟩=some (.slice A0_2 l0_2.length c0_2):=(Ig BK251.out 2).trans rfl;have hfz11_0:=Ie BK251.out 0;have hfz11_1:=Ie BK251.out 1;have hfz11_2:=Ie BK251.out 2)|((with_reducible refine Im (f:=17) rfl ?_);refine goesL_ (some 6) rfl rfl Try.func17 (by kernel_rfl) rfl #[.agg #[.int .i64 a0_0,.int .i64 a0_1,.slice A0_2 l0_2.length c0_2]] rfl (by(try simp only [List.map_toArray,List.map_cons,List.map_nil]);first|done|rfl|(simp only [List.length_drop,List.length_take];rfl)) ?_;(with_reducible refine(impl_PictureOk.calls a0_0 a0_1 _ _ l0_2 true _ ?side1 ?side2 A3.out).mono ?_);(case side1=>repeat(first|exact(Kd.C_below HR0_2.out HB.out)|(with_reducible refine Kd.C_alloc ?_ _)|(with_reducible refine Kd.C_drewN ?_ _)|(with_reducible refine Kd.C_drew ?_)));(case side2=>exact HC0_2.out);rintro e w12 ⟨rfl,hb⟩;refine⟨_,rfl,?_⟩;have n0_:=Ia (In (g:=gb251) (o:=.cells #[.int .i64 a0_0,.int .i64 a0_1,.slice A0_2 l0_2.length c0_2] 27 (0,0)) (by(with_reducible repeat(first|refine Ik ?_ _|refine If ?_|refine Ij ?_ _));exact BK251.out) hb);have n1_:=Ia (In (g:=gb252) (o:=.cells #[.int .i64 a1_0,.int .i64 a1_1,.slice A1_2 l1_2.length c1_2] 27 (0,0)) (by(with_reducible repeat(first|refine Ik ?_ _|refine If ?_|refine Ij ?_ _));exact BK252.out) hb);have n2_:=Ia (Il (by repeat(first|(with_reducible first|exact HB.out|apply Ic|apply Ib|apply Id|refine Ih ?_ GE251.out|refine Ih ?_ GE252.out)|exact HB.out)) hb);clear BK251;clear BK252;clear HB;have BK251:=n0_;have BK252:=n1_;have HB:=n2_;clear n0_ n1_ n2_;(try clear hb);(try clear hb2);(try clear hk);(try clear hi);have hcz13_0:w12.cell? ⟨gb252,0,none⟩=some (.int .i64 a1_0):=(Ig BK252.out 0).trans rfl;have hcz13_1:w12.cell? ⟨gb252,1,none⟩=some (.int .i64 a1_1):=(Ig BK252.out 1).trans rfl;have hcz13_2:w12.cell? ⟨gb252,2,none⟩=some (.slice A1_2 l1_2.length c1_2):=(Ig BK252.out 2).trans rfl;have hfz13_0:=Ie BK252.out 0;have hfz13_1:=Ie BK252.out 1;have hfz13_2:=Ie BK252.out 2)|(go_at_call 17;(with_reducible refine(impl_PictureOk.calls a1_0 a1_1 _ _ l1_2 true _ ?side1 ?side2 A5.out).mono ?_);(case side1=>repeat(first|exact(Kd.C_below HR1_2.out HB.out)|(with_reducible refine Kd.C_alloc ?_ _)|(with_reducible refine Kd.C_drewN ?_ _)|(with_reducible refine Kd.C_drew ?_)));(case side2=>exact HC1_2.out);rintro e w14 ⟨rfl,hb⟩;have n0_:=Ia (In (g:=gb251) (o:=.cells #[.int .i64 a0_0,.int .i64 a0_1,.slice A0_2 l0_2.length c0_2] 27 (0,0)) (by(with_reducible repeat(first|refine Ik ?_ _|refine If ?_|refine Ij ?_ _));exact BK251.out) hb);have n1_:=Ia (In (g:=gb252) (o:=.cells #[.int .i64 a1_0,.int .i64 a1_1,.slice A1_2 l1_2.length c1_2] 27 (0,0)) (by(with_reducible repeat(first|refine Ik ?_ _|refine If ?_|refine Ij ?_ _));exact BK252.out) hb);have n2_:=Ia (Il (by repeat(first|(with_reducible first|exact HB.out|apply Ic|apply Ib|apply Id|refine Ih ?_ GE251.out|refine Ih ?_ GE252.out)|exact HB.out)) hb);clear BK251;clear BK252;clear HB;have BK251:=n0_;have BK252:=n1_;have HB:=n2_;clear n0_ n1_ n2_;(try clear hb);(try clear hb2);(try clear hk);(try clear hi);have hcz15_0:w14.cell? ⟨gb251,0,none⟩=some (.int .i64 a0_0):=(Ig BK251.out 0).trans rfl;have hcz15_1:w14.cell? ⟨gb251,1,none⟩=some (.int .i64 a0_1):=(Ig BK251.out 1).trans rfl;have hcz15_2:w14.cell? ⟨gb251,2,none⟩=some (.slice A0_2 l0_2.length c0_2):=(Ig BK251.out 2).trans rfl;have hfz15_0:=Ie BK251.out 0;have hfz15_1:=Ie BK251.out 1;have hfz15_2:=Ie BK251.out 2;have hcz16_0:w14.cell? ⟨gb252,0,none⟩=some (.int .i64 a1_0):=(Ig BK252.out 0).trans rfl;have hcz16_1:w14.cell? ⟨gb252,1,none⟩=some (.int .i64 a1_1):=(Ig BK252.out 1).trans rfl;have hcz16_2:w14.cell? ⟨gb252,2,none⟩=some (.slice A1_2 l1_2.length c1_2):=(Ig BK252.out 2).trans rfl;have hfz16_0:=Ie BK252.out 0;have hfz16_1:=Ie BK252.out 1;have hfz16_2:=Ie BK252.out 2))
    go_ret
    exact⟨by first|rfl|(simp [errW_none,errW_some] <;> rfl)|(simp [*,errW_none,errW_some] <;> rfl),by repeat(first|(with_reducible first|exact HB.out|apply Ic|apply Ib|apply Id|refine Ih ?_ GE251.out|refine Ih ?_ GE252.out)|exact HB.out)⟩
   ·rw [if_neg c7] at H
    have c7b0:(a0_0 == a1_0)=false:=beq_eq_false_iff_ne.mpr c7
    have c7b1:(a0_0 != a1_0)=true:=bne_iff_ne.mpr c7
    obtain rfl:=Option.some.inj H
    go_enter Try.func69,Try.ntmps69
    go_wp2_with (first|((with_reducible refine gate_dst (N:=2) rfl ?_);refine box_event ?hg (N:=2) ?hd (cs:=#[.int .i64 a0_0,.int .i64 a0_1,.slice A0_2 l0_2.length c0_2]) (t:=27) ?hr ?_;(case hd=>rfl);(case hg=>rfl);(case hr=>first|(go_simp;done)|(go_simp;rfl));intro gb251 hg w17 hbox hb;have n0_:=Ia (Il (by repeat(first|(with_reducible first|exact HB.out|apply Ic|apply Ib|apply Id)|exact HB.out)) hb);have n1_:=Ia (hbox);have n2_:=Ia ((by rw [hg];exact(Ii (by repeat(first|(with_reducible first|exact HB.out|apply Ic|apply Ib|apply Id)|exact HB.out))):w.heap.size≤gb251));have n3_:=Ia ((by rw [hg];exact(Ii (by repeat(first|(with_reducible first|exact HB.out|apply Ic|apply Ib|apply Id)|exact HB.out))):w.heap.size≤gb251));clear HB;have HB:=n0_;have BK251:=n1_;have GW251:=n2_;have GE251:=n3_;clear n0_ n1_ n2_ n3_;clear hb hbox hg)|((with_reducible refine gate_dst (N:=3) rfl ?_);refine box_event ?hg (N:=3) ?hd (cs:=#[.int .i64 a1_0,.int .i64 a1_1,.slice A1_2 l1_2.length c1_2]) (t:=27) ?hr ?_;(case hd=>rfl);(case hg=>rfl);(case hr=>first|(go_simp;done)|(go_simp;rfl));intro gb252 hg w18 hbox hb;have n0_:=Ia (In (g:=gb251) (o:=.cells #[.int .i64 a0_0,.int .i64 a0_1,.slice A0_2 l0_2.length c0_2] 27 (0,0)) (by(with_reducible repeat(first|refine Ik ?_ _|refine If ?_|refine Ij ?_ _));exact BK251.out) hb);have n1_:=Ia (Il (by repeat(first|(with_reducible first|exact HB.out|apply Ic|apply Ib|apply Id|refine Ih ?_ GE251.out)|exact HB.out)) hb);have n2_:=Ia (hbox);have n3_:=Ia ((by rw [hg];exact(Ii (by repeat(first|(with_reducible first|exact HB.out|apply Ic|apply Ib|apply Id|refine Ih ?_ GE251.out)|exact HB.out))):w.heap.size≤gb252));have n4_:=Ia ((by rw [hg];exact(Ii (by repeat(first|(with_reducible first|exact HB.out|apply Ic|apply Ib|apply Id|refine Ih ?_ GE251.out)|exact HB.out))):w.heap.size≤gb252));have n5_:=Ia ((by rw [hg];exact Nat.ne_of_lt (blk_lt (g:=gb251) (o:=.cells #[.int .i64 a0_0,.int .i64 a0_1,.slice A0_2 l0_2.length c0_2] 27 (0,0)) (by(with_reducible repeat(first|refine Ik ?_ _|refine If ?_|refine Ij ?_ _));exact BK251.out)):gb251≠gb252));have n6_:=Ia ((by rw [hg];exact Nat.ne_of_gt (blk_lt (g:=gb251) (o:=.cells #[.int .i64 a0_0,.int .i64 a0_1,.slice A0_2 l0_2.length c0_2] 27 (0,0)) (by(with_reducible repeat(first|refine Ik ?_ _|refine If ?_|refine Ij ?_ _));exact BK251.out)):gb252≠gb251));clear BK251;clear HB;have BK251:=n0_;have HB:=n1_;have BK252:=n2_;have GW252:=n3_;have GE252:=n4_;have NB251_252:=n5_;have NB252_251:=n6_;clear n0_ n1_ n2_ n3_ n4_ n5_ n6_;clear hb hbox hg;have hnb19:=NB251_252.out;have hnc19:=NB252_251.out;have hcz20_0:w18.cell? ⟨gb251,0,none⟩=some (.int .i64 a0_0):=(Ig BK251.out 0).trans rfl;have hcz20_1:w18.cell? ⟨gb251,1,none⟩=some (.int .i64 a0_1):=(Ig BK251.out 1).trans rfl;have hcz20_2:w18.cell? ⟨gb251,2,none⟩=some (.slice A0_2 l0_2.length c0_2):=(Ig BK251.out 2).trans rfl;have hfz20_0:=Ie BK251.out 0;have hfz20_1:=Ie BK251.out 1;have hfz20_2:=Ie BK251.out 2)|((with_reducible refine Im (f:=17) rfl ?_);refine goesL_ (some 6) rfl rfl Try.func17 (by kernel_rfl) rfl #[.agg #[.int .i64 a0_0,.int .i64 a0_1,.slice A0_2 l0_2.length c0_2]] rfl (by(try simp only [List.map_toArray,List.map_cons,List.map_nil]);first|done|rfl|(simp only [List.length_drop,List.length_take];rfl)) ?_;(with_reducible refine(impl_PictureOk.calls a0_0 a0_1 _ _ l0_2 true _ ?side1 ?side2 A3.out).mono ?_);(case side1=>repeat(first|exact(Kd.C_below HR0_2.out HB.out)|(with_reducible refine Kd.C_alloc ?_ _)|(with_reducible refine Kd.C_drewN ?_ _)|(with_reducible refine Kd.C_drew ?_)));(case side2=>exact HC0_2.out);rintro e w21 ⟨rfl,hb⟩;refine⟨_,rfl,?_⟩;have n0_:=Ia (In (g:=gb251) (o:=.cells #[.int .i64 a0_0,.int .i64 a0_1,.slice A0_2 l0_2.length c0_2] 27 (0,0)) (by(with_reducible repeat(first|refine Ik ?_ _|refine If ?_|refine Ij ?_ _));exact BK251.out) hb);have n1_:=Ia (In (g:=gb252) (o:=.cells #[.int .i64 a1_0,.int .i64 a1_1,.slice A1_2 l1_2.length c1_2] 27 (0,0)) (by(with_reducible repeat(first|refine Ik ?_ _|refine If ?_|refine Ij ?_ _));exact BK252.out) hb);have n2_:=Ia (Il (by repeat(first|(with_reducible first|exact HB.out|apply Ic|apply Ib|apply Id|refine Ih ?_ GE251.out|refine Ih ?_ GE252.out)|exact HB.out)) hb);clear BK251;clear BK252;clear HB;have BK251:=n0_;have BK252:=n1_;have HB:=n2_;clear n0_ n1_ n2_;(try clear hb);(try clear hb2);(try clear hk);(try clear hi);have hcz22_0:w21.cell? ⟨gb252,0,none⟩=some (.int .i64 a1_0):=(Ig BK252.out 0).trans rfl;have hcz22_1:w21.cell? ⟨gb252,1,none⟩=some (.int .i64 a1_1):=(Ig BK252.out 1).trans rfl;have hcz22_2:w21.cell? ⟨gb252,2,none⟩=some (.slice A1_2 l1_2.length c1_2):=(Ig BK252.out 2).trans rfl;have hfz22_0:=Ie BK252.out 0;have hfz22_1:=Ie BK252.out 1;have hfz22_2:=Ie BK252.out 2)|(go_at_call 17;(with_reducible refine(impl_PictureOk.calls a1_0 a1_1 _ _ l1_2 true _ ?side1 ?side2 A5.out).mono ?_);(case side1=>repeat(first|exact(Kd.C_below HR1_2.out HB.out)|(with_reducible refine Kd.C_alloc ?_ _)|(with_reducible refine Kd.C_drewN ?_ _)|(with_reducible refine Kd.C_drew ?_)));(case side2=>exact HC1_2.out);rintro e w23 ⟨rfl,hb⟩;have n0_:=Ia (In (g:=gb251) (o:=.cells #[.int .i64 a0_0,.int .i64 a0_1,.slice A0_2 l0_2.length c0_2] 27 (0,0)) (by(with_reducible repeat(first|refine Ik ?_ _|refine If ?_|refine Ij ?_ _));exact BK251.out) hb);have n1_:=Ia (In (g:=gb252) (o:=.cells #[.int .i64 a1_0,.int .i64 a1_1,.slice A1_2 l1_2.length c1_2] 27 (0,0)) (by(with_reducible repeat(first|refine Ik ?_ _|refine If ?_|refine Ij ?_ _));exact BK252.out) hb);have n2_:=Ia (Il (by repeat(first|(with_reducible first|exact HB.out|apply Ic|apply Ib|apply Id|refine Ih ?_ GE251.out|refine Ih ?_ GE252.out)|exact HB.out)) hb);clear BK251;clear BK252;clear HB;have BK251:=n0_;have BK252:=n1_;have HB:=n2_;clear n0_ n1_ n2_;(try clear hb);(try clear hb2);(try clear hk);(try clear hi);have hcz24_0:w23.cell? ⟨gb251,0,none⟩=some (.int .i64 a0_0):=(Ig BK251.out 0).trans rfl;have hcz24_1:w23.cell? ⟨gb251,1,none⟩=some (.int .i64 a0_1):=(Ig BK251.out 1).trans rfl;have hcz24_2:w23.cell? ⟨gb251,2,none⟩=some (.slice A0_2 l0_2.length c0_2):=(Ig BK251.out 2).trans rfl;have hfz24_0:=Ie BK251.out 0;have hfz24_1:=Ie BK251.out 1;have hfz24_2:=Ie BK251.out 2;have hcz25_0:w23.cell? ⟨gb252,0,none⟩=some (.int .i64 a1_0):=(Ig BK252.out 0).trans rfl;have hcz25_1:w23.cell? ⟨gb252,1,none⟩=some (.int .i64 a1_1):=(Ig BK252.out 1).trans rfl;have hcz25_2:w23.cell? ⟨gb252,2,none⟩=some (.slice A1_2 l1_2.length c1_2):=(Ig BK252.out 2).trans rfl;have hfz25_0:=Ie BK252.out 0;have hfz25_1:=Ie BK252.out 1;have hfz25_2:=Ie BK252.out 2))
    go_ret
    exact⟨by first|rfl|(simp [errW_none,errW_some] <;> rfl)|(simp [*,errW_none,errW_some] <;> rfl),by repeat(first|(with_reducible first|exact HB.out|apply Ic|apply Ib|apply Id|refine Ih ?_ GE251.out|refine Ih ?_ GE252.out)|exact HB.out)⟩
  ·replace c6:=Bool.eq_false_iff.mpr c6
   subst c6
   have H1:(some false)=some r:=by rw [if_neg (show ¬ (false=true) by decide)] at H;exact H
   clear H
   have H:=H1
   clear H1
   obtain rfl:=Option.some.inj H
   go_enter Try.func69,Try.ntmps69
   go_wp2_with (first|((with_reducible refine gate_dst (N:=2) rfl ?_);refine box_event ?hg (N:=2) ?hd (cs:=#[.int .i64 a0_0,.int .i64 a0_1,.slice A0_2 l0_2.length c0_2]) (t:=27) ?hr ?_;(case hd=>rfl);(case hg=>rfl);(case hr=>first|(go_simp;done)|(go_simp;rfl));intro gb251 hg w26 hbox hb;have n0_:=Ia (Il (by repeat(first|(with_reducible first|exact HB.out|apply Ic|apply Ib|apply Id)|exact HB.out)) hb);have n1_:=Ia (hbox);have n2_:=Ia ((by rw [hg];exact(Ii (by repeat(first|(with_reducible first|exact HB.out|apply Ic|apply Ib|apply Id)|exact HB.out))):w.heap.size≤gb251));have n3_:=Ia ((by rw [hg];exact(Ii (by repeat(first|(with_reducible first|exact HB.out|apply Ic|apply Ib|apply Id)|exact HB.out))):w.heap.size≤gb251));clear HB;have HB:=n0_;have BK251:=n1_;have GW251:=n2_;have GE251:=n3_;clear n0_ n1_ n2_ n3_;clear hb hbox hg)|((with_reducible refine gate_dst (N:=3) rfl ?_);refine box_event ?hg (N:=3) ?hd (cs:=#[.int .i64 a1_0,.int .i64 a1_1,.slice A1_2 l1_2.length c1_2]) (t:=27) ?hr ?_;(case hd=>rfl);(case hg=>rfl);(case hr=>first|(go_simp;done)|(go_simp;rfl));intro gb252 hg w27 hbox hb;have n0_:=Ia (In (g:=gb251) (o:=.cells #[.int .i64 a0_0,.int .i64 a0_1,.slice A0_2 l0_2.length c0_2] 27 (0,0)) (by(with_reducible repeat(first|refine Ik ?_ _|refine If ?_|refine Ij ?_ _));exact BK251.out) hb);have n1_:=Ia (Il (by repeat(first|(with_reducible first|exact HB.out|apply Ic|apply Ib|apply Id|refine Ih ?_ GE251.out)|exact HB.out)) hb);have n2_:=Ia (hbox);have n3_:=Ia ((by rw [hg];exact(Ii (by repeat(first|(with_reducible first|exact HB.out|apply Ic|apply Ib|apply Id|refine Ih ?_ GE251.out)|exact HB.out))):w.heap.size≤gb252));have n4_:=Ia ((by rw [hg];exact(Ii (by repeat(first|(with_reducible first|exact HB.out|apply Ic|apply Ib|apply Id|refine Ih ?_ GE251.out)|exact HB.out))):w.heap.size≤gb252));have n5_:=Ia ((by rw [hg];exact Nat.ne_of_lt (blk_lt (g:=gb251) (o:=.cells #[.int .i64 a0_0,.int .i64 a0_1,.slice A0_2 l0_2.length c0_2] 27 (0,0)) (by(with_reducible repeat(first|refine Ik ?_ _|refine If ?_|refine Ij ?_ _));exact BK251.out)):gb251≠gb252));have n6_:=Ia ((by rw [hg];exact Nat.ne_of_gt (blk_lt (g:=gb251) (o:=.cells #[.int .i64 a0_0,.int .i64 a0_1,.slice A0_2 l0_2.length c0_2] 27 (0,0)) (by(with_reducible repeat(first|refine Ik ?_ _|refine If ?_|refine Ij ?_ _));exact BK251.out)):gb252≠gb251));clear BK251;clear HB;have BK251:=n0_;have HB:=n1_;have BK252:=n2_;have GW252:=n3_;have GE252:=n4_;have NB251_252:=n5_;have NB252_251:=n6_;clear n0_ n1_ n2_ n3_ n4_ n5_ n6_;clear hb hbox hg;have hnb28:=NB251_252.out;have hnc28:=NB252_251.out;have hcz29_0:w27.cell? ⟨gb251,0,none⟩=some (.int .i64 a0_0):=(Ig BK251.out 0).trans rfl;have hcz29_1:w27.cell? ⟨gb251,1,none⟩=some (.int .i64 a0_1):=(Ig BK251.out 1).trans rfl;have hcz29_2:w27.cell? ⟨gb251,2,none⟩=some (.slice A0_2 l0_2.length c0_2):=(Ig BK251.out 2).trans rfl;have hfz29_0:=Ie BK251.out 0;have hfz29_1:=Ie BK251.out 1;have hfz29_2:=Ie BK251.out 2)|((with_reducible refine Im (f:=17) rfl ?_);refine goesL_ (some 6) rfl rfl Try.func17 (by kernel_rfl) rfl #[.agg #[.int .i64 a0_0,.int .i64 a0_1,.slice A0_2 l0_2.length c0_2]] rfl (by(try simp only [List.map_toArray,List.map_cons,List.map_nil]);first|done|rfl|(simp only [List.length_drop,List.length_take];rfl)) ?_;(with_reducible refine(impl_PictureOk.calls a0_0 a0_1 _ _ l0_2 true _ ?side1 ?side2 A3.out).mono ?_);(case side1=>repeat(first|exact(Kd.C_below HR0_2.out HB.out)|(with_reducible refine Kd.C_alloc ?_ _)|(with_reducible refine Kd.C_drewN ?_ _)|(with_reducible refine Kd.C_drew ?_)));(case side2=>exact HC0_2.out);rintro e w30 ⟨rfl,hb⟩;refine⟨_,rfl,?_⟩;have n0_:=Ia (In (g:=gb251) (o:=.cells #[.int .i64 a0_0,.int .i64 a0_1,.slice A0_2 l0_2.length c0_2] 27 (0,0)) (by(with_reducible repeat(first|refine Ik ?_ _|refine If ?_|refine Ij ?_ _));exact BK251.out) hb);have n1_:=Ia (In (g:=gb252) (o:=.cells #[.int .i64 a1_0,.int .i64 a1_1,.slice A1_2 l1_2.length c1_2] 27 (0,0)) (by(with_reducible repeat(first|refine Ik ?_ _|refine If ?_|refine Ij ?_ _));exact BK252.out) hb);have n2_:=Ia (Il (by repeat(first|(with_reducible first|exact HB.out|apply Ic|apply Ib|apply Id|refine Ih ?_ GE251.out|refine Ih ?_ GE252.out)|exact HB.out)) hb);clear BK251;clear BK252;clear HB;have BK251:=n0_;have BK252:=n1_;have HB:=n2_;clear n0_ n1_ n2_;(try clear hb);(try clear hb2);(try clear hk);(try clear hi);have hcz31_0:w30.cell? ⟨gb252,0,none⟩=some (.int .i64 a1_0):=(Ig BK252.out 0).trans rfl;have hcz31_1:w30.cell? ⟨gb252,1,none⟩=some (.int .i64 a1_1):=(Ig BK252.out 1).trans rfl;have hcz31_2:w30.cell? ⟨gb252,2,none⟩=some (.slice A1_2 l1_2.length c1_2):=(Ig BK252.out 2).trans rfl;have hfz31_0:=Ie BK252.out 0;have hfz31_1:=Ie BK252.out 1;have hfz31_2:=Ie BK252.out 2)|(go_at_call 17;(with_reducible refine(impl_PictureOk.calls a1_0 a1_1 _ _ l1_2 false _ ?side1 ?side2 A5.out).mono ?_);(case side1=>repeat(first|exact(Kd.C_below HR1_2.out HB.out)|(with_reducible refine Kd.C_alloc ?_ _)|(with_reducible refine Kd.C_drewN ?_ _)|(with_reducible refine Kd.C_drew ?_)));(case side2=>exact HC1_2.out);rintro e w32 ⟨rfl,hb⟩;have n0_:=Ia (In (g:=gb251) (o:=.cells #[.int .i64 a0_0,.int .i64 a0_1,.slice A0_2 l0_2.length c0_2] 27 (0,0)) (by(with_reducible repeat(first|refine Ik ?_ _|refine If ?_|refine Ij ?_ _));exact BK251.out) hb);have n1_:=Ia (In (g:=gb252) (o:=.cells #[.int .i64 a1_0,.int .i64 a1_1,.slice A1_2 l1_2.length c1_2] 27 (0,0)) (by(with_reducible repeat(first|refine Ik ?_ _|refine If ?_|refine Ij ?_ _));exact BK252.out) hb);have n2_:=Ia (Il (by repeat(first|(with_reducible first|exact HB.out|apply Ic|apply Ib|apply Id|refine Ih ?_ GE251.out|refine Ih ?_ GE252.out)|exact HB.out)) hb);clear BK251;clear BK252;clear HB;have BK251:=n0_;have BK252:=n1_;have HB:=n2_;clear n0_ n1_ n2_;(try clear hb);(try clear hb2);(try clear hk);(try clear hi)))
   go_ret
   exact⟨by first|rfl|(simp [errW_none,errW_some] <;> rfl)|(simp [*,errW_none,errW_some] <;> rfl),by repeat(first|(with_reducible first|exact HB.out|apply Ic|apply Ib|apply Id|refine Ih ?_ GE251.out|refine Ih ?_ GE252.out)|exact HB.out)⟩
 ·replace c4:=Bool.eq_false_iff.mpr c4
  subst c4
  have H1:(some false)=some r:=by rw [if_neg (show ¬ (false=true) by decide)] at H;exact H
  clear H
  have H:=H1
  clear H1
  obtain rfl:=Option.some.inj H
  go_enter Try.func69,Try.ntmps69
  go_wp2_with (first|((with_reducible refine gate_dst (N:=2) rfl ?_);refine box_event ?hg (N:=2) ?hd (cs:=#[.int .i64 a0_0,.int .i64 a0_1,.slice A0_2 l0_2.length c0_2]) (t:=27) ?hr ?_;(case hd=>rfl);(case hg=>rfl);(case hr=>first|(go_simp;done)|(go_simp;rfl));intro gb251 hg w33 hbox hb;have n0_:=Ia (Il (by repeat(first|(with_reducible first|exact HB.out|apply Ic|apply Ib|apply Id)|exact HB.out)) hb);have n1_:=Ia (hbox);have n2_:=Ia ((by rw [hg];exact(Ii (by repeat(first|(with_reducible first|exact HB.out|apply Ic|apply Ib|apply Id)|exact HB.out))):w.heap.size≤gb251));have n3_:=Ia ((by rw [hg];exact(Ii (by repeat(first|(with_reducible first|exact HB.out|apply Ic|apply Ib|apply Id)|exact HB.out))):w.heap.size≤gb251));clear HB;have HB:=n0_;have BK251:=n1_;have GW251:=n2_;have GE251:=n3_;clear n0_ n1_ n2_ n3_;clear hb hbox hg)|((with_reducible refine gate_dst (N:=3) rfl ?_);refine box_event ?hg (N:=3) ?hd (cs:=#[.int .i64 a1_0,.int .i64 a1_1,.slice A1_2 l1_2.length c1_2]) (t:=27) ?hr ?_;(case hd=>rfl);(case hg=>rfl);(case hr=>first|(go_simp;done)|(go_simp;rfl));intro gb252 hg w34 hbox hb;have n0_:=Ia (In (g:=gb251) (o:=.cells #[.int .i64 a0_0,.int .i64 a0_1,.slice A0_2 l0_2.length c0_2] 27 (0,0)) (by(with_reducible repeat(first|refine Ik ?_ _|refine If ?_|refine Ij ?_ _));exact BK251.out) hb);have n1_:=Ia (Il (by repeat(first|(with_reducible first|exact HB.out|apply Ic|apply Ib|apply Id|refine Ih ?_ GE251.out)|exact HB.out)) hb);have n2_:=Ia (hbox);have n3_:=Ia ((by rw [hg];exact(Ii (by repeat(first|(with_reducible first|exact HB.out|apply Ic|apply Ib|apply Id|refine Ih ?_ GE251.out)|exact HB.out))):w.heap.size≤gb252));have n4_:=Ia ((by rw [hg];exact(Ii (by repeat(first|(with_reducible first|exact HB.out|apply Ic|apply Ib|apply Id|refine Ih ?_ GE251.out)|exact HB.out))):w.heap.size≤gb252));have n5_:=Ia ((by rw [hg];exact Nat.ne_of_lt (blk_lt (g:=gb251) (o:=.cells #[.int .i64 a0_0,.int .i64 a0_1,.slice A0_2 l0_2.length c0_2] 27 (0,0)) (by(with_reducible repeat(first|refine Ik ?_ _|refine If ?_|refine Ij ?_ _));exact BK251.out)):gb251≠gb252));have n6_:=Ia ((by rw [hg];exact Nat.ne_of_gt (blk_lt (g:=gb251) (o:=.cells #[.int .i64 a0_0,.int .i64 a0_1,.slice A0_2 l0_2.length c0_2] 27 (0,0)) (by(with_reducible repeat(first|refine Ik ?_ _|refine If ?_|refine Ij ?_ _));exact BK251.out)):gb252≠gb251));clear BK251;clear HB;have BK251:=n0_;have HB:=n1_;have BK252:=n2_;have GW252:=n3_;have GE252:=n4_;have NB251_252:=n5_;have NB252_251:=n6_;clear n0_ n1_ n2_ n3_ n4_ n5_ n6_;clear hb hbox hg;have hnb35:=NB251_252.out;have hnc35:=NB252_251.out;have hcz36_0:w34.cell? ⟨gb251,0,none⟩=some (.int .i64 a0_0):=(Ig BK251.out 0).trans rfl;have hcz36_1:w34.cell? ⟨gb251,1,none⟩=some (.int .i64 a0_1):=(Ig BK251.out 1).trans rfl;have hcz36_2:w34.cell? ⟨gb251,2,none⟩=some (.slice A0_2 l0_2.length c0_2):=(Ig BK251.out 2).trans rfl;have hfz36_0:=Ie BK251.out 0;have hfz36_1:=Ie BK251.out 1;have hfz36_2:=Ie BK251.out 2)|((with_reducible refine Im (f:=17) rfl ?_);refine goesL_ (some 6) rfl rfl Try.func17 (by kernel_rfl) rfl #[.agg #[.int .i64 a0_0,.int .i64 a0_1,.slice A0_2 l0_2.length c0_2]] rfl (by(try simp only [List.map_toArray,List.map_cons,List.map_nil]);first|done|rfl|(simp only [List.length_drop,List.length_take];rfl)) ?_;(with_reducible refine(impl_PictureOk.calls a0_0 a0_1 _ _ l0_2 false _ ?side1 ?side2 A3.out).mono ?_);(case side1=>repeat(first|exact(Kd.C_below HR0_2.out HB.out)|(with_reducible refine Kd.C_alloc ?_ _)|(with_reducible refine Kd.C_drewN ?_ _)|(with_reducible refine Kd.C_drew ?_)));(case side2=>exact HC0_2.out);rintro e w37 ⟨rfl,hb⟩;refine⟨_,rfl,?_⟩;have n0_:=Ia (In (g:=gb251) (o:=.cells #[.int .i64 a0_0,.int .i64 a0_1,.slice A0_2 l0_2.length c0_2] 27 (0,0)) (by(with_reducible repeat(first|refine Ik ?_ _|refine If ?_|refine Ij ?_ _));exact BK251.out) hb);have n1_:=Ia (In (g:=gb252) (o:=.cells #[.int .i64 a1_0,.int .i64 a1_1,.slice A1_2 l1_2.length c1_2] 27 (0,0)) (by(with_reducible repeat(first|refine Ik ?_ _|refine If ?_|refine Ij ?_ _));exact BK252.out) hb);have n2_:=Ia (Il (by repeat(first|(with_reducible first|exact HB.out|apply Ic|apply Ib|apply Id|refine Ih ?_ GE251.out|refine Ih ?_ GE252.out)|exact HB.out)) hb);clear BK251;clear BK252;clear HB;have BK251:=n0_;have BK252:=n1_;have HB:=n2_;clear n0_ n1_ n2_;(try clear hb);(try clear hb2);(try clear hk);(try clear hi)))
  go_ret
  exact⟨by first|rfl|(simp [errW_none,errW_some] <;> rfl)|(simp [*,errW_none,errW_some] <;> rfl),by repeat(first|(with_reducible first|exact HB.out|apply Ic|apply Ib|apply Id|refine Ih ?_ GE251.out|refine Ih ?_ GE252.out)|exact HB.out)⟩

/-! ### impl_Picture_blocks: function 70 -/
def impl_Picture_blocks.f (a0_0 : Int) (a0_1 : Int) (l0_2 : List Int) : Option (Int) := some (wrap64 ((wrap64 (Int.tdiv a0_0 4)) * (wrap64 (Int.tdiv a0_1 4))))
set_option maxHeartbeats 8000000 in
set_option maxRecDepth 100000 in
theorem impl_Picture_blocks.calls (a0_0 : Int) (a0_1 : Int) (A0_2 : Option Addr) (c0_2 : Nat) (l0_2 : List Int) (r : Int) (w : World) (hr0_2 : Kd.C (Kd.int .i64) w A0_2 l0_2.length l0_2) (hc0_2 : l0_2.length ≤ c0_2) (h : impl_Picture_blocks.f a0_0 a0_1 l0_2 = some r) :
  Calls Try.prog 70 #[.agg #[.int .i64 a0_0,.int .i64 a0_1,.slice A0_2 l0_2.length c0_2]] w fun e w'=>e=.returned (.int .i64 r)∧Below w.heap.size w w':=by
 have hu27:=Try.underlying27
 have HR0_2:=Ia hr0_2
 have HC0_2:=Ia hc0_2
 clear hr0_2 hc0_2
 have HB:=Ia (Below.refl w.heap.size w)
 have H:(some (wrap64 ((wrap64 (Int.tdiv a0_0 4))*(wrap64 (Int.tdiv a0_1 4)))))=some r:=h
 clear h
 obtain rfl:=Option.some.inj H
 go_enter Try.func70,Try.ntmps70
 go_wp2_with (first|((with_reducible refine gate_dst (N:=1) rfl ?_);refine box_event ?hg (N:=1) ?hd (cs:=#[.int .i64 a0_0,.int .i64 a0_1,.slice A0_2 l0_2.length c0_2]) (t:=27) ?hr ?_;(case hd=>rfl);(case hg=>rfl);(case hr=>first|(go_simp;done)|(go_simp;rfl));intro gb255 hg w2 hbox hb;have n0_:=Ia (Il (by repeat(first|(with_reducible first|exact HB.out|apply Ic|apply Ib|apply Id)|exact HB.out)) hb);have n1_:=Ia (hbox);have n2_:=Ia ((by rw [hg];exact(Ii (by repeat(first|(with_reducible first|exact HB.out|apply Ic|apply Ib|apply Id)|exact HB.out))):w.heap.size≤gb255));have n3_:=Ia ((by rw [hg];exact(Ii (by repeat(first|(with_reducible first|exact HB.out|apply Ic|apply Ib|apply Id)|exact HB.out))):w.heap.size≤gb255));clear HB;have HB:=n0_;have BK255:=n1_;have GW255:=n2_;have GE255:=n3_;clear n0_ n1_ n2_ n3_;clear hb hbox hg;have hcz3_0:w2.cell? ⟨gb255,0,none⟩=some (.int .i64 a0_0):=(Ig BK255.out 0).trans rfl;have hcz3_1:w2.cell? ⟨gb255,1,none⟩=some (.int .i64 a0_1):=(Ig BK255.out 1).trans rfl;have hcz3_2:w2.cell? ⟨gb255,2,none⟩=some (.slice A0_2 l0_2.length c0_2):=(Ig BK255.out 2).trans rfl;have hfz3_0:=Ie BK255.out 0;have hfz3_1:=Ie BK255.out 1;have hfz3_2:=Ie BK255.out 2))
 go_ret
 exact⟨by first|rfl|(simp [errW_none,errW_some] <;> rfl)|(simp [*,errW_none,errW_some] <;> rfl),by repeat(first|(with_reducible first|exact HB.out|apply Ic|apply Ib|apply Id|refine Ih ?_ GE255.out)|exact HB.out)⟩

/-! ### impl_Picture_corner: function 76 -/
def impl_Picture_corner.f (a0_0 : Int) (a0_1 : Int) (l0_2 : List Int) (a1 : Int) : Option (Int × Int) := if (wrap64 (Int.tdiv a0_0 4)) = 0 then (none) else (some (wrap64 ((Int.tmod a1 (wrap64 (Int.tdiv a0_0 4))) * 4), wrap64 ((wrap64 (Int.tdiv a1 (wrap64 (Int.tdiv a0_0 4)))) * 4)))
set_option maxHeartbeats 8000000 in
set_option maxRecDepth 100000 in
theorem impl_Picture_corner.calls (a0_0 : Int) (a0_1 : Int) (A0_2 : Option Addr) (c0_2 : Nat) (l0_2 : List Int) (a1 : Int) (r1 : Int) (r2 : Int) (w : World) (hr0_2 : Kd.C (Kd.int .i64) w A0_2 l0_2.length l0_2) (hc0_2 : l0_2.length ≤ c0_2) (h : impl_Picture_corner.f a0_0 a0_1 l0_2 a1 = some (r1, r2)) :
  Calls Try.prog 76 #[.agg #[.int .i64 a0_0,.int .i64 a0_1,.slice A0_2 l0_2.length c0_2],.int .i64 a1] w fun e w'=>e=.returned (.tuple #[.int .i64 r1,.int .i64 r2])∧Below w.heap.size w w':=by
 have hu27:=Try.underlying27
 have HR0_2:=Ia hr0_2
 have HC0_2:=Ia hc0_2
 clear hr0_2 hc0_2
 have HB:=Ia (Below.refl w.heap.size w)
 have H:(if (wrap64 (Int.tdiv a0_0 4))=0 then (none) else (some (wrap64 ((Int.tmod a1 (wrap64 (Int.tdiv a0_0 4)))*4),wrap64 ((wrap64 (Int.tdiv a1 (wrap64 (Int.tdiv a0_0 4))))*4))))=some (r1,r2):=h
 clear h
 by_cases c3:(wrap64 (Int.tdiv a0_0 4))=0
 ·rw [if_pos c3] at H
  exact absurd H (by simp)
 ·rw [if_neg c3] at H
  have c3b0:((wrap64 (Int.tdiv a0_0 4)) == 0)=false:=beq_eq_false_iff_ne.mpr c3
  have c3b1:((wrap64 (Int.tdiv a0_0 4)) != 0)=true:=bne_iff_ne.mpr c3
  simp only [Option.some.injEq,Prod.mk.injEq] at H
  obtain⟨rfl,rfl⟩:=H
  go_enter Try.func76,Try.ntmps76
  go_wp2_with (first|((with_reducible refine gate_dst (N:=2) rfl ?_);refine box_event ?hg (N:=2) ?hd (cs:=#[.int .i64 a0_0,.int .i64 a0_1,.slice A0_2 l0_2.length c0_2]) (t:=27) ?hr ?_;(case hd=>rfl);(case hg=>rfl);(case hr=>first|(go_simp;done)|(go_simp;rfl));intro gb256 hg w4 hbox hb;have n0_:=Ia (Il (by repeat(first|(with_reducible first|exact HB.out|apply Ic|apply Ib|apply Id)|exact HB.out)) hb);have n1_:=Ia (hbox);have n2_:=Ia ((by rw [hg];exact(Ii (by repeat(first|(with_reducible first|exact HB.out|apply Ic|apply Ib|apply Id)|exact HB.out))):w.heap.size≤gb256));have n3_:=Ia ((by rw [hg];exact(Ii (by repeat(first|(with_reducible first|exact HB.out|apply Ic|apply Ib|apply Id)|exact HB.out))):w.heap.size≤gb256));clear HB;have HB:=n0_;have BK256:=n1_;have GW256:=n2_;have GE256:=n3_;clear n0_ n1_ n2_ n3_;clear hb hbox hg;have hcz5_0:w4.cell? ⟨gb256,0,none⟩=some (.int .i64 a0_0):=(Ig BK256.out 0).trans rfl;have hcz5_1:w4.cell? ⟨gb256,1,none⟩=some (.int .i64 a0_1):=(Ig BK256.out 1).trans rfl;have hcz5_2:w4.cell? ⟨gb256,2,none⟩=some (.slice A0_2 l0_2.length c0_2):=(Ig BK256.out 2).trans rfl;have hfz5_0:=Ie BK256.out 0;have hfz5_1:=Ie BK256.out 1;have hfz5_2:=Ie BK256.out 2))
  repeat(go_quiet (first|((with_reducible refine gate_dst (N:=2) rfl ?_);refine box_event ?hg (N:=2) ?hd (cs:=#[.int .i64 a0_0,.int .i64 a0_1,.slice A0_2 l0_2.length c0_2]) (t:=27) ?hr ?_;(case hd=>rfl);(case hg=>rfl);(case hr=>first|(go_simp;done)|(go_simp;rfl));intro gb256 hg w4 hbox hb;have n0_:=Ia (Il (by repeat(first|(with_reducible first|exact HB.out|apply Ic|apply Ib|apply Id)|exact HB.out)) hb);have n1_:=Ia (hbox);have n2_:=Ia ((by rw [hg];exact(Ii (by repeat(first|(with_reducible first|exact HB.out|apply Ic|apply Ib|apply Id)|exact HB.out))):w.heap.size≤gb256));have n3_:=Ia ((by rw [hg];exact(Ii (by repeat(first|(with_reducible first|exact HB.out|apply Ic|apply Ib|apply Id)|exact HB.out))):w.heap.size≤gb256));clear HB;have HB:=n0_;have BK256:=n1_;have GW256:=n2_;have GE256:=n3_;clear n0_ n1_ n2_ n3_;clear hb hbox hg;have hcz5_0:w4.cell? ⟨gb256,0,none⟩=some (.int .i64 a0_0):=(Ig BK256.out 0).trans rfl;have hcz5_1:w4.cell? ⟨gb256,1,none⟩=some (.int .i64 a0_1):=(Ig BK256.out 1).trans rfl;have hcz5_2:w4.cell? ⟨gb256,2,none⟩=some (.slice A0_2 l0_2.length c0_2):=(Ig BK256.out 2).trans rfl;have hfz5_0:=Ie BK256.out 0;have hfz5_1:=Ie BK256.out 1;have hfz5_2:=Ie BK256.out 2));try go_wp2_with (first|((with_reducible refine gate_dst (N:=2) rfl ?_);refine box_event ?hg (N:=2) ?hd (cs:=#[.int .i64 a0_0,.int .i64 a0_1,.slice A0_2 l0_2.length c0_2]) (t:=27) ?hr ?_;(case hd=>rfl);(case hg=>rfl);(case hr=>first|(go_simp;done)|(go_simp;rfl));intro gb256 hg w4 hbox hb;have n0_:=Ia (Il (by repeat(first|(with_reducible first|exact HB.out|apply Ic|apply Ib|apply Id)|exact HB.out)) hb);have n1_:=Ia (hbox);have n2_:=Ia ((by rw [hg];exact(Ii (by repeat(first|(with_reducible first|exact HB.out|apply Ic|apply Ib|apply Id)|exact HB.out))):w.heap.size≤gb256));have n3_:=Ia ((by rw [hg];exact(Ii (by repeat(first|(with_reducible first|exact HB.out|apply Ic|apply Ib|apply Id)|exact HB.out))):w.heap.size≤gb256));clear HB;have HB:=n0_;have BK256:=n1_;have GW256:=n2_;have GE256:=n3_;clear n0_ n1_ n2_ n3_;clear hb hbox hg;have hcz5_0:w4.cell? ⟨gb256,0,none⟩=some (.int .i64 a0_0):=(Ig BK256.out 0).trans rfl;have hcz5_1:w4.cell? ⟨gb256,1,none⟩=some (.int .i64 a0_1):=(Ig BK256.out 1).trans rfl;have hcz5_2:w4.cell? ⟨gb256,2,none⟩=some (.slice A0_2 l0_2.length c0_2):=(Ig BK256.out 2).trans rfl;have hfz5_0:=Ie BK256.out 0;have hfz5_1:=Ie BK256.out 1;have hfz5_2:=Ie BK256.out 2)))
  go_ret2
  exact⟨by first|rfl|(simp [errW_none,errW_some] <;> rfl)|(simp [*,errW_none,errW_some] <;> rfl),by repeat(first|(with_reducible first|exact HB.out|apply Ic|apply Ib|apply Id|refine Ih ?_ GE256.out)|exact HB.out)⟩

/-! ### impl_Picture_at: function 78 -/
def impl_Picture_at.l0 : Nat → Int → Int → Int → Int → List Int → Int → Int → Int → List Int → Option (List Int)
 | 0, _, _, _, _, _, _, _, _, _ => none
 | k + 1, x2, x3, x9, x10, x11, x22, x258000, x258001, x258002 => if x22 < 16 then (if 0 ≤ (wrap64 ((wrap64 ((mn (mx (wrap64 ((wrap64 (x10 + (wrap64 (Int.tdiv x22 4)))) + x3)) 0) (wrap64 (x258001 - 1))) * x258000)) + (mn (mx (wrap64 ((wrap64 (x9 + (Int.tmod x22 4))) + x2)) 0) (wrap64 (x258000 - 1))))) then (if (wrap64 ((wrap64 ((mn (mx (wrap64 ((wrap64 (x10 + (wrap64 (Int.tdiv x22 4)))) + x3)) 0) (wrap64 (x258001 - 1))) * x258000)) + (mn (mx (wrap64 ((wrap64 (x9 + (Int.tmod x22 4))) + x2)) 0) (wrap64 (x258000 - 1))))) < (x258002.length : Int) then (if x11.length < 17592186044416 then (impl_Picture_at.l0 k x2 x3 x9 x10 (x11 ++ [rd x258002 (wrap64 ((wrap64 ((mn (mx (wrap64 ((wrap64 (x10 + (wrap64 (Int.tdiv x22 4)))) + x3)) 0) (wrap64 (x258001 - 1))) * x258000)) + (mn (mx (wrap64 ((wrap64 (x9 + (Int.tmod x22 4))) + x2)) 0) (wrap64 (x258000 - 1)))))]) (wrap64 (x22 + 1)) x258000 x258001 x258002) else (none)) else (none)) else (none)) else (some x11)
def impl_Picture_at.f (k : Nat) (a0_0 : Int) (a0_1 : Int) (l0_2 : List Int) (a1 : Int) (a2 : Int) (a3 : Int) : Option (List Int) := (impl_Picture_corner.f a0_0 a0_1 l0_2 a1).bind fun bt258 => (impl_Picture_at.l0 k a2 a3 bt258.1 bt258.2 (([] : List Int)) 0 a0_0 a0_1 l0_2)
theorem impl_Picture_at.mono_l : ∀ k, (∀ y0 y1 y2 y3 y4 y5 y6 y7 y8, LeO (impl_Picture_at.l0 k y0 y1 y2 y3 y4 y5 y6 y7 y8) (impl_Picture_at.l0 (k + 1) y0 y1 y2 y3 y4 y5 y6 y7 y8))
 | 0 => fun _ _ _ _ _ _ _ _ _ r h => by simp [impl_Picture_at.l0] at h
 | k + 1 => by
  have ih0:=impl_Picture_at.mono_l k
  ·intro y0 y1 y2 y3 y4 y5 y6 y7 y8
   unfold impl_Picture_at.l0
   repeat' first
   | (with_reducible exact ih0 _ _ _ _ _ _ _ _ _)
   | (with_reducible exact LeO.refl _)
   | (with_reducible exact LeO.none _)
   | (with_reducible refine LeO.ite ?_ ?_)
   | (with_reducible refine LeO.bind ?_ (fun _ => ?_))
   | exact ih0 _ _ _ _ _ _ _ _ _
   | exact LeO.none _
   | refine LeO.ite ?_ ?_
   | refine LeO.bind ?_ (fun _ => ?_)
theorem impl_Picture_at.mono : ∀ a0 a1 a2 a3 a4 a5 k, LeO (impl_Picture_at.f k a0 a1 a2 a3 a4 a5) (impl_Picture_at.f (k + 1) a0 a1 a2 a3 a4 a5) := by
 intro a0 a1 a2 a3 a4 a5 k
 have ih0:=impl_Picture_at.mono_l k
 unfold impl_Picture_at.f
 repeat' first
   | (with_reducible exact ih0 _ _ _ _ _ _ _ _ _)
   | (with_reducible exact LeO.refl _)
   | (with_reducible exact LeO.none _)
   | (with_reducible refine LeO.ite ?_ ?_)
   | (with_reducible refine LeO.bind ?_ (fun _ => ?_))
   | exact ih0 _ _ _ _ _ _ _ _ _
   | exact LeO.none _
   | refine LeO.ite ?_ ?_
   | refine LeO.bind ?_ (fun _ => ?_)
set_option maxHeartbeats 8000000 in
set_option maxRecDepth 100000 in
theorem impl_Picture_at.calls (k : Nat) (a0_0 : Int) (a0_1 : Int) (A0_2 : Option Addr) (c0_2 : Nat) (l0_2 : List Int) (a1 : Int) (a2 : Int) (a3 : Int) (r : List Int) (w : World) (hr0_2 : Kd.C (Kd.int .i64) w A0_2 l0_2.length l0_2) (hc0_2 : l0_2.length ≤ c0_2) (h : impl_Picture_at.f k a0_0 a0_1 l0_2 a1 a2 a3 = some r) :
  Calls Try.prog 78 #[.agg #[.int .i64 a0_0,.int .i64 a0_1,.slice A0_2 l0_2.length c0_2],.int .i64 a1,.int .i64 a2,.int .i64 a3] w fun e w'=>∃ v0_:Value,e=.returned (v0_)∧Kd.R (Kd.int .i64) 2 w' w.heap.size (fun _=>True) v0_ r∧Below w.heap.size w w':=by
 have hu27:=Try.underlying27
 have HR0_2:=Ia hr0_2
 have HC0_2:=Ia hc0_2
 clear hr0_2 hc0_2
 have HB:=Ia (Below.refl w.heap.size w)
 have H:((impl_Picture_corner.f a0_0 a0_1 l0_2 a1).bind fun bt258=>(impl_Picture_at.l0 k a2 a3 bt258.1 bt258.2 (([]:List Int)) 0 a0_0 a0_1 l0_2))=some r:=h
 clear h
 replace H:=Option.bind_eq_some_iff.mp H
 obtain⟨⟨t258,t259⟩,A50,H⟩:=H
 replace H:(impl_Picture_at.l0 k a2 a3 t258 t259 (([]:List Int)) 0 a0_0 a0_1 l0_2)=some r:=H
 have A5:=Ia A50
 clear A50
 obtain⟨y260,hy260⟩:∃ y_:List Int,y_=(([]:List Int)):=⟨_,rfl⟩
 replace H:(impl_Picture_at.l0 k a2 a3 t258 t259 y260 0 a0_0 a0_1 l0_2)=some r:=by first|(rw [hy260];with_reducible exact H)|(have H2_:=(Option.bind_some _ _).symm.trans H;rw [hy260];with_reducible exact H2_)|(have H2_:=(Option.bind_some _ _).symm.trans H;with_reducible exact H2_)|with_reducible exact H|(rw [hy260];exact H)|exact H
 have Ny260:=Ia hy260
 clear hy260
 have H':=Ia H
 clear H
 go_enter Try.func78,Try.ntmps78
 go_wp2_with (first|((with_reducible refine gate_dst (N:=4) rfl ?_);refine box_event ?hg (N:=4) ?hd (cs:=#[.int .i64 a0_0,.int .i64 a0_1,.slice A0_2 l0_2.length c0_2]) (t:=27) ?hr ?_;(case hd=>rfl);(case hg=>rfl);(case hr=>first|(go_simp;done)|(go_simp;rfl));intro gb257 hg w6 hbox hb;have n0_:=Ia (Il (by repeat(first|(with_reducible first|exact HB.out|apply Ic|apply Ib|apply Id)|exact HB.out)) hb);have n1_:=Ia (hbox);have n2_:=Ia ((by rw [hg];exact(Ii (by repeat(first|(with_reducible first|exact HB.out|apply Ic|apply Ib|apply Id)|exact HB.out))):w.heap.size≤gb257));have n3_:=Ia ((by rw [hg];exact(Ii (by repeat(first|(with_reducible first|exact HB.out|apply Ic|apply Ib|apply Id)|exact HB.out))):w.heap.size≤gb257));clear HB;have HB:=n0_;have BK257:=n1_;have GW257:=n2_;have GE257:=n3_;clear n0_ n1_ n2_ n3_;clear hb hbox hg;have hcz7_0:w6.cell? ⟨gb257,0,none⟩=some (.int .i64 a0_0):=(Ig BK257.out 0).trans rfl;have hcz7_1:w6.cell? ⟨gb257,1,none⟩=some (.int .i64 a0_1):=(Ig BK257.out 1).trans rfl;have hcz7_2:w6.cell? ⟨gb257,2,none⟩=some (.slice A0_2 l0_2.length c0_2):=(Ig BK257.out 2).trans rfl;have hfz7_0:=Ie BK257.out 0;have hfz7_1:=Ie BK257.out 1;have hfz7_2:=Ie BK257.out 2)|((with_reducible refine Im (f:=76) rfl ?_);refine goesL_ (some 18) rfl rfl Try.func76 (by kernel_rfl) rfl #[.agg #[.int .i64 a0_0,.int .i64 a0_1,.slice A0_2 l0_2.length c0_2],.int .i64 a1] rfl (by(try simp only [List.map_toArray,List.map_cons,List.map_nil]);first|done|rfl|(simp only [List.length_drop,List.length_take];rfl)) ?_;(with_reducible refine(impl_Picture_corner.calls a0_0 a0_1 _ _ l0_2 a1 t258 t259 _ ?side1 ?side2 A5.out).mono ?_);(case side1=>repeat(first|exact(Kd.C_below HR0_2.out HB.out)|(with_reducible refine Kd.C_alloc ?_ _)|(with_reducible refine Kd.C_drewN ?_ _)|(with_reducible refine Kd.C_drew ?_)));(case side2=>exact HC0_2.out);rintro e w8 ⟨rfl,hb⟩;refine⟨_,rfl,?_⟩;have n0_:=Ia (In (g:=gb257) (o:=.cells #[.int .i64 a0_0,.int .i64 a0_1,.slice A0_2 l0_2.length c0_2] 27 (0,0)) (by(with_reducible repeat(first|refine Ik ?_ _|refine If ?_|refine Ij ?_ _));exact BK257.out) hb);have n1_:=Ia (Il (by repeat(first|(with_reducible first|exact HB.out|apply Ic|apply Ib|apply Id|refine Ih ?_ GE257.out)|exact HB.out)) hb);clear BK257;clear HB;have BK257:=n0_;have HB:=n1_;clear n0_ n1_;(try clear hb);(try clear hb2);(try clear hk);(try clear hi))|((with_reducible refine gate_dst (N:=21) rfl ?_);refine Kd.R_lit (Kd.int .i64) _ 2 ?hg (N:=21) ?hd (xs:=([]:List Int)) (inner:=[]) (ok:=fun _=>True) (okp:=fun _=>True) ?hr ?hp (fun _ hk=>hk) trivial (Below.refl _ _) (Nat.le_refl _) (by simp) ?_;(case hd=>rfl);(case hg=>rfl);(case hr=>first|(go_simp;done)|(go_simp;rfl));(case hp=>exact(Reps.none _ _));intro v261 w9 ho10 hb hg_ hnew_;clear hg_ hnew_;(first|rw [← Ny260.out] at ho10|(simp only [Int.reduceToNat] at ho10;rw [← Ny260.out] at ho10));have n0_:=Ia (Kd.R_lower ho10 (Ii (by repeat(first|(with_reducible first|exact HB.out|apply Ic|apply Ib|apply Id|refine Ih ?_ GE257.out)|exact HB.out))));have n1_:=Ia (In (g:=gb257) (o:=.cells #[.int .i64 a0_0,.int .i64 a0_1,.slice A0_2 l0_2.length c0_2] 27 (0,0)) (by(with_reducible repeat(first|refine Ik ?_ _|refine If ?_|refine Ij ?_ _));exact BK257.out) hb);have n2_:=Ia (Il (by repeat(first|(with_reducible first|exact HB.out|apply Ic|apply Ib|apply Id|refine Ih ?_ GE257.out)|exact HB.out)) hb);clear BK257;clear HB;have HO262:=n0_;have BK257:=n1_;have HB:=n2_;clear n0_ n1_ n2_;clear hb ho10))
 go_loopg [11,22] k (fun kq v11 v22 w'=>∃ (x11_1:List Int) (x22_1:Int),v22=.int .i64 x22_1∧Aside0 (impl_Picture_at.l0 kq a2 a3 t258 t259 x11_1 x22_1 a0_0 a0_1 l0_2=some r)∧Aside0 (kq≤k)∧Aside0 (Kd.R (Kd.int .i64) 2 w' w.heap.size (fun _=>True) v11 x11_1)∧Aside0 (w'.heap[gb257]? = some (.cells #[.int .i64 a0_0,.int .i64 a0_1,(.slice A0_2 l0_2.length c0_2)] 27 (0,0)))∧Aside0 (Below w.heap.size w w'))
 case atStart=>exact⟨(y260),(0),(by first|rfl|(simp;done)|(simp [*];done)),H',⟨Nat.le_refl _⟩,⟨by(with_reducible repeat(first|apply Kd.R_alloc|apply Kd.R_drewN|apply Kd.R_drew));exact HO262.out⟩,⟨by(with_reducible repeat(first|refine Ik ?_ _|refine If ?_|refine Ij ?_ _));exact BK257.out⟩,⟨by repeat(first|(with_reducible first|exact HB.out|apply Ic|apply Ib|apply Id|refine Ih ?_ GE257.out)|exact HB.out)⟩⟩
 case round=>
  clear H'
  try clear p2
  try clear c7
  try clear hcz7_0
  try clear hcz7_1
  try clear hcz7_2
  try clear hfz7_0
  try clear hfz7_1
  try clear hfz7_2
  obtain⟨x11_1,x22_1,rfl,HA,HK1,HO_11,BK257,HB⟩:=hrel
  cases gk with
  | zero => exact absurd HA.out (by simp [impl_Picture_at.l0])
  | succ k1 =>
   have H:=HA.out
   clear HA
   simp only [impl_Picture_at.l0] at H
   by_cases c11:x22_1 < 16
   ·rw [if_pos c11] at H
    have c11b0:decide (x22_1 < 16)=true:=decide_eq_true c11
    clear c11
    obtain⟨ji12,hji12⟩:∃ j_:Int,(mx (wrap64 ((wrap64 (t258+(Int.tmod x22_1 4)))+a2)) 0)=j_:=⟨_,rfl⟩
    replace H:(if 0≤(wrap64 ((wrap64 ((mn (mx (wrap64 ((wrap64 (t259+(wrap64 (Int.tdiv x22_1 4))))+a3)) 0) (wrap64 (a0_1 - 1)))*a0_0))+(mn (ji12) (wrap64 (a0_0 - 1))))) then (if (wrap64 ((wrap64 ((mn (mx (wrap64 ((wrap64 (t259+(wrap64 (Int.tdiv x22_1 4))))+a3)) 0) (wrap64 (a0_1 - 1)))*a0_0))+(mn (ji12) (wrap64 (a0_0 - 1))))) < (l0_2.length:Int) then (if x11_1.length < 17592186044416 then (impl_Picture_at.l0 k1 a2 a3 t258 t259 (x11_1 ++ [rd l0_2 (wrap64 ((wrap64 ((mn (mx (wrap64 ((wrap64 (t259+(wrap64 (Int.tdiv x22_1 4))))+a3)) 0) (wrap64 (a0_1 - 1)))*a0_0))+(mn (ji12) (wrap64 (a0_0 - 1)))))]) (wrap64 (x22_1+1)) a0_0 a0_1 l0_2) else (none)) else (none)) else (none))=some r:=by first|(rw [hji12] at H;exact H)|(simp only [hji12] at H ⊢;exact H)
    have hji12_:(if (wrap64 ((wrap64 (t258+(Int.tmod x22_1 4)))+a2)) < 0 then 0 else (wrap64 ((wrap64 (t258+(Int.tmod x22_1 4)))+a2)))=ji12:=hji12
    obtain⟨ji13,hji13⟩:∃ j_:Int,(mn (ji12) (wrap64 (a0_0 - 1)))=j_:=⟨_,rfl⟩
    replace H:(if 0≤(wrap64 ((wrap64 ((mn (mx (wrap64 ((wrap64 (t259+(wrap64 (Int.tdiv x22_1 4))))+a3)) 0) (wrap64 (a0_1 - 1)))*a0_0))+(ji13))) then (if (wrap64 ((wrap64 ((mn (mx (wrap64 ((wrap64 (t259+(wrap64 (Int.tdiv x22_1 4))))+a3)) 0) (wrap64 (a0_1 - 1)))*a0_0))+(ji13))) < (l0_2.length:Int) then (if x11_1.length < 17592186044416 then (impl_Picture_at.l0 k1 a2 a3 t258 t259 (x11_1 ++ [rd l0_2 (wrap64 ((wrap64 ((mn (mx (wrap64 ((wrap64 (t259+(wrap64 (Int.tdiv x22_1 4))))+a3)) 0) (wrap64 (a0_1 - 1)))*a0_0))+(ji13)))]) (wrap64 (x22_1+1)) a0_0 a0_1 l0_2) else (none)) else (none)) else (none))=some r:=by first|(rw [hji13] at H;exact H)|(simp only [hji13] at H ⊢;exact H)
    have hji13_:(if (wrap64 (a0_0 - 1)) < (ji12) then (wrap64 (a0_0 - 1)) else (ji12))=ji13:=hji13
    obtain⟨ji14,hji14⟩:∃ j_:Int,(mx (wrap64 ((wrap64 (t259+(wrap64 (Int.tdiv x22_1 4))))+a3)) 0)=j_:=⟨_,rfl⟩
    replace H:(if 0≤(wrap64 ((wrap64 ((mn (ji14) (wrap64 (a0_1 - 1)))*a0_0))+(ji13))) then (if (wrap64 ((wrap64 ((mn (ji14) (wrap64 (a0_1 - 1)))*a0_0))+(ji13))) < (l0_2.length:Int) then (if x11_1.length < 17592186044416 then (impl_Picture_at.l0 k1 a2 a3 t258 t259 (x11_1 ++ [rd l0_2 (wrap64 ((wrap64 ((mn (ji14) (wrap64 (a0_1 - 1)))*a0_0))+(ji13)))]) (wrap64 (x22_1+1)) a0_0 a0_1 l0_2) else (none)) else (none)) else (none))=some r:=by first|(rw [hji14] at H;exact H)|(simp only [hji14] at H ⊢;exact H)
    have hji14_:(if (wrap64 ((wrap64 (t259+(wrap64 (Int.tdiv x22_1 4))))+a3)) < 0 then 0 else (wrap64 ((wrap64 (t259+(wrap64 (Int.tdiv x22_1 4))))+a3)))=ji14:=hji14
    obtain⟨ji15,hji15⟩:∃ j_:Int,(mn (ji14) (wrap64 (a0_1 - 1)))=j_:=⟨_,rfl⟩
    replace H:(if 0≤(wrap64 ((wrap64 ((ji15)*a0_0))+(ji13))) then (if (wrap64 ((wrap64 ((ji15)*a0_0))+(ji13))) < (l0_2.length:Int) then (if x11_1.length < 17592186044416 then (impl_Picture_at.l0 k1 a2 a3 t258 t259 (x11_1 ++ [rd l0_2 (wrap64 ((wrap64 ((ji15)*a0_0))+(ji13)))]) (wrap64 (x22_1+1)) a0_0 a0_1 l0_2) else (none)) else (none)) else (none))=some r:=by first|(rw [hji15] at H;exact H)|(simp only [hji15] at H ⊢;exact H)
    have hji15_:(if (wrap64 (a0_1 - 1)) < (ji14) then (wrap64 (a0_1 - 1)) else (ji14))=ji15:=hji15
    obtain⟨ji16,hji16⟩:∃ j_:Int,(wrap64 ((wrap64 ((ji15)*a0_0))+(ji13)))=j_:=⟨_,rfl⟩
    replace H:(if 0≤(ji16) then (if (ji16) < (l0_2.length:Int) then (if x11_1.length < 17592186044416 then (impl_Picture_at.l0 k1 a2 a3 t258 t259 (x11_1 ++ [rd l0_2 (ji16)]) (wrap64 (x22_1+1)) a0_0 a0_1 l0_2) else (none)) else (none)) else (none))=some r:=by first|(rw [hji16] at H;exact H)|(simp only [hji16] at H ⊢;exact H)
    have hji16w:(IntKind.i64.wrap ((wrap64 ((ji15)*a0_0))+(ji13)))=ji16:=(i64_w _).trans hji16
    by_cases c17:0≤(ji16)
    ·rw [if_pos c17] at H
     have c17b0:decide (0≤(ji16))=true:=decide_eq_true c17
     clear c17
     by_cases c18:(ji16) < (l0_2.length:Int)
     ·rw [if_pos c18] at H
      have c18b0:decide ((ji16) < (l0_2.length:Int))=true:=decide_eq_true c18
      clear c18
      by_cases c19:x11_1.length < 17592186044416
      ·rw [if_pos c19] at H
       have LMc19:=Ia c19
       clear c19
       obtain⟨y264,hy264⟩:∃ y_:List Int,y_=(x11_1 ++ [rd l0_2 (ji16)]):=⟨_,rfl⟩
       replace H:(impl_Picture_at.l0 k1 a2 a3 t258 t259 y264 (wrap64 (x22_1+1)) a0_0 a0_1 l0_2)=some r:=by first|(rw [hy264];with_reducible exact H)|(have H2_:=(Option.bind_some _ _).symm.trans H;rw [hy264];with_reducible exact H2_)|(have H2_:=(Option.bind_some _ _).symm.trans H;with_reducible exact H2_)|with_reducible exact H|(rw [hy264];exact H)|exact H
       have Ny264:=Ia hy264
       clear hy264
       have H':=Ia H
       clear H
       have hcz20_0:wr.cell? ⟨gb257,0,none⟩=some (.int .i64 a0_0):=(Ig BK257.out 0).trans rfl
       have hcz20_1:wr.cell? ⟨gb257,1,none⟩=some (.int .i64 a0_1):=(Ig BK257.out 1).trans rfl
       have hcz20_2:wr.cell? ⟨gb257,2,none⟩=some (.slice A0_2 l0_2.length c0_2):=(Ig BK257.out 2).trans rfl
       have hfz20_0:=Ie BK257.out 0
       have hfz20_1:=Ie BK257.out 1
       have hfz20_2:=Ie BK257.out 2
       have p263:0≤((ji16):Int):=of_decide_eq_true (by first|(with_reducible assumption)|assumption)
       have q263:(ji16) < (l0_2.length:Int):=of_decide_eq_true (by first|(with_reducible assumption)|assumption)
       obtain⟨ad263,e263,hx263_0⟩:=Kd.at_int HR0_2.out (ji16) p263 q263
       cases e263
       replace hx263_0:=(HB.out.cell (World.block_lt_of_cell? w _ hx263_0)).trans hx263_0
       replace p263:=eq_true p263
       replace q263:=eq_true q263
       go_wp2_with (first|((with_reducible refine gate_builtin (b:=.append) (xs:=#[.tmp 47,.tmp 58]) rfl ?_);at_builtin;refine Kd.R_append (Kd.int .i64) (w0:=w) w.heap.size rfl (.tmp 47) (.tmp 58) 22 2 (.int .i64 0) 8 rfl Try.underlying22 info2 rfl (by decide) (by omega) u11 x11_1 (rd l0_2 (ji16)) [.int .i64 (rd l0_2 (ji16))] (fun _=>True) (fun _=>False) rfl rfl ?aP (fun _ hk=>hk.elim) ?aF ?aO ?aB ?aS ?aL ?_;(case aP=>exact rfl);(case aB=>exact(by repeat(first|(with_reducible first|exact HB.out|apply Ic|apply Ib|apply Id|refine Ih ?_ GE257.out)|exact HB.out)));(case aF=>exact(fun _ _=>trivial));(case aO=>exact(by(with_reducible repeat(first|apply Kd.R_alloc|apply Kd.R_drewN|apply Kd.R_drew));exact HO_11.out));(case aS=>exact(Ii (by repeat(first|(with_reducible first|exact HB.out|apply Ic|apply Ib|apply Id|refine Ih ?_ GE257.out)|exact HB.out))));(case aL=>have:=LMc19.out;omega);intro v265 w21 ho hb hg hat;rw [← Ny264.out] at ho;have n0_:=Ia (blk_grown (g:=gb257) (o:=.cells #[.int .i64 a0_0,.int .i64 a0_1,.slice (some ad263) l0_2.length c0_2] 27 (0,0)) (by(with_reducible repeat(first|refine Ik ?_ _|refine If ?_|refine Ij ?_ _));exact BK257.out) hg (Kd.R_ne HO_11.out BK257.out (by decide)));have n1_:=Ia (hb);have n2_:=Ia (ho);clear BK257;clear HB;clear HO_11;have BK257:=n0_;have HB:=n1_;have HO266:=n2_;clear n0_ n1_ n2_;clear ho hb hg hat))
       go_roundg k1
       case measure=>have:=HK1.out;omega
       case rel=>exact⟨(y264),(wrap64 (x22_1+1)),(by first|rfl|(simp;done)|(simp [*];done)),H',⟨by have:=HK1.out;omega⟩,⟨by(with_reducible repeat(first|apply Kd.R_alloc|apply Kd.R_drewN|apply Kd.R_drew));exact HO266.out⟩,⟨by(with_reducible repeat(first|refine Ik ?_ _|refine If ?_|refine Ij ?_ _));exact BK257.out⟩,⟨by repeat(first|(with_reducible first|exact HB.out|apply Ic|apply Ib|apply Id|refine Ih ?_ GE257.out)|exact HB.out)⟩⟩
      ·rw [if_neg c19] at H
       exact absurd H (by simp)
     ·rw [if_neg c18] at H
      exact absurd H (by simp)
    ·rw [if_neg c17] at H
     exact absurd H (by simp)
   ·rw [if_neg c11] at H
    have c11b0:decide (x22_1 < 16)=false:=decide_eq_false c11
    clear c11
    obtain rfl:=Option.some.inj H
    go_wp2
    go_ret
    exact⟨_,by first|rfl|(simp [errW_none,errW_some] <;> rfl)|(simp [*,errW_none,errW_some] <;> rfl),by(with_reducible repeat(first|apply Kd.R_alloc|apply Kd.R_drewN|apply Kd.R_drew));exact HO_11.out,by repeat(first|(with_reducible first|exact HB.out|apply Ic|apply Ib|apply Id|refine Ih ?_ GE257.out)|exact HB.out)⟩

/-! ### impl_offBy: function 87 -/
def impl_offBy.l0 : Nat → List Int → Int → List Int → Int → Int → Option (Int)
 | 0, _, _, _, _, _ => none
 | k + 1, x1, x5, x8, x9, x10 => if x10 < x9 then (if 0 ≤ x10 then (if x10 < (x8.length : Int) then (if x10 < (x1.length : Int) then (impl_offBy.l0 k x1 (wrap64 (x5 + (mx (wrap64 ((rd x8 x10) - (rd x1 x10))) (wrap64 ((rd x1 x10) - (rd x8 x10)))))) x8 x9 (wrap64 (x10 + 1))) else (none)) else (none)) else (none)) else (some x5)
def impl_offBy.f (k : Nat) (l0 : List Int) (l1 : List Int) : Option (Int) := impl_offBy.l0 k l1 0 l0 (l0.length : Int) 0
theorem impl_offBy.mono_l : ∀ k, (∀ y0 y1 y2 y3 y4, LeO (impl_offBy.l0 k y0 y1 y2 y3 y4) (impl_offBy.l0 (k + 1) y0 y1 y2 y3 y4))
 | 0 => fun _ _ _ _ _ r h => by simp [impl_offBy.l0] at h
 | k + 1 => by
  have ih0:=impl_offBy.mono_l k
  ·intro y0 y1 y2 y3 y4
   unfold impl_offBy.l0
   repeat' first
   | (with_reducible exact ih0 _ _ _ _ _)
   | (with_reducible exact LeO.refl _)
   | (with_reducible exact LeO.none _)
   | (with_reducible refine LeO.ite ?_ ?_)
   | (with_reducible refine LeO.bind ?_ (fun _ => ?_))
   | exact ih0 _ _ _ _ _
   | exact LeO.none _
   | refine LeO.ite ?_ ?_
   | refine LeO.bind ?_ (fun _ => ?_)
theorem impl_offBy.mono : ∀ a0 a1 k, LeO (impl_offBy.f k a0 a1) (impl_offBy.f (k + 1) a0 a1) := by
 intro a0 a1 k
 have ih0:=impl_offBy.mono_l k
 unfold impl_offBy.f
 repeat' first
   | (with_reducible exact ih0 _ _ _ _ _)
   | (with_reducible exact LeO.refl _)
   | (with_reducible exact LeO.none _)
   | (with_reducible refine LeO.ite ?_ ?_)
   | (with_reducible refine LeO.bind ?_ (fun _ => ?_))
   | exact ih0 _ _ _ _ _
   | exact LeO.none _
   | refine LeO.ite ?_ ?_
   | refine LeO.bind ?_ (fun _ => ?_)
set_option maxHeartbeats 8000000 in
set_option maxRecDepth 100000 in
theorem impl_offBy.calls (k : Nat) (A0 : Option Addr) (c0 : Nat) (l0 : List Int) (A1 : Option Addr) (c1 : Nat) (l1 : List Int) (r : Int) (w : World) (hr0 : Kd.C (Kd.int .i64) w A0 l0.length l0) (hc0 : l0.length ≤ c0) (hr1 : Kd.C (Kd.int .i64) w A1 l1.length l1) (hc1 : l1.length ≤ c1) (h : impl_offBy.f k l0 l1 = some r) :
  Calls Try.prog 87 #[.slice A0 l0.length c0,.slice A1 l1.length c1] w fun e w'=>e=.returned (.int .i64 r)∧Below w.heap.size w w':=by
 have HR0:=Ia hr0
 have HC0:=Ia hc0
 clear hr0 hc0
 have HR1:=Ia hr1
 have HC1:=Ia hc1
 clear hr1 hc1
 have HB:=Ia (Below.refl w.heap.size w)
 have H:(impl_offBy.l0 k l1 0 l0 (l0.length:Int) 0)=some r:=h
 clear h
 have H':=Ia H
 clear H
 go_enter Try.func87,Try.ntmps87
 go_wp2
 repeat(go_quiet (fail);try go_wp2)
 go_loopg [5,10] k (fun kq v5 v10 w'=>∃ (x5_1:Int) (x10_1:Int),v5=.int .i64 x5_1∧v10=.int .i64 x10_1∧Aside0 (impl_offBy.l0 kq l1 x5_1 l0 (l0.length:Int) x10_1=some r)∧Aside0 (kq≤k)∧Aside0 (Below w.heap.size w w'))
 case atStart=>exact⟨(0),(0),(by first|rfl|(simp;done)|(simp [*];done)),(by first|rfl|(simp;done)|(simp [*];done)),H',⟨Nat.le_refl _⟩,⟨by repeat(first|(with_reducible first|exact HB.out|apply Ic|apply Ib|apply Id)|exact HB.out)⟩⟩
 case round=>
  clear H'
  try clear c1
  try clear p2
  obtain⟨x5_1,x10_1,rfl,rfl,HA,HK1,HB⟩:=hrel
  cases gk with
  | zero => exact absurd HA.out (by simp [impl_offBy.l0])
  | succ k1 =>
   have H:=HA.out
   clear HA
   simp only [impl_offBy.l0] at H
   by_cases c3:x10_1 < (l0.length:Int)
   ·rw [if_pos c3] at H
    have c3b0:decide (x10_1 < (l0.length:Int))=true:=decide_eq_true c3
    clear c3
    by_cases c4:0≤x10_1
    ·rw [if_pos c4] at H
     have c4b0:decide (0≤x10_1)=true:=decide_eq_true c4
     clear c4
     by_cases c5:x10_1 < (l0.length:Int)
     ·rw [if_pos c5] at H
      have c5b0:decide (x10_1 < (l0.length:Int))=true:=decide_eq_true c5
      clear c5
      by_cases c6:x10_1 < (l1.length:Int)
      ·rw [if_pos c6] at H
       have c6b0:decide (x10_1 < (l1.length:Int))=true:=decide_eq_true c6
       clear c6
       obtain⟨ji7,hji7⟩:∃ j_:Int,(mx (wrap64 ((rd l0 x10_1) - (rd l1 x10_1))) (wrap64 ((rd l1 x10_1) - (rd l0 x10_1))))=j_:=⟨_,rfl⟩
       replace H:(impl_offBy.l0 k1 l1 (wrap64 (x5_1+(ji7))) l0 (l0.length:Int) (wrap64 (x10_1+1)))=some r:=by first|(rw [hji7] at H;exact H)|(simp only [hji7] at H ⊢;exact H)
       have hji7_:(if (wrap64 ((rd l0 x10_1) - (rd l1 x10_1))) < (wrap64 ((rd l1 x10_1) - (rd l0 x10_1))) then (wrap64 ((rd l1 x10_1) - (rd l0 x10_1))) else (wrap64 ((rd l0 x10_1) - (rd l1 x10_1))))=ji7:=hji7
       have H':=Ia H
       clear H
       have p267:0≤(x10_1:Int):=of_decide_eq_true (by first|(with_reducible assumption)|assumption)
       have q267:x10_1 < (l0.length:Int):=of_decide_eq_true (by first|(with_reducible assumption)|assumption)
       obtain⟨ad267,e267,hx267_0⟩:=Kd.at_int HR0.out x10_1 p267 q267
       cases e267
       replace hx267_0:=(HB.out.cell (World.block_lt_of_cell? w _ hx267_0)).trans hx267_0
       replace p267:=eq_true p267
       replace q267:=eq_true q267
       have p268:0≤(x10_1:Int):=of_decide_eq_true (by first|(with_reducible assumption)|assumption)
       have q268:x10_1 < (l1.length:Int):=of_decide_eq_true (by first|(with_reducible assumption)|assumption)
       obtain⟨ad268,e268,hx268_0⟩:=Kd.at_int HR1.out x10_1 p268 q268
       cases e268
       replace hx268_0:=(HB.out.cell (World.block_lt_of_cell? w _ hx268_0)).trans hx268_0
       replace p268:=eq_true p268
       replace q268:=eq_true q268
       have p269:0≤(x10_1:Int):=of_decide_eq_true (by first|(with_reducible assumption)|assumption)
       have q269:x10_1 < (l1.length:Int):=of_decide_eq_true (by first|(with_reducible assumption)|assumption)
       obtain⟨ad269,e269,hx269_0⟩:=Kd.at_int HR1.out x10_1 p269 q269
       obtain rfl:ad268=ad269:=(by injection e269)
       replace hx269_0:=(HB.out.cell (World.block_lt_of_cell? w _ hx269_0)).trans hx269_0
       replace p269:=eq_true p269
       replace q269:=eq_true q269
       go_wp2
       repeat(go_quiet (fail);try go_wp2)
       go_roundg k1
       case measure=>have:=HK1.out;omega
       case rel=>exact⟨(wrap64 (x5_1+(ji7))),(wrap64 (x10_1+1)),(by first|rfl|(simp;done)|(simp only [← hji7] <;> (first|rfl|simp))|(simp [*];done)),(by first|rfl|(simp;done)|(simp [*];done)),H',⟨by have:=HK1.out;omega⟩,⟨by repeat(first|(with_reducible first|exact HB.out|apply Ic|apply Ib|apply Id)|exact HB.out)⟩⟩
      ·rw [if_neg c6] at H
       exact absurd H (by simp)
     ·rw [if_neg c5] at H
      exact absurd H (by simp)
    ·rw [if_neg c4] at H
     exact absurd H (by simp)
   ·rw [if_neg c3] at H
    have c3b0:decide (x10_1 < (l0.length:Int))=false:=decide_eq_false c3
    clear c3
    obtain rfl:=Option.some.inj H
    go_wp2
    repeat(go_quiet (fail);try go_wp2)
    go_ret
    exact⟨by first|rfl|(simp [errW_none,errW_some] <;> rfl)|(simp [*,errW_none,errW_some] <;> rfl),by repeat(first|(with_reducible first|exact HB.out|apply Ic|apply Ib|apply Id)|exact HB.out)⟩

/-! ### cmp_Or_int: function 90 -/
def cmp_Or_int.l0 : Nat → Int → List Int → Int → Int → Option (Int)
 | 0, _, _, _, _ => none
 | k + 1, x3, x6, x7, x8 => if x8 < x7 then (if 0 ≤ x8 then (if x8 < (x6.length : Int) then (if (rd x6 x8) = x3 then (cmp_Or_int.l0 k x3 x6 x7 (wrap64 (x8 + 1))) else (some (rd x6 x8))) else (none)) else (none)) else (some x3)
def cmp_Or_int.f (k : Nat) (l0 : List Int) : Option (Int) := cmp_Or_int.l0 k 0 l0 (l0.length : Int) 0
theorem cmp_Or_int.mono_l : ∀ k, (∀ y0 y1 y2 y3, LeO (cmp_Or_int.l0 k y0 y1 y2 y3) (cmp_Or_int.l0 (k + 1) y0 y1 y2 y3))
 | 0 => fun _ _ _ _ r h => by simp [cmp_Or_int.l0] at h
 | k + 1 => by
  have ih0:=cmp_Or_int.mono_l k
  ·intro y0 y1 y2 y3
   unfold cmp_Or_int.l0
   repeat' first
   | (with_reducible exact ih0 _ _ _ _)
   | (with_reducible exact LeO.refl _)
   | (with_reducible exact LeO.none _)
   | (with_reducible refine LeO.ite ?_ ?_)
   | (with_reducible refine LeO.bind ?_ (fun _ => ?_))
   | exact ih0 _ _ _ _
   | exact LeO.none _
   | refine LeO.ite ?_ ?_
   | refine LeO.bind ?_ (fun _ => ?_)
theorem cmp_Or_int.mono : ∀ a0 k, LeO (cmp_Or_int.f k a0) (cmp_Or_int.f (k + 1) a0) := by
 intro a0 k
 have ih0:=cmp_Or_int.mono_l k
 unfold cmp_Or_int.f
 repeat' first
   | (with_reducible exact ih0 _ _ _ _)
   | (with_reducible exact LeO.refl _)
   | (with_reducible exact LeO.none _)
   | (with_reducible refine LeO.ite ?_ ?_)
   | (with_reducible refine LeO.bind ?_ (fun _ => ?_))
   | exact ih0 _ _ _ _
   | exact LeO.none _
   | refine LeO.ite ?_ ?_
   | refine LeO.bind ?_ (fun _ => ?_)
set_option maxHeartbeats 8000000 in
set_option maxRecDepth 100000 in
theorem cmp_Or_int.calls (k : Nat) (A0 : Option Addr) (c0 : Nat) (l0 : List Int) (r : Int) (w : World) (hr0 : Kd.C (Kd.int .i64) w A0 l0.length l0) (hc0 : l0.length ≤ c0) (h : cmp_Or_int.f k l0 = some r) :
  Calls Try.prog 90 #[.slice A0 l0.length c0] w fun e w'=>e=.returned (.int .i64 r)∧Drawn0 w w':=by
 have HR0:=Ia hr0
 have HC0:=Ia hc0
 clear hr0 hc0
 have H:(cmp_Or_int.l0 k 0 l0 (l0.length:Int) 0)=some r:=h
 clear h
 have H':=Ia H
 clear H
 go_enter Try.func90,Try.ntmps90
 go_wp2
 go_loopg [8] k (fun kq v8 w'=>∃ (qa:Int),v8=.int .i64 qa∧Aside0 (cmp_Or_int.l0 kq 0 l0 (l0.length:Int) qa=some r)∧Aside0 (kq≤k)∧Drawn0 w w')
 case atStart=>exact⟨(0),(by first|rfl|(simp;done)|(simp [*];done)),H',⟨Nat.le_refl _⟩,by repeat(first|exact Drawn0.refl _|apply Drawn0.step)⟩
 case round=>
  clear H'
  obtain⟨qa,rfl,HA,HK1,⟨m1,rfl⟩⟩:=hrel
  cases gk with
  | zero => exact absurd HA.out (by simp [cmp_Or_int.l0])
  | succ k1 =>
   have H:=HA.out
   clear HA
   simp only [cmp_Or_int.l0] at H
   by_cases c2:qa < (l0.length:Int)
   ·rw [if_pos c2] at H
    have c2b0:decide (qa < (l0.length:Int))=true:=decide_eq_true c2
    clear c2
    by_cases c3:0≤qa
    ·rw [if_pos c3] at H
     have c3b0:decide (0≤qa)=true:=decide_eq_true c3
     clear c3
     by_cases c4:qa < (l0.length:Int)
     ·rw [if_pos c4] at H
      have c4b0:decide (qa < (l0.length:Int))=true:=decide_eq_true c4
      clear c4
      by_cases c5:(rd l0 qa)=0
      ·rw [if_pos c5] at H
       have c5b0:((rd l0 qa) == 0)=true:=beq_iff_eq.mpr c5
       have c5b1:((rd l0 qa) != 0)=false:=bne_eq_false_iff_eq.mpr c5
       clear c5
       have H':=Ia H
       clear H
       have p270:0≤(qa:Int):=of_decide_eq_true (by first|(with_reducible assumption)|assumption)
       have q270:qa < (l0.length:Int):=of_decide_eq_true (by first|(with_reducible assumption)|assumption)
       obtain⟨ad270,e270,hx270_0⟩:=Kd.at_int HR0.out qa p270 q270
       cases e270
       replace p270:=eq_true p270
       replace q270:=eq_true q270
       go_wp2
       go_roundg k1
       case measure=>have:=HK1.out;omega
       case rel=>exact⟨(wrap64 (qa+1)),(by first|rfl|(simp;done)|(simp [*];done)),H',⟨by have:=HK1.out;omega⟩,by repeat(first|exact Drawn0.refl _|apply Drawn0.step)⟩
      ·rw [if_neg c5] at H
       have c5b0:((rd l0 qa) == 0)=false:=beq_eq_false_iff_ne.mpr c5
       have c5b1:((rd l0 qa) != 0)=true:=bne_iff_ne.mpr c5
       obtain rfl:=Option.some.inj H
       have p270:0≤(qa:Int):=of_decide_eq_true (by first|(with_reducible assumption)|assumption)
       have q270:qa < (l0.length:Int):=of_decide_eq_true (by first|(with_reducible assumption)|assumption)
       obtain⟨ad270,e270,hx270_0⟩:=Kd.at_int HR0.out qa p270 q270
       cases e270
       replace p270:=eq_true p270
       replace q270:=eq_true q270
       go_wp2
       go_ret
       exact⟨by first|rfl|(simp;done)|(simp [*];done),by repeat(first|exact Drawn0.refl _|apply Drawn0.step)⟩
     ·rw [if_neg c4] at H
      exact absurd H (by simp)
    ·rw [if_neg c3] at H
     exact absurd H (by simp)
   ·rw [if_neg c2] at H
    have c2b0:decide (qa < (l0.length:Int))=false:=decide_eq_false c2
    clear c2
    obtain rfl:=Option.some.inj H
    go_wp2
    go_ret
    exact⟨by first|rfl|(simp;done)|(simp [*];done),by repeat(first|exact Drawn0.refl _|apply Drawn0.step)⟩

/-! ### cmp_isNaN_int64: function 98 -/
def cmp_isNaN_int64.f (a0 : Int) : Option (Bool) := some (a0 != a0)
set_option maxHeartbeats 8000000 in
set_option maxRecDepth 100000 in
theorem cmp_isNaN_int64.calls (a0 : Int) (r : Bool) (w : World) (h : cmp_isNaN_int64.f a0 = some r) :
  Calls Try.prog 98 #[.int .i64 a0] w fun e w'=>e=.returned (.bool r)∧Drawn0 w w':=by
 have H:(some (a0 != a0))=some r:=h
 clear h
 obtain rfl:=Option.some.inj H
 go_enter Try.func98,Try.ntmps98
 go_wp2
 go_ret
 exact⟨by first|rfl|(simp;done)|(simp [*];done),by repeat(first|exact Drawn0.refl _|apply Drawn0.step)⟩

/-! ### cmp_Compare_int64: function 91 -/
def cmp_Compare_int64.f (a0 : Int) (a1 : Int) : Option (Int) := (cmp_isNaN_int64.f a0).bind fun t271 => ((cmp_isNaN_int64.f a1).bind fun qb => (if t271 = true then (if qb = true then (some 0) else (some (-1))) else (if qb = true then (some 1) else (if a0 < a1 then (some (-1)) else (if a0 > a1 then (some 1) else (some 0))))))
set_option maxHeartbeats 8000000 in
set_option maxRecDepth 100000 in
theorem cmp_Compare_int64.calls (a0 : Int) (a1 : Int) (r : Int) (w : World) (h : cmp_Compare_int64.f a0 a1 = some r) :
  Calls Try.prog 91 #[.int .i64 a0,.int .i64 a1] w fun e w'=>e=.returned (.int .i64 r)∧Drawn0 w w':=by
 have H:((cmp_isNaN_int64.f a0).bind fun t271=>((cmp_isNaN_int64.f a1).bind fun qb=>(if t271=true then (if qb=true then (some 0) else (some (-1))) else (if qb=true then (some 1) else (if a0 < a1 then (some (-1)) else (if a0 > a1 then (some 1) else (some 0)))))))=some r:=h
 clear h
 replace H:=Option.bind_eq_some_iff.mp H
 obtain⟨t271,A30,H⟩:=H
 replace H:((cmp_isNaN_int64.f a1).bind fun qb=>(if t271=true then (if qb=true then (some 0) else (some (-1))) else (if qb=true then (some 1) else (if a0 < a1 then (some (-1)) else (if a0 > a1 then (some 1) else (some 0))))))=some r:=H
 have A3:=Ia A30
 clear A30
 replace H:=Option.bind_eq_some_iff.mp H
 obtain⟨qb,A40,H⟩:=H
 replace H:(if t271=true then (if qb=true then (some 0) else (some (-1))) else (if qb=true then (some 1) else (if a0 < a1 then (some (-1)) else (if a0 > a1 then (some 1) else (some 0)))))=some r:=H
 have A4:=Ia A40
 clear A40
 by_cases c5:t271=true
 ·subst c5
  have H1:(if qb=true then (some 0) else (some (-1)))=some r:=by rw [if_pos rfl] at H;exact H
  clear H
  have H:=H1
  clear H1
  by_cases c6:qb=true
  ·subst c6
   have H1:(some 0)=some r:=by rw [if_pos rfl] at H;exact H
   clear H
   have H:=H1
   clear H1
   obtain rfl:=Option.some.inj H
   go_enter Try.func91,Try.ntmps91
   go_wp2_with (first|((with_reducible refine Im (f:=98) rfl ?_);refine goesL_ (some 8) rfl rfl Try.func98 (by kernel_rfl) rfl #[.int .i64 a0] rfl (by(try simp only [List.map_toArray,List.map_cons,List.map_nil]);first|done|rfl|(simp only [List.length_drop,List.length_take];rfl)) ?_;(with_reducible refine(cmp_isNaN_int64.calls a0 true _ A3.out).mono ?_);rintro e w' ⟨rfl,⟨nd,rfl⟩⟩;refine⟨_,rfl,?_⟩)|((with_reducible refine Im (f:=98) rfl ?_);refine goesL_ (some 10) rfl rfl Try.func98 (by kernel_rfl) rfl #[.int .i64 a1] rfl (by(try simp only [List.map_toArray,List.map_cons,List.map_nil]);first|done|rfl|(simp only [List.length_drop,List.length_take];rfl)) ?_;(with_reducible refine(cmp_isNaN_int64.calls a1 true _ A4.out).mono ?_);rintro e w' ⟨rfl,⟨nd,rfl⟩⟩;refine⟨_,rfl,?_⟩))
   go_ret
   exact⟨by first|rfl|(simp;done)|(simp [*];done),by repeat(first|exact Drawn0.refl _|apply Drawn0.step)⟩
  ·replace c6:=Bool.eq_false_iff.mpr c6
   subst c6
   have H1:(some (-1))=some r:=by rw [if_neg (show ¬ (false=true) by decide)] at H;exact H
   clear H
   have H:=H1
   clear H1
   obtain rfl:=Option.some.inj H
   go_enter Try.func91,Try.ntmps91
   go_wp2_with (first|((with_reducible refine Im (f:=98) rfl ?_);refine goesL_ (some 8) rfl rfl Try.func98 (by kernel_rfl) rfl #[.int .i64 a0] rfl (by(try simp only [List.map_toArray,List.map_cons,List.map_nil]);first|done|rfl|(simp only [List.length_drop,List.length_take];rfl)) ?_;(with_reducible refine(cmp_isNaN_int64.calls a0 true _ A3.out).mono ?_);rintro e w' ⟨rfl,⟨nd,rfl⟩⟩;refine⟨_,rfl,?_⟩)|((with_reducible refine Im (f:=98) rfl ?_);refine goesL_ (some 10) rfl rfl Try.func98 (by kernel_rfl) rfl #[.int .i64 a1] rfl (by(try simp only [List.map_toArray,List.map_cons,List.map_nil]);first|done|rfl|(simp only [List.length_drop,List.length_take];rfl)) ?_;(with_reducible refine(cmp_isNaN_int64.calls a1 false _ A4.out).mono ?_);rintro e w' ⟨rfl,⟨nd,rfl⟩⟩;refine⟨_,rfl,?_⟩))
   go_ret
   exact⟨by first|rfl|(simp;done)|(simp [*];done),by repeat(first|exact Drawn0.refl _|apply Drawn0.step)⟩
 ·replace c5:=Bool.eq_false_iff.mpr c5
  subst c5
  have H1:(if qb=true then (some 1) else (if a0 < a1 then (some (-1)) else (if a0 > a1 then (some 1) else (some 0))))=some r:=by rw [if_neg (show ¬ (false=true) by decide)] at H;exact H
  clear H
  have H:=H1
  clear H1
  by_cases c7:qb=true
  ·subst c7
   have H1:(some 1)=some r:=by rw [if_pos rfl] at H;exact H
   clear H
   have H:=H1
   clear H1
   obtain rfl:=Option.some.inj H
   go_enter Try.func91,Try.ntmps91
   go_wp2_with (first|((with_reducible refine Im (f:=98) rfl ?_);refine goesL_ (some 8) rfl rfl Try.func98 (by kernel_rfl) rfl #[.int .i64 a0] rfl (by(try simp only [List.map_toArray,List.map_cons,List.map_nil]);first|done|rfl|(simp only [List.length_drop,List.length_take];rfl)) ?_;(with_reducible refine(cmp_isNaN_int64.calls a0 false _ A3.out).mono ?_);rintro e w' ⟨rfl,⟨nd,rfl⟩⟩;refine⟨_,rfl,?_⟩)|((with_reducible refine Im (f:=98) rfl ?_);refine goesL_ (some 10) rfl rfl Try.func98 (by kernel_rfl) rfl #[.int .i64 a1] rfl (by(try simp only [List.map_toArray,List.map_cons,List.map_nil]);first|done|rfl|(simp only [List.length_drop,List.length_take];rfl)) ?_;(with_reducible refine(cmp_isNaN_int64.calls a1 true _ A4.out).mono ?_);rintro e w' ⟨rfl,⟨nd,rfl⟩⟩;refine⟨_,rfl,?_⟩))
   go_ret
   exact⟨by first|rfl|(simp;done)|(simp [*];done),by repeat(first|exact Drawn0.refl _|apply Drawn0.step)⟩
  ·replace c7:=Bool.eq_false_iff.mpr c7
   subst c7
   have H1:(if a0 < a1 then (some (-1)) else (if a0 > a1 then (some 1) else (some 0)))=some r:=by rw [if_neg (show ¬ (false=true) by decide)] at H;exact H
   clear H
   have H:=H1
   clear H1
   by_cases c8:a0 < a1
   ·rw [if_pos c8] at H
    have c8b0:decide (a0 < a1)=true:=decide_eq_true c8
    clear c8
    obtain rfl:=Option.some.inj H
    go_enter Try.func91,Try.ntmps91
    go_wp2_with (first|((with_reducible refine Im (f:=98) rfl ?_);refine goesL_ (some 8) rfl rfl Try.func98 (by kernel_rfl) rfl #[.int .i64 a0] rfl (by(try simp only [List.map_toArray,List.map_cons,List.map_nil]);first|done|rfl|(simp only [List.length_drop,List.length_take];rfl)) ?_;(with_reducible refine(cmp_isNaN_int64.calls a0 false _ A3.out).mono ?_);rintro e w' ⟨rfl,⟨nd,rfl⟩⟩;refine⟨_,rfl,?_⟩)|((with_reducible refine Im (f:=98) rfl ?_);refine goesL_ (some 10) rfl rfl Try.func98 (by kernel_rfl) rfl #[.int .i64 a1] rfl (by(try simp only [List.map_toArray,List.map_cons,List.map_nil]);first|done|rfl|(simp only [List.length_drop,List.length_take];rfl)) ?_;(with_reducible refine(cmp_isNaN_int64.calls a1 false _ A4.out).mono ?_);rintro e w' ⟨rfl,⟨nd,rfl⟩⟩;refine⟨_,rfl,?_⟩))
    go_ret
    exact⟨by first|rfl|(simp;done)|(simp [*];done),by repeat(first|exact Drawn0.refl _|apply Drawn0.step)⟩
   ·rw [if_neg c8] at H
    have c8b0:decide (a0 < a1)=false:=decide_eq_false c8
    clear c8
    by_cases c9:a0 > a1
    ·rw [if_pos c9] at H
     have c9b0:decide (a1 < a0)=true:=decide_eq_true c9
     clear c9
     obtain rfl:=Option.some.inj H
     go_enter Try.func91,Try.ntmps91
     go_wp2_with (first|((with_reducible refine Im (f:=98) rfl ?_);refine goesL_ (some 8) rfl rfl Try.func98 (by kernel_rfl) rfl #[.int .i64 a0] rfl (by(try simp only [List.map_toArray,List.map_cons,List.map_nil]);first|done|rfl|(simp only [List.length_drop,List.length_take];rfl)) ?_;(with_reducible refine(cmp_isNaN_int64.calls a0 false _ A3.out).mono ?_);rintro e w' ⟨rfl,⟨nd,rfl⟩⟩;refine⟨_,rfl,?_⟩)|((with_reducible refine Im (f:=98) rfl ?_);refine goesL_ (some 10) rfl rfl Try.func98 (by kernel_rfl) rfl #[.int .i64 a1] rfl (by(try simp only [List.map_toArray,List.map_cons,List.map_nil]);first|done|rfl|(simp only [List.length_drop,List.length_take];rfl)) ?_;(with_reducible refine(cmp_isNaN_int64.calls a1 false _ A4.out).mono ?_);rintro e w' ⟨rfl,⟨nd,rfl⟩⟩;refine⟨_,rfl,?_⟩))
     go_ret
     exact⟨by first|rfl|(simp;done)|(simp [*];done),by repeat(first|exact Drawn0.refl _|apply Drawn0.step)⟩
    ·rw [if_neg c9] at H
     have c9b0:decide (a1 < a0)=false:=decide_eq_false c9
     clear c9
     obtain rfl:=Option.some.inj H
     go_enter Try.func91,Try.ntmps91
     go_wp2_with (first|((with_reducible refine Im (f:=98) rfl ?_);refine goesL_ (some 8) rfl rfl Try.func98 (by kernel_rfl) rfl #[.int .i64 a0] rfl (by(try simp only [List.map_toArray,List.map_cons,List.map_nil]);first|done|rfl|(simp only [List.length_drop,List.length_take];rfl)) ?_;(with_reducible refine(cmp_isNaN_int64.calls a0 false _ A3.out).mono ?_);rintro e w' ⟨rfl,⟨nd,rfl⟩⟩;refine⟨_,rfl,?_⟩)|((with_reducible refine Im (f:=98) rfl ?_);refine goesL_ (some 10) rfl rfl Try.func98 (by kernel_rfl) rfl #[.int .i64 a1] rfl (by(try simp only [List.map_toArray,List.map_cons,List.map_nil]);first|done|rfl|(simp only [List.length_drop,List.length_take];rfl)) ?_;(with_reducible refine(cmp_isNaN_int64.calls a1 false _ A4.out).mono ?_);rintro e w' ⟨rfl,⟨nd,rfl⟩⟩;refine⟨_,rfl,?_⟩))
     go_ret
     exact⟨by first|rfl|(simp;done)|(simp [*];done),by repeat(first|exact Drawn0.refl _|apply Drawn0.step)⟩

end Go.Proofs.Ytbdnpfjjaokdbaa.HFnExactEncode
