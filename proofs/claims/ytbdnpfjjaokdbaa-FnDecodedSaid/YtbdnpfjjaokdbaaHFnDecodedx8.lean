-- Laid by myprint.py, a program of this repo, out of the kit's printer and this repo's own texts (wip/hand).
import Derived.Test.YtbdnpfjjaokdbaaHFnDecodedx0
import Derived.Test.YtbdnpfjjaokdbaaHFnDecodedx1
import Derived.Test.YtbdnpfjjaokdbaaHFnDecodedx3
namespace Go.Proofs.Ytbdnpfjjaokdbaa.HFnDecoded
open Go.RowKit Go.Proofs.YtbdnpfjjaokdbaaW.PrintWords Go.Proofs.YtbdnpfjjaokdbaaW.PrintLast Go.Proofs.YtbdnpfjjaokdbaaW.PrintMore
attribute [local go_sem] max2_int min2_int max_two min_two max_three min_three max_four min_four   -- for this text's walks alone
set_option linter.unusedVariables false
set_option linter.unusedSimpArgs false
theorem Ia : type_of% @Aside0.mk := @Aside0.mk
theorem Ib : type_of% @blk_drew := @blk_drew
theorem Ic : type_of% @pw_below_drewN := @pw_below_drewN
theorem Id : type_of% @below_alloc := @below_alloc
theorem Ie : type_of% @below_drew1 := @below_drew1
theorem If : type_of% @below_set := @below_set
theorem Ig : type_of% @blk_alloc := @blk_alloc
theorem Ih : type_of% @blk_drewN := @blk_drewN
theorem Ii : type_of% @blk_frozen := @blk_frozen
theorem Ij : type_of% @blk_cell := @blk_cell
theorem Ik : type_of% @below_size := @below_size
theorem Il : type_of% @blk_below := @blk_below
theorem Im : type_of% @below_step := @below_step
theorem In : type_of% @Kd.R_alloc := @Kd.R_alloc
theorem Io : type_of% @Kd.R_drewN := @Kd.R_drewN

/-! ### spec_l14Two: function 66 -/
def spec_l14Two.f (k : Nat) (a0_0 : Int) (a0_1 : Int) (l0_2 : List Int) (a1_0 : Int) (a1_1 : Int) (l1_2 : List Int) : Option (Bool) := (spec_PictureOk.f k a0_0 a0_1 l0_2).bind fun t206 => (if t206 = true then ((spec_PictureOk.f k a1_0 a1_1 l1_2).bind fun t207 => (if t207 = true then (if a0_0 = a1_0 then (some (a0_1 == a1_1)) else (some false)) else (some false))) else (some false))
theorem spec_l14Two.mono : ∀ a0 a1 a2 a3 a4 a5 k, LeO (spec_l14Two.f k a0 a1 a2 a3 a4 a5) (spec_l14Two.f (k + 1) a0 a1 a2 a3 a4 a5) := by
 intro a0 a1 a2 a3 a4 a5 k
 unfold spec_l14Two.f
 repeat' first
   | (with_reducible exact spec_PictureOk.mono _ _ _ _)
   | (with_reducible exact LeO.refl _)
   | (with_reducible exact LeO.none _)
   | (with_reducible refine LeO.ite ?_ ?_)
   | (with_reducible refine LeO.bind ?_ (fun _ => ?_))
   | exact spec_PictureOk.mono _ _ _ _
   | exact LeO.none _
   | refine LeO.ite ?_ ?_
   | refine LeO.bind ?_ (fun _ => ?_)
set_option maxHeartbeats 8000000 in
set_option maxRecDepth 100000 in
theorem spec_l14Two.calls (k : Nat) (a0_0 : Int) (a0_1 : Int) (A0_2 : Option Addr) (c0_2 : Nat) (l0_2 : List Int) (a1_0 : Int) (a1_1 : Int) (A1_2 : Option Addr) (c1_2 : Nat) (l1_2 : List Int) (r : Bool) (w : World) (hr0_2 : Kd.C (Kd.int .i64) w A0_2 l0_2.length l0_2) (hc0_2 : l0_2.length ≤ c0_2) (hr1_2 : Kd.C (Kd.int .i64) w A1_2 l1_2.length l1_2) (hc1_2 : l1_2.length ≤ c1_2) (h : spec_l14Two.f k a0_0 a0_1 l0_2 a1_0 a1_1 l1_2 = some r) :
  Calls Try.prog 66 #[.agg #[.int .i64 a0_0,.int .i64 a0_1,.slice A0_2 l0_2.length c0_2],.agg #[.int .i64 a1_0,.int .i64 a1_1,.slice A1_2 l1_2.length c1_2]] w fun e w'=>e=.returned (.bool r)∧Below w.heap.size w w':=by
 have hu27:=Try.underlying27
 have HR0_2:=Ia hr0_2
 have HC0_2:=Ia hc0_2
 clear hr0_2 hc0_2
 have HR1_2:=Ia hr1_2
 have HC1_2:=Ia hc1_2
 clear hr1_2 hc1_2
 have HB:=Ia (Below.refl w.heap.size w)
 have H:((spec_PictureOk.f k a0_0 a0_1 l0_2).bind fun t206=>(if t206=true then ((spec_PictureOk.f k a1_0 a1_1 l1_2).bind fun t207=>(if t207=true then (if a0_0=a1_0 then (some (a0_1 == a1_1)) else (some false)) else (some false))) else (some false)))=some r:=h
 clear h
 replace H:=Option.bind_eq_some_iff.mp H
 obtain⟨t206,A30,H⟩:=H
 replace H:(if t206=true then ((spec_PictureOk.f k a1_0 a1_1 l1_2).bind fun t207=>(if t207=true then (if a0_0=a1_0 then (some (a0_1 == a1_1)) else (some false)) else (some false))) else (some false))=some r:=H
 have A3:=Ia A30
 clear A30
 by_cases c4:t206=true
 ·subst c4
  have H1:((spec_PictureOk.f k a1_0 a1_1 l1_2).bind fun t207=>(if t207=true then (if a0_0=a1_0 then (some (a0_1 == a1_1)) else (some false)) else (some false)))=some r:=by rw [if_pos rfl] at H;exact H
  clear H
  have H:=H1
  clear H1
  replace H:=Option.bind_eq_some_iff.mp H
  obtain⟨t207,A50,H⟩:=H
  replace H:(if t207=true then (if a0_0=a1_0 then (some (a0_1 == a1_1)) else (some false)) else (some false))=some r:=H
  have A5:=Ia A50
  clear A50
  by_cases c6:t207=true
  ·subst c6
   have H1:(if a0_0=a1_0 then (some (a0_1 == a1_1)) else (some false))=some r:=by rw [if_pos rfl] at H;exact H
   clear H
   have H:=H1
   clear H1
   by_cases c7:a0_0=a1_0
   ·rw [if_pos c7] at H
    have c7b0:(a0_0 == a1_0)=true:=beq_iff_eq.mpr c7
    have c7b1:(a0_0 != a1_0)=false:=bne_eq_false_iff_eq.mpr c7
    clear c7
    obtain rfl:=Option.some.inj H
    go_enter Try.func66,Try.ntmps66
    go_wp2_with (first|((with_reducible refine gate_dst (N:=2) rfl ?_);refine box_event ?hg (N:=2) ?hd (cs:=#[.int .i64 a0_0,.int .i64 a0_1,.slice A0_2 l0_2.length c0_2]) (t:=27) ?hr ?_;(case hd=>rfl);(case hg=>rfl);(case hr=>first|(go_simp;done)|(go_simp;rfl));intro gb204 hg w8 hbox hb;have n0_:=Ia (Im (by repeat(first|(with_reducible first|exact HB.out|apply Id|apply Ic|apply Ie)|exact HB.out)) hb);have n1_:=Ia (hbox);have n2_:=Ia ((by rw [hg];exact(Ik (by repeat(first|(with_reducible first|exact HB.out|apply Id|apply Ic|apply Ie)|exact HB.out))):w.heap.size≤gb204));have n3_:=Ia ((by rw [hg];exact(Ik (by repeat(first|(with_reducible first|exact HB.out|apply Id|apply Ic|apply Ie)|exact HB.out))):w.heap.size≤gb204));clear HB;have HB:=n0_;have BK204:=n1_;have GW204:=n2_;have GE204:=n3_;clear n0_ n1_ n2_ n3_;clear hb hbox hg)|((with_reducible refine gate_dst (N:=3) rfl ?_);refine box_event ?hg (N:=3) ?hd (cs:=#[.int .i64 a1_0,.int .i64 a1_1,.slice A1_2 l1_2.length c1_2]) (t:=27) ?hr ?_;(case hd=>rfl);(case hg=>rfl);(case hr=>first|(go_simp;done)|(go_simp;rfl));intro gb205 hg w9 hbox hb;have n0_:=Ia (Il (g:=gb204) (o:=.cells #[.int .i64 a0_0,.int .i64 a0_1,.slice A0_2 l0_2.length c0_2] 27 (0,0)) (by(with_reducible repeat(first|refine Ih ?_ _|refine Ib ?_|refine Ig ?_ _));exact BK204.out) hb);have n1_:=Ia (Im (by repeat(first|(with_reducible first|exact HB.out|apply Id|apply Ic|apply Ie|refine If ?_ GE204.out)|exact HB.out)) hb);have n2_:=Ia (hbox);have n3_:=Ia ((by rw [hg];exact(Ik (by repeat(first|(with_reducible first|exact HB.out|apply Id|apply Ic|apply Ie|refine If ?_ GE204.out)|exact HB.out))):w.heap.size≤gb205));have n4_:=Ia ((by rw [hg];exact(Ik (by repeat(first|(with_reducible first|exact HB.out|apply Id|apply Ic|apply Ie|refine If ?_ GE204.out)|exact HB.out))):w.heap.size≤gb205));have n5_:=Ia ((by rw [hg];exact Nat.ne_of_lt (blk_lt (g:=gb204) (o:=.cells #[.int .i64 a0_0,.int .i64 a0_1,.slice A0_2 l0_2.length c0_2] 27 (0,0)) (by(with_reducible repeat(first|refine Ih ?_ _|refine Ib ?_|refine Ig ?_ _));exact BK204.out)):gb204≠gb205));have n6_:=Ia ((by rw [hg];exact Nat.ne_of_gt (blk_lt (g:=gb204) (o:=.cells #[.int .i64 a0_0,.int .i64 a0_1,.slice A0_2 l0_2.length c0_2] 27 (0,0)) (by(with_reducible repeat(first|refine Ih ?_ _|refine Ib ?_|refine Ig ?_ _));exact BK204.out)):gb205≠gb204));clear BK204;clear HB;have BK204:=n0_;have HB:=n1_;have BK205:=n2_;have GW205:=n3_;have GE205:=n4_;have NB204_205:=n5_;have NB205_204:=n6_;clear n0_ n1_ n2_ n3_ n4_ n5_ n6_;clear hb hbox hg;have hnb10:=NB204_205.out;have hnc10:=NB205_204.out;have hcz11_0:w9.cell? ⟨gb204,0,none⟩=some (.int .i64 a0_0):=(Ij BK204.out 0).trans rfl;have hcz11_1:w9.cell? ⟨gb204,1,none⟩=some (.int .i64 a0_1):=(Ij BK204.out 1).trans rfl;have hcz11_2:w9.cell? ⟨gb204,2,none⟩=some (.slice A0_2 l0_2.length c0_2):=(Ij BK204.out 2).trans rfl;have hfz11_0:=Ii BK204.out 0;have hfz11_1:=Ii BK204.out 1;have hfz11_2:=Ii BK204.out 2)|((with_reducible refine gate_callee (f:=15) rfl ?_);refine goesL_ (some 6) rfl rfl Try.func15 (by kernel_rfl) rfl #[.agg #[.int .i64 a0_0,.int .i64 a0_1,.slice A0_2 l0_2.length c0_2]] rfl (by(try simp only [List.map_toArray,List.map_cons,List.map_nil]);first|done|rfl|(simp only [List.length_drop,List.length_take];rfl)) ?_;(with_reducible refine(spec_PictureOk.calls k a0_0 a0_1 _ _ l0_2 true _ ?side1 ?side2 A3.out).mono ?_);(case side1=>repeat(first|exact(Kd.C_below HR0_2.out HB.out)|(with_reducible refine Kd.C_alloc ?_ _)|(with_reducible refine Kd.C_drewN ?_ _)|(with_reducible refine Kd.C_drew ?_)));(case side2=>exact HC0_2.out);rintro e w12 ⟨rfl,hb⟩;refine⟨_,rfl,?_⟩;have n0_:=Ia (Il (g:=gb204) (o:=.cells #[.int .i64 a0_0,.int .i64 a0_1,.slice A0_2 l0_2.length c0_2] 27 (0,0)) (by(with_reducible repeat(first|refine Ih ?_ _|refine Ib ?_|refine Ig ?_ _));exact BK204.out) hb);have n1_:=Ia (Il (g:=gb205) (o:=.cells #[.int .i64 a1_0,.int .i64 a1_1,.slice A1_2 l1_2.length c1_2] 27 (0,0)) (by(with_reducible repeat(first|refine Ih ?_ _|refine Ib ?_|refine Ig ?_ _));exact BK205.out) hb);have n2_:=Ia (Im (by repeat(first|(with_reducible first|exact HB.out|apply Id|apply Ic|apply Ie|refine If ?_ GE204.out|refine If ?_ GE205.out)|exact HB.out)) hb);clear BK204;clear BK205;clear HB;have BK204:=n0_;have BK205:=n1_;have HB:=n2_;clear n0_ n1_ n2_;(try clear hb);(try clear hb2);(try clear hk);(try clear hi);have hcz13_0:w12.cell? ⟨gb205,0,none⟩=some (.int .i64 a1_0):=(Ij BK205.out 0).trans rfl;have hcz13_1:w12.cell? ⟨gb205,1,none⟩=some (.int .i64 a1_1):=(Ij BK205.out 1).trans rfl;have hcz13_2:w12.cell? ⟨gb205,2,none⟩=some (.slice A1_2 l1_2.length c1_2):=(Ij BK205.out 2).trans rfl;have hfz13_0:=Ii BK205.out 0;have hfz13_1:=Ii BK205.out 1;have hfz13_2:=Ii BK205.out 2)|(go_at_call 15;(with_reducible refine(spec_PictureOk.calls k a1_0 a1_1 _ _ l1_2 true _ ?side1 ?side2 A5.out).mono ?_);(case side1=>repeat(first|exact(Kd.C_below HR1_2.out HB.out)|(with_reducible refine Kd.C_alloc ?_ _)|(with_reducible refine Kd.C_drewN ?_ _)|(with_reducible refine Kd.C_drew ?_)));(case side2=>exact HC1_2.out);rintro e w14 ⟨rfl,hb⟩;have n0_:=Ia (Il (g:=gb204) (o:=.cells #[.int .i64 a0_0,.int .i64 a0_1,.slice A0_2 l0_2.length c0_2] 27 (0,0)) (by(with_reducible repeat(first|refine Ih ?_ _|refine Ib ?_|refine Ig ?_ _));exact BK204.out) hb);have n1_:=Ia (Il (g:=gb205) (o:=.cells #[.int .i64 a1_0,.int .i64 a1_1,.slice A1_2 l1_2.length c1_2] 27 (0,0)) (by(with_reducible repeat(first|refine Ih ?_ _|refine Ib ?_|refine Ig ?_ _));exact BK205.out) hb);have n2_:=Ia (Im (by repeat(first|(with_reducible first|exact HB.out|apply Id|apply Ic|apply Ie|refine If ?_ GE204.out|refine If ?_ GE205.out)|exact HB.out)) hb);clear BK204;clear BK205;clear HB;have BK204:=n0_;have BK205:=n1_;have HB:=n2_;clear n0_ n1_ n2_;(try clear hb);(try clear hb2);(try clear hk);(try clear hi);have hcz15_0:w14.cell? ⟨gb204,0,none⟩=some (.int .i64 a0_0):=(Ij BK204.out 0).trans rfl;have hcz15_1:w14.cell? ⟨gb204,1,none⟩=some (.int .i64 a0_1):=(Ij BK204.out 1).trans rfl;have hcz15_2:w14.cell? ⟨gb204,2,none⟩=some (.slice A0_2 l0_2.length c0_2):=(Ij BK204.out 2).trans rfl;have hfz15_0:=Ii BK204.out 0;have hfz15_1:=Ii BK204.out 1;have hfz15_2:=Ii BK204.out 2;have hcz16_0:w14.cell? ⟨gb205,0,none⟩=some (.int .i64 a1_0):=(Ij BK205.out 0).trans rfl;have hcz16_1:w14.cell? ⟨gb205,1,none⟩=some (.int .i64 a1_1):=(Ij BK205.out 1).trans rfl;have hcz16_2:w14.cell? ⟨gb205,2,none⟩=some (.slice A1_2 l1_2.length c1_2):=(Ij BK205.out 2).trans rfl;have hfz16_0:=Ii BK205.out 0;have hfz16_1:=Ii BK205.out 1;have hfz16_2:=Ii BK205.out 2))
    go_ret
    exact⟨by first|rfl|(simp [errW_none,errW_some] <;> rfl)|(simp [*,errW_none,errW_some] <;> rfl),by repeat(first|(with_reducible first|exact HB.out|apply Id|apply Ic|apply Ie|refine If ?_ GE204.out|refine If ?_ GE205.out)|exact HB.out)⟩
   ·rw [if_neg c7] at H
    have c7b0:(a0_0 == a1_0)=false:=beq_eq_false_iff_ne.mpr c7
    have c7b1:(a0_0 != a1_0)=true:=bne_iff_ne.mpr c7
    obtain rfl:=Option.some.inj H
    go_enter Try.func66,Try.ntmps66
    go_wp2_with (first|((with_reducible refine gate_dst (N:=2) rfl ?_);refine box_event ?hg (N:=2) ?hd (cs:=#[.int .i64 a0_0,.int .i64 a0_1,.slice A0_2 l0_2.length c0_2]) (t:=27) ?hr ?_;(case hd=>rfl);(case hg=>rfl);(case hr=>first|(go_simp;done)|(go_simp;rfl));intro gb204 hg w17 hbox hb;have n0_:=Ia (Im (by repeat(first|(with_reducible first|exact HB.out|apply Id|apply Ic|apply Ie)|exact HB.out)) hb);have n1_:=Ia (hbox);have n2_:=Ia ((by rw [hg];exact(Ik (by repeat(first|(with_reducible first|exact HB.out|apply Id|apply Ic|apply Ie)|exact HB.out))):w.heap.size≤gb204));have n3_:=Ia ((by rw [hg];exact(Ik (by repeat(first|(with_reducible first|exact HB.out|apply Id|apply Ic|apply Ie)|exact HB.out))):w.heap.size≤gb204));clear HB;have HB:=n0_;have BK204:=n1_;have GW204:=n2_;have GE204:=n3_;clear n0_ n1_ n2_ n3_;clear hb hbox hg)|((with_reducible refine gate_dst (N:=3) rfl ?_);refine box_event ?hg (N:=3) ?hd (cs:=#[.int .i64 a1_0,.int .i64 a1_1,.slice A1_2 l1_2.length c1_2]) (t:=27) ?hr ?_;(case hd=>rfl);(case hg=>rfl);(case hr=>first|(go_simp;done)|(go_simp;rfl));intro gb205 hg w18 hbox hb;have n0_:=Ia (Il (g:=gb204) (o:=.cells #[.int .i64 a0_0,.int .i64 a0_1,.slice A0_2 l0_2.length c0_2] 27 (0,0)) (by(with_reducible repeat(first|refine Ih ?_ _|refine Ib ?_|refine Ig ?_ _));exact BK204.out) hb);have n1_:=Ia (Im (by repeat(first|(with_reducible first|exact HB.out|apply Id|apply Ic|apply Ie|refine If ?_ GE204.out)|exact HB.out)) hb);have n2_:=Ia (hbox);have n3_:=Ia ((by rw [hg];exact(Ik (by repeat(first|(with_reducible first|exact HB.out|apply Id|apply Ic|apply Ie|refine If ?_ GE204.out)|exact HB.out))):w.heap.size≤gb205));have n4_:=Ia ((by rw [hg];exact(Ik (by repeat(first|(with_reducible first|exact HB.out|apply Id|apply Ic|apply Ie|refine If ?_ GE204.out)|exact HB.out))):w.heap.size≤gb205));have n5_:=Ia ((by rw [hg];exact Nat.ne_of_lt (blk_lt (g:=gb204) (o:=.cells #[.int .i64 a0_0,.int .i64 a0_1,.slice A0_2 l0_2.length c0_2] 27 (0,0)) (by(with_reducible repeat(first|refine Ih ?_ _|refine Ib ?_|refine Ig ?_ _));exact BK204.out)):gb204≠gb205));have n6_:=Ia ((by rw [hg];exact Nat.ne_of_gt (blk_lt (g:=gb204) (o:=.cells #[.int .i64 a0_0,.int .i64 a0_1,.slice A0_2 l0_2.length c0_2] 27 (0,0)) (by(with_reducible repeat(first|refine Ih ?_ _|refine Ib ?_|refine Ig ?_ _));exact BK204.out)):gb205≠gb204));clear BK204;clear HB;have BK204:=n0_;have HB:=n1_;have BK205:=n2_;have GW205:=n3_;have GE205:=n4_;have NB204_205:=n5_;have NB205_204:=n6_;clear n0_ n1_ n2_ n3_ n4_ n5_ n6_;clear hb hbox hg;have hnb19:=NB204_205.out;have hnc19:=NB205_204.out;have hcz20_0:w18.cell? ⟨gb204,0,none⟩=some (.int .i64 a0_0):=(Ij BK204.out 0).trans rfl;have hcz20_1:w18.cell? ⟨gb204,1,none⟩=some (.int .i64 a0_1):=(Ij BK204.out 1).trans rfl;have hcz20_2:w18.cell? ⟨gb204,2,none⟩=some (.slice A0_2 l0_2.length c0_2):=(Ij BK204.out 2).trans rfl;have hfz20_0:=Ii BK204.out 0;have hfz20_1:=Ii BK204.out 1;have hfz20_2:=Ii BK204.out 2)|((with_reducible refine gate_callee (f:=15) rfl ?_);refine goesL_ (some 6) rfl rfl Try.func15 (by kernel_rfl) rfl #[.agg #[.int .i64 a0_0,.int .i64 a0_1,.slice A0_2 l0_2.length c0_2]] rfl (by(try simp only [List.map_toArray,List.map_cons,List.map_nil]);first|done|rfl|(simp only [List.length_drop,List.length_take];rfl)) ?_;(with_reducible refine(spec_PictureOk.calls k a0_0 a0_1 _ _ l0_2 true _ ?side1 ?side2 A3.out).mono ?_);(case side1=>repeat(first|exact(Kd.C_below HR0_2.out HB.out)|(with_reducible refine Kd.C_alloc ?_ _)|(with_reducible refine Kd.C_drewN ?_ _)|(with_reducible refine Kd.C_drew ?_)));(case side2=>exact HC0_2.out);rintro e w21 ⟨rfl,hb⟩;refine⟨_,rfl,?_⟩;have n0_:=Ia (Il (g:=gb204) (o:=.cells #[.int .i64 a0_0,.int .i64 a0_1,.slice A0_2 l0_2.length c0_2] 27 (0,0)) (by(with_reducible repeat(first|refine Ih ?_ _|refine Ib ?_|refine Ig ?_ _));exact BK204.out) hb);have n1_:=Ia (Il (g:=gb205) (o:=.cells #[.int .i64 a1_0,.int .i64 a1_1,.slice A1_2 l1_2.length c1_2] 27 (0,0)) (by(with_reducible repeat(first|refine Ih ?_ _|refine Ib ?_|refine Ig ?_ _));exact BK205.out) hb);have n2_:=Ia (Im (by repeat(first|(with_reducible first|exact HB.out|apply Id|apply Ic|apply Ie|refine If ?_ GE204.out|refine If ?_ GE205.out)|exact HB.out)) hb);clear BK204;clear BK205;clear HB;have BK204:=n0_;have BK205:=n1_;have HB:=n2_;clear n0_ n1_ n2_;(try clear hb);(try clear hb2);(try clear hk);(try clear hi);have hcz22_0:w21.cell? ⟨gb205,0,none⟩=some (.int .i64 a1_0):=(Ij BK205.out 0).trans rfl;have hcz22_1:w21.cell? ⟨gb205,1,none⟩=some (.int .i64 a1_1):=(Ij BK205.out 1).trans rfl;have hcz22_2:w21.cell? ⟨gb205,2,none⟩=some (.slice A1_2 l1_2.length c1_2):=(Ij BK205.out 2).trans rfl;have hfz22_0:=Ii BK205.out 0;have hfz22_1:=Ii BK205.out 1;have hfz22_2:=Ii BK205.out 2)|(go_at_call 15;(with_reducible refine(spec_PictureOk.calls k a1_0 a1_1 _ _ l1_2 true _ ?side1 ?side2 A5.out).mono ?_);(case side1=>repeat(first|exact(Kd.C_below HR1_2.out HB.out)|(with_reducible refine Kd.C_alloc ?_ _)|(with_reducible refine Kd.C_drewN ?_ _)|(with_reducible refine Kd.C_drew ?_)));(case side2=>exact HC1_2.out);rintro e w23 ⟨rfl,hb⟩;have n0_:=Ia (Il (g:=gb204) (o:=.cells #[.int .i64 a0_0,.int .i64 a0_1,.slice A0_2 l0_2.length c0_2] 27 (0,0)) (by(with_reducible repeat(first|refine Ih ?_ _|refine Ib ?_|refine Ig ?_ _));exact BK204.out) hb);have n1_:=Ia (Il (g:=gb205) (o:=.cells #[.int .i64 a1_0,.int .i64 a1_1,.slice A1_2 l1_2.length c1_2] 27 (0,0)) (by(with_reducible repeat(first|refine Ih ?_ _|refine Ib ?_|refine Ig ?_ _));exact BK205.out) hb);have n2_:=Ia (Im (by repeat(first|(with_reducible first|exact HB.out|apply Id|apply Ic|apply Ie|refine If ?_ GE204.out|refine If ?_ GE205.out)|exact HB.out)) hb);clear BK204;clear BK205;clear HB;have BK204:=n0_;have BK205:=n1_;have HB:=n2_;clear n0_ n1_ n2_;(try clear hb);(try clear hb2);(try clear hk);(try clear hi);have hcz24_0:w23.cell? ⟨gb204,0,none⟩=some (.int .i64 a0_0):=(Ij BK204.out 0).trans rfl;have hcz24_1:w23.cell? ⟨gb204,1,none⟩=some (.int .i64 a0_1):=(Ij BK204.out 1).trans rfl;have hcz24_2:w23.cell? ⟨gb204,2,none⟩=some (.slice A0_2 l0_2.length c0_2):=(Ij BK204.out 2).trans rfl;have hfz24_0:=Ii BK204.out 0;have hfz24_1:=Ii BK204.out 1;have hfz24_2:=Ii BK204.out 2;have hcz25_0:w23.cell? ⟨gb205,0,none⟩=some (.int .i64 a1_0):=(Ij BK205.out 0).trans rfl;have hcz25_1:w23.cell? ⟨gb205,1,none⟩=some (.int .i64 a1_1):=(Ij BK205.out 1).trans rfl;have hcz25_2:w23.cell? ⟨gb205,2,none⟩=some (.slice A1_2 l1_2.length c1_2):=(Ij BK205.out 2).trans rfl;have hfz25_0:=Ii BK205.out 0;have hfz25_1:=Ii BK205.out 1;have hfz25_2:=Ii BK205.out 2))
    go_ret
    exact⟨by first|rfl|(simp [errW_none,errW_some] <;> rfl)|(simp [*,errW_none,errW_some] <;> rfl),by repeat(first|(with_reducible first|exact HB.out|apply Id|apply Ic|apply Ie|refine If ?_ GE204.out|refine If ?_ GE205.out)|exact HB.out)⟩
  ·replace c6:=Bool.eq_false_iff.mpr c6
   subst c6
   have H1:(some false)=some r:=by rw [if_neg (show ¬ (false=true) by decide)] at H;exact H
   clear H
   have H:=H1
   clear H1
   obtain rfl:=Option.some.inj H
   go_enter Try.func66,Try.ntmps66
   go_wp2_with (first|((with_reducible refine gate_dst (N:=2) rfl ?_);refine box_event ?hg (N:=2) ?hd (cs:=#[.int .i64 a0_0,.int .i64 a0_1,.slice A0_2 l0_2.length c0_2]) (t:=27) ?hr ?_;(case hd=>rfl);(case hg=>rfl);(case hr=>first|(go_simp;done)|(go_simp;rfl));intro gb204 hg w26 hbox hb;have n0_:=Ia (Im (by repeat(first|(with_reducible first|exact HB.out|apply Id|apply Ic|apply Ie)|exact HB.out)) hb);have n1_:=Ia (hbox);have n2_:=Ia ((by rw [hg];exact(Ik (by repeat(first|(with_reducible first|exact HB.out|apply Id|apply Ic|apply Ie)|exact HB.out))):w.heap.size≤gb204));have n3_:=Ia ((by rw [hg];exact(Ik (by repeat(first|(with_reducible first|exact HB.out|apply Id|apply Ic|apply Ie)|exact HB.out))):w.heap.size≤gb204));clear HB;have HB:=n0_;have BK204:=n1_;have GW204:=n2_;have GE204:=n3_;clear n0_ n1_ n2_ n3_;clear hb hbox hg)|((with_reducible refine gate_dst (N:=3) rfl ?_);refine box_event ?hg (N:=3) ?hd (cs:=#[.int .i64 a1_0,.int .i64 a1_1,.slice A1_2 l1_2.length c1_2]) (t:=27) ?hr ?_;(case hd=>rfl);(case hg=>rfl);(case hr=>first|(go_simp;done)|(go_simp;rfl));intro gb205 hg w27 hbox hb;have n0_:=Ia (Il (g:=gb204) (o:=.cells #[.int .i64 a0_0,.int .i64 a0_1,.slice A0_2 l0_2.length c0_2] 27 (0,0)) (by(with_reducible repeat(first|refine Ih ?_ _|refine Ib ?_|refine Ig ?_ _));exact BK204.out) hb);have n1_:=Ia (Im (by repeat(first|(with_reducible first|exact HB.out|apply Id|apply Ic|apply Ie|refine If ?_ GE204.out)|exact HB.out)) hb);have n2_:=Ia (hbox);have n3_:=Ia ((by rw [hg];exact(Ik (by repeat(first|(with_reducible first|exact HB.out|apply Id|apply Ic|apply Ie|refine If ?_ GE204.out)|exact HB.out))):w.heap.size≤gb205));have n4_:=Ia ((by rw [hg];exact(Ik (by repeat(first|(with_reducible first|exact HB.out|apply Id|apply Ic|apply Ie|refine If ?_ GE204.out)|exact HB.out))):w.heap.size≤gb205));have n5_:=Ia ((by rw [hg];exact Nat.ne_of_lt (blk_lt (g:=gb204) (o:=.cells #[.int .i64 a0_0,.int .i64 a0_1,.slice A0_2 l0_2.length c0_2] 27 (0,0)) (by(with_reducible repeat(first|refine Ih ?_ _|refine Ib ?_|refine Ig ?_ _));exact BK204.out)):gb204≠gb205));have n6_:=Ia ((by rw [hg];exact Nat.ne_of_gt (blk_lt (g:=gb204) (o:=.cells #[.int .i64 a0_0,.int .i64 a0_1,.slice A0_2 l0_2.length c0_2] 27 (0,0)) (by(with_reducible repeat(first|refine Ih ?_ _|refine Ib ?_|refine Ig ?_ _));exact BK204.out)):gb205≠gb204));clear BK204;clear HB;have BK204:=n0_;have HB:=n1_;have BK205:=n2_;have GW205:=n3_;have GE205:=n4_;have NB204_205:=n5_;have NB205_204:=n6_;clear n0_ n1_ n2_ n3_ n4_ n5_ n6_;clear hb hbox hg;have hnb28:=NB204_205.out;have hnc28:=NB205_204.out;have hcz29_0:w27.cell? ⟨gb204,0,none⟩=some (.int .i64 a0_0):=(Ij BK204.out 0).trans rfl;have hcz29_1:w27.cell? ⟨gb204,1,none⟩=some (.int .i64 a0_1):=(Ij BK204.out 1).trans rfl;have hcz29_2:w27.cell? ⟨gb204,2,none⟩=some (.slice A0_2 l0_2.length c0_2):=(Ij BK204.out 2).trans rfl;have hfz29_0:=Ii BK204.out 0;have hfz29_1:=Ii BK204.out 1;have hfz29_2:=Ii BK204.out 2)|((with_reducible refine gate_callee (f:=15) rfl ?_);refine goesL_ (some 6) rfl rfl Try.func15 (by kernel_rfl) rfl #[.agg #[.int .i64 a0_0,.int .i64 a0_1,.slice A0_2 l0_2.length c0_2]] rfl (by(try simp only [List.map_toArray,List.map_cons,List.map_nil]);first|done|rfl|(simp only [List.length_drop,List.length_take];rfl)) ?_;(with_reducible refine(spec_PictureOk.calls k a0_0 a0_1 _ _ l0_2 true _ ?side1 ?side2 A3.out).mono ?_);(case side1=>repeat(first|exact(Kd.C_below HR0_2.out HB.out)|(with_reducible refine Kd.C_alloc ?_ _)|(with_reducible refine Kd.C_drewN ?_ _)|(with_reducible refine Kd.C_drew ?_)));(case side2=>exact HC0_2.out);rintro e w30 ⟨rfl,hb⟩;refine⟨_,rfl,?_⟩;have n0_:=Ia (Il (g:=gb204) (o:=.cells #[.int .i64 a0_0,.int .i64 a0_1,.slice A0_2 l0_2.length c0_2] 27 (0,0)) (by(with_reducible repeat(first|refine Ih ?_ _|refine Ib ?_|refine Ig ?_ _));exact BK204.out) hb);have n1_:=Ia (Il (g:=gb205) (o:=.cells #[.int .i64 a1_0,.int .i64 a1_1,.slice A1_2 l1_2.length c1_2] 27 (0,0)) (by(with_reducible repeat(first|refine Ih ?_ _|refine Ib ?_|refine Ig ?_ _));exact BK205.out) hb);have n2_:=Ia (Im (by repeat(first|(with_reducible first|exact HB.out|apply Id|apply Ic|apply Ie|refine If ?_ GE204.out|refine If ?_ GE205.out)|exact HB.out)) hb);clear BK204;clear BK205;clear HB;have BK204:=n0_;have BK205:=n1_;have HB:=n2_;clear n0_ n1_ n2_;(try clear hb);(try clear hb2);(try clear hk);(try clear hi);have hcz31_0:w30.cell? ⟨gb205,0,none⟩=some (.int .i64 a1_0):=(Ij BK205.out 0).trans rfl;have hcz31_1:w30.cell? ⟨gb205,1,none⟩=some (.int .i64 a1_1):=(Ij BK205.out 1).trans rfl;have hcz31_2:w30.cell? ⟨gb205,2,none⟩=some (.slice A1_2 l1_2.length c1_2):=(Ij BK205.out 2).trans rfl;have hfz31_0:=Ii BK205.out 0;have hfz31_1:=Ii BK205.out 1;have hfz31_2:=Ii BK205.out 2)|(go_at_call 15;(with_reducible refine(spec_PictureOk.calls k a1_0 a1_1 _ _ l1_2 false _ ?side1 ?side2 A5.out).mono ?_);(case side1=>repeat(first|exact(Kd.C_below HR1_2.out HB.out)|(with_reducible refine Kd.C_alloc ?_ _)|(with_reducible refine Kd.C_drewN ?_ _)|(with_reducible refine Kd.C_drew ?_)));(case side2=>exact HC1_2.out);rintro e w32 ⟨rfl,hb⟩;have n0_:=Ia (Il (g:=gb204) (o:=.cells #[.int .i64 a0_0,.int .i64 a0_1,.slice A0_2 l0_2.length c0_2] 27 (0,0)) (by(with_reducible repeat(first|refine Ih ?_ _|refine Ib ?_|refine Ig ?_ _));exact BK204.out) hb);have n1_:=Ia (Il (g:=gb205) (o:=.cells #[.int .i64 a1_0,.int .i64 a1_1,.slice A1_2 l1_2.length c1_2] 27 (0,0)) (by(with_reducible repeat(first|refine Ih ?_ _|refine Ib ?_|refine Ig ?_ _));exact BK205.out) hb);have n2_:=Ia (Im (by repeat(first|(with_reducible first|exact HB.out|apply Id|apply Ic|apply Ie|refine If ?_ GE204.out|refine If ?_ GE205.out)|exact HB.out)) hb);clear BK204;clear BK205;clear HB;have BK204:=n0_;have BK205:=n1_;have HB:=n2_;clear n0_ n1_ n2_;(try clear hb);(try clear hb2);(try clear hk);(try clear hi)))
   go_ret
   exact⟨by first|rfl|(simp [errW_none,errW_some] <;> rfl)|(simp [*,errW_none,errW_some] <;> rfl),by repeat(first|(with_reducible first|exact HB.out|apply Id|apply Ic|apply Ie|refine If ?_ GE204.out|refine If ?_ GE205.out)|exact HB.out)⟩
 ·replace c4:=Bool.eq_false_iff.mpr c4
  subst c4
  have H1:(some false)=some r:=by rw [if_neg (show ¬ (false=true) by decide)] at H;exact H
  clear H
  have H:=H1
  clear H1
  obtain rfl:=Option.some.inj H
  go_enter Try.func66,Try.ntmps66
  go_wp2_with (first|((with_reducible refine gate_dst (N:=2) rfl ?_);refine box_event ?hg (N:=2) ?hd (cs:=#[.int .i64 a0_0,.int .i64 a0_1,.slice A0_2 l0_2.length c0_2]) (t:=27) ?hr ?_;(case hd=>rfl);(case hg=>rfl);(case hr=>first|(go_simp;done)|(go_simp;rfl));intro gb204 hg w33 hbox hb;have n0_:=Ia (Im (by repeat(first|(with_reducible first|exact HB.out|apply Id|apply Ic|apply Ie)|exact HB.out)) hb);have n1_:=Ia (hbox);have n2_:=Ia ((by rw [hg];exact(Ik (by repeat(first|(with_reducible first|exact HB.out|apply Id|apply Ic|apply Ie)|exact HB.out))):w.heap.size≤gb204));have n3_:=Ia ((by rw [hg];exact(Ik (by repeat(first|(with_reducible first|exact HB.out|apply Id|apply Ic|apply Ie)|exact HB.out))):w.heap.size≤gb204));clear HB;have HB:=n0_;have BK204:=n1_;have GW204:=n2_;have GE204:=n3_;clear n0_ n1_ n2_ n3_;clear hb hbox hg)|((with_reducible refine gate_dst (N:=3) rfl ?_);refine box_event ?hg (N:=3) ?hd (cs:=#[.int .i64 a1_0,.int .i64 a1_1,.slice A1_2 l1_2.length c1_2]) (t:=27) ?hr ?_;(case hd=>rfl);(case hg=>rfl);(case hr=>first|(go_simp;done)|(go_simp;rfl));intro gb205 hg w34 hbox hb;have n0_:=Ia (Il (g:=gb204) (o:=.cells #[.int .i64 a0_0,.int .i64 a0_1,.slice A0_2 l0_2.length c0_2] 27 (0,0)) (by(with_reducible repeat(first|refine Ih ?_ _|refine Ib ?_|refine Ig ?_ _));exact BK204.out) hb);have n1_:=Ia (Im (by repeat(first|(with_reducible first|exact HB.out|apply Id|apply Ic|apply Ie|refine If ?_ GE204.out)|exact HB.out)) hb);have n2_:=Ia (hbox);have n3_:=Ia ((by rw [hg];exact(Ik (by repeat(first|(with_reducible first|exact HB.out|apply Id|apply Ic|apply Ie|refine If ?_ GE204.out)|exact HB.out))):w.heap.size≤gb205));have n4_:=Ia ((by rw [hg];exact(Ik (by repeat(first|(with_reducible first|exact HB.out|apply Id|apply Ic|apply Ie|refine If ?_ GE204.out)|exact HB.out))):w.heap.size≤gb205));have n5_:=Ia ((by rw [hg];exact Nat.ne_of_lt (blk_lt (g:=gb204) (o:=.cells #[.int .i64 a0_0,.int .i64 a0_1,.slice A0_2 l0_2.length c0_2] 27 (0,0)) (by(with_reducible repeat(first|refine Ih ?_ _|refine Ib ?_|refine Ig ?_ _));exact BK204.out)):gb204≠gb205));have n6_:=Ia ((by rw [hg];exact Nat.ne_of_gt (blk_lt (g:=gb204) (o:=.cells #[.int .i64 a0_0,.int .i64 a0_1,.slice A0_2 l0_2.length c0_2] 27 (0,0)) (by(with_reducible repeat(first|refine Ih ?_ _|refine Ib ?_|refine Ig ?_ _));exact BK204.out)):gb205≠gb204));clear BK204;clear HB;have BK204:=n0_;have HB:=n1_;have BK205:=n2_;have GW205:=n3_;have GE205:=n4_;have NB204_205:=n5_;have NB205_204:=n6_;clear n0_ n1_ n2_ n3_ n4_ n5_ n6_;clear hb hbox hg;have hnb35:=NB204_205.out;have hnc35:=NB205_204.out;have hcz36_0:w34.cell? ⟨gb204,0,none⟩=some (.int .i64 a0_0):=(Ij BK204.out 0).trans rfl;have hcz36_1:w34.cell? ⟨gb204,1,none⟩=some (.int .i64 a0_1):=(Ij BK204.out 1).trans rfl;have hcz36_2:w34.cell? ⟨gb204,2,none⟩=some (.slice A0_2 l0_2.length c0_2):=(Ij BK204.out 2).trans rfl;have hfz36_0:=Ii BK204.out 0;have hfz36_1:=Ii BK204.out 1;have hfz36_2:=Ii BK204.out 2)|((with_reducible refine gate_callee (f:=15) rfl ?_);refine goesL_ (some 6) rfl rfl Try.func15 (by kernel_rfl) rfl #[.agg #[.int .i64 a0_0,.int .i64 a0_1,.slice A0_2 l0_2.length c0_2]] rfl (by(try simp only [List.map_toArray,List.map_cons,List.map_nil]);first|done|rfl|(simp only [List.length_drop,List.length_take];rfl)) ?_;(with_reducible refine(spec_PictureOk.calls k a0_0 a0_1 _ _ l0_2 false _ ?side1 ?side2 A3.out).mono ?_);(case side1=>repeat(first|exact(Kd.C_below HR0_2.out HB.out)|(with_reducible refine Kd.C_alloc ?_ _)|(with_reducible refine Kd.C_drewN ?_ _)|(with_reducible refine Kd.C_drew ?_)));(case side2=>exact HC0_2.out);rintro e w37 ⟨rfl,hb⟩;refine⟨_,rfl,?_⟩;have n0_:=Ia (Il (g:=gb204) (o:=.cells #[.int .i64 a0_0,.int .i64 a0_1,.slice A0_2 l0_2.length c0_2] 27 (0,0)) (by(with_reducible repeat(first|refine Ih ?_ _|refine Ib ?_|refine Ig ?_ _));exact BK204.out) hb);have n1_:=Ia (Il (g:=gb205) (o:=.cells #[.int .i64 a1_0,.int .i64 a1_1,.slice A1_2 l1_2.length c1_2] 27 (0,0)) (by(with_reducible repeat(first|refine Ih ?_ _|refine Ib ?_|refine Ig ?_ _));exact BK205.out) hb);have n2_:=Ia (Im (by repeat(first|(with_reducible first|exact HB.out|apply Id|apply Ic|apply Ie|refine If ?_ GE204.out|refine If ?_ GE205.out)|exact HB.out)) hb);clear BK204;clear BK205;clear HB;have BK204:=n0_;have BK205:=n1_;have HB:=n2_;clear n0_ n1_ n2_;(try clear hb);(try clear hb2);(try clear hk);(try clear hi)))
  go_ret
  exact⟨by first|rfl|(simp [errW_none,errW_some] <;> rfl)|(simp [*,errW_none,errW_some] <;> rfl),by repeat(first|(with_reducible first|exact HB.out|apply Id|apply Ic|apply Ie|refine If ?_ GE204.out|refine If ?_ GE205.out)|exact HB.out)⟩

/-! ### spec_l1Abs: function 86 -/
def spec_l1Abs.f (a0 : Int) : Option (Int) := if a0 < 0 then (some (wrap64 (-a0))) else (some a0)
set_option maxHeartbeats 8000000 in
set_option maxRecDepth 100000 in
theorem spec_l1Abs.calls (a0 : Int) (r : Int) (w : World) (h : spec_l1Abs.f a0 = some r) :
  Calls Try.prog 86 #[.int .i64 a0] w fun e w'=>e=.returned (.int .i64 r)∧Drawn0 w w':=by
 have H:(if a0 < 0 then (some (wrap64 (-a0))) else (some a0))=some r:=h
 clear h
 by_cases c2:a0 < 0
 ·rw [if_pos c2] at H
  have c2b0:decide (a0 < 0)=true:=decide_eq_true c2
  clear c2
  obtain rfl:=Option.some.inj H
  go_enter Try.func86,Try.ntmps86
  go_wp2
  go_ret
  exact⟨by first|rfl|(simp;done)|(simp [*];done),by repeat(first|exact Drawn0.refl _|apply Drawn0.step)⟩
 ·rw [if_neg c2] at H
  have c2b0:decide (a0 < 0)=false:=decide_eq_false c2
  clear c2
  obtain rfl:=Option.some.inj H
  go_enter Try.func86,Try.ntmps86
  go_wp2
  go_ret
  exact⟨by first|rfl|(simp;done)|(simp [*];done),by repeat(first|exact Drawn0.refl _|apply Drawn0.step)⟩

/-! ### spec_l14Motion: function 68 -/
mutual
def spec_l14Motion.l0 : Nat → Int → Int → Int → Int → List Int → Int → Int → Int → List Int → Option (Int × Int)
 | 0, _, _, _, _, _, _, _, _, _ => none
 | k + 1, x2, x8, x9, x10, x11, x12, x209000, x209001, x209002 => if x12 ≤ 8 then (spec_l14Motion.l1 k x2 x8 x9 x10 x11 x12 (-2) x209000 x209001 x209002) else (some (x8, x9))
def spec_l14Motion.l1 : Nat → Int → Int → Int → Int → List Int → Int → Int → Int → Int → List Int → Option (Int × Int)
 | 0, _, _, _, _, _, _, _, _, _, _ => none
 | k + 1, x2, x8, x9, x10, x11, x12, x13, x209000, x209001, x209002 => if x13 ≤ 2 then (spec_l14Motion.l2 k x2 x8 x9 x10 x11 x12 x13 (-2) x209000 x209001 x209002) else (spec_l14Motion.l0 k x2 x8 x9 x10 x11 (wrap64 (x12 + 1)) x209000 x209001 x209002)
def spec_l14Motion.l2 : Nat → Int → Int → Int → Int → List Int → Int → Int → Int → Int → Int → List Int → Option (Int × Int)
 | 0, _, _, _, _, _, _, _, _, _, _, _ => none
 | k + 1, x2, x8, x9, x10, x11, x12, x13, x14, x209000, x209001, x209002 => if x14 ≤ 2 then (if (wrap64 ((wrap64 (x14 * x14)) + (wrap64 (x13 * x13)))) = x12 then ((spec_l14Block.f k x209000 x209001 x209002 x2 x14 x13).bind fun t213 => (spec_l14Motion.l3 k x2 x8 x9 x10 x11 x12 x13 x14 0 t213 0 x209000 x209001 x209002)) else (spec_l14Motion.l2 k x2 x8 x9 x10 x11 x12 x13 (wrap64 (x14 + 1)) x209000 x209001 x209002)) else (spec_l14Motion.l1 k x2 x8 x9 x10 x11 x12 (wrap64 (x13 + 1)) x209000 x209001 x209002)
def spec_l14Motion.l3 : Nat → Int → Int → Int → Int → List Int → Int → Int → Int → Int → List Int → Int → Int → Int → List Int → Option (Int × Int)
 | 0, _, _, _, _, _, _, _, _, _, _, _, _, _, _ => none
 | k + 1, x2, x8, x9, x10, x11, x12, x13, x14, x15, x16, x17, x209000, x209001, x209002 => if x17 < 16 then (if 0 ≤ x17 then (if x17 < (x11.length : Int) then (if x17 < (x16.length : Int) then ((spec_l1Abs.f (wrap64 ((rd x11 x17) - (rd x16 x17)))).bind fun t218 => (spec_l14Motion.l3 k x2 x8 x9 x10 x11 x12 x13 x14 (wrap64 (x15 + t218)) x16 (wrap64 (x17 + 1)) x209000 x209001 x209002)) else (none)) else (none)) else (none)) else (if x10 < 0 then (spec_l14Motion.l2 k x2 x14 x13 x15 x11 x12 x13 (wrap64 (x14 + 1)) x209000 x209001 x209002) else (if x15 < x10 then (spec_l14Motion.l2 k x2 x14 x13 x15 x11 x12 x13 (wrap64 (x14 + 1)) x209000 x209001 x209002) else (spec_l14Motion.l2 k x2 x8 x9 x10 x11 x12 x13 (wrap64 (x14 + 1)) x209000 x209001 x209002)))
end
def spec_l14Motion.f (k : Nat) (a0_0 : Int) (a0_1 : Int) (l0_2 : List Int) (a1_0 : Int) (a1_1 : Int) (l1_2 : List Int) (a2 : Int) : Option (Int × Int) := (spec_l14Block.f k a1_0 a1_1 l1_2 a2 0 0).bind fun t210 => (spec_l14Motion.l0 k a2 0 0 (-1) t210 0 a0_0 a0_1 l0_2)
theorem spec_l14Motion.mono_l : ∀ k, (∀ y0 y1 y2 y3 y4 y5 y6 y7 y8, LeO (spec_l14Motion.l0 k y0 y1 y2 y3 y4 y5 y6 y7 y8) (spec_l14Motion.l0 (k + 1) y0 y1 y2 y3 y4 y5 y6 y7 y8)) ∧ (∀ y0 y1 y2 y3 y4 y5 y6 y7 y8 y9, LeO (spec_l14Motion.l1 k y0 y1 y2 y3 y4 y5 y6 y7 y8 y9) (spec_l14Motion.l1 (k + 1) y0 y1 y2 y3 y4 y5 y6 y7 y8 y9)) ∧ (∀ y0 y1 y2 y3 y4 y5 y6 y7 y8 y9 y10, LeO (spec_l14Motion.l2 k y0 y1 y2 y3 y4 y5 y6 y7 y8 y9 y10) (spec_l14Motion.l2 (k + 1) y0 y1 y2 y3 y4 y5 y6 y7 y8 y9 y10)) ∧ (∀ y0 y1 y2 y3 y4 y5 y6 y7 y8 y9 y10 y11 y12 y13, LeO (spec_l14Motion.l3 k y0 y1 y2 y3 y4 y5 y6 y7 y8 y9 y10 y11 y12 y13) (spec_l14Motion.l3 (k + 1) y0 y1 y2 y3 y4 y5 y6 y7 y8 y9 y10 y11 y12 y13))
 | 0 => ⟨fun _ _ _ _ _ _ _ _ _ r h => by simp [spec_l14Motion.l0] at h, fun _ _ _ _ _ _ _ _ _ _ r h => by simp [spec_l14Motion.l1] at h, fun _ _ _ _ _ _ _ _ _ _ _ r h => by simp [spec_l14Motion.l2] at h, fun _ _ _ _ _ _ _ _ _ _ _ _ _ _ r h => by simp [spec_l14Motion.l3] at h⟩
 | k + 1 => by
  obtain⟨ih0,ih1,ih2,ih3⟩:=spec_l14Motion.mono_l k
  refine⟨?_,?_,?_,?_⟩
  ·intro y0 y1 y2 y3 y4 y5 y6 y7 y8
   unfold spec_l14Motion.l0
   repeat' first
   | (with_reducible exact ih0 _ _ _ _ _ _ _ _ _)
   | (with_reducible exact ih1 _ _ _ _ _ _ _ _ _ _)
   | (with_reducible exact ih2 _ _ _ _ _ _ _ _ _ _ _)
   | (with_reducible exact ih3 _ _ _ _ _ _ _ _ _ _ _ _ _ _)
   | (with_reducible exact spec_l14Block.mono _ _ _ _ _ _ _)
   | (with_reducible exact LeO.refl _)
   | (with_reducible exact LeO.none _)
   | (with_reducible refine LeO.ite ?_ ?_)
   | (with_reducible refine LeO.bind ?_ (fun _ => ?_))
   | exact ih0 _ _ _ _ _ _ _ _ _
   | exact ih1 _ _ _ _ _ _ _ _ _ _
   | exact ih2 _ _ _ _ _ _ _ _ _ _ _
   | exact ih3 _ _ _ _ _ _ _ _ _ _ _ _ _ _
   | exact spec_l14Block.mono _ _ _ _ _ _ _
   | exact LeO.none _
   | refine LeO.ite ?_ ?_
   | refine LeO.bind ?_ (fun _ => ?_)
  ·intro y0 y1 y2 y3 y4 y5 y6 y7 y8 y9
   unfold spec_l14Motion.l1
   repeat' first
   | (with_reducible exact ih0 _ _ _ _ _ _ _ _ _)
   | (with_reducible exact ih1 _ _ _ _ _ _ _ _ _ _)
   | (with_reducible exact ih2 _ _ _ _ _ _ _ _ _ _ _)
   | (with_reducible exact ih3 _ _ _ _ _ _ _ _ _ _ _ _ _ _)
   | (with_reducible exact spec_l14Block.mono _ _ _ _ _ _ _)
   | (with_reducible exact LeO.refl _)
   | (with_reducible exact LeO.none _)
   | (with_reducible refine LeO.ite ?_ ?_)
   | (with_reducible refine LeO.bind ?_ (fun _ => ?_))
   | exact ih0 _ _ _ _ _ _ _ _ _
   | exact ih1 _ _ _ _ _ _ _ _ _ _
   | exact ih2 _ _ _ _ _ _ _ _ _ _ _
   | exact ih3 _ _ _ _ _ _ _ _ _ _ _ _ _ _
   | exact spec_l14Block.mono _ _ _ _ _ _ _
   | exact LeO.none _
   | refine LeO.ite ?_ ?_
   | refine LeO.bind ?_ (fun _ => ?_)
  ·intro y0 y1 y2 y3 y4 y5 y6 y7 y8 y9 y10
   unfold spec_l14Motion.l2
   repeat' first
   | (with_reducible exact ih0 _ _ _ _ _ _ _ _ _)
   | (with_reducible exact ih1 _ _ _ _ _ _ _ _ _ _)
   | (with_reducible exact ih2 _ _ _ _ _ _ _ _ _ _ _)
   | (with_reducible exact ih3 _ _ _ _ _ _ _ _ _ _ _ _ _ _)
   | (with_reducible exact spec_l14Block.mono _ _ _ _ _ _ _)
   | (with_reducible exact LeO.refl _)
   | (with_reducible exact LeO.none _)
   | (with_reducible refine LeO.ite ?_ ?_)
   | (with_reducible refine LeO.bind ?_ (fun _ => ?_))
   | exact ih0 _ _ _ _ _ _ _ _ _
   | exact ih1 _ _ _ _ _ _ _ _ _ _
   | exact ih2 _ _ _ _ _ _ _ _ _ _ _
   | exact ih3 _ _ _ _ _ _ _ _ _ _ _ _ _ _
   | exact spec_l14Block.mono _ _ _ _ _ _ _
   | exact LeO.none _
   | refine LeO.ite ?_ ?_
   | refine LeO.bind ?_ (fun _ => ?_)
  ·intro y0 y1 y2 y3 y4 y5 y6 y7 y8 y9 y10 y11 y12 y13
   unfold spec_l14Motion.l3
   repeat' first
   | (with_reducible exact ih0 _ _ _ _ _ _ _ _ _)
   | (with_reducible exact ih1 _ _ _ _ _ _ _ _ _ _)
   | (with_reducible exact ih2 _ _ _ _ _ _ _ _ _ _ _)
   | (with_reducible exact ih3 _ _ _ _ _ _ _ _ _ _ _ _ _ _)
   | (with_reducible exact spec_l14Block.mono _ _ _ _ _ _ _)
   | (with_reducible exact LeO.refl _)
   | (with_reducible exact LeO.none _)
   | (with_reducible refine LeO.ite ?_ ?_)
   | (with_reducible refine LeO.bind ?_ (fun _ => ?_))
   | exact ih0 _ _ _ _ _ _ _ _ _
   | exact ih1 _ _ _ _ _ _ _ _ _ _
   | exact ih2 _ _ _ _ _ _ _ _ _ _ _
   | exact ih3 _ _ _ _ _ _ _ _ _ _ _ _ _ _
   | exact spec_l14Block.mono _ _ _ _ _ _ _
   | exact LeO.none _
   | refine LeO.ite ?_ ?_
   | refine LeO.bind ?_ (fun _ => ?_)
theorem spec_l14Motion.mono : ∀ a0 a1 a2 a3 a4 a5 a6 k, LeO (spec_l14Motion.f k a0 a1 a2 a3 a4 a5 a6) (spec_l14Motion.f (k + 1) a0 a1 a2 a3 a4 a5 a6) := by
 intro a0 a1 a2 a3 a4 a5 a6 k
 obtain⟨ih0,ih1,ih2,ih3⟩:=spec_l14Motion.mono_l k
 unfold spec_l14Motion.f
 repeat' first
   | (with_reducible exact ih0 _ _ _ _ _ _ _ _ _)
   | (with_reducible exact ih1 _ _ _ _ _ _ _ _ _ _)
   | (with_reducible exact ih2 _ _ _ _ _ _ _ _ _ _ _)
   | (with_reducible exact ih3 _ _ _ _ _ _ _ _ _ _ _ _ _ _)
   | (with_reducible exact spec_l14Block.mono _ _ _ _ _ _ _)
   | (with_reducible exact LeO.refl _)
   | (with_reducible exact LeO.none _)
   | (with_reducible refine LeO.ite ?_ ?_)
   | (with_reducible refine LeO.bind ?_ (fun _ => ?_))
   | exact ih0 _ _ _ _ _ _ _ _ _
   | exact ih1 _ _ _ _ _ _ _ _ _ _
   | exact ih2 _ _ _ _ _ _ _ _ _ _ _
   | exact ih3 _ _ _ _ _ _ _ _ _ _ _ _ _ _
   | exact spec_l14Block.mono _ _ _ _ _ _ _
   | exact LeO.none _
   | refine LeO.ite ?_ ?_
   | refine LeO.bind ?_ (fun _ => ?_)
set_option maxHeartbeats 8000000 in
set_option maxRecDepth 100000 in
theorem spec_l14Motion.calls (k : Nat) (a0_0 : Int) (a0_1 : Int) (A0_2 : Option Addr) (c0_2 : Nat) (l0_2 : List Int) (a1_0 : Int) (a1_1 : Int) (A1_2 : Option Addr) (c1_2 : Nat) (l1_2 : List Int) (a2 : Int) (r1 : Int) (r2 : Int) (w : World) (hr0_2 : Kd.C (Kd.int .i64) w A0_2 l0_2.length l0_2) (hc0_2 : l0_2.length ≤ c0_2) (hr1_2 : Kd.C (Kd.int .i64) w A1_2 l1_2.length l1_2) (hc1_2 : l1_2.length ≤ c1_2) (h : spec_l14Motion.f k a0_0 a0_1 l0_2 a1_0 a1_1 l1_2 a2 = some (r1, r2)) :
  Calls Try.prog 68 #[.agg #[.int .i64 a0_0,.int .i64 a0_1,.slice A0_2 l0_2.length c0_2],.agg #[.int .i64 a1_0,.int .i64 a1_1,.slice A1_2 l1_2.length c1_2],.int .i64 a2] w fun e w'=>e=.returned (.tuple #[.int .i64 r1,.int .i64 r2])∧Below w.heap.size w w':=by
 have hu27:=Try.underlying27
 have HR0_2:=Ia hr0_2
 have HC0_2:=Ia hc0_2
 clear hr0_2 hc0_2
 have HR1_2:=Ia hr1_2
 have HC1_2:=Ia hc1_2
 clear hr1_2 hc1_2
 have HB:=Ia (Below.refl w.heap.size w)
 have H:((spec_l14Block.f k a1_0 a1_1 l1_2 a2 0 0).bind fun t210=>(spec_l14Motion.l0 k a2 0 0 (-1) t210 0 a0_0 a0_1 l0_2))=some (r1,r2):=h
 clear h
 replace H:=Option.bind_eq_some_iff.mp H
 obtain⟨t210,A40,H⟩:=H
 replace H:(spec_l14Motion.l0 k a2 0 0 (-1) t210 0 a0_0 a0_1 l0_2)=some (r1,r2):=H
 have A4:=Ia A40
 clear A40
 have H':=Ia H
 clear H
 go_enter Try.func68,Try.ntmps68
 go_wp2_with (first|((with_reducible refine gate_dst (N:=3) rfl ?_);refine box_event ?hg (N:=3) ?hd (cs:=#[.int .i64 a0_0,.int .i64 a0_1,.slice A0_2 l0_2.length c0_2]) (t:=27) ?hr ?_;(case hd=>rfl);(case hg=>rfl);(case hr=>first|(go_simp;done)|(go_simp;rfl));intro qc hg w5 hbox hb;have n0_:=Ia (Im (by repeat(first|(with_reducible first|exact HB.out|apply Id|apply Ic|apply Ie)|exact HB.out)) hb);have n1_:=Ia (hbox);have n2_:=Ia ((by rw [hg];exact(Ik (by repeat(first|(with_reducible first|exact HB.out|apply Id|apply Ic|apply Ie)|exact HB.out))):w.heap.size≤qc));have n3_:=Ia ((by rw [hg];exact(Ik (by repeat(first|(with_reducible first|exact HB.out|apply Id|apply Ic|apply Ie)|exact HB.out))):w.heap.size≤qc));clear HB;have HB:=n0_;have qa:=n1_;have GW208:=n2_;have qd:=n3_;clear n0_ n1_ n2_ n3_;clear hb hbox hg)|((with_reducible refine gate_dst (N:=4) rfl ?_);refine box_event ?hg (N:=4) ?hd (cs:=#[.int .i64 a1_0,.int .i64 a1_1,.slice A1_2 l1_2.length c1_2]) (t:=27) ?hr ?_;(case hd=>rfl);(case hg=>rfl);(case hr=>first|(go_simp;done)|(go_simp;rfl));intro qe hg w6 hbox hb;have n0_:=Ia (Il (g:=qc) (o:=.cells #[.int .i64 a0_0,.int .i64 a0_1,.slice A0_2 l0_2.length c0_2] 27 (0,0)) (by(with_reducible repeat(first|refine Ih ?_ _|refine Ib ?_|refine Ig ?_ _));exact qa.out) hb);have n1_:=Ia (Im (by repeat(first|(with_reducible first|exact HB.out|apply Id|apply Ic|apply Ie|refine If ?_ qd.out)|exact HB.out)) hb);have n2_:=Ia (hbox);have n3_:=Ia ((by rw [hg];exact(Ik (by repeat(first|(with_reducible first|exact HB.out|apply Id|apply Ic|apply Ie|refine If ?_ qd.out)|exact HB.out))):w.heap.size≤qe));have n4_:=Ia ((by rw [hg];exact(Ik (by repeat(first|(with_reducible first|exact HB.out|apply Id|apply Ic|apply Ie|refine If ?_ qd.out)|exact HB.out))):w.heap.size≤qe));have n5_:=Ia ((by rw [hg];exact Nat.ne_of_lt (blk_lt (g:=qc) (o:=.cells #[.int .i64 a0_0,.int .i64 a0_1,.slice A0_2 l0_2.length c0_2] 27 (0,0)) (by(with_reducible repeat(first|refine Ih ?_ _|refine Ib ?_|refine Ig ?_ _));exact qa.out)):qc≠qe));have n6_:=Ia ((by rw [hg];exact Nat.ne_of_gt (blk_lt (g:=qc) (o:=.cells #[.int .i64 a0_0,.int .i64 a0_1,.slice A0_2 l0_2.length c0_2] 27 (0,0)) (by(with_reducible repeat(first|refine Ih ?_ _|refine Ib ?_|refine Ig ?_ _));exact qa.out)):qe≠qc));clear qa;clear HB;have qa:=n0_;have HB:=n1_;have qb:=n2_;have GW209:=n3_;have qh:=n4_;have ql:=n5_;have qm:=n6_;clear n0_ n1_ n2_ n3_ n4_ n5_ n6_;clear hb hbox hg;have hnb7:=qm.out;have hnc7:=ql.out;have qp:w6.cell? ⟨qe,0,none⟩=some (.int .i64 a1_0):=(Ij qb.out 0).trans rfl;have qq:w6.cell? ⟨qe,1,none⟩=some (.int .i64 a1_1):=(Ij qb.out 1).trans rfl;have qr:w6.cell? ⟨qe,2,none⟩=some (.slice A1_2 l1_2.length c1_2):=(Ij qb.out 2).trans rfl;have qs:=Ii qb.out 0;have qt:=Ii qb.out 1;have qu:=Ii qb.out 2)|(go_at_call 73;(with_reducible refine(spec_l14Block.calls k a1_0 a1_1 _ _ l1_2 a2 0 0 t210 _ ?side1 ?side2 A4.out).mono ?_);(case side1=>repeat(first|exact(Kd.C_below HR1_2.out HB.out)|(with_reducible refine Kd.C_alloc ?_ _)|(with_reducible refine Kd.C_drewN ?_ _)|(with_reducible refine Kd.C_drew ?_)));(case side2=>exact HC1_2.out);rintro e w9 ⟨v211,rfl,qv,hb⟩;have n0_:=Ia (Kd.R_lower qv (Ik (by repeat(first|(with_reducible first|exact HB.out|apply Id|apply Ic|apply Ie|refine If ?_ qd.out|refine If ?_ qh.out)|exact HB.out))));have n1_:=Ia (Il (g:=qc) (o:=.cells #[.int .i64 a0_0,.int .i64 a0_1,.slice A0_2 l0_2.length c0_2] 27 (0,0)) (by(with_reducible repeat(first|refine Ih ?_ _|refine Ib ?_|refine Ig ?_ _));exact qa.out) hb);have n2_:=Ia (Il (g:=qe) (o:=.cells #[.int .i64 a1_0,.int .i64 a1_1,.slice A1_2 l1_2.length c1_2] 27 (0,0)) (by(with_reducible repeat(first|refine Ih ?_ _|refine Ib ?_|refine Ig ?_ _));exact qb.out) hb);have n3_:=Ia (Im (by repeat(first|(with_reducible first|exact HB.out|apply Id|apply Ic|apply Ie|refine If ?_ qd.out|refine If ?_ qh.out)|exact HB.out)) hb);clear qa;clear qb;clear HB;have HO212:=n0_;have qa:=n1_;have qb:=n2_;have HB:=n3_;clear n0_ n1_ n2_ n3_;(try clear hb);(try clear hb2);(try clear hk);(try clear hi);(try clear qv)))
 repeat(go_quiet (first|((with_reducible refine gate_dst (N:=3) rfl ?_);refine box_event ?hg (N:=3) ?hd (cs:=#[.int .i64 a0_0,.int .i64 a0_1,.slice A0_2 l0_2.length c0_2]) (t:=27) ?hr ?_;(case hd=>rfl);(case hg=>rfl);(case hr=>first|(go_simp;done)|(go_simp;rfl));intro qc hg w5 hbox hb;have n0_:=Ia (Im (by repeat(first|(with_reducible first|exact HB.out|apply Id|apply Ic|apply Ie)|exact HB.out)) hb);have n1_:=Ia (hbox);have n2_:=Ia ((by rw [hg];exact(Ik (by repeat(first|(with_reducible first|exact HB.out|apply Id|apply Ic|apply Ie)|exact HB.out))):w.heap.size≤qc));have n3_:=Ia ((by rw [hg];exact(Ik (by repeat(first|(with_reducible first|exact HB.out|apply Id|apply Ic|apply Ie)|exact HB.out))):w.heap.size≤qc));clear HB;have HB:=n0_;have qa:=n1_;have GW208:=n2_;have qd:=n3_;clear n0_ n1_ n2_ n3_;clear hb hbox hg)|((with_reducible refine gate_dst (N:=4) rfl ?_);refine box_event ?hg (N:=4) ?hd (cs:=#[.int .i64 a1_0,.int .i64 a1_1,.slice A1_2 l1_2.length c1_2]) (t:=27) ?hr ?_;(case hd=>rfl);(case hg=>rfl);(case hr=>first|(go_simp;done)|(go_simp;rfl));intro qe hg w6 hbox hb;have n0_:=Ia (Il (g:=qc) (o:=.cells #[.int .i64 a0_0,.int .i64 a0_1,.slice A0_2 l0_2.length c0_2] 27 (0,0)) (by(with_reducible repeat(first|refine Ih ?_ _|refine Ib ?_|refine Ig ?_ _));exact qa.out) hb);have n1_:=Ia (Im (by repeat(first|(with_reducible first|exact HB.out|apply Id|apply Ic|apply Ie|refine If ?_ qd.out)|exact HB.out)) hb);have n2_:=Ia (hbox);have n3_:=Ia ((by rw [hg];exact(Ik (by repeat(first|(with_reducible first|exact HB.out|apply Id|apply Ic|apply Ie|refine If ?_ qd.out)|exact HB.out))):w.heap.size≤qe));have n4_:=Ia ((by rw [hg];exact(Ik (by repeat(first|(with_reducible first|exact HB.out|apply Id|apply Ic|apply Ie|refine If ?_ qd.out)|exact HB.out))):w.heap.size≤qe));have n5_:=Ia ((by rw [hg];exact Nat.ne_of_lt (blk_lt (g:=qc) (o:=.cells #[.int .i64 a0_0,.int .i64 a0_1,.slice A0_2 l0_2.length c0_2] 27 (0,0)) (by(with_reducible repeat(first|refine Ih ?_ _|refine Ib ?_|refine Ig ?_ _));exact qa.out)):qc≠qe));have n6_:=Ia ((by rw [hg];exact Nat.ne_of_gt (blk_lt (g:=qc) (o:=.cells #[.int .i64 a0_0,.int .i64 a0_1,.slice A0_2 l0_2.length c0_2] 27 (0,0)) (by(with_reducible repeat(first|refine Ih ?_ _|refine Ib ?_|refine Ig ?_ _));exact qa.out)):qe≠qc));clear qa;clear HB;have qa:=n0_;have HB:=n1_;have qb:=n2_;have GW209:=n3_;have qh:=n4_;have ql:=n5_;have qm:=n6_;clear n0_ n1_ n2_ n3_ n4_ n5_ n6_;clear hb hbox hg;have hnb7:=qm.out;have hnc7:=ql.out;have qp:w6.cell? ⟨qe,0,none⟩=some (.int .i64 a1_0):=(Ij qb.out 0).trans rfl;have qq:w6.cell? ⟨qe,1,none⟩=some (.int .i64 a1_1):=(Ij qb.out 1).trans rfl;have qr:w6.cell? ⟨qe,2,none⟩=some (.slice A1_2 l1_2.length c1_2):=(Ij qb.out 2).trans rfl;have qs:=Ii qb.out 0;have qt:=Ii qb.out 1;have qu:=Ii qb.out 2)|(go_at_call 73;(with_reducible refine(spec_l14Block.calls k a1_0 a1_1 _ _ l1_2 a2 0 0 t210 _ ?side1 ?side2 A4.out).mono ?_);(case side1=>repeat(first|exact(Kd.C_below HR1_2.out HB.out)|(with_reducible refine Kd.C_alloc ?_ _)|(with_reducible refine Kd.C_drewN ?_ _)|(with_reducible refine Kd.C_drew ?_)));(case side2=>exact HC1_2.out);rintro e w9 ⟨v211,rfl,qv,hb⟩;have n0_:=Ia (Kd.R_lower qv (Ik (by repeat(first|(with_reducible first|exact HB.out|apply Id|apply Ic|apply Ie|refine If ?_ qd.out|refine If ?_ qh.out)|exact HB.out))));have n1_:=Ia (Il (g:=qc) (o:=.cells #[.int .i64 a0_0,.int .i64 a0_1,.slice A0_2 l0_2.length c0_2] 27 (0,0)) (by(with_reducible repeat(first|refine Ih ?_ _|refine Ib ?_|refine Ig ?_ _));exact qa.out) hb);have n2_:=Ia (Il (g:=qe) (o:=.cells #[.int .i64 a1_0,.int .i64 a1_1,.slice A1_2 l1_2.length c1_2] 27 (0,0)) (by(with_reducible repeat(first|refine Ih ?_ _|refine Ib ?_|refine Ig ?_ _));exact qb.out) hb);have n3_:=Ia (Im (by repeat(first|(with_reducible first|exact HB.out|apply Id|apply Ic|apply Ie|refine If ?_ qd.out|refine If ?_ qh.out)|exact HB.out)) hb);clear qa;clear qb;clear HB;have HO212:=n0_;have qa:=n1_;have qb:=n2_;have HB:=n3_;clear n0_ n1_ n2_ n3_;(try clear hb);(try clear hb2);(try clear hk);(try clear hi);(try clear qv)));try go_wp2_with (first|((with_reducible refine gate_dst (N:=3) rfl ?_);refine box_event ?hg (N:=3) ?hd (cs:=#[.int .i64 a0_0,.int .i64 a0_1,.slice A0_2 l0_2.length c0_2]) (t:=27) ?hr ?_;(case hd=>rfl);(case hg=>rfl);(case hr=>first|(go_simp;done)|(go_simp;rfl));intro qc hg w5 hbox hb;have n0_:=Ia (Im (by repeat(first|(with_reducible first|exact HB.out|apply Id|apply Ic|apply Ie)|exact HB.out)) hb);have n1_:=Ia (hbox);have n2_:=Ia ((by rw [hg];exact(Ik (by repeat(first|(with_reducible first|exact HB.out|apply Id|apply Ic|apply Ie)|exact HB.out))):w.heap.size≤qc));have n3_:=Ia ((by rw [hg];exact(Ik (by repeat(first|(with_reducible first|exact HB.out|apply Id|apply Ic|apply Ie)|exact HB.out))):w.heap.size≤qc));clear HB;have HB:=n0_;have qa:=n1_;have GW208:=n2_;have qd:=n3_;clear n0_ n1_ n2_ n3_;clear hb hbox hg)|((with_reducible refine gate_dst (N:=4) rfl ?_);refine box_event ?hg (N:=4) ?hd (cs:=#[.int .i64 a1_0,.int .i64 a1_1,.slice A1_2 l1_2.length c1_2]) (t:=27) ?hr ?_;(case hd=>rfl);(case hg=>rfl);(case hr=>first|(go_simp;done)|(go_simp;rfl));intro qe hg w6 hbox hb;have n0_:=Ia (Il (g:=qc) (o:=.cells #[.int .i64 a0_0,.int .i64 a0_1,.slice A0_2 l0_2.length c0_2] 27 (0,0)) (by(with_reducible repeat(first|refine Ih ?_ _|refine Ib ?_|refine Ig ?_ _));exact qa.out) hb);have n1_:=Ia (Im (by repeat(first|(with_reducible first|exact HB.out|apply Id|apply Ic|apply Ie|refine If ?_ qd.out)|exact HB.out)) hb);have n2_:=Ia (hbox);have n3_:=Ia ((by rw [hg];exact(Ik (by repeat(first|(with_reducible first|exact HB.out|apply Id|apply Ic|apply Ie|refine If ?_ qd.out)|exact HB.out))):w.heap.size≤qe));have n4_:=Ia ((by rw [hg];exact(Ik (by repeat(first|(with_reducible first|exact HB.out|apply Id|apply Ic|apply Ie|refine If ?_ qd.out)|exact HB.out))):w.heap.size≤qe));have n5_:=Ia ((by rw [hg];exact Nat.ne_of_lt (blk_lt (g:=qc) (o:=.cells #[.int .i64 a0_0,.int .i64 a0_1,.slice A0_2 l0_2.length c0_2] 27 (0,0)) (by(with_reducible repeat(first|refine Ih ?_ _|refine Ib ?_|refine Ig ?_ _));exact qa.out)):qc≠qe));have n6_:=Ia ((by rw [hg];exact Nat.ne_of_gt (blk_lt (g:=qc) (o:=.cells #[.int .i64 a0_0,.int .i64 a0_1,.slice A0_2 l0_2.length c0_2] 27 (0,0)) (by(with_reducible repeat(first|refine Ih ?_ _|refine Ib ?_|refine Ig ?_ _));exact qa.out)):qe≠qc));clear qa;clear HB;have qa:=n0_;have HB:=n1_;have qb:=n2_;have GW209:=n3_;have qh:=n4_;have ql:=n5_;have qm:=n6_;clear n0_ n1_ n2_ n3_ n4_ n5_ n6_;clear hb hbox hg;have hnb7:=qm.out;have hnc7:=ql.out;have qp:w6.cell? ⟨qe,0,none⟩=some (.int .i64 a1_0):=(Ij qb.out 0).trans rfl;have qq:w6.cell? ⟨qe,1,none⟩=some (.int .i64 a1_1):=(Ij qb.out 1).trans rfl;have qr:w6.cell? ⟨qe,2,none⟩=some (.slice A1_2 l1_2.length c1_2):=(Ij qb.out 2).trans rfl;have qs:=Ii qb.out 0;have qt:=Ii qb.out 1;have qu:=Ii qb.out 2)|(go_at_call 73;(with_reducible refine(spec_l14Block.calls k a1_0 a1_1 _ _ l1_2 a2 0 0 t210 _ ?side1 ?side2 A4.out).mono ?_);(case side1=>repeat(first|exact(Kd.C_below HR1_2.out HB.out)|(with_reducible refine Kd.C_alloc ?_ _)|(with_reducible refine Kd.C_drewN ?_ _)|(with_reducible refine Kd.C_drew ?_)));(case side2=>exact HC1_2.out);rintro e w9 ⟨v211,rfl,qv,hb⟩;have n0_:=Ia (Kd.R_lower qv (Ik (by repeat(first|(with_reducible first|exact HB.out|apply Id|apply Ic|apply Ie|refine If ?_ qd.out|refine If ?_ qh.out)|exact HB.out))));have n1_:=Ia (Il (g:=qc) (o:=.cells #[.int .i64 a0_0,.int .i64 a0_1,.slice A0_2 l0_2.length c0_2] 27 (0,0)) (by(with_reducible repeat(first|refine Ih ?_ _|refine Ib ?_|refine Ig ?_ _));exact qa.out) hb);have n2_:=Ia (Il (g:=qe) (o:=.cells #[.int .i64 a1_0,.int .i64 a1_1,.slice A1_2 l1_2.length c1_2] 27 (0,0)) (by(with_reducible repeat(first|refine Ih ?_ _|refine Ib ?_|refine Ig ?_ _));exact qb.out) hb);have n3_:=Ia (Im (by repeat(first|(with_reducible first|exact HB.out|apply Id|apply Ic|apply Ie|refine If ?_ qd.out|refine If ?_ qh.out)|exact HB.out)) hb);clear qa;clear qb;clear HB;have HO212:=n0_;have qa:=n1_;have qb:=n2_;have HB:=n3_;clear n0_ n1_ n2_ n3_;(try clear hb);(try clear hb2);(try clear hk);(try clear hi);(try clear qv))))
 go_loopg [8,9,10,12] k (fun kq v8 v9 v10 v12 w'=>∃ (x8_1:Int) (x9_1:Int) (x10_1:Int) (qk:Int),v8=.int .i64 x8_1∧v9=.int .i64 x9_1∧v10=.int .i64 x10_1∧v12=.int .i64 qk∧Aside0 (spec_l14Motion.l0 kq a2 x8_1 x9_1 x10_1 t210 qk a0_0 a0_1 l0_2=some (r1,r2))∧Aside0 (kq≤k)∧Aside0 (Kd.R (Kd.int .i64) 2 w' w.heap.size (fun _=>True) v211 t210)∧Aside0 (w'.heap[qc]? = some (.cells #[.int .i64 a0_0,.int .i64 a0_1,(.slice A0_2 l0_2.length c0_2)] 27 (0,0)))∧Aside0 (w'.heap[qe]? = some (.cells #[.int .i64 a1_0,.int .i64 a1_1,(.slice A1_2 l1_2.length c1_2)] 27 (0,0)))∧Aside0 (Below w.heap.size w w'))
 case atStart=>exact⟨(0),(0),((-1)),(0),(by first|rfl|(simp;done)|(simp [*];done)),(by first|rfl|(simp;done)|(simp [*];done)),(by first|rfl|(simp;done)|(simp [*];done)),(by first|rfl|(simp;done)|(simp [*];done)),H',⟨Nat.le_refl _⟩,⟨by(with_reducible repeat(first|apply In|apply Io|apply Kd.R_drew));exact HO212.out⟩,⟨by(with_reducible repeat(first|refine Ih ?_ _|refine Ib ?_|refine Ig ?_ _));exact qa.out⟩,⟨by(with_reducible repeat(first|refine Ih ?_ _|refine Ib ?_|refine Ig ?_ _));exact qb.out⟩,⟨by repeat(first|(with_reducible first|exact HB.out|apply Id|apply Ic|apply Ie|refine If ?_ qd.out|refine If ?_ qh.out)|exact HB.out)⟩⟩
 case round=>
  clear H'
  try clear c1
  try clear p2
  try clear c6
  try clear c7
  try clear qp
  try clear qq
  try clear qr
  try clear qs
  try clear qt
  try clear qu
  obtain⟨x8_1,x9_1,x10_1,qk,rfl,rfl,rfl,rfl,HA,HK1,qg,qa,qb,HB⟩:=hrel
  cases gk with
  | zero => exact absurd HA.out (by simp [spec_l14Motion.l0])
  | succ k1 =>
   have H:=HA.out
   clear HA
   simp only [spec_l14Motion.l0] at H
   by_cases c10:qk≤8
   ·rw [if_pos c10] at H
    have c10b0:decide (qk≤8)=true:=decide_eq_true c10
    clear c10
    have H':=Ia H
    clear H
    go_wp2
    repeat(go_quiet (fail);try go_wp2)
    go_loopg [8,9,10,13] k1 (fun kq v8 v9 v10 v13 w'=>∃ (x8_2:Int) (x9_2:Int) (x10_2:Int) (qi:Int),v8=.int .i64 x8_2∧v9=.int .i64 x9_2∧v10=.int .i64 x10_2∧v13=.int .i64 qi∧Aside0 (spec_l14Motion.l1 kq a2 x8_2 x9_2 x10_2 t210 qk qi a0_0 a0_1 l0_2=some (r1,r2))∧Aside0 (kq≤k1)∧Aside0 (Kd.R (Kd.int .i64) 2 w' w.heap.size (fun _=>True) v211 t210)∧Aside0 (w'.heap[qc]? = some (.cells #[.int .i64 a0_0,.int .i64 a0_1,(.slice A0_2 l0_2.length c0_2)] 27 (0,0)))∧Aside0 (w'.heap[qe]? = some (.cells #[.int .i64 a1_0,.int .i64 a1_1,(.slice A1_2 l1_2.length c1_2)] 27 (0,0)))∧Aside0 (Below w.heap.size w w'))
    case atStart=>exact⟨(x8_1),(x9_1),(x10_1),((-2)),(by first|rfl|(simp;done)|(simp [*];done)),(by first|rfl|(simp;done)|(simp [*];done)),(by first|rfl|(simp;done)|(simp [*];done)),(by first|rfl|(simp;done)|(simp [*];done)),H',⟨Nat.le_refl _⟩,⟨by(with_reducible repeat(first|apply In|apply Io|apply Kd.R_drew));exact qg.out⟩,⟨by(with_reducible repeat(first|refine Ih ?_ _|refine Ib ?_|refine Ig ?_ _));exact qa.out⟩,⟨by(with_reducible repeat(first|refine Ih ?_ _|refine Ib ?_|refine Ig ?_ _));exact qb.out⟩,⟨by repeat(first|(with_reducible first|exact HB.out|apply Id|apply Ic|apply Ie|refine If ?_ qd.out|refine If ?_ qh.out)|exact HB.out)⟩⟩
    case round=>
     clear H'
     try clear c1
     try clear p2
     try clear c6
     try clear c7
     try clear c10
     try clear c10b0
     try clear qp
     try clear qq
     try clear qr
     try clear qs
     try clear qt
     try clear qu
     try clear p2
     obtain⟨x8_2,x9_2,x10_2,qi,rfl,rfl,rfl,rfl,HA,HK2,qg,qa,qb,HB⟩:=hrel
     cases gk with
     | zero => exact absurd HA.out (by simp [spec_l14Motion.l1])
     | succ k2 =>
      have H:=HA.out
      clear HA
      simp only [spec_l14Motion.l1] at H
      by_cases c11:qi≤2
      ·rw [if_pos c11] at H
       have c11b0:decide (qi≤2)=true:=decide_eq_true c11
       clear c11
       have H':=Ia H
       clear H
       go_wp2
       repeat(go_quiet (fail);try go_wp2)
       go_loopg [8,9,10,14] k2 (fun kq v8 v9 v10 v14 w'=>∃ (x8_3:Int) (x9_3:Int) (qn:Int) (qf:Int),v8=.int .i64 x8_3∧v9=.int .i64 x9_3∧v10=.int .i64 qn∧v14=.int .i64 qf∧Aside0 (spec_l14Motion.l2 kq a2 x8_3 x9_3 qn t210 qk qi qf a0_0 a0_1 l0_2=some (r1,r2))∧Aside0 (kq≤k2)∧Aside0 (Kd.R (Kd.int .i64) 2 w' w.heap.size (fun _=>True) v211 t210)∧Aside0 (w'.heap[qc]? = some (.cells #[.int .i64 a0_0,.int .i64 a0_1,(.slice A0_2 l0_2.length c0_2)] 27 (0,0)))∧Aside0 (w'.heap[qe]? = some (.cells #[.int .i64 a1_0,.int .i64 a1_1,(.slice A1_2 l1_2.length c1_2)] 27 (0,0)))∧Aside0 (Below w.heap.size w w'))
       case atStart=>exact⟨(x8_2),(x9_2),(x10_2),((-2)),(by first|rfl|(simp;done)|(simp [*];done)),(by first|rfl|(simp;done)|(simp [*];done)),(by first|rfl|(simp;done)|(simp [*];done)),(by first|rfl|(simp;done)|(simp [*];done)),H',⟨Nat.le_refl _⟩,⟨by(with_reducible repeat(first|apply In|apply Io|apply Kd.R_drew));exact qg.out⟩,⟨by(with_reducible repeat(first|refine Ih ?_ _|refine Ib ?_|refine Ig ?_ _));exact qa.out⟩,⟨by(with_reducible repeat(first|refine Ih ?_ _|refine Ib ?_|refine Ig ?_ _));exact qb.out⟩,⟨by repeat(first|(with_reducible first|exact HB.out|apply Id|apply Ic|apply Ie|refine If ?_ qd.out|refine If ?_ qh.out)|exact HB.out)⟩⟩
       case round=>
        clear H'
        try clear c1
        try clear p2
        try clear c6
        try clear c7
        try clear c10
        try clear c10b0
        try clear c11
        try clear c11b0
        try clear qp
        try clear qq
        try clear qr
        try clear qs
        try clear qt
        try clear qu
        try clear p2
        obtain⟨x8_3,x9_3,qn,qf,rfl,rfl,rfl,rfl,HA,HK3,qg,qa,qb,HB⟩:=hrel
        cases gk with
        | zero => exact absurd HA.out (by simp [spec_l14Motion.l2])
        | succ k3 =>
         have H:=HA.out
         clear HA
         simp only [spec_l14Motion.l2] at H
         by_cases c12:qf≤2
         ·rw [if_pos c12] at H
          have c12b0:decide (qf≤2)=true:=decide_eq_true c12
          clear c12
          by_cases c13:(wrap64 ((wrap64 (qf*qf))+(wrap64 (qi*qi))))=qk
          ·rw [if_pos c13] at H
           have c13b0:((wrap64 ((wrap64 (qf*qf))+(wrap64 (qi*qi)))) == qk)=true:=beq_iff_eq.mpr c13
           have c13b1:((wrap64 ((wrap64 (qf*qf))+(wrap64 (qi*qi)))) != qk)=false:=bne_eq_false_iff_eq.mpr c13
           clear c13
           replace H:=Option.bind_eq_some_iff.mp H
           obtain⟨t213,A140,H⟩:=H
           replace H:(spec_l14Motion.l3 k3 a2 x8_3 x9_3 qn t210 qk qi qf 0 t213 0 a0_0 a0_1 l0_2)=some (r1,r2):=H
           have A14:=Ia A140
           clear A140
           have H':=Ia H
           clear H
           have hnb15:=ql.out
           have hnc15:=qm.out
           have hcz16_0:wr.cell? ⟨qc,0,none⟩=some (.int .i64 a0_0):=(Ij qa.out 0).trans rfl
           have hcz16_1:wr.cell? ⟨qc,1,none⟩=some (.int .i64 a0_1):=(Ij qa.out 1).trans rfl
           have hcz16_2:wr.cell? ⟨qc,2,none⟩=some (.slice A0_2 l0_2.length c0_2):=(Ij qa.out 2).trans rfl
           have hfz16_0:=Ii qa.out 0
           have hfz16_1:=Ii qa.out 1
           have hfz16_2:=Ii qa.out 2
           go_wp2_with (first|(go_at_call 73;(with_reducible refine(spec_l14Block.calls k3 a0_0 a0_1 _ _ l0_2 a2 qf qi t213 _ ?side1 ?side2 A14.out).mono ?_);(case side1=>repeat(first|exact(Kd.C_below HR0_2.out HB.out)|(with_reducible refine Kd.C_alloc ?_ _)|(with_reducible refine Kd.C_drewN ?_ _)|(with_reducible refine Kd.C_drew ?_)));(case side2=>exact HC0_2.out);rintro e w17 ⟨v214,rfl,qv,hb⟩;have n0_:=Ia (Kd.R_elder' (by(with_reducible repeat(first|apply In|apply Io|apply Kd.R_drew));exact qg.out) (Kd.R_base qv) hb);have n1_:=Ia (Kd.R_lower (Kd.R_new' qv (Kd.R_lt (by(with_reducible repeat(first|apply In|apply Io|apply Kd.R_drew));exact qg.out))) (Ik (by repeat(first|(with_reducible first|exact HB.out|apply Id|apply Ic|apply Ie|refine If ?_ qd.out|refine If ?_ qh.out)|exact HB.out))));have n2_:=Ia (Il (g:=qc) (o:=.cells #[.int .i64 a0_0,.int .i64 a0_1,.slice A0_2 l0_2.length c0_2] 27 (0,0)) (by(with_reducible repeat(first|refine Ih ?_ _|refine Ib ?_|refine Ig ?_ _));exact qa.out) hb);have n3_:=Ia (Il (g:=qe) (o:=.cells #[.int .i64 a1_0,.int .i64 a1_1,.slice A1_2 l1_2.length c1_2] 27 (0,0)) (by(with_reducible repeat(first|refine Ih ?_ _|refine Ib ?_|refine Ig ?_ _));exact qb.out) hb);have n4_:=Ia (Im (by repeat(first|(with_reducible first|exact HB.out|apply Id|apply Ic|apply Ie|refine If ?_ qd.out|refine If ?_ qh.out)|exact HB.out)) hb);clear qg;clear qa;clear qb;clear HB;have qg:=n0_;have HO215:=n1_;have qa:=n2_;have qb:=n3_;have HB:=n4_;clear n0_ n1_ n2_ n3_ n4_;(try clear hb);(try clear hb2);(try clear hk);(try clear hi);(try clear qv)))
           repeat(go_quiet (first|(go_at_call 73;(with_reducible refine(spec_l14Block.calls k3 a0_0 a0_1 _ _ l0_2 a2 qf qi t213 _ ?side1 ?side2 A14.out).mono ?_);(case side1=>repeat(first|exact(Kd.C_below HR0_2.out HB.out)|(with_reducible refine Kd.C_alloc ?_ _)|(with_reducible refine Kd.C_drewN ?_ _)|(with_reducible refine Kd.C_drew ?_)));(case side2=>exact HC0_2.out);rintro e w17 ⟨v214,rfl,qv,hb⟩;have n0_:=Ia (Kd.R_elder' (by(with_reducible repeat(first|apply In|apply Io|apply Kd.R_drew));exact qg.out) (Kd.R_base qv) hb);have n1_:=Ia (Kd.R_lower (Kd.R_new' qv (Kd.R_lt (by(with_reducible repeat(first|apply In|apply Io|apply Kd.R_drew));exact qg.out))) (Ik (by repeat(first|(with_reducible first|exact HB.out|apply Id|apply Ic|apply Ie|refine If ?_ qd.out|refine If ?_ qh.out)|exact HB.out))));have n2_:=Ia (Il (g:=qc) (o:=.cells #[.int .i64 a0_0,.int .i64 a0_1,.slice A0_2 l0_2.length c0_2] 27 (0,0)) (by(with_reducible repeat(first|refine Ih ?_ _|refine Ib ?_|refine Ig ?_ _));exact qa.out) hb);have n3_:=Ia (Il (g:=qe) (o:=.cells #[.int .i64 a1_0,.int .i64 a1_1,.slice A1_2 l1_2.length c1_2] 27 (0,0)) (by(with_reducible repeat(first|refine Ih ?_ _|refine Ib ?_|refine Ig ?_ _));exact qb.out) hb);have n4_:=Ia (Im (by repeat(first|(with_reducible first|exact HB.out|apply Id|apply Ic|apply Ie|refine If ?_ qd.out|refine If ?_ qh.out)|exact HB.out)) hb);clear qg;clear qa;clear qb;clear HB;have qg:=n0_;have HO215:=n1_;have qa:=n2_;have qb:=n3_;have HB:=n4_;clear n0_ n1_ n2_ n3_ n4_;(try clear hb);(try clear hb2);(try clear hk);(try clear hi);(try clear qv)));try go_wp2_with (first|(go_at_call 73;(with_reducible refine(spec_l14Block.calls k3 a0_0 a0_1 _ _ l0_2 a2 qf qi t213 _ ?side1 ?side2 A14.out).mono ?_);(case side1=>repeat(first|exact(Kd.C_below HR0_2.out HB.out)|(with_reducible refine Kd.C_alloc ?_ _)|(with_reducible refine Kd.C_drewN ?_ _)|(with_reducible refine Kd.C_drew ?_)));(case side2=>exact HC0_2.out);rintro e w17 ⟨v214,rfl,qv,hb⟩;have n0_:=Ia (Kd.R_elder' (by(with_reducible repeat(first|apply In|apply Io|apply Kd.R_drew));exact qg.out) (Kd.R_base qv) hb);have n1_:=Ia (Kd.R_lower (Kd.R_new' qv (Kd.R_lt (by(with_reducible repeat(first|apply In|apply Io|apply Kd.R_drew));exact qg.out))) (Ik (by repeat(first|(with_reducible first|exact HB.out|apply Id|apply Ic|apply Ie|refine If ?_ qd.out|refine If ?_ qh.out)|exact HB.out))));have n2_:=Ia (Il (g:=qc) (o:=.cells #[.int .i64 a0_0,.int .i64 a0_1,.slice A0_2 l0_2.length c0_2] 27 (0,0)) (by(with_reducible repeat(first|refine Ih ?_ _|refine Ib ?_|refine Ig ?_ _));exact qa.out) hb);have n3_:=Ia (Il (g:=qe) (o:=.cells #[.int .i64 a1_0,.int .i64 a1_1,.slice A1_2 l1_2.length c1_2] 27 (0,0)) (by(with_reducible repeat(first|refine Ih ?_ _|refine Ib ?_|refine Ig ?_ _));exact qb.out) hb);have n4_:=Ia (Im (by repeat(first|(with_reducible first|exact HB.out|apply Id|apply Ic|apply Ie|refine If ?_ qd.out|refine If ?_ qh.out)|exact HB.out)) hb);clear qg;clear qa;clear qb;clear HB;have qg:=n0_;have HO215:=n1_;have qa:=n2_;have qb:=n3_;have HB:=n4_;clear n0_ n1_ n2_ n3_ n4_;(try clear hb);(try clear hb2);(try clear hk);(try clear hi);(try clear qv))))
           go_loopg [15,17] k3 (fun kq v15 v17 w'=>∃ (qo:Int) (qj:Int),v15=.int .i64 qo∧v17=.int .i64 qj∧Aside0 (spec_l14Motion.l3 kq a2 x8_3 x9_3 qn t210 qk qi qf qo t213 qj a0_0 a0_1 l0_2=some (r1,r2))∧Aside0 (kq≤k3)∧Aside0 (Kd.R (Kd.int .i64) 2 w' w.heap.size (fun k_=>some k_≠(v214:Value).ownBlock) v211 t210)∧Aside0 (Kd.R (Kd.int .i64) 2 w' w.heap.size (fun k_=>some k_≠(v211:Value).ownBlock) v214 t213)∧Aside0 (w'.heap[qc]? = some (.cells #[.int .i64 a0_0,.int .i64 a0_1,(.slice A0_2 l0_2.length c0_2)] 27 (0,0)))∧Aside0 (w'.heap[qe]? = some (.cells #[.int .i64 a1_0,.int .i64 a1_1,(.slice A1_2 l1_2.length c1_2)] 27 (0,0)))∧Aside0 (Below w.heap.size w w'))
           case atStart=>exact⟨(0),(0),(by first|rfl|(simp;done)|(simp [*];done)),(by first|rfl|(simp;done)|(simp [*];done)),H',⟨Nat.le_refl _⟩,⟨by(with_reducible repeat(first|apply In|apply Io|apply Kd.R_drew));exact Kd.R_mono qg.out (fun _ hk=>hk.2)⟩,⟨by(with_reducible repeat(first|apply In|apply Io|apply Kd.R_drew));exact Kd.R_mono HO215.out (fun _ hk=>hk.2)⟩,⟨by(with_reducible repeat(first|refine Ih ?_ _|refine Ib ?_|refine Ig ?_ _));exact qa.out⟩,⟨by(with_reducible repeat(first|refine Ih ?_ _|refine Ib ?_|refine Ig ?_ _));exact qb.out⟩,⟨by repeat(first|(with_reducible first|exact HB.out|apply Id|apply Ic|apply Ie|refine If ?_ qd.out|refine If ?_ qh.out)|exact HB.out)⟩⟩
           case round=>
            clear H'
            try clear c1
            try clear p2
            try clear c6
            try clear p6
            try clear c7
            try clear c10
            try clear c10b0
            try clear c11
            try clear c11b0
            try clear c12
            try clear c12b0
            try clear c13
            try clear c13b0
            try clear c13b1
            try clear c15
            try clear hcz16_0
            try clear hcz16_1
            try clear hcz16_2
            try clear qp
            try clear qq
            try clear qr
            try clear hfz16_0
            try clear hfz16_1
            try clear hfz16_2
            try clear qs
            try clear qt
            try clear qu
            try clear p2
            obtain⟨qo,qj,rfl,rfl,HA,HK4,qg,HO_16,qa,qb,HB⟩:=hrel
            cases gk with
            | zero => exact absurd HA.out (by simp [spec_l14Motion.l3])
            | succ k4 =>
             have H:=HA.out
             clear HA
             simp only [spec_l14Motion.l3] at H
             by_cases c18:qj < 16
             ·rw [if_pos c18] at H
              have c18b0:decide (qj < 16)=true:=decide_eq_true c18
              clear c18
              by_cases c19:0≤qj
              ·rw [if_pos c19] at H
               have c19b0:decide (0≤qj)=true:=decide_eq_true c19
               clear c19
               by_cases c20:qj < (t210.length:Int)
               ·rw [if_pos c20] at H
                have c20b0:decide (qj < (t210.length:Int))=true:=decide_eq_true c20
                clear c20
                by_cases c21:qj < (t213.length:Int)
                ·rw [if_pos c21] at H
                 have c21b0:decide (qj < (t213.length:Int))=true:=decide_eq_true c21
                 clear c21
                 replace H:=Option.bind_eq_some_iff.mp H
                 obtain⟨t218,A220,H⟩:=H
                 replace H:(spec_l14Motion.l3 k4 a2 x8_3 x9_3 qn t210 qk qi qf (wrap64 (qo+t218)) t213 (wrap64 (qj+1)) a0_0 a0_1 l0_2)=some (r1,r2):=H
                 have A22:=Ia A220
                 clear A220
                 have H':=Ia H
                 clear H
                 obtain⟨Ao23,co23,eo23⟩:=Kd.R_slice qg.out
                 subst eo23
                 have p216:0≤(qj:Int):=of_decide_eq_true (by first|(with_reducible assumption)|assumption)
                 have q216:qj < (t210.length:Int):=of_decide_eq_true (by first|(with_reducible assumption)|assumption)
                 obtain⟨ad216,e216,hx216_0⟩:=Kd.at_int (Kd.R_reads' qg.out).2.2 qj p216 q216
                 cases e216
                 replace p216:=eq_true p216
                 replace q216:=eq_true q216
                 obtain⟨Ao24,co24,eo24⟩:=Kd.R_slice HO_16.out
                 subst eo24
                 have p217:0≤(qj:Int):=of_decide_eq_true (by first|(with_reducible assumption)|assumption)
                 have q217:qj < (t213.length:Int):=of_decide_eq_true (by first|(with_reducible assumption)|assumption)
                 obtain⟨ad217,e217,hx217_0⟩:=Kd.at_int (Kd.R_reads' HO_16.out).2.2 qj p217 q217
                 cases e217
                 replace p217:=eq_true p217
                 replace q217:=eq_true q217
                 go_wp2_with (first|(go_at_call 86;(with_reducible refine(spec_l1Abs.calls (wrap64 ((rd t210 qj) - (rd t213 qj))) t218 _ A22.out).mono ?_);rintro e w' ⟨rfl,⟨nd,rfl⟩⟩;(try first|exact⟨rfl,_,World.drewN_drewN _ _ _⟩|exact⟨rfl,_,Eq.trans (World.drewN_drewN _ _ _) (congrArg (World.drewN _) (Nat.add_assoc _ _ _))⟩)))
                 repeat(go_quiet (first|(go_at_call 86;(with_reducible refine(spec_l1Abs.calls (wrap64 ((rd t210 qj) - (rd t213 qj))) t218 _ A22.out).mono ?_);rintro e w' ⟨rfl,⟨nd,rfl⟩⟩;(try first|exact⟨rfl,_,World.drewN_drewN _ _ _⟩|exact⟨rfl,_,Eq.trans (World.drewN_drewN _ _ _) (congrArg (World.drewN _) (Nat.add_assoc _ _ _))⟩)));try go_wp2_with (first|(go_at_call 86;(with_reducible refine(spec_l1Abs.calls (wrap64 ((rd t210 qj) - (rd t213 qj))) t218 _ A22.out).mono ?_);rintro e w' ⟨rfl,⟨nd,rfl⟩⟩;(try first|exact⟨rfl,_,World.drewN_drewN _ _ _⟩|exact⟨rfl,_,Eq.trans (World.drewN_drewN _ _ _) (congrArg (World.drewN _) (Nat.add_assoc _ _ _))⟩))))
                 go_roundg k4
                 case measure=>have:=HK1.out;have:=HK2.out;have:=HK3.out;have:=HK4.out;omega
                 case rel=>exact⟨(wrap64 (qo+t218)),(wrap64 (qj+1)),(by first|rfl|(simp;done)|(simp [*];done)),(by first|rfl|(simp;done)|(simp [*];done)),H',⟨by have:=HK1.out;have:=HK2.out;have:=HK3.out;have:=HK4.out;omega⟩,⟨by(with_reducible repeat(first|apply In|apply Io|apply Kd.R_drew));exact qg.out⟩,⟨by(with_reducible repeat(first|apply In|apply Io|apply Kd.R_drew));exact HO_16.out⟩,⟨by(with_reducible repeat(first|refine Ih ?_ _|refine Ib ?_|refine Ig ?_ _));exact qa.out⟩,⟨by(with_reducible repeat(first|refine Ih ?_ _|refine Ib ?_|refine Ig ?_ _));exact qb.out⟩,⟨by repeat(first|(with_reducible first|exact HB.out|apply Id|apply Ic|apply Ie|refine If ?_ qd.out|refine If ?_ qh.out)|exact HB.out)⟩⟩
                ·rw [if_neg c21] at H
                 exact absurd H (by simp)
               ·rw [if_neg c20] at H
                exact absurd H (by simp)
              ·rw [if_neg c19] at H
               exact absurd H (by simp)
             ·rw [if_neg c18] at H
              have c18b0:decide (qj < 16)=false:=decide_eq_false c18
              clear c18
              by_cases c25:qn < 0
              ·rw [if_pos c25] at H
               have c25b0:decide (qn < 0)=true:=decide_eq_true c25
               clear c25
               have H':=Ia H
               clear H
               go_wp2
               repeat(go_quiet (fail);try go_wp2)
               go_roundg k4
               case measure=>have:=HK1.out;have:=HK2.out;have:=HK3.out;have:=HK4.out;omega
               case rel=>exact⟨(qf),(qi),(qo),(wrap64 (qf+1)),(by first|rfl|(simp;done)|(simp [*];done)),(by first|rfl|(simp;done)|(simp [*];done)),(by first|rfl|(simp;done)|(simp [*];done)),(by first|rfl|(simp;done)|(simp [*];done)),H',⟨by have:=HK1.out;have:=HK2.out;have:=HK3.out;have:=HK4.out;omega⟩,⟨by(with_reducible repeat(first|apply In|apply Io|apply Kd.R_drew));exact Kd.R_mono qg.out (fun _ hk=>trivial)⟩,⟨by(with_reducible repeat(first|refine Ih ?_ _|refine Ib ?_|refine Ig ?_ _));exact qa.out⟩,⟨by(with_reducible repeat(first|refine Ih ?_ _|refine Ib ?_|refine Ig ?_ _));exact qb.out⟩,⟨by repeat(first|(with_reducible first|exact HB.out|apply Id|apply Ic|apply Ie|refine If ?_ qd.out|refine If ?_ qh.out)|exact HB.out)⟩⟩
              ·rw [if_neg c25] at H
               have c25b0:decide (qn < 0)=false:=decide_eq_false c25
               clear c25
               by_cases c26:qo < qn
               ·rw [if_pos c26] at H
                have c26b0:decide (qo < qn)=true:=decide_eq_true c26
                clear c26
                have H':=Ia H
                clear H
                go_wp2
                repeat(go_quiet (fail);try go_wp2)
                go_roundg k4
                case measure=>have:=HK1.out;have:=HK2.out;have:=HK3.out;have:=HK4.out;omega
                case rel=>exact⟨(qf),(qi),(qo),(wrap64 (qf+1)),(by first|rfl|(simp;done)|(simp [*];done)),(by first|rfl|(simp;done)|(simp [*];done)),(by first|rfl|(simp;done)|(simp [*];done)),(by first|rfl|(simp;done)|(simp [*];done)),H',⟨by have:=HK1.out;have:=HK2.out;have:=HK3.out;have:=HK4.out;omega⟩,⟨by(with_reducible repeat(first|apply In|apply Io|apply Kd.R_drew));exact Kd.R_mono qg.out (fun _ hk=>trivial)⟩,⟨by(with_reducible repeat(first|refine Ih ?_ _|refine Ib ?_|refine Ig ?_ _));exact qa.out⟩,⟨by(with_reducible repeat(first|refine Ih ?_ _|refine Ib ?_|refine Ig ?_ _));exact qb.out⟩,⟨by repeat(first|(with_reducible first|exact HB.out|apply Id|apply Ic|apply Ie|refine If ?_ qd.out|refine If ?_ qh.out)|exact HB.out)⟩⟩
               ·rw [if_neg c26] at H
                have c26b0:decide (qo < qn)=false:=decide_eq_false c26
                clear c26
                have H':=Ia H
                clear H
                go_wp2
                repeat(go_quiet (fail);try go_wp2)
                go_roundg k4
                case measure=>have:=HK1.out;have:=HK2.out;have:=HK3.out;have:=HK4.out;omega
                case rel=>exact⟨(x8_3),(x9_3),(qn),(wrap64 (qf+1)),(by first|rfl|(simp;done)|(simp [*];done)),(by first|rfl|(simp;done)|(simp [*];done)),(by first|rfl|(simp;done)|(simp [*];done)),(by first|rfl|(simp;done)|(simp [*];done)),H',⟨by have:=HK1.out;have:=HK2.out;have:=HK3.out;have:=HK4.out;omega⟩,⟨by(with_reducible repeat(first|apply In|apply Io|apply Kd.R_drew));exact Kd.R_mono qg.out (fun _ hk=>trivial)⟩,⟨by(with_reducible repeat(first|refine Ih ?_ _|refine Ib ?_|refine Ig ?_ _));exact qa.out⟩,⟨by(with_reducible repeat(first|refine Ih ?_ _|refine Ib ?_|refine Ig ?_ _));exact qb.out⟩,⟨by repeat(first|(with_reducible first|exact HB.out|apply Id|apply Ic|apply Ie|refine If ?_ qd.out|refine If ?_ qh.out)|exact HB.out)⟩⟩
          ·rw [if_neg c13] at H
           have c13b0:((wrap64 ((wrap64 (qf*qf))+(wrap64 (qi*qi)))) == qk)=false:=beq_eq_false_iff_ne.mpr c13
           have c13b1:((wrap64 ((wrap64 (qf*qf))+(wrap64 (qi*qi)))) != qk)=true:=bne_iff_ne.mpr c13
           have H':=Ia H
           clear H
           go_wp2
           repeat(go_quiet (fail);try go_wp2)
           go_roundg k3
           case measure=>have:=HK1.out;have:=HK2.out;have:=HK3.out;omega
           case rel=>exact⟨(x8_3),(x9_3),(qn),(wrap64 (qf+1)),(by first|rfl|(simp;done)|(simp [*];done)),(by first|rfl|(simp;done)|(simp [*];done)),(by first|rfl|(simp;done)|(simp [*];done)),(by first|rfl|(simp;done)|(simp [*];done)),H',⟨by have:=HK1.out;have:=HK2.out;have:=HK3.out;omega⟩,⟨by(with_reducible repeat(first|apply In|apply Io|apply Kd.R_drew));exact qg.out⟩,⟨by(with_reducible repeat(first|refine Ih ?_ _|refine Ib ?_|refine Ig ?_ _));exact qa.out⟩,⟨by(with_reducible repeat(first|refine Ih ?_ _|refine Ib ?_|refine Ig ?_ _));exact qb.out⟩,⟨by repeat(first|(with_reducible first|exact HB.out|apply Id|apply Ic|apply Ie|refine If ?_ qd.out|refine If ?_ qh.out)|exact HB.out)⟩⟩
         ·rw [if_neg c12] at H
          have c12b0:decide (qf≤2)=false:=decide_eq_false c12
          clear c12
          have H':=Ia H
          clear H
          go_wp2
          repeat(go_quiet (fail);try go_wp2)
          go_roundg k3
          case measure=>have:=HK1.out;have:=HK2.out;have:=HK3.out;omega
          case rel=>exact⟨(x8_3),(x9_3),(qn),(wrap64 (qi+1)),(by first|rfl|(simp;done)|(simp [*];done)),(by first|rfl|(simp;done)|(simp [*];done)),(by first|rfl|(simp;done)|(simp [*];done)),(by first|rfl|(simp;done)|(simp [*];done)),H',⟨by have:=HK1.out;have:=HK2.out;have:=HK3.out;omega⟩,⟨by(with_reducible repeat(first|apply In|apply Io|apply Kd.R_drew));exact qg.out⟩,⟨by(with_reducible repeat(first|refine Ih ?_ _|refine Ib ?_|refine Ig ?_ _));exact qa.out⟩,⟨by(with_reducible repeat(first|refine Ih ?_ _|refine Ib ?_|refine Ig ?_ _));exact qb.out⟩,⟨by repeat(first|(with_reducible first|exact HB.out|apply Id|apply Ic|apply Ie|refine If ?_ qd.out|refine If ?_ qh.out)|exact HB.out)⟩⟩
      ·rw [if_neg c11] at H
       have c11b0:decide (qi≤2)=false:=decide_eq_false c11
       clear c11
       have H':=Ia H
       clear H
       go_wp2
       repeat(go_quiet (fail);try go_wp2)
       go_roundg k2
       case measure=>have:=HK1.out;have:=HK2.out;omega
       case rel=>exact⟨(x8_2),(x9_2),(x10_2),(wrap64 (qk+1)),(by first|rfl|(simp;done)|(simp [*];done)),(by first|rfl|(simp;done)|(simp [*];done)),(by first|rfl|(simp;done)|(simp [*];done)),(by first|rfl|(simp;done)|(simp [*];done)),H',⟨by have:=HK1.out;have:=HK2.out;omega⟩,⟨by(with_reducible repeat(first|apply In|apply Io|apply Kd.R_drew));exact qg.out⟩,⟨by(with_reducible repeat(first|refine Ih ?_ _|refine Ib ?_|refine Ig ?_ _));exact qa.out⟩,⟨by(with_reducible repeat(first|refine Ih ?_ _|refine Ib ?_|refine Ig ?_ _));exact qb.out⟩,⟨by repeat(first|(with_reducible first|exact HB.out|apply Id|apply Ic|apply Ie|refine If ?_ qd.out|refine If ?_ qh.out)|exact HB.out)⟩⟩
   ·rw [if_neg c10] at H
    have c10b0:decide (qk≤8)=false:=decide_eq_false c10
    clear c10
    simp only [Option.some.injEq,Prod.mk.injEq] at H
    obtain⟨rfl,rfl⟩:=H
    go_wp2
    repeat(go_quiet (fail);try go_wp2)
    go_ret2
    exact⟨by first|rfl|(simp [errW_none,errW_some] <;> rfl)|(simp [*,errW_none,errW_some] <;> rfl),by repeat(first|(with_reducible first|exact HB.out|apply Id|apply Ic|apply Ie|refine If ?_ qd.out|refine If ?_ qh.out)|exact HB.out)⟩

/-! ### spec_l8Down: function 96 -/
def spec_l8Down.f (a0 : Int) (a1 : Int) : Option (Int) := if a1 = 0 then (none) else (if (Int.tmod a0 a1) < 0 then (some (wrap64 ((wrap64 (Int.tdiv a0 a1)) - 1))) else (some (wrap64 (Int.tdiv a0 a1))))
set_option maxHeartbeats 8000000 in
set_option maxRecDepth 100000 in
theorem spec_l8Down.calls (a0 : Int) (a1 : Int) (r : Int) (w : World) (h : spec_l8Down.f a0 a1 = some r) :
  Calls Try.prog 96 #[.int .i64 a0,.int .i64 a1] w fun e w'=>e=.returned (.int .i64 r)∧Drawn0 w w':=by
 have H:(if a1=0 then (none) else (if (Int.tmod a0 a1) < 0 then (some (wrap64 ((wrap64 (Int.tdiv a0 a1)) - 1))) else (some (wrap64 (Int.tdiv a0 a1)))))=some r:=h
 clear h
 by_cases c3:a1=0
 ·rw [if_pos c3] at H
  exact absurd H (by simp)
 ·rw [if_neg c3] at H
  have c3b0:(a1 == 0)=false:=beq_eq_false_iff_ne.mpr c3
  have c3b1:(a1 != 0)=true:=bne_iff_ne.mpr c3
  by_cases c4:(Int.tmod a0 a1) < 0
  ·rw [if_pos c4] at H
   have c4b0:decide ((Int.tmod a0 a1) < 0)=true:=decide_eq_true c4
   clear c4
   obtain rfl:=Option.some.inj H
   go_enter Try.func96,Try.ntmps96
   go_wp2
   go_ret
   exact⟨by first|rfl|(simp;done)|(simp [*];done),by repeat(first|exact Drawn0.refl _|apply Drawn0.step)⟩
  ·rw [if_neg c4] at H
   have c4b0:decide ((Int.tmod a0 a1) < 0)=false:=decide_eq_false c4
   clear c4
   obtain rfl:=Option.some.inj H
   go_enter Try.func96,Try.ntmps96
   go_wp2
   go_ret
   exact⟨by first|rfl|(simp;done)|(simp [*];done),by repeat(first|exact Drawn0.refl _|apply Drawn0.step)⟩

/-! ### spec_l9Round: function 77 -/
def spec_l9Round.f (a0 : Int) (a1 : Int) : Option (Int) := (spec_l8Down.f (wrap64 ((wrap64 (2 * a0)) + a1)) (wrap64 (2 * a1))).bind fun t219 => (some t219)
set_option maxHeartbeats 8000000 in
set_option maxRecDepth 100000 in
theorem spec_l9Round.calls (a0 : Int) (a1 : Int) (r : Int) (w : World) (h : spec_l9Round.f a0 a1 = some r) :
  Calls Try.prog 77 #[.int .i64 a0,.int .i64 a1] w fun e w'=>e=.returned (.int .i64 r)∧Drawn0 w w':=by
 have H:((spec_l8Down.f (wrap64 ((wrap64 (2*a0))+a1)) (wrap64 (2*a1))).bind fun t219=>(some t219))=some r:=h
 clear h
 replace H:=Option.bind_eq_some_iff.mp H
 obtain⟨t219,A30,H⟩:=H
 replace H:(some t219)=some r:=H
 have A3:=Ia A30
 clear A30
 obtain rfl:=Option.some.inj H
 go_enter Try.func77,Try.ntmps77
 go_wp2_with (first|((with_reducible refine gate_callee (f:=96) rfl ?_);refine goesL_ (some 11) rfl rfl Try.func96 (by kernel_rfl) rfl #[.int .i64 (wrap64 ((wrap64 (2*a0))+a1)),.int .i64 (wrap64 (2*a1))] rfl (by(try simp only [List.map_toArray,List.map_cons,List.map_nil]);first|done|rfl|(simp only [List.length_drop,List.length_take];rfl)) ?_;(with_reducible refine(spec_l8Down.calls (wrap64 ((wrap64 (2*a0))+a1)) (wrap64 (2*a1)) t219 _ A3.out).mono ?_);rintro e w' ⟨rfl,⟨nd,rfl⟩⟩;refine⟨_,rfl,?_⟩))
 go_ret
 exact⟨by first|rfl|(simp;done)|(simp [*];done),by repeat(first|exact Drawn0.refl _|apply Drawn0.step)⟩

end Go.Proofs.Ytbdnpfjjaokdbaa.HFnDecoded
