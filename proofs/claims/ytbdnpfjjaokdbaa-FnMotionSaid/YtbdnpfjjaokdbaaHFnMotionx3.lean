-- Laid by myprint.py, a program of this repo, out of the kit's printer and this repo's own texts (wip/hand).
import Derived.Test.YtbdnpfjjaokdbaaHFnMotionx0
import Derived.Test.YtbdnpfjjaokdbaaHFnMotionx1
import Derived.Test.YtbdnpfjjaokdbaaHFnMotionx2
namespace Go.Proofs.Ytbdnpfjjaokdbaa.HFnMotion
open Go.RowKit Go.Proofs.YtbdnpfjjaokdbaaW.PrintWords Go.Proofs.YtbdnpfjjaokdbaaW.PrintLast Go.Proofs.YtbdnpfjjaokdbaaW.PrintMore
attribute [local go_sem] max2_int min2_int max_two min_two max_three min_three max_four min_four   -- for this text's walks alone
set_option linter.unusedVariables false
set_option linter.unusedSimpArgs false
theorem Da : type_of% @Aside0.mk := @Aside0.mk
theorem Db : type_of% @pw_below_drewN := @pw_below_drewN
theorem Dc : type_of% @below_drew1 := @below_drew1
theorem Dd : type_of% @below_alloc := @below_alloc
theorem De : type_of% @blk_frozen := @blk_frozen
theorem Df : type_of% @blk_drew := @blk_drew
theorem Dg : type_of% @blk_cell := @blk_cell
theorem Dh : type_of% @below_set := @below_set
theorem Di : type_of% @below_size := @below_size
theorem Dj : type_of% @blk_alloc := @blk_alloc
theorem Dk : type_of% @blk_drewN := @blk_drewN
theorem Dl : type_of% @below_step := @below_step
theorem Dm : type_of% @Kd.C_drew := @Kd.C_drew
theorem Dn : type_of% @blk_below := @blk_below
theorem Do : type_of% @box_event := @box_event
theorem Dp : type_of% @gate_dst := @gate_dst
theorem Dq : type_of% @Kd.C_drewN := @Kd.C_drewN
theorem Dr : type_of% @Kd.C_below := @Kd.C_below
theorem Ds : type_of% @Kd.C_alloc := @Kd.C_alloc

/-! ### spec_Motion: function 31 -/
def spec_Motion.f (k : Nat) (a0_0 : Int) (a0_1 : Int) (l0_2 : List Int) (a1_0 : Int) (a1_1 : Int) (l1_2 : List Int) (a2 : Int) : Option (Int × Int) := (spec_l14Two.f k a0_0 a0_1 l0_2 a1_0 a1_1 l1_2).bind fun t140 => (if t140 = true then (if a2 < 0 then (some (0, 0)) else ((spec_l14Blocks.f a1_0 a1_1 l1_2).bind fun t141 => (if a2 ≥ t141 then (some (0, 0)) else ((spec_l14Motion.f k a0_0 a0_1 l0_2 a1_0 a1_1 l1_2 a2).bind fun bt142 => (some (bt142.1, bt142.2)))))) else (some (0, 0)))
theorem spec_Motion.mono : ∀ a0 a1 a2 a3 a4 a5 a6 k, LeO (spec_Motion.f k a0 a1 a2 a3 a4 a5 a6) (spec_Motion.f (k + 1) a0 a1 a2 a3 a4 a5 a6) := by
 intro a0 a1 a2 a3 a4 a5 a6 k
 unfold spec_Motion.f
 repeat' first
   | (with_reducible exact spec_l14Motion.mono _ _ _ _ _ _ _ _)
   | (with_reducible exact spec_l14Two.mono _ _ _ _ _ _ _)
   | (with_reducible exact LeO.refl _)
   | (with_reducible exact LeO.none _)
   | (with_reducible refine LeO.ite ?_ ?_)
   | (with_reducible refine LeO.bind ?_ (fun _ => ?_))
   | exact spec_l14Motion.mono _ _ _ _ _ _ _ _
   | exact spec_l14Two.mono _ _ _ _ _ _ _
   | exact LeO.none _
   | refine LeO.ite ?_ ?_
   | refine LeO.bind ?_ (fun _ => ?_)
set_option maxHeartbeats 8000000 in
set_option maxRecDepth 100000 in
theorem spec_Motion.calls (k : Nat) (a0_0 : Int) (a0_1 : Int) (A0_2 : Option Addr) (c0_2 : Nat) (l0_2 : List Int) (a1_0 : Int) (a1_1 : Int) (A1_2 : Option Addr) (c1_2 : Nat) (l1_2 : List Int) (a2 : Int) (r1 : Int) (r2 : Int) (w : World) (hr0_2 : Kd.C (Kd.int .i64) w A0_2 l0_2.length l0_2) (hc0_2 : l0_2.length ≤ c0_2) (hr1_2 : Kd.C (Kd.int .i64) w A1_2 l1_2.length l1_2) (hc1_2 : l1_2.length ≤ c1_2) (h : spec_Motion.f k a0_0 a0_1 l0_2 a1_0 a1_1 l1_2 a2 = some (r1, r2)) :
  Calls Try.prog 31 #[.agg #[.int .i64 a0_0,.int .i64 a0_1,.slice A0_2 l0_2.length c0_2],.agg #[.int .i64 a1_0,.int .i64 a1_1,.slice A1_2 l1_2.length c1_2],.int .i64 a2] w fun e w'=>e=.returned (.tuple #[.int .i64 r1,.int .i64 r2])∧Below w.heap.size w w':=by
 have hu27:=Try.underlying27
 have HR0_2:=Da hr0_2
 have HC0_2:=Da hc0_2
 clear hr0_2 hc0_2
 have HR1_2:=Da hr1_2
 have HC1_2:=Da hc1_2
 clear hr1_2 hc1_2
 have HB:=Da (Below.refl w.heap.size w)
 have H:((spec_l14Two.f k a0_0 a0_1 l0_2 a1_0 a1_1 l1_2).bind fun t140=>(if t140=true then (if a2 < 0 then (some (0,0)) else ((spec_l14Blocks.f a1_0 a1_1 l1_2).bind fun t141=>(if a2 ≥ t141 then (some (0,0)) else ((spec_l14Motion.f k a0_0 a0_1 l0_2 a1_0 a1_1 l1_2 a2).bind fun bt142=>(some (bt142.1,bt142.2)))))) else (some (0,0))))=some (r1,r2):=h
 clear h
 replace H:=Option.bind_eq_some_iff.mp H
 obtain⟨t140,A40,H⟩:=H
 replace H:(if t140=true then (if a2 < 0 then (some (0,0)) else ((spec_l14Blocks.f a1_0 a1_1 l1_2).bind fun t141=>(if a2 ≥ t141 then (some (0,0)) else ((spec_l14Motion.f k a0_0 a0_1 l0_2 a1_0 a1_1 l1_2 a2).bind fun bt142=>(some (bt142.1,bt142.2)))))) else (some (0,0)))=some (r1,r2):=H
 have A4:=Da A40
 clear A40
 by_cases c5:t140=true
 ·subst c5
  have H1:(if a2 < 0 then (some (0,0)) else ((spec_l14Blocks.f a1_0 a1_1 l1_2).bind fun t141=>(if a2 ≥ t141 then (some (0,0)) else ((spec_l14Motion.f k a0_0 a0_1 l0_2 a1_0 a1_1 l1_2 a2).bind fun bt142=>(some (bt142.1,bt142.2))))))=some (r1,r2):=by rw [if_pos rfl] at H;exact H
  clear H
  have H:=H1
  clear H1
  by_cases c6:a2 < 0
  ·rw [if_pos c6] at H
   have c6b0:decide (a2 < 0)=true:=decide_eq_true c6
   clear c6
   simp only [Option.some.injEq,Prod.mk.injEq] at H
   obtain⟨rfl,rfl⟩:=H
   go_enter Try.func31,Try.ntmps31
   go_wp2_with (first|((with_reducible refine Dp (N:=3) rfl ?_);refine Do ?hg (N:=3) ?hd (cs:=#[.int .i64 a0_0,.int .i64 a0_1,.slice A0_2 l0_2.length c0_2]) (t:=27) ?hr ?_;(case hd=>rfl);(case hg=>rfl);(case hr=>first|(go_simp;done)|(go_simp;rfl));intro gb138 hg w7 hbox hb;have n0_:=Da (Dl (by repeat(first|(with_reducible first|exact HB.out|apply Dd|apply Db|apply Dc)|exact HB.out)) hb);have n1_:=Da (hbox);have n2_:=Da ((by rw [hg];exact(Di (by repeat(first|(with_reducible first|exact HB.out|apply Dd|apply Db|apply Dc)|exact HB.out))):w.heap.size≤gb138));have n3_:=Da ((by rw [hg];exact(Di (by repeat(first|(with_reducible first|exact HB.out|apply Dd|apply Db|apply Dc)|exact HB.out))):w.heap.size≤gb138));clear HB;have HB:=n0_;have BK138:=n1_;have GW138:=n2_;have GE138:=n3_;clear n0_ n1_ n2_ n3_;clear hb hbox hg)|((with_reducible refine Dp (N:=4) rfl ?_);refine Do ?hg (N:=4) ?hd (cs:=#[.int .i64 a1_0,.int .i64 a1_1,.slice A1_2 l1_2.length c1_2]) (t:=27) ?hr ?_;(case hd=>rfl);(case hg=>rfl);(case hr=>first|(go_simp;done)|(go_simp;rfl));intro gb139 hg w8 hbox hb;have n0_:=Da (Dn (g:=gb138) (o:=.cells #[.int .i64 a0_0,.int .i64 a0_1,.slice A0_2 l0_2.length c0_2] 27 (0,0)) (by(with_reducible repeat(first|refine Dk ?_ _|refine Df ?_|refine Dj ?_ _));exact BK138.out) hb);have n1_:=Da (Dl (by repeat(first|(with_reducible first|exact HB.out|apply Dd|apply Db|apply Dc|refine Dh ?_ GE138.out)|exact HB.out)) hb);have n2_:=Da (hbox);have n3_:=Da ((by rw [hg];exact(Di (by repeat(first|(with_reducible first|exact HB.out|apply Dd|apply Db|apply Dc|refine Dh ?_ GE138.out)|exact HB.out))):w.heap.size≤gb139));have n4_:=Da ((by rw [hg];exact(Di (by repeat(first|(with_reducible first|exact HB.out|apply Dd|apply Db|apply Dc|refine Dh ?_ GE138.out)|exact HB.out))):w.heap.size≤gb139));have n5_:=Da ((by rw [hg];exact Nat.ne_of_lt (blk_lt (g:=gb138) (o:=.cells #[.int .i64 a0_0,.int .i64 a0_1,.slice A0_2 l0_2.length c0_2] 27 (0,0)) (by(with_reducible repeat(first|refine Dk ?_ _|refine Df ?_|refine Dj ?_ _));exact BK138.out)):gb138≠gb139));have n6_:=Da ((by rw [hg];exact Nat.ne_of_gt (blk_lt (g:=gb138) (o:=.cells #[.int .i64 a0_0,.int .i64 a0_1,.slice A0_2 l0_2.length c0_2] 27 (0,0)) (by(with_reducible repeat(first|refine Dk ?_ _|refine Df ?_|refine Dj ?_ _));exact BK138.out)):gb139≠gb138));clear BK138;clear HB;have BK138:=n0_;have HB:=n1_;have BK139:=n2_;have GW139:=n3_;have GE139:=n4_;have NB138_139:=n5_;have NB139_138:=n6_;clear n0_ n1_ n2_ n3_ n4_ n5_ n6_;clear hb hbox hg;have hnb9:=NB138_139.out;have hnc9:=NB139_138.out;have hcz10_0:w8.cell? ⟨gb138,0,none⟩=some (.int .i64 a0_0):=(Dg BK138.out 0).trans rfl;have hcz10_1:w8.cell? ⟨gb138,1,none⟩=some (.int .i64 a0_1):=(Dg BK138.out 1).trans rfl;have hcz10_2:w8.cell? ⟨gb138,2,none⟩=some (.slice A0_2 l0_2.length c0_2):=(Dg BK138.out 2).trans rfl;have hfz10_0:=De BK138.out 0;have hfz10_1:=De BK138.out 1;have hfz10_2:=De BK138.out 2;have hcz11_0:w8.cell? ⟨gb139,0,none⟩=some (.int .i64 a1_0):=(Dg BK139.out 0).trans rfl;have hcz11_1:w8.cell? ⟨gb139,1,none⟩=some (.int .i64 a1_1):=(Dg BK139.out 1).trans rfl;have hcz11_2:w8.cell? ⟨gb139,2,none⟩=some (.slice A1_2 l1_2.length c1_2):=(Dg BK139.out 2).trans rfl;have hfz11_0:=De BK139.out 0;have hfz11_1:=De BK139.out 1;have hfz11_2:=De BK139.out 2)|((with_reducible refine gate_callee (f:=66) rfl ?_);refine goesL_ (some 10) rfl rfl Try.func66 (by kernel_rfl) rfl #[.agg #[.int .i64 a0_0,.int .i64 a0_1,.slice A0_2 l0_2.length c0_2],.agg #[.int .i64 a1_0,.int .i64 a1_1,.slice A1_2 l1_2.length c1_2]] rfl (by(try simp only [List.map_toArray,List.map_cons,List.map_nil]);first|done|rfl|(simp only [List.length_drop,List.length_take];rfl)) ?_;(with_reducible refine(spec_l14Two.calls k a0_0 a0_1 _ _ l0_2 a1_0 a1_1 _ _ l1_2 true _ ?side1 ?side2 ?side3 ?side4 A4.out).mono ?_);(case side1=>repeat(first|exact(Dr HR0_2.out HB.out)|(with_reducible refine Ds ?_ _)|(with_reducible refine Dq ?_ _)|(with_reducible refine Dm ?_)));(case side2=>exact HC0_2.out);(case side3=>repeat(first|exact(Dr HR1_2.out HB.out)|(with_reducible refine Ds ?_ _)|(with_reducible refine Dq ?_ _)|(with_reducible refine Dm ?_)));(case side4=>exact HC1_2.out);rintro e w12 ⟨rfl,hb⟩;refine⟨_,rfl,?_⟩;have n0_:=Da (Dn (g:=gb138) (o:=.cells #[.int .i64 a0_0,.int .i64 a0_1,.slice A0_2 l0_2.length c0_2] 27 (0,0)) (by(with_reducible repeat(first|refine Dk ?_ _|refine Df ?_|refine Dj ?_ _));exact BK138.out) hb);have n1_:=Da (Dn (g:=gb139) (o:=.cells #[.int .i64 a1_0,.int .i64 a1_1,.slice A1_2 l1_2.length c1_2] 27 (0,0)) (by(with_reducible repeat(first|refine Dk ?_ _|refine Df ?_|refine Dj ?_ _));exact BK139.out) hb);have n2_:=Da (Dl (by repeat(first|(with_reducible first|exact HB.out|apply Dd|apply Db|apply Dc|refine Dh ?_ GE138.out|refine Dh ?_ GE139.out)|exact HB.out)) hb);clear BK138;clear BK139;clear HB;have BK138:=n0_;have BK139:=n1_;have HB:=n2_;clear n0_ n1_ n2_;(try clear hb);(try clear hb2);(try clear hk);(try clear hi)))
   go_ret2
   exact⟨by first|rfl|(simp [errW_none,errW_some] <;> rfl)|(simp [*,errW_none,errW_some] <;> rfl),by repeat(first|(with_reducible first|exact HB.out|apply Dd|apply Db|apply Dc|refine Dh ?_ GE138.out|refine Dh ?_ GE139.out)|exact HB.out)⟩
  ·rw [if_neg c6] at H
   have c6b0:decide (a2 < 0)=false:=decide_eq_false c6
   clear c6
   replace H:=Option.bind_eq_some_iff.mp H
   obtain⟨t141,A130,H⟩:=H
   replace H:(if a2 ≥ t141 then (some (0,0)) else ((spec_l14Motion.f k a0_0 a0_1 l0_2 a1_0 a1_1 l1_2 a2).bind fun bt142=>(some (bt142.1,bt142.2))))=some (r1,r2):=H
   have A13:=Da A130
   clear A130
   by_cases c14:a2 ≥ t141
   ·rw [if_pos c14] at H
    have c14b0:decide (t141≤a2)=true:=decide_eq_true c14
    clear c14
    simp only [Option.some.injEq,Prod.mk.injEq] at H
    obtain⟨rfl,rfl⟩:=H
    go_enter Try.func31,Try.ntmps31
    go_wp2_with (first|((with_reducible refine Dp (N:=3) rfl ?_);refine Do ?hg (N:=3) ?hd (cs:=#[.int .i64 a0_0,.int .i64 a0_1,.slice A0_2 l0_2.length c0_2]) (t:=27) ?hr ?_;(case hd=>rfl);(case hg=>rfl);(case hr=>first|(go_simp;done)|(go_simp;rfl));intro gb138 hg w15 hbox hb;have n0_:=Da (Dl (by repeat(first|(with_reducible first|exact HB.out|apply Dd|apply Db|apply Dc)|exact HB.out)) hb);have n1_:=Da (hbox);have n2_:=Da ((by rw [hg];exact(Di (by repeat(first|(with_reducible first|exact HB.out|apply Dd|apply Db|apply Dc)|exact HB.out))):w.heap.size≤gb138));have n3_:=Da ((by rw [hg];exact(Di (by repeat(first|(with_reducible first|exact HB.out|apply Dd|apply Db|apply Dc)|exact HB.out))):w.heap.size≤gb138));clear HB;have HB:=n0_;have BK138:=n1_;have GW138:=n2_;have GE138:=n3_;clear n0_ n1_ n2_ n3_;clear hb hbox hg)|((with_reducible refine Dp (N:=4) rfl ?_);refine Do ?hg (N:=4) ?hd (cs:=#[.int .i64 a1_0,.int .i64 a1_1,.slice A1_2 l1_2.length c1_2]) (t:=27) ?hr ?_;(case hd=>rfl);(case hg=>rfl);(case hr=>first|(go_simp;done)|(go_simp;rfl));intro gb139 hg w16 hbox hb;have n0_:=Da (Dn (g:=gb138) (o:=.cells #[.int .i64 a0_0,.int .i64 a0_1,.slice A0_2 l0_2.length c0_2] 27 (0,0)) (by(with_reducible repeat(first|refine Dk ?_ _|refine Df ?_|refine Dj ?_ _));exact BK138.out) hb);have n1_:=Da (Dl (by repeat(first|(with_reducible first|exact HB.out|apply Dd|apply Db|apply Dc|refine Dh ?_ GE138.out)|exact HB.out)) hb);have n2_:=Da (hbox);have n3_:=Da ((by rw [hg];exact(Di (by repeat(first|(with_reducible first|exact HB.out|apply Dd|apply Db|apply Dc|refine Dh ?_ GE138.out)|exact HB.out))):w.heap.size≤gb139));have n4_:=Da ((by rw [hg];exact(Di (by repeat(first|(with_reducible first|exact HB.out|apply Dd|apply Db|apply Dc|refine Dh ?_ GE138.out)|exact HB.out))):w.heap.size≤gb139));have n5_:=Da ((by rw [hg];exact Nat.ne_of_lt (blk_lt (g:=gb138) (o:=.cells #[.int .i64 a0_0,.int .i64 a0_1,.slice A0_2 l0_2.length c0_2] 27 (0,0)) (by(with_reducible repeat(first|refine Dk ?_ _|refine Df ?_|refine Dj ?_ _));exact BK138.out)):gb138≠gb139));have n6_:=Da ((by rw [hg];exact Nat.ne_of_gt (blk_lt (g:=gb138) (o:=.cells #[.int .i64 a0_0,.int .i64 a0_1,.slice A0_2 l0_2.length c0_2] 27 (0,0)) (by(with_reducible repeat(first|refine Dk ?_ _|refine Df ?_|refine Dj ?_ _));exact BK138.out)):gb139≠gb138));clear BK138;clear HB;have BK138:=n0_;have HB:=n1_;have BK139:=n2_;have GW139:=n3_;have GE139:=n4_;have NB138_139:=n5_;have NB139_138:=n6_;clear n0_ n1_ n2_ n3_ n4_ n5_ n6_;clear hb hbox hg;have hnb17:=NB138_139.out;have hnc17:=NB139_138.out;have hcz18_0:w16.cell? ⟨gb138,0,none⟩=some (.int .i64 a0_0):=(Dg BK138.out 0).trans rfl;have hcz18_1:w16.cell? ⟨gb138,1,none⟩=some (.int .i64 a0_1):=(Dg BK138.out 1).trans rfl;have hcz18_2:w16.cell? ⟨gb138,2,none⟩=some (.slice A0_2 l0_2.length c0_2):=(Dg BK138.out 2).trans rfl;have hfz18_0:=De BK138.out 0;have hfz18_1:=De BK138.out 1;have hfz18_2:=De BK138.out 2;have hcz19_0:w16.cell? ⟨gb139,0,none⟩=some (.int .i64 a1_0):=(Dg BK139.out 0).trans rfl;have hcz19_1:w16.cell? ⟨gb139,1,none⟩=some (.int .i64 a1_1):=(Dg BK139.out 1).trans rfl;have hcz19_2:w16.cell? ⟨gb139,2,none⟩=some (.slice A1_2 l1_2.length c1_2):=(Dg BK139.out 2).trans rfl;have hfz19_0:=De BK139.out 0;have hfz19_1:=De BK139.out 1;have hfz19_2:=De BK139.out 2)|((with_reducible refine gate_callee (f:=66) rfl ?_);refine goesL_ (some 10) rfl rfl Try.func66 (by kernel_rfl) rfl #[.agg #[.int .i64 a0_0,.int .i64 a0_1,.slice A0_2 l0_2.length c0_2],.agg #[.int .i64 a1_0,.int .i64 a1_1,.slice A1_2 l1_2.length c1_2]] rfl (by(try simp only [List.map_toArray,List.map_cons,List.map_nil]);first|done|rfl|(simp only [List.length_drop,List.length_take];rfl)) ?_;(with_reducible refine(spec_l14Two.calls k a0_0 a0_1 _ _ l0_2 a1_0 a1_1 _ _ l1_2 true _ ?side1 ?side2 ?side3 ?side4 A4.out).mono ?_);(case side1=>repeat(first|exact(Dr HR0_2.out HB.out)|(with_reducible refine Ds ?_ _)|(with_reducible refine Dq ?_ _)|(with_reducible refine Dm ?_)));(case side2=>exact HC0_2.out);(case side3=>repeat(first|exact(Dr HR1_2.out HB.out)|(with_reducible refine Ds ?_ _)|(with_reducible refine Dq ?_ _)|(with_reducible refine Dm ?_)));(case side4=>exact HC1_2.out);rintro e w20 ⟨rfl,hb⟩;refine⟨_,rfl,?_⟩;have n0_:=Da (Dn (g:=gb138) (o:=.cells #[.int .i64 a0_0,.int .i64 a0_1,.slice A0_2 l0_2.length c0_2] 27 (0,0)) (by(with_reducible repeat(first|refine Dk ?_ _|refine Df ?_|refine Dj ?_ _));exact BK138.out) hb);have n1_:=Da (Dn (g:=gb139) (o:=.cells #[.int .i64 a1_0,.int .i64 a1_1,.slice A1_2 l1_2.length c1_2] 27 (0,0)) (by(with_reducible repeat(first|refine Dk ?_ _|refine Df ?_|refine Dj ?_ _));exact BK139.out) hb);have n2_:=Da (Dl (by repeat(first|(with_reducible first|exact HB.out|apply Dd|apply Db|apply Dc|refine Dh ?_ GE138.out|refine Dh ?_ GE139.out)|exact HB.out)) hb);clear BK138;clear BK139;clear HB;have BK138:=n0_;have BK139:=n1_;have HB:=n2_;clear n0_ n1_ n2_;(try clear hb);(try clear hb2);(try clear hk);(try clear hi);have hcz21_0:w20.cell? ⟨gb139,0,none⟩=some (.int .i64 a1_0):=(Dg BK139.out 0).trans rfl;have hcz21_1:w20.cell? ⟨gb139,1,none⟩=some (.int .i64 a1_1):=(Dg BK139.out 1).trans rfl;have hcz21_2:w20.cell? ⟨gb139,2,none⟩=some (.slice A1_2 l1_2.length c1_2):=(Dg BK139.out 2).trans rfl;have hfz21_0:=De BK139.out 0;have hfz21_1:=De BK139.out 1;have hfz21_2:=De BK139.out 2)|(go_at_call 67;(with_reducible refine(spec_l14Blocks.calls a1_0 a1_1 _ _ l1_2 t141 _ ?side1 ?side2 A13.out).mono ?_);(case side1=>repeat(first|exact(Dr HR1_2.out HB.out)|(with_reducible refine Ds ?_ _)|(with_reducible refine Dq ?_ _)|(with_reducible refine Dm ?_)));(case side2=>exact HC1_2.out);rintro e w22 ⟨rfl,hb⟩;have n0_:=Da (Dn (g:=gb138) (o:=.cells #[.int .i64 a0_0,.int .i64 a0_1,.slice A0_2 l0_2.length c0_2] 27 (0,0)) (by(with_reducible repeat(first|refine Dk ?_ _|refine Df ?_|refine Dj ?_ _));exact BK138.out) hb);have n1_:=Da (Dn (g:=gb139) (o:=.cells #[.int .i64 a1_0,.int .i64 a1_1,.slice A1_2 l1_2.length c1_2] 27 (0,0)) (by(with_reducible repeat(first|refine Dk ?_ _|refine Df ?_|refine Dj ?_ _));exact BK139.out) hb);have n2_:=Da (Dl (by repeat(first|(with_reducible first|exact HB.out|apply Dd|apply Db|apply Dc|refine Dh ?_ GE138.out|refine Dh ?_ GE139.out)|exact HB.out)) hb);clear BK138;clear BK139;clear HB;have BK138:=n0_;have BK139:=n1_;have HB:=n2_;clear n0_ n1_ n2_;(try clear hb);(try clear hb2);(try clear hk);(try clear hi)))
    go_ret2
    exact⟨by first|rfl|(simp [errW_none,errW_some] <;> rfl)|(simp [*,errW_none,errW_some] <;> rfl),by repeat(first|(with_reducible first|exact HB.out|apply Dd|apply Db|apply Dc|refine Dh ?_ GE138.out|refine Dh ?_ GE139.out)|exact HB.out)⟩
   ·rw [if_neg c14] at H
    have c14b0:decide (t141≤a2)=false:=decide_eq_false c14
    clear c14
    replace H:=Option.bind_eq_some_iff.mp H
    obtain⟨⟨t142,t143⟩,A230,H⟩:=H
    replace H:(some (t142,t143))=some (r1,r2):=H
    have A23:=Da A230
    clear A230
    simp only [Option.some.injEq,Prod.mk.injEq] at H
    obtain⟨rfl,rfl⟩:=H
    go_enter Try.func31,Try.ntmps31
    go_wp2_with (first|((with_reducible refine Dp (N:=3) rfl ?_);refine Do ?hg (N:=3) ?hd (cs:=#[.int .i64 a0_0,.int .i64 a0_1,.slice A0_2 l0_2.length c0_2]) (t:=27) ?hr ?_;(case hd=>rfl);(case hg=>rfl);(case hr=>first|(go_simp;done)|(go_simp;rfl));intro gb138 hg w24 hbox hb;have n0_:=Da (Dl (by repeat(first|(with_reducible first|exact HB.out|apply Dd|apply Db|apply Dc)|exact HB.out)) hb);have n1_:=Da (hbox);have n2_:=Da ((by rw [hg];exact(Di (by repeat(first|(with_reducible first|exact HB.out|apply Dd|apply Db|apply Dc)|exact HB.out))):w.heap.size≤gb138));have n3_:=Da ((by rw [hg];exact(Di (by repeat(first|(with_reducible first|exact HB.out|apply Dd|apply Db|apply Dc)|exact HB.out))):w.heap.size≤gb138));clear HB;have HB:=n0_;have BK138:=n1_;have GW138:=n2_;have GE138:=n3_;clear n0_ n1_ n2_ n3_;clear hb hbox hg)|((with_reducible refine Dp (N:=4) rfl ?_);refine Do ?hg (N:=4) ?hd (cs:=#[.int .i64 a1_0,.int .i64 a1_1,.slice A1_2 l1_2.length c1_2]) (t:=27) ?hr ?_;(case hd=>rfl);(case hg=>rfl);(case hr=>first|(go_simp;done)|(go_simp;rfl));intro gb139 hg w25 hbox hb;have n0_:=Da (Dn (g:=gb138) (o:=.cells #[.int .i64 a0_0,.int .i64 a0_1,.slice A0_2 l0_2.length c0_2] 27 (0,0)) (by(with_reducible repeat(first|refine Dk ?_ _|refine Df ?_|refine Dj ?_ _));exact BK138.out) hb);have n1_:=Da (Dl (by repeat(first|(with_reducible first|exact HB.out|apply Dd|apply Db|apply Dc|refine Dh ?_ GE138.out)|exact HB.out)) hb);have n2_:=Da (hbox);have n3_:=Da ((by rw [hg];exact(Di (by repeat(first|(with_reducible first|exact HB.out|apply Dd|apply Db|apply Dc|refine Dh ?_ GE138.out)|exact HB.out))):w.heap.size≤gb139));have n4_:=Da ((by rw [hg];exact(Di (by repeat(first|(with_reducible first|exact HB.out|apply Dd|apply Db|apply Dc|refine Dh ?_ GE138.out)|exact HB.out))):w.heap.size≤gb139));have n5_:=Da ((by rw [hg];exact Nat.ne_of_lt (blk_lt (g:=gb138) (o:=.cells #[.int .i64 a0_0,.int .i64 a0_1,.slice A0_2 l0_2.length c0_2] 27 (0,0)) (by(with_reducible repeat(first|refine Dk ?_ _|refine Df ?_|refine Dj ?_ _));exact BK138.out)):gb138≠gb139));have n6_:=Da ((by rw [hg];exact Nat.ne_of_gt (blk_lt (g:=gb138) (o:=.cells #[.int .i64 a0_0,.int .i64 a0_1,.slice A0_2 l0_2.length c0_2] 27 (0,0)) (by(with_reducible repeat(first|refine Dk ?_ _|refine Df ?_|refine Dj ?_ _));exact BK138.out)):gb139≠gb138));clear BK138;clear HB;have BK138:=n0_;have HB:=n1_;have BK139:=n2_;have GW139:=n3_;have GE139:=n4_;have NB138_139:=n5_;have NB139_138:=n6_;clear n0_ n1_ n2_ n3_ n4_ n5_ n6_;clear hb hbox hg;have hnb26:=NB138_139.out;have hnc26:=NB139_138.out;have hcz27_0:w25.cell? ⟨gb138,0,none⟩=some (.int .i64 a0_0):=(Dg BK138.out 0).trans rfl;have hcz27_1:w25.cell? ⟨gb138,1,none⟩=some (.int .i64 a0_1):=(Dg BK138.out 1).trans rfl;have hcz27_2:w25.cell? ⟨gb138,2,none⟩=some (.slice A0_2 l0_2.length c0_2):=(Dg BK138.out 2).trans rfl;have hfz27_0:=De BK138.out 0;have hfz27_1:=De BK138.out 1;have hfz27_2:=De BK138.out 2;have hcz28_0:w25.cell? ⟨gb139,0,none⟩=some (.int .i64 a1_0):=(Dg BK139.out 0).trans rfl;have hcz28_1:w25.cell? ⟨gb139,1,none⟩=some (.int .i64 a1_1):=(Dg BK139.out 1).trans rfl;have hcz28_2:w25.cell? ⟨gb139,2,none⟩=some (.slice A1_2 l1_2.length c1_2):=(Dg BK139.out 2).trans rfl;have hfz28_0:=De BK139.out 0;have hfz28_1:=De BK139.out 1;have hfz28_2:=De BK139.out 2)|((with_reducible refine gate_callee (f:=66) rfl ?_);refine goesL_ (some 10) rfl rfl Try.func66 (by kernel_rfl) rfl #[.agg #[.int .i64 a0_0,.int .i64 a0_1,.slice A0_2 l0_2.length c0_2],.agg #[.int .i64 a1_0,.int .i64 a1_1,.slice A1_2 l1_2.length c1_2]] rfl (by(try simp only [List.map_toArray,List.map_cons,List.map_nil]);first|done|rfl|(simp only [List.length_drop,List.length_take];rfl)) ?_;(with_reducible refine(spec_l14Two.calls k a0_0 a0_1 _ _ l0_2 a1_0 a1_1 _ _ l1_2 true _ ?side1 ?side2 ?side3 ?side4 A4.out).mono ?_);(case side1=>repeat(first|exact(Dr HR0_2.out HB.out)|(with_reducible refine Ds ?_ _)|(with_reducible refine Dq ?_ _)|(with_reducible refine Dm ?_)));(case side2=>exact HC0_2.out);(case side3=>repeat(first|exact(Dr HR1_2.out HB.out)|(with_reducible refine Ds ?_ _)|(with_reducible refine Dq ?_ _)|(with_reducible refine Dm ?_)));(case side4=>exact HC1_2.out);rintro e w29 ⟨rfl,hb⟩;refine⟨_,rfl,?_⟩;have n0_:=Da (Dn (g:=gb138) (o:=.cells #[.int .i64 a0_0,.int .i64 a0_1,.slice A0_2 l0_2.length c0_2] 27 (0,0)) (by(with_reducible repeat(first|refine Dk ?_ _|refine Df ?_|refine Dj ?_ _));exact BK138.out) hb);have n1_:=Da (Dn (g:=gb139) (o:=.cells #[.int .i64 a1_0,.int .i64 a1_1,.slice A1_2 l1_2.length c1_2] 27 (0,0)) (by(with_reducible repeat(first|refine Dk ?_ _|refine Df ?_|refine Dj ?_ _));exact BK139.out) hb);have n2_:=Da (Dl (by repeat(first|(with_reducible first|exact HB.out|apply Dd|apply Db|apply Dc|refine Dh ?_ GE138.out|refine Dh ?_ GE139.out)|exact HB.out)) hb);clear BK138;clear BK139;clear HB;have BK138:=n0_;have BK139:=n1_;have HB:=n2_;clear n0_ n1_ n2_;(try clear hb);(try clear hb2);(try clear hk);(try clear hi);have hcz30_0:w29.cell? ⟨gb139,0,none⟩=some (.int .i64 a1_0):=(Dg BK139.out 0).trans rfl;have hcz30_1:w29.cell? ⟨gb139,1,none⟩=some (.int .i64 a1_1):=(Dg BK139.out 1).trans rfl;have hcz30_2:w29.cell? ⟨gb139,2,none⟩=some (.slice A1_2 l1_2.length c1_2):=(Dg BK139.out 2).trans rfl;have hfz30_0:=De BK139.out 0;have hfz30_1:=De BK139.out 1;have hfz30_2:=De BK139.out 2)|(go_at_call 67;(with_reducible refine(spec_l14Blocks.calls a1_0 a1_1 _ _ l1_2 t141 _ ?side1 ?side2 A13.out).mono ?_);(case side1=>repeat(first|exact(Dr HR1_2.out HB.out)|(with_reducible refine Ds ?_ _)|(with_reducible refine Dq ?_ _)|(with_reducible refine Dm ?_)));(case side2=>exact HC1_2.out);rintro e w31 ⟨rfl,hb⟩;have n0_:=Da (Dn (g:=gb138) (o:=.cells #[.int .i64 a0_0,.int .i64 a0_1,.slice A0_2 l0_2.length c0_2] 27 (0,0)) (by(with_reducible repeat(first|refine Dk ?_ _|refine Df ?_|refine Dj ?_ _));exact BK138.out) hb);have n1_:=Da (Dn (g:=gb139) (o:=.cells #[.int .i64 a1_0,.int .i64 a1_1,.slice A1_2 l1_2.length c1_2] 27 (0,0)) (by(with_reducible repeat(first|refine Dk ?_ _|refine Df ?_|refine Dj ?_ _));exact BK139.out) hb);have n2_:=Da (Dl (by repeat(first|(with_reducible first|exact HB.out|apply Dd|apply Db|apply Dc|refine Dh ?_ GE138.out|refine Dh ?_ GE139.out)|exact HB.out)) hb);clear BK138;clear BK139;clear HB;have BK138:=n0_;have BK139:=n1_;have HB:=n2_;clear n0_ n1_ n2_;(try clear hb);(try clear hb2);(try clear hk);(try clear hi);have hcz32_0:w31.cell? ⟨gb138,0,none⟩=some (.int .i64 a0_0):=(Dg BK138.out 0).trans rfl;have hcz32_1:w31.cell? ⟨gb138,1,none⟩=some (.int .i64 a0_1):=(Dg BK138.out 1).trans rfl;have hcz32_2:w31.cell? ⟨gb138,2,none⟩=some (.slice A0_2 l0_2.length c0_2):=(Dg BK138.out 2).trans rfl;have hfz32_0:=De BK138.out 0;have hfz32_1:=De BK138.out 1;have hfz32_2:=De BK138.out 2;have hcz33_0:w31.cell? ⟨gb139,0,none⟩=some (.int .i64 a1_0):=(Dg BK139.out 0).trans rfl;have hcz33_1:w31.cell? ⟨gb139,1,none⟩=some (.int .i64 a1_1):=(Dg BK139.out 1).trans rfl;have hcz33_2:w31.cell? ⟨gb139,2,none⟩=some (.slice A1_2 l1_2.length c1_2):=(Dg BK139.out 2).trans rfl;have hfz33_0:=De BK139.out 0;have hfz33_1:=De BK139.out 1;have hfz33_2:=De BK139.out 2)|((with_reducible refine gate_callee (f:=68) rfl ?_);refine goesL_ (some 25) rfl rfl Try.func68 (by kernel_rfl) rfl #[.agg #[.int .i64 a0_0,.int .i64 a0_1,.slice A0_2 l0_2.length c0_2],.agg #[.int .i64 a1_0,.int .i64 a1_1,.slice A1_2 l1_2.length c1_2],.int .i64 a2] rfl (by(try simp only [List.map_toArray,List.map_cons,List.map_nil]);first|done|rfl|(simp only [List.length_drop,List.length_take];rfl)) ?_;(with_reducible refine(spec_l14Motion.calls k a0_0 a0_1 _ _ l0_2 a1_0 a1_1 _ _ l1_2 a2 t142 t143 _ ?side1 ?side2 ?side3 ?side4 A23.out).mono ?_);(case side1=>repeat(first|exact(Dr HR0_2.out HB.out)|(with_reducible refine Ds ?_ _)|(with_reducible refine Dq ?_ _)|(with_reducible refine Dm ?_)));(case side2=>exact HC0_2.out);(case side3=>repeat(first|exact(Dr HR1_2.out HB.out)|(with_reducible refine Ds ?_ _)|(with_reducible refine Dq ?_ _)|(with_reducible refine Dm ?_)));(case side4=>exact HC1_2.out);rintro e w34 ⟨rfl,hb⟩;refine⟨_,rfl,?_⟩;have n0_:=Da (Dn (g:=gb138) (o:=.cells #[.int .i64 a0_0,.int .i64 a0_1,.slice A0_2 l0_2.length c0_2] 27 (0,0)) (by(with_reducible repeat(first|refine Dk ?_ _|refine Df ?_|refine Dj ?_ _));exact BK138.out) hb);have n1_:=Da (Dn (g:=gb139) (o:=.cells #[.int .i64 a1_0,.int .i64 a1_1,.slice A1_2 l1_2.length c1_2] 27 (0,0)) (by(with_reducible repeat(first|refine Dk ?_ _|refine Df ?_|refine Dj ?_ _));exact BK139.out) hb);have n2_:=Da (Dl (by repeat(first|(with_reducible first|exact HB.out|apply Dd|apply Db|apply Dc|refine Dh ?_ GE138.out|refine Dh ?_ GE139.out)|exact HB.out)) hb);clear BK138;clear BK139;clear HB;have BK138:=n0_;have BK139:=n1_;have HB:=n2_;clear n0_ n1_ n2_;(try clear hb);(try clear hb2);(try clear hk);(try clear hi)))
    go_ret2
    exact⟨by first|rfl|(simp [errW_none,errW_some] <;> rfl)|(simp [*,errW_none,errW_some] <;> rfl),by repeat(first|(with_reducible first|exact HB.out|apply Dd|apply Db|apply Dc|refine Dh ?_ GE138.out|refine Dh ?_ GE139.out)|exact HB.out)⟩
 ·replace c5:=Bool.eq_false_iff.mpr c5
  subst c5
  have H1:(some (0,0))=some (r1,r2):=by rw [if_neg (show ¬ (false=true) by decide)] at H;exact H
  clear H
  have H:=H1
  clear H1
  simp only [Option.some.injEq,Prod.mk.injEq] at H
  obtain⟨rfl,rfl⟩:=H
  go_enter Try.func31,Try.ntmps31
  go_wp2_with (first|((with_reducible refine Dp (N:=3) rfl ?_);refine Do ?hg (N:=3) ?hd (cs:=#[.int .i64 a0_0,.int .i64 a0_1,.slice A0_2 l0_2.length c0_2]) (t:=27) ?hr ?_;(case hd=>rfl);(case hg=>rfl);(case hr=>first|(go_simp;done)|(go_simp;rfl));intro gb138 hg w35 hbox hb;have n0_:=Da (Dl (by repeat(first|(with_reducible first|exact HB.out|apply Dd|apply Db|apply Dc)|exact HB.out)) hb);have n1_:=Da (hbox);have n2_:=Da ((by rw [hg];exact(Di (by repeat(first|(with_reducible first|exact HB.out|apply Dd|apply Db|apply Dc)|exact HB.out))):w.heap.size≤gb138));have n3_:=Da ((by rw [hg];exact(Di (by repeat(first|(with_reducible first|exact HB.out|apply Dd|apply Db|apply Dc)|exact HB.out))):w.heap.size≤gb138));clear HB;have HB:=n0_;have BK138:=n1_;have GW138:=n2_;have GE138:=n3_;clear n0_ n1_ n2_ n3_;clear hb hbox hg)|((with_reducible refine Dp (N:=4) rfl ?_);refine Do ?hg (N:=4) ?hd (cs:=#[.int .i64 a1_0,.int .i64 a1_1,.slice A1_2 l1_2.length c1_2]) (t:=27) ?hr ?_;(case hd=>rfl);(case hg=>rfl);(case hr=>first|(go_simp;done)|(go_simp;rfl));intro gb139 hg w36 hbox hb;have n0_:=Da (Dn (g:=gb138) (o:=.cells #[.int .i64 a0_0,.int .i64 a0_1,.slice A0_2 l0_2.length c0_2] 27 (0,0)) (by(with_reducible repeat(first|refine Dk ?_ _|refine Df ?_|refine Dj ?_ _));exact BK138.out) hb);have n1_:=Da (Dl (by repeat(first|(with_reducible first|exact HB.out|apply Dd|apply Db|apply Dc|refine Dh ?_ GE138.out)|exact HB.out)) hb);have n2_:=Da (hbox);have n3_:=Da ((by rw [hg];exact(Di (by repeat(first|(with_reducible first|exact HB.out|apply Dd|apply Db|apply Dc|refine Dh ?_ GE138.out)|exact HB.out))):w.heap.size≤gb139));have n4_:=Da ((by rw [hg];exact(Di (by repeat(first|(with_reducible first|exact HB.out|apply Dd|apply Db|apply Dc|refine Dh ?_ GE138.out)|exact HB.out))):w.heap.size≤gb139));have n5_:=Da ((by rw [hg];exact Nat.ne_of_lt (blk_lt (g:=gb138) (o:=.cells #[.int .i64 a0_0,.int .i64 a0_1,.slice A0_2 l0_2.length c0_2] 27 (0,0)) (by(with_reducible repeat(first|refine Dk ?_ _|refine Df ?_|refine Dj ?_ _));exact BK138.out)):gb138≠gb139));have n6_:=Da ((by rw [hg];exact Nat.ne_of_gt (blk_lt (g:=gb138) (o:=.cells #[.int .i64 a0_0,.int .i64 a0_1,.slice A0_2 l0_2.length c0_2] 27 (0,0)) (by(with_reducible repeat(first|refine Dk ?_ _|refine Df ?_|refine Dj ?_ _));exact BK138.out)):gb139≠gb138));clear BK138;clear HB;have BK138:=n0_;have HB:=n1_;have BK139:=n2_;have GW139:=n3_;have GE139:=n4_;have NB138_139:=n5_;have NB139_138:=n6_;clear n0_ n1_ n2_ n3_ n4_ n5_ n6_;clear hb hbox hg;have hnb37:=NB138_139.out;have hnc37:=NB139_138.out;have hcz38_0:w36.cell? ⟨gb138,0,none⟩=some (.int .i64 a0_0):=(Dg BK138.out 0).trans rfl;have hcz38_1:w36.cell? ⟨gb138,1,none⟩=some (.int .i64 a0_1):=(Dg BK138.out 1).trans rfl;have hcz38_2:w36.cell? ⟨gb138,2,none⟩=some (.slice A0_2 l0_2.length c0_2):=(Dg BK138.out 2).trans rfl;have hfz38_0:=De BK138.out 0;have hfz38_1:=De BK138.out 1;have hfz38_2:=De BK138.out 2;have hcz39_0:w36.cell? ⟨gb139,0,none⟩=some (.int .i64 a1_0):=(Dg BK139.out 0).trans rfl;have hcz39_1:w36.cell? ⟨gb139,1,none⟩=some (.int .i64 a1_1):=(Dg BK139.out 1).trans rfl;have hcz39_2:w36.cell? ⟨gb139,2,none⟩=some (.slice A1_2 l1_2.length c1_2):=(Dg BK139.out 2).trans rfl;have hfz39_0:=De BK139.out 0;have hfz39_1:=De BK139.out 1;have hfz39_2:=De BK139.out 2)|((with_reducible refine gate_callee (f:=66) rfl ?_);refine goesL_ (some 10) rfl rfl Try.func66 (by kernel_rfl) rfl #[.agg #[.int .i64 a0_0,.int .i64 a0_1,.slice A0_2 l0_2.length c0_2],.agg #[.int .i64 a1_0,.int .i64 a1_1,.slice A1_2 l1_2.length c1_2]] rfl (by(try simp only [List.map_toArray,List.map_cons,List.map_nil]);first|done|rfl|(simp only [List.length_drop,List.length_take];rfl)) ?_;(with_reducible refine(spec_l14Two.calls k a0_0 a0_1 _ _ l0_2 a1_0 a1_1 _ _ l1_2 false _ ?side1 ?side2 ?side3 ?side4 A4.out).mono ?_);(case side1=>repeat(first|exact(Dr HR0_2.out HB.out)|(with_reducible refine Ds ?_ _)|(with_reducible refine Dq ?_ _)|(with_reducible refine Dm ?_)));(case side2=>exact HC0_2.out);(case side3=>repeat(first|exact(Dr HR1_2.out HB.out)|(with_reducible refine Ds ?_ _)|(with_reducible refine Dq ?_ _)|(with_reducible refine Dm ?_)));(case side4=>exact HC1_2.out);rintro e w40 ⟨rfl,hb⟩;refine⟨_,rfl,?_⟩;have n0_:=Da (Dn (g:=gb138) (o:=.cells #[.int .i64 a0_0,.int .i64 a0_1,.slice A0_2 l0_2.length c0_2] 27 (0,0)) (by(with_reducible repeat(first|refine Dk ?_ _|refine Df ?_|refine Dj ?_ _));exact BK138.out) hb);have n1_:=Da (Dn (g:=gb139) (o:=.cells #[.int .i64 a1_0,.int .i64 a1_1,.slice A1_2 l1_2.length c1_2] 27 (0,0)) (by(with_reducible repeat(first|refine Dk ?_ _|refine Df ?_|refine Dj ?_ _));exact BK139.out) hb);have n2_:=Da (Dl (by repeat(first|(with_reducible first|exact HB.out|apply Dd|apply Db|apply Dc|refine Dh ?_ GE138.out|refine Dh ?_ GE139.out)|exact HB.out)) hb);clear BK138;clear BK139;clear HB;have BK138:=n0_;have BK139:=n1_;have HB:=n2_;clear n0_ n1_ n2_;(try clear hb);(try clear hb2);(try clear hk);(try clear hi)))
  go_ret2
  exact⟨by first|rfl|(simp [errW_none,errW_some] <;> rfl)|(simp [*,errW_none,errW_some] <;> rfl),by repeat(first|(with_reducible first|exact HB.out|apply Dd|apply Db|apply Dc|refine Dh ?_ GE138.out|refine Dh ?_ GE139.out)|exact HB.out)⟩

/-! ### impl_in: function 49 -/
def impl_in.f (a0 : Int) (a1 : Int) (a2 : Int) : Option (Bool) := if a1 ≤ a0 then (some (decide (a0 ≤ a2))) else (some false)
set_option maxHeartbeats 8000000 in
set_option maxRecDepth 100000 in
theorem impl_in.calls (a0 : Int) (a1 : Int) (a2 : Int) (r : Bool) (w : World) (h : impl_in.f a0 a1 a2 = some r) :
  Calls Try.prog 49 #[.int .i64 a0,.int .i64 a1,.int .i64 a2] w fun e w'=>e=.returned (.bool r)∧Drawn0 w w':=by
 have H:(if a1≤a0 then (some (decide (a0≤a2))) else (some false))=some r:=h
 clear h
 by_cases c4:a1≤a0
 ·rw [if_pos c4] at H
  have c4b0:decide (a1≤a0)=true:=decide_eq_true c4
  clear c4
  obtain rfl:=Option.some.inj H
  go_enter Try.func49,Try.ntmps49
  go_wp2
  go_ret
  exact⟨by first|rfl|(simp;done)|(simp [*];done),by repeat(first|exact Drawn0.refl _|apply Drawn0.step)⟩
 ·rw [if_neg c4] at H
  have c4b0:decide (a1≤a0)=false:=decide_eq_false c4
  clear c4
  obtain rfl:=Option.some.inj H
  go_enter Try.func49,Try.ntmps49
  go_wp2
  go_ret
  exact⟨by first|rfl|(simp;done)|(simp [*];done),by repeat(first|exact Drawn0.refl _|apply Drawn0.step)⟩

/-! ### impl_isByte: function 52 -/
def impl_isByte.f (a0 : Int) : Option (Bool) := (impl_in.f a0 0 255).bind fun t144 => (some t144)
set_option maxHeartbeats 8000000 in
set_option maxRecDepth 100000 in
theorem impl_isByte.calls (a0 : Int) (r : Bool) (w : World) (h : impl_isByte.f a0 = some r) :
  Calls Try.prog 52 #[.int .i64 a0] w fun e w'=>e=.returned (.bool r)∧Drawn0 w w':=by
 have H:((impl_in.f a0 0 255).bind fun t144=>(some t144))=some r:=h
 clear h
 replace H:=Option.bind_eq_some_iff.mp H
 obtain⟨t144,A20,H⟩:=H
 replace H:(some t144)=some r:=H
 have A2:=Da A20
 clear A20
 obtain rfl:=Option.some.inj H
 go_enter Try.func52,Try.ntmps52
 go_wp2_with (first|((with_reducible refine gate_callee (f:=49) rfl ?_);refine goesL_ (some 4) rfl rfl Try.func49 (by kernel_rfl) rfl #[.int .i64 a0,.int .i64 0,.int .i64 255] rfl (by(try simp only [List.map_toArray,List.map_cons,List.map_nil]);first|done|rfl|(simp only [List.length_drop,List.length_take];rfl)) ?_;(with_reducible refine(impl_in.calls a0 0 255 t144 _ A2.out).mono ?_);rintro e w' ⟨rfl,⟨nd,rfl⟩⟩;refine⟨_,rfl,?_⟩))
 go_ret
 exact⟨by first|rfl|(simp;done)|(simp [*];done),by repeat(first|exact Drawn0.refl _|apply Drawn0.step)⟩

/-! ### impl_PictureOk_1: function 51 -/
def impl_PictureOk_1.f (a0 : Int) : Option (Bool) := (impl_isByte.f a0).bind fun t145 => (some (!t145))
set_option maxHeartbeats 8000000 in
set_option maxRecDepth 100000 in
theorem impl_PictureOk_1.calls (a0 : Int) (r : Bool) (w : World) (h : impl_PictureOk_1.f a0 = some r) :
  Calls Try.prog 51 #[.int .i64 a0] w fun e w'=>e=.returned (.bool r)∧Drawn0 w w':=by
 have H:((impl_isByte.f a0).bind fun t145=>(some (!t145)))=some r:=h
 clear h
 replace H:=Option.bind_eq_some_iff.mp H
 obtain⟨t145,A20,H⟩:=H
 replace H:(some (!t145))=some r:=H
 have A2:=Da A20
 clear A20
 obtain rfl:=Option.some.inj H
 go_enter Try.func51,Try.ntmps51
 go_wp2_with (first|((with_reducible refine gate_callee (f:=52) rfl ?_);refine goesL_ (some 4) rfl rfl Try.func52 (by kernel_rfl) rfl #[.int .i64 a0] rfl (by(try simp only [List.map_toArray,List.map_cons,List.map_nil]);first|done|rfl|(simp only [List.length_drop,List.length_take];rfl)) ?_;(with_reducible refine(impl_isByte.calls a0 t145 _ A2.out).mono ?_);rintro e w' ⟨rfl,⟨nd,rfl⟩⟩;refine⟨_,rfl,?_⟩))
 go_ret
 exact⟨by first|rfl|(simp;done)|(simp [*];done),by repeat(first|exact Drawn0.refl _|apply Drawn0.step)⟩

def impl_PictureOk_idxO {α : Type} (p : α → Option Bool) : List α → Int → Option Int
 | [], _ => some (-1)
 | x :: xs, i => (p x).bind fun b => if b = true then some i else impl_PictureOk_idxO p xs (i + 1)
theorem impl_PictureOk_idxO_mono {α : Type} {p q : α → Option Bool} (h : ∀ x, LeO (p x) (q x)) : ∀ (l : List α) (i : Int), LeO (impl_PictureOk_idxO p l i) (impl_PictureOk_idxO q l i)
 | [], _ => LeO.refl _
 | x :: xs, i => LeO.bind (h x) fun _ => LeO.ite (LeO.refl _) (impl_PictureOk_idxO_mono h xs (i + 1))
set_option maxHeartbeats 4000000 in
set_option maxRecDepth 100000 in
theorem impl_PictureOk_idx (A0 : Option Addr) (c0 : Nat) (l0 : List Int) (r : Int) (w : World) (hr0 : Kd.C (Kd.int .i64) w A0 l0.length l0) (hc0 : l0.length ≤ c0) (h : impl_PictureOk_idxO (fun x => impl_PictureOk_1.f x) l0 0 = some r) :
  Calls Try.prog 83 #[.slice A0 l0.length c0,.func (.func 51) #[] #[]] w fun e w'=>e=.returned (.int .i64 r)∧Below w.heap.size w w':=by
 have HR0:=Da hr0
 have HC0:=Da hc0
 have HM:=Da hr0.2.1
 clear hr0 hc0
 have H:=Da h
 clear h
 go_enter Try.func83,Try.ntmps83
 go_wp2
 go_loopg [5,8] l0.length (fun gg _ v8 w'=>∃ kk:Nat,Aside0 (kk≤l0.length∧l0.length - kk≤gg)∧v8=.int .i64 (kk:Int)∧Aside0 (impl_PictureOk_idxO (fun x=>impl_PictureOk_1.f x) (l0.drop kk) (kk:Int)=some r)∧Aside0 (Below w.heap.size w w'))
 case atStart=>exact⟨0,⟨Nat.zero_le _,Nat.le_refl _⟩,rfl,H,⟨Below.refl _ _⟩⟩
 case round=>
  obtain⟨kk,HK,rfl,HI,HB⟩:=hrel
  by_cases hlt:kk < l0.length
  ·obtain⟨ad,e,hx0⟩:=Kd.at_int HR0.out (kk:Int) (by omega) (by omega)
   cases e
   replace hx0:=(HB.out.cell (World.block_lt_of_cell? w _ hx0)).trans hx0
   simp only [Int.toNat_natCast] at hx0
   have HI2:((fun x=>impl_PictureOk_1.f x) (rd l0 (kk:Int))).bind (fun b=>if b=true then some (kk:Int) else impl_PictureOk_idxO (fun x=>impl_PictureOk_1.f x) (l0.drop (kk+1)) ((kk:Int)+1))=some r:=by
    have:=HI.out
    rw [List.drop_eq_getElem_cons hlt] at this
    have e:l0[kk]=rd l0 (kk:Int):=by simp [rd,List.getD_eq_getElem?_getD,List.getElem?_eq_getElem hlt]
    rw [e] at this
    exact this
   obtain⟨b,hb,HI3⟩:=Option.bind_eq_some_iff.1 HI2
   clear HI2
   have HI4:=Da HI3
   clear HI3
   have hltb:decide ((kk:Int) < (l0.length:Int))=true:=decide_eq_true (by omega)
   have HM2:l0.length≤9223372036854775807:=HM.out
   have p0:(0≤(kk:Int))=True:=eq_true (by omega)
   have q0:((kk:Int) < (l0.length:Int))=True:=eq_true (by omega)
   cases b with
   | true =>
    have HI5:some (kk:Int)=some r:=HI4.out
    obtain rfl:=Option.some.inj HI5
    go_wp2_with (go_at_call 51;refine(impl_PictureOk_1.calls _ _ _ hb).mono ?_;rintro e w' ⟨rfl,hb'⟩)
    go_ret
    exact⟨rfl,below_then HB.out (Di HB.out) (by first|exact hb'|exact hb'.below)⟩
   | false =>
    have HI5:impl_PictureOk_idxO (fun x=>impl_PictureOk_1.f x) (l0.drop (kk+1)) ((kk:Int)+1)=some r:=HI4.out
    have HI6:=Da HI5
    clear HI5
    go_wp2_with (go_at_call 51;refine(impl_PictureOk_1.calls _ _ _ hb).mono ?_;rintro e w' ⟨rfl,hb'⟩)
    go_roundg (l0.length - (kk+1))
    case measure=>have:=HK.out;omega
    case rel=>exact⟨kk+1,⟨by omega,by omega⟩,by go_num,⟨by have:=HI6.out;simpa using this⟩,⟨below_then HB.out (Di HB.out) (by first|exact hb'|exact hb'.below)⟩⟩
  ·have hltb:decide ((kk:Int) < (l0.length:Int))=false:=decide_eq_false (by omega)
   have HI5:some (-1:Int)=some r:=by
    have:=HI.out
    rwa [List.drop_of_length_le (by omega)] at this
   obtain rfl:=Option.some.inj HI5
   go_wp2
   go_ret
   exact⟨rfl,HB.out⟩
set_option maxHeartbeats 4000000 in
theorem impl_PictureOk_con (A0 : Option Addr) (c0 : Nat) (l0 : List Int) (r : Int) (w : World) (hr0 : Kd.C (Kd.int .i64) w A0 l0.length l0) (hc0 : l0.length ≤ c0) (h : impl_PictureOk_idxO (fun x => impl_PictureOk_1.f x) l0 0 = some r) :
  Calls Try.prog 50 #[.slice A0 l0.length c0,.func (.func 51) #[] #[]] w fun e w'=>e=.returned (.bool (decide (0≤r)))∧Below w.heap.size w w':=by
 have HR0:=Da hr0
 have HC0:=Da hc0
 clear hr0 hc0
 have H:=Da h
 clear h
 go_enter Try.func50,Try.ntmps50
 go_wp2_with (go_at_call 83;refine(impl_PictureOk_idx _ _ l0 r _ HR0.out HC0.out H.out).mono ?_;rintro e w' ⟨rfl,hb⟩)
 go_ret
 exact⟨by simp [ge_iff_le],hb⟩
def impl_PictureOk_contains.f (l0 : List Int) : Option Bool := (impl_PictureOk_idxO (fun x => impl_PictureOk_1.f x) l0 0).bind fun t => some (decide (0 ≤ t))
theorem impl_PictureOk_contains.calls (A0 : Option Addr) (c0 : Nat) (l0 : List Int) (r : Bool) (w : World) (hr0 : Kd.C (Kd.int .i64) w A0 l0.length l0) (hc0 : l0.length ≤ c0) (h : impl_PictureOk_contains.f l0 = some r) :
  Calls Try.prog 50 #[.slice A0 l0.length c0,.func (.func 51) #[] #[]] w fun e w'=>e=.returned (.bool r)∧Below w.heap.size w w':=by
 obtain⟨t,ht,h2⟩:=Option.bind_eq_some_iff.1 h
 obtain rfl:=Option.some.inj h2
 exact impl_PictureOk_con _ _ l0 t w hr0 hc0 ht

/-! ### impl_PictureOk: function 17 -/
def impl_PictureOk.f (a0_0 : Int) (a0_1 : Int) (l0_2 : List Int) : Option (Bool) := if (Int.tmod a0_0 4) = 0 then (if (Int.tmod a0_1 4) = 0 then ((impl_in.f a0_0 4 16).bind fun t147 => (if t147 = true then ((impl_in.f a0_1 4 16).bind fun t148 => (if t148 = true then (if (l0_2.length : Int) = (wrap64 (a0_0 * a0_1)) then ((impl_PictureOk_contains.f l0_2).bind fun t149 => (some (!t149))) else (some false)) else (some false))) else (some false))) else (some false)) else (some false)
set_option maxHeartbeats 8000000 in
set_option maxRecDepth 100000 in
theorem impl_PictureOk.calls (a0_0 : Int) (a0_1 : Int) (A0_2 : Option Addr) (c0_2 : Nat) (l0_2 : List Int) (r : Bool) (w : World) (hr0_2 : Kd.C (Kd.int .i64) w A0_2 l0_2.length l0_2) (hc0_2 : l0_2.length ≤ c0_2) (h : impl_PictureOk.f a0_0 a0_1 l0_2 = some r) :
  Calls Try.prog 17 #[.agg #[.int .i64 a0_0,.int .i64 a0_1,.slice A0_2 l0_2.length c0_2]] w fun e w'=>e=.returned (.bool r)∧Below w.heap.size w w':=by
 have hu27:=Try.underlying27
 have HR0_2:=Da hr0_2
 have HC0_2:=Da hc0_2
 clear hr0_2 hc0_2
 have HB:=Da (Below.refl w.heap.size w)
 have H:(if (Int.tmod a0_0 4)=0 then (if (Int.tmod a0_1 4)=0 then ((impl_in.f a0_0 4 16).bind fun t147=>(if t147=true then ((impl_in.f a0_1 4 16).bind fun t148=>(if t148=true then (if (l0_2.length:Int)=(wrap64 (a0_0*a0_1)) then ((impl_PictureOk_contains.f l0_2).bind fun t149=>(some (!t149))) else (some false)) else (some false))) else (some false))) else (some false)) else (some false))=some r:=h
 clear h
 by_cases c2:(Int.tmod a0_0 4)=0
 ·rw [if_pos c2] at H
  have c2b0:((Int.tmod a0_0 4) == 0)=true:=beq_iff_eq.mpr c2
  have c2b1:((Int.tmod a0_0 4) != 0)=false:=bne_eq_false_iff_eq.mpr c2
  clear c2
  by_cases c3:(Int.tmod a0_1 4)=0
  ·rw [if_pos c3] at H
   have c3b0:((Int.tmod a0_1 4) == 0)=true:=beq_iff_eq.mpr c3
   have c3b1:((Int.tmod a0_1 4) != 0)=false:=bne_eq_false_iff_eq.mpr c3
   clear c3
   replace H:=Option.bind_eq_some_iff.mp H
   obtain⟨t147,A40,H⟩:=H
   replace H:(if t147=true then ((impl_in.f a0_1 4 16).bind fun t148=>(if t148=true then (if (l0_2.length:Int)=(wrap64 (a0_0*a0_1)) then ((impl_PictureOk_contains.f l0_2).bind fun t149=>(some (!t149))) else (some false)) else (some false))) else (some false))=some r:=H
   have A4:=Da A40
   clear A40
   by_cases c5:t147=true
   ·subst c5
    have H1:((impl_in.f a0_1 4 16).bind fun t148=>(if t148=true then (if (l0_2.length:Int)=(wrap64 (a0_0*a0_1)) then ((impl_PictureOk_contains.f l0_2).bind fun t149=>(some (!t149))) else (some false)) else (some false)))=some r:=by rw [if_pos rfl] at H;exact H
    clear H
    have H:=H1
    clear H1
    replace H:=Option.bind_eq_some_iff.mp H
    obtain⟨t148,A60,H⟩:=H
    replace H:(if t148=true then (if (l0_2.length:Int)=(wrap64 (a0_0*a0_1)) then ((impl_PictureOk_contains.f l0_2).bind fun t149=>(some (!t149))) else (some false)) else (some false))=some r:=H
    have A6:=Da A60
    clear A60
    by_cases c7:t148=true
    ·subst c7
     have H1:(if (l0_2.length:Int)=(wrap64 (a0_0*a0_1)) then ((impl_PictureOk_contains.f l0_2).bind fun t149=>(some (!t149))) else (some false))=some r:=by rw [if_pos rfl] at H;exact H
     clear H
     have H:=H1
     clear H1
     by_cases c8:(l0_2.length:Int)=(wrap64 (a0_0*a0_1))
     ·rw [if_pos c8] at H
      have c8b0:((l0_2.length:Int) == (wrap64 (a0_0*a0_1)))=true:=beq_iff_eq.mpr c8
      have c8b1:((l0_2.length:Int) != (wrap64 (a0_0*a0_1)))=false:=bne_eq_false_iff_eq.mpr c8
      clear c8
      replace H:=Option.bind_eq_some_iff.mp H
      obtain⟨t149,A90,H⟩:=H
      replace H:(some (!t149))=some r:=H
      have A9:=Da A90
      clear A90
      obtain rfl:=Option.some.inj H
      go_enter Try.func17,Try.ntmps17
      go_wp2_with (first|((with_reducible refine Dp (N:=1) rfl ?_);refine Do ?hg (N:=1) ?hd (cs:=#[.int .i64 a0_0,.int .i64 a0_1,.slice A0_2 l0_2.length c0_2]) (t:=27) ?hr ?_;(case hd=>rfl);(case hg=>rfl);(case hr=>first|(go_simp;done)|(go_simp;rfl));intro gb146 hg w10 hbox hb;have n0_:=Da (Dl (by repeat(first|(with_reducible first|exact HB.out|apply Dd|apply Db|apply Dc)|exact HB.out)) hb);have n1_:=Da (hbox);have n2_:=Da ((by rw [hg];exact(Di (by repeat(first|(with_reducible first|exact HB.out|apply Dd|apply Db|apply Dc)|exact HB.out))):w.heap.size≤gb146));have n3_:=Da ((by rw [hg];exact(Di (by repeat(first|(with_reducible first|exact HB.out|apply Dd|apply Db|apply Dc)|exact HB.out))):w.heap.size≤gb146));clear HB;have HB:=n0_;have BK146:=n1_;have GW146:=n2_;have GE146:=n3_;clear n0_ n1_ n2_ n3_;clear hb hbox hg;have hcz11_0:w10.cell? ⟨gb146,0,none⟩=some (.int .i64 a0_0):=(Dg BK146.out 0).trans rfl;have hcz11_1:w10.cell? ⟨gb146,1,none⟩=some (.int .i64 a0_1):=(Dg BK146.out 1).trans rfl;have hcz11_2:w10.cell? ⟨gb146,2,none⟩=some (.slice A0_2 l0_2.length c0_2):=(Dg BK146.out 2).trans rfl;have hfz11_0:=De BK146.out 0;have hfz11_1:=De BK146.out 1;have hfz11_2:=De BK146.out 2)|(go_at_call 49;(with_reducible refine(impl_in.calls a0_0 4 16 true _ A4.out).mono ?_);rintro e w' ⟨rfl,⟨nd,rfl⟩⟩)|(go_at_call 49;(with_reducible refine(impl_in.calls a0_1 4 16 true _ A6.out).mono ?_);rintro e w' ⟨rfl,⟨nd,rfl⟩⟩)|(go_at_call 50;(with_reducible refine(impl_PictureOk_contains.calls _ _ l0_2 t149 _ ?side1 ?side2 A9.out).mono ?_);(case side1=>repeat(first|exact(Dr HR0_2.out (by repeat(first|(with_reducible first|exact HB.out|apply Dd|apply Db|apply Dc|refine Dh ?_ GE146.out)|exact HB.out)))|(with_reducible refine Ds ?_ _)|(with_reducible refine Dq ?_ _)|(with_reducible refine Dm ?_)));(case side2=>exact HC0_2.out);rintro e w12 ⟨rfl,hb⟩;have n0_:=Da (Dn (g:=gb146) (o:=.cells #[.int .i64 a0_0,.int .i64 a0_1,.slice A0_2 l0_2.length c0_2] 27 (0,0)) (by(with_reducible repeat(first|refine Dk ?_ _|refine Df ?_|refine Dj ?_ _));exact BK146.out) hb);have n1_:=Da (Dl (by repeat(first|(with_reducible first|exact HB.out|apply Dd|apply Db|apply Dc|refine Dh ?_ GE146.out)|exact HB.out)) hb);clear BK146;clear HB;have BK146:=n0_;have HB:=n1_;clear n0_ n1_;(try clear hb);(try clear hb2);(try clear hk);(try clear hi)))
      go_ret
      exact⟨by first|rfl|(simp [errW_none,errW_some] <;> rfl)|(simp [*,errW_none,errW_some] <;> rfl),by repeat(first|(with_reducible first|exact HB.out|apply Dd|apply Db|apply Dc|refine Dh ?_ GE146.out)|exact HB.out)⟩
     ·rw [if_neg c8] at H
      have c8b0:((l0_2.length:Int) == (wrap64 (a0_0*a0_1)))=false:=beq_eq_false_iff_ne.mpr c8
      have c8b1:((l0_2.length:Int) != (wrap64 (a0_0*a0_1)))=true:=bne_iff_ne.mpr c8
      obtain rfl:=Option.some.inj H
      go_enter Try.func17,Try.ntmps17
      go_wp2_with (first|((with_reducible refine Dp (N:=1) rfl ?_);refine Do ?hg (N:=1) ?hd (cs:=#[.int .i64 a0_0,.int .i64 a0_1,.slice A0_2 l0_2.length c0_2]) (t:=27) ?hr ?_;(case hd=>rfl);(case hg=>rfl);(case hr=>first|(go_simp;done)|(go_simp;rfl));intro gb146 hg w13 hbox hb;have n0_:=Da (Dl (by repeat(first|(with_reducible first|exact HB.out|apply Dd|apply Db|apply Dc)|exact HB.out)) hb);have n1_:=Da (hbox);have n2_:=Da ((by rw [hg];exact(Di (by repeat(first|(with_reducible first|exact HB.out|apply Dd|apply Db|apply Dc)|exact HB.out))):w.heap.size≤gb146));have n3_:=Da ((by rw [hg];exact(Di (by repeat(first|(with_reducible first|exact HB.out|apply Dd|apply Db|apply Dc)|exact HB.out))):w.heap.size≤gb146));clear HB;have HB:=n0_;have BK146:=n1_;have GW146:=n2_;have GE146:=n3_;clear n0_ n1_ n2_ n3_;clear hb hbox hg;have hcz14_0:w13.cell? ⟨gb146,0,none⟩=some (.int .i64 a0_0):=(Dg BK146.out 0).trans rfl;have hcz14_1:w13.cell? ⟨gb146,1,none⟩=some (.int .i64 a0_1):=(Dg BK146.out 1).trans rfl;have hcz14_2:w13.cell? ⟨gb146,2,none⟩=some (.slice A0_2 l0_2.length c0_2):=(Dg BK146.out 2).trans rfl;have hfz14_0:=De BK146.out 0;have hfz14_1:=De BK146.out 1;have hfz14_2:=De BK146.out 2)|(go_at_call 49;(with_reducible refine(impl_in.calls a0_0 4 16 true _ A4.out).mono ?_);rintro e w' ⟨rfl,⟨nd,rfl⟩⟩)|(go_at_call 49;(with_reducible refine(impl_in.calls a0_1 4 16 true _ A6.out).mono ?_);rintro e w' ⟨rfl,⟨nd,rfl⟩⟩))
      go_ret
      exact⟨by first|rfl|(simp [errW_none,errW_some] <;> rfl)|(simp [*,errW_none,errW_some] <;> rfl),by repeat(first|(with_reducible first|exact HB.out|apply Dd|apply Db|apply Dc|refine Dh ?_ GE146.out)|exact HB.out)⟩
    ·replace c7:=Bool.eq_false_iff.mpr c7
     subst c7
     have H1:(some false)=some r:=by rw [if_neg (show ¬ (false=true) by decide)] at H;exact H
     clear H
     have H:=H1
     clear H1
     obtain rfl:=Option.some.inj H
     go_enter Try.func17,Try.ntmps17
     go_wp2_with (first|((with_reducible refine Dp (N:=1) rfl ?_);refine Do ?hg (N:=1) ?hd (cs:=#[.int .i64 a0_0,.int .i64 a0_1,.slice A0_2 l0_2.length c0_2]) (t:=27) ?hr ?_;(case hd=>rfl);(case hg=>rfl);(case hr=>first|(go_simp;done)|(go_simp;rfl));intro gb146 hg w15 hbox hb;have n0_:=Da (Dl (by repeat(first|(with_reducible first|exact HB.out|apply Dd|apply Db|apply Dc)|exact HB.out)) hb);have n1_:=Da (hbox);have n2_:=Da ((by rw [hg];exact(Di (by repeat(first|(with_reducible first|exact HB.out|apply Dd|apply Db|apply Dc)|exact HB.out))):w.heap.size≤gb146));have n3_:=Da ((by rw [hg];exact(Di (by repeat(first|(with_reducible first|exact HB.out|apply Dd|apply Db|apply Dc)|exact HB.out))):w.heap.size≤gb146));clear HB;have HB:=n0_;have BK146:=n1_;have GW146:=n2_;have GE146:=n3_;clear n0_ n1_ n2_ n3_;clear hb hbox hg;have hcz16_0:w15.cell? ⟨gb146,0,none⟩=some (.int .i64 a0_0):=(Dg BK146.out 0).trans rfl;have hcz16_1:w15.cell? ⟨gb146,1,none⟩=some (.int .i64 a0_1):=(Dg BK146.out 1).trans rfl;have hcz16_2:w15.cell? ⟨gb146,2,none⟩=some (.slice A0_2 l0_2.length c0_2):=(Dg BK146.out 2).trans rfl;have hfz16_0:=De BK146.out 0;have hfz16_1:=De BK146.out 1;have hfz16_2:=De BK146.out 2)|(go_at_call 49;(with_reducible refine(impl_in.calls a0_0 4 16 true _ A4.out).mono ?_);rintro e w' ⟨rfl,⟨nd,rfl⟩⟩)|(go_at_call 49;(with_reducible refine(impl_in.calls a0_1 4 16 false _ A6.out).mono ?_);rintro e w' ⟨rfl,⟨nd,rfl⟩⟩))
     go_ret
     exact⟨by first|rfl|(simp [errW_none,errW_some] <;> rfl)|(simp [*,errW_none,errW_some] <;> rfl),by repeat(first|(with_reducible first|exact HB.out|apply Dd|apply Db|apply Dc|refine Dh ?_ GE146.out)|exact HB.out)⟩
   ·replace c5:=Bool.eq_false_iff.mpr c5
    subst c5
    have H1:(some false)=some r:=by rw [if_neg (show ¬ (false=true) by decide)] at H;exact H
    clear H
    have H:=H1
    clear H1
    obtain rfl:=Option.some.inj H
    go_enter Try.func17,Try.ntmps17
    go_wp2_with (first|((with_reducible refine Dp (N:=1) rfl ?_);refine Do ?hg (N:=1) ?hd (cs:=#[.int .i64 a0_0,.int .i64 a0_1,.slice A0_2 l0_2.length c0_2]) (t:=27) ?hr ?_;(case hd=>rfl);(case hg=>rfl);(case hr=>first|(go_simp;done)|(go_simp;rfl));intro gb146 hg w17 hbox hb;have n0_:=Da (Dl (by repeat(first|(with_reducible first|exact HB.out|apply Dd|apply Db|apply Dc)|exact HB.out)) hb);have n1_:=Da (hbox);have n2_:=Da ((by rw [hg];exact(Di (by repeat(first|(with_reducible first|exact HB.out|apply Dd|apply Db|apply Dc)|exact HB.out))):w.heap.size≤gb146));have n3_:=Da ((by rw [hg];exact(Di (by repeat(first|(with_reducible first|exact HB.out|apply Dd|apply Db|apply Dc)|exact HB.out))):w.heap.size≤gb146));clear HB;have HB:=n0_;have BK146:=n1_;have GW146:=n2_;have GE146:=n3_;clear n0_ n1_ n2_ n3_;clear hb hbox hg;have hcz18_0:w17.cell? ⟨gb146,0,none⟩=some (.int .i64 a0_0):=(Dg BK146.out 0).trans rfl;have hcz18_1:w17.cell? ⟨gb146,1,none⟩=some (.int .i64 a0_1):=(Dg BK146.out 1).trans rfl;have hcz18_2:w17.cell? ⟨gb146,2,none⟩=some (.slice A0_2 l0_2.length c0_2):=(Dg BK146.out 2).trans rfl;have hfz18_0:=De BK146.out 0;have hfz18_1:=De BK146.out 1;have hfz18_2:=De BK146.out 2)|(go_at_call 49;(with_reducible refine(impl_in.calls a0_0 4 16 false _ A4.out).mono ?_);rintro e w' ⟨rfl,⟨nd,rfl⟩⟩))
    go_ret
    exact⟨by first|rfl|(simp [errW_none,errW_some] <;> rfl)|(simp [*,errW_none,errW_some] <;> rfl),by repeat(first|(with_reducible first|exact HB.out|apply Dd|apply Db|apply Dc|refine Dh ?_ GE146.out)|exact HB.out)⟩
  ·rw [if_neg c3] at H
   have c3b0:((Int.tmod a0_1 4) == 0)=false:=beq_eq_false_iff_ne.mpr c3
   have c3b1:((Int.tmod a0_1 4) != 0)=true:=bne_iff_ne.mpr c3
   obtain rfl:=Option.some.inj H
   go_enter Try.func17,Try.ntmps17
   go_wp2_with (first|((with_reducible refine Dp (N:=1) rfl ?_);refine Do ?hg (N:=1) ?hd (cs:=#[.int .i64 a0_0,.int .i64 a0_1,.slice A0_2 l0_2.length c0_2]) (t:=27) ?hr ?_;(case hd=>rfl);(case hg=>rfl);(case hr=>first|(go_simp;done)|(go_simp;rfl));intro gb146 hg w19 hbox hb;have n0_:=Da (Dl (by repeat(first|(with_reducible first|exact HB.out|apply Dd|apply Db|apply Dc)|exact HB.out)) hb);have n1_:=Da (hbox);have n2_:=Da ((by rw [hg];exact(Di (by repeat(first|(with_reducible first|exact HB.out|apply Dd|apply Db|apply Dc)|exact HB.out))):w.heap.size≤gb146));have n3_:=Da ((by rw [hg];exact(Di (by repeat(first|(with_reducible first|exact HB.out|apply Dd|apply Db|apply Dc)|exact HB.out))):w.heap.size≤gb146));clear HB;have HB:=n0_;have BK146:=n1_;have GW146:=n2_;have GE146:=n3_;clear n0_ n1_ n2_ n3_;clear hb hbox hg;have hcz20_0:w19.cell? ⟨gb146,0,none⟩=some (.int .i64 a0_0):=(Dg BK146.out 0).trans rfl;have hcz20_1:w19.cell? ⟨gb146,1,none⟩=some (.int .i64 a0_1):=(Dg BK146.out 1).trans rfl;have hcz20_2:w19.cell? ⟨gb146,2,none⟩=some (.slice A0_2 l0_2.length c0_2):=(Dg BK146.out 2).trans rfl;have hfz20_0:=De BK146.out 0;have hfz20_1:=De BK146.out 1;have hfz20_2:=De BK146.out 2))
   go_ret
   exact⟨by first|rfl|(simp [errW_none,errW_some] <;> rfl)|(simp [*,errW_none,errW_some] <;> rfl),by repeat(first|(with_reducible first|exact HB.out|apply Dd|apply Db|apply Dc|refine Dh ?_ GE146.out)|exact HB.out)⟩
 ·rw [if_neg c2] at H
  have c2b0:((Int.tmod a0_0 4) == 0)=false:=beq_eq_false_iff_ne.mpr c2
  have c2b1:((Int.tmod a0_0 4) != 0)=true:=bne_iff_ne.mpr c2
  obtain rfl:=Option.some.inj H
  go_enter Try.func17,Try.ntmps17
  go_wp2_with (first|((with_reducible refine Dp (N:=1) rfl ?_);refine Do ?hg (N:=1) ?hd (cs:=#[.int .i64 a0_0,.int .i64 a0_1,.slice A0_2 l0_2.length c0_2]) (t:=27) ?hr ?_;(case hd=>rfl);(case hg=>rfl);(case hr=>first|(go_simp;done)|(go_simp;rfl));intro gb146 hg w21 hbox hb;have n0_:=Da (Dl (by repeat(first|(with_reducible first|exact HB.out|apply Dd|apply Db|apply Dc)|exact HB.out)) hb);have n1_:=Da (hbox);have n2_:=Da ((by rw [hg];exact(Di (by repeat(first|(with_reducible first|exact HB.out|apply Dd|apply Db|apply Dc)|exact HB.out))):w.heap.size≤gb146));have n3_:=Da ((by rw [hg];exact(Di (by repeat(first|(with_reducible first|exact HB.out|apply Dd|apply Db|apply Dc)|exact HB.out))):w.heap.size≤gb146));clear HB;have HB:=n0_;have BK146:=n1_;have GW146:=n2_;have GE146:=n3_;clear n0_ n1_ n2_ n3_;clear hb hbox hg;have hcz22_0:w21.cell? ⟨gb146,0,none⟩=some (.int .i64 a0_0):=(Dg BK146.out 0).trans rfl;have hcz22_1:w21.cell? ⟨gb146,1,none⟩=some (.int .i64 a0_1):=(Dg BK146.out 1).trans rfl;have hcz22_2:w21.cell? ⟨gb146,2,none⟩=some (.slice A0_2 l0_2.length c0_2):=(Dg BK146.out 2).trans rfl;have hfz22_0:=De BK146.out 0;have hfz22_1:=De BK146.out 1;have hfz22_2:=De BK146.out 2))
  go_ret
  exact⟨by first|rfl|(simp [errW_none,errW_some] <;> rfl)|(simp [*,errW_none,errW_some] <;> rfl),by repeat(first|(with_reducible first|exact HB.out|apply Dd|apply Db|apply Dc|refine Dh ?_ GE146.out)|exact HB.out)⟩

/-! ### impl_bothOk: function 69 -/
def impl_bothOk.f (a0_0 : Int) (a0_1 : Int) (l0_2 : List Int) (a1_0 : Int) (a1_1 : Int) (l1_2 : List Int) : Option (Bool) := (impl_PictureOk.f a0_0 a0_1 l0_2).bind fun t152 => (if t152 = true then ((impl_PictureOk.f a1_0 a1_1 l1_2).bind fun t153 => (if t153 = true then (if a0_0 = a1_0 then (some (a0_1 == a1_1)) else (some false)) else (some false))) else (some false))
set_option maxHeartbeats 8000000 in
set_option maxRecDepth 100000 in
theorem impl_bothOk.calls (a0_0 : Int) (a0_1 : Int) (A0_2 : Option Addr) (c0_2 : Nat) (l0_2 : List Int) (a1_0 : Int) (a1_1 : Int) (A1_2 : Option Addr) (c1_2 : Nat) (l1_2 : List Int) (r : Bool) (w : World) (hr0_2 : Kd.C (Kd.int .i64) w A0_2 l0_2.length l0_2) (hc0_2 : l0_2.length ≤ c0_2) (hr1_2 : Kd.C (Kd.int .i64) w A1_2 l1_2.length l1_2) (hc1_2 : l1_2.length ≤ c1_2) (h : impl_bothOk.f a0_0 a0_1 l0_2 a1_0 a1_1 l1_2 = some r) :
  Calls Try.prog 69 #[.agg #[.int .i64 a0_0,.int .i64 a0_1,.slice A0_2 l0_2.length c0_2],.agg #[.int .i64 a1_0,.int .i64 a1_1,.slice A1_2 l1_2.length c1_2]] w fun e w'=>e=.returned (.bool r)∧Below w.heap.size w w':=by
 have hu27:=Try.underlying27
 have HR0_2:=Da hr0_2
 have HC0_2:=Da hc0_2
 clear hr0_2 hc0_2
 have HR1_2:=Da hr1_2
 have HC1_2:=Da hc1_2
 clear hr1_2 hc1_2
 have HB:=Da (Below.refl w.heap.size w)
 have H:((impl_PictureOk.f a0_0 a0_1 l0_2).bind fun t152=>(if t152=true then ((impl_PictureOk.f a1_0 a1_1 l1_2).bind fun t153=>(if t153=true then (if a0_0=a1_0 then (some (a0_1 == a1_1)) else (some false)) else (some false))) else (some false)))=some r:=h
 clear h
 replace H:=Option.bind_eq_some_iff.mp H
 obtain⟨t152,A30,H⟩:=H
 replace H:(if t152=true then ((impl_PictureOk.f a1_0 a1_1 l1_2).bind fun t153=>(if t153=true then (if a0_0=a1_0 then (some (a0_1 == a1_1)) else (some false)) else (some false))) else (some false))=some r:=H
 have A3:=Da A30
 clear A30
 by_cases c4:t152=true
 ·subst c4
  have H1:((impl_PictureOk.f a1_0 a1_1 l1_2).bind fun t153=>(if t153=true then (if a0_0=a1_0 then (some (a0_1 == a1_1)) else (some false)) else (some false)))=some r:=by rw [if_pos rfl] at H;exact H
  clear H
  have H:=H1
  clear H1
  replace H:=Option.bind_eq_some_iff.mp H
  obtain⟨t153,A50,H⟩:=H
  replace H:(if t153=true then (if a0_0=a1_0 then (some (a0_1 == a1_1)) else (some false)) else (some false))=some r:=H
  have A5:=Da A50
  clear A50
  by_cases c6:t153=true
  ·subst c6
   have H1:(if a0_0=a1_0 then (some (a0_1 == a1_1)) else (some false))=some r:=by rw [if_pos rfl] at H;exact H
   clear H
   have H:=H1
   clear H1
   by_cases c7:a0_0=a1_0
   ·rw [if_pos c7] at H
    have c7b0:(a0_0 == a1_0)=true:=beq_iff_eq.mpr c7
    have c7b1:(a0_0 != a1_0)=false:=bne_eq_false_iff_eq.mpr c7
    clear c7
    obtain rfl:=Option.some.inj H
    go_enter Try.func69,Try.ntmps69
    go_wp2_with (first|((with_reducible refine Dp (N:=2) rfl ?_);refine Do ?hg (N:=2) ?hd (cs:=#[.int .i64 a0_0,.int .i64 a0_1,.slice A0_2 l0_2.length c0_2]) (t:=27) ?hr ?_;(case hd=>rfl);(case hg=>rfl);(case hr=>first|(go_simp;done)|(go_simp;rfl));intro gb150 hg w8 hbox hb;have n0_:=Da (Dl (by repeat(first|(with_reducible first|exact HB.out|apply Dd|apply Db|apply Dc)|exact HB.out)) hb);have n1_:=Da (hbox);have n2_:=Da ((by rw [hg];exact(Di (by repeat(first|(with_reducible first|exact HB.out|apply Dd|apply Db|apply Dc)|exact HB.out))):w.heap.size≤gb150));have n3_:=Da ((by rw [hg];exact(Di (by repeat(first|(with_reducible first|exact HB.out|apply Dd|apply Db|apply Dc)|exact HB.out))):w.heap.size≤gb150));clear HB;have HB:=n0_;have BK150:=n1_;have GW150:=n2_;have GE150:=n3_;clear n0_ n1_ n2_ n3_;clear hb hbox hg)|((with_reducible refine Dp (N:=3) rfl ?_);refine Do ?hg (N:=3) ?hd (cs:=#[.int .i64 a1_0,.int .i64 a1_1,.slice A1_2 l1_2.length c1_2]) (t:=27) ?hr ?_;(case hd=>rfl);(case hg=>rfl);(case hr=>first|(go_simp;done)|(go_simp;rfl));intro gb151 hg w9 hbox hb;have n0_:=Da (Dn (g:=gb150) (o:=.cells #[.int .i64 a0_0,.int .i64 a0_1,.slice A0_2 l0_2.length c0_2] 27 (0,0)) (by(with_reducible repeat(first|refine Dk ?_ _|refine Df ?_|refine Dj ?_ _));exact BK150.out) hb);have n1_:=Da (Dl (by repeat(first|(with_reducible first|exact HB.out|apply Dd|apply Db|apply Dc|refine Dh ?_ GE150.out)|exact HB.out)) hb);have n2_:=Da (hbox);have n3_:=Da ((by rw [hg];exact(Di (by repeat(first|(with_reducible first|exact HB.out|apply Dd|apply Db|apply Dc|refine Dh ?_ GE150.out)|exact HB.out))):w.heap.size≤gb151));have n4_:=Da ((by rw [hg];exact(Di (by repeat(first|(with_reducible first|exact HB.out|apply Dd|apply Db|apply Dc|refine Dh ?_ GE150.out)|exact HB.out))):w.heap.size≤gb151));have n5_:=Da ((by rw [hg];exact Nat.ne_of_lt (blk_lt (g:=gb150) (o:=.cells #[.int .i64 a0_0,.int .i64 a0_1,.slice A0_2 l0_2.length c0_2] 27 (0,0)) (by(with_reducible repeat(first|refine Dk ?_ _|refine Df ?_|refine Dj ?_ _));exact BK150.out)):gb150≠gb151));have n6_:=Da ((by rw [hg];exact Nat.ne_of_gt (blk_lt (g:=gb150) (o:=.cells #[.int .i64 a0_0,.int .i64 a0_1,.slice A0_2 l0_2.length c0_2] 27 (0,0)) (by(with_reducible repeat(first|refine Dk ?_ _|refine Df ?_|refine Dj ?_ _));exact BK150.out)):gb151≠gb150));clear BK150;clear HB;have BK150:=n0_;have HB:=n1_;have BK151:=n2_;have GW151:=n3_;have GE151:=n4_;have NB150_151:=n5_;have NB151_150:=n6_;clear n0_ n1_ n2_ n3_ n4_ n5_ n6_;clear hb hbox hg;have hnb10:=NB150_151.out;have hnc10:=NB151_150.out;have hcz11_0:w9.cell? ⟨gb150,0,none⟩=some (.int .i64 a0_0):=(Dg BK150.out 0).trans rfl;have hcz11_1:w9.cell? ⟨gb150,1,none⟩=some (.int .i64 a0_1):=(Dg BK150.out 1).trans rfl;have hcz11_2:w9.cell? ⟨gb150,2,none⟩=some (.slice A0_2 l0_2.length c0_2):=(Dg BK150.out 2).trans rfl;have hfz11_0:=De BK150.out 0;have hfz11_1:=De BK150.out 1;have hfz11_2:=De BK150.out 2)|((with_reducible refine gate_callee (f:=17) rfl ?_);refine goesL_ (some 6) rfl rfl Try.func17 (by kernel_rfl) rfl #[.agg #[.int .i64 a0_0,.int .i64 a0_1,.slice A0_2 l0_2.length c0_2]] rfl (by(try simp only [List.map_toArray,List.map_cons,List.map_nil]);first|done|rfl|(simp only [List.length_drop,List.length_take];rfl)) ?_;(with_reducible refine(impl_PictureOk.calls a0_0 a0_1 _ _ l0_2 true _ ?side1 ?side2 A3.out).mono ?_);(case side1=>repeat(first|exact(Dr HR0_2.out HB.out)|(with_reducible refine Ds ?_ _)|(with_reducible refine Dq ?_ _)|(with_reducible refine Dm ?_)));(case side2=>exact HC0_2.out);rintro e w12 ⟨rfl,hb⟩;refine⟨_,rfl,?_⟩;have n0_:=Da (Dn (g:=gb150) (o:=.cells #[.int .i64 a0_0,.int .i64 a0_1,.slice A0_2 l0_2.length c0_2] 27 (0,0)) (by(with_reducible repeat(first|refine Dk ?_ _|refine Df ?_|refine Dj ?_ _));exact BK150.out) hb);have n1_:=Da (Dn (g:=gb151) (o:=.cells #[.int .i64 a1_0,.int .i64 a1_1,.slice A1_2 l1_2.length c1_2] 27 (0,0)) (by(with_reducible repeat(first|refine Dk ?_ _|refine Df ?_|refine Dj ?_ _));exact BK151.out) hb);have n2_:=Da (Dl (by repeat(first|(with_reducible first|exact HB.out|apply Dd|apply Db|apply Dc|refine Dh ?_ GE150.out|refine Dh ?_ GE151.out)|exact HB.out)) hb);clear BK150;clear BK151;clear HB;have BK150:=n0_;have BK151:=n1_;have HB:=n2_;clear n0_ n1_ n2_;(try clear hb);(try clear hb2);(try clear hk);(try clear hi);have hcz13_0:w12.cell? ⟨gb151,0,none⟩=some (.int .i64 a1_0):=(Dg BK151.out 0).trans rfl;have hcz13_1:w12.cell? ⟨gb151,1,none⟩=some (.int .i64 a1_1):=(Dg BK151.out 1).trans rfl;have hcz13_2:w12.cell? ⟨gb151,2,none⟩=some (.slice A1_2 l1_2.length c1_2):=(Dg BK151.out 2).trans rfl;have hfz13_0:=De BK151.out 0;have hfz13_1:=De BK151.out 1;have hfz13_2:=De BK151.out 2)|(go_at_call 17;(with_reducible refine(impl_PictureOk.calls a1_0 a1_1 _ _ l1_2 true _ ?side1 ?side2 A5.out).mono ?_);(case side1=>repeat(first|exact(Dr HR1_2.out HB.out)|(with_reducible refine Ds ?_ _)|(with_reducible refine Dq ?_ _)|(with_reducible refine Dm ?_)));(case side2=>exact HC1_2.out);rintro e w14 ⟨rfl,hb⟩;have n0_:=Da (Dn (g:=gb150) (o:=.cells #[.int .i64 a0_0,.int .i64 a0_1,.slice A0_2 l0_2.length c0_2] 27 (0,0)) (by(with_reducible repeat(first|refine Dk ?_ _|refine Df ?_|refine Dj ?_ _));exact BK150.out) hb);have n1_:=Da (Dn (g:=gb151) (o:=.cells #[.int .i64 a1_0,.int .i64 a1_1,.slice A1_2 l1_2.length c1_2] 27 (0,0)) (by(with_reducible repeat(first|refine Dk ?_ _|refine Df ?_|refine Dj ?_ _));exact BK151.out) hb);have n2_:=Da (Dl (by repeat(first|(with_reducible first|exact HB.out|apply Dd|apply Db|apply Dc|refine Dh ?_ GE150.out|refine Dh ?_ GE151.out)|exact HB.out)) hb);clear BK150;clear BK151;clear HB;have BK150:=n0_;have BK151:=n1_;have HB:=n2_;clear n0_ n1_ n2_;(try clear hb);(try clear hb2);(try clear hk);(try clear hi);have hcz15_0:w14.cell? ⟨gb150,0,none⟩=some (.int .i64 a0_0):=(Dg BK150.out 0).trans rfl;have hcz15_1:w14.cell? ⟨gb150,1,none⟩=some (.int .i64 a0_1):=(Dg BK150.out 1).trans rfl;have hcz15_2:w14.cell? ⟨gb150,2,none⟩=some (.slice A0_2 l0_2.length c0_2):=(Dg BK150.out 2).trans rfl;have hfz15_0:=De BK150.out 0;have hfz15_1:=De BK150.out 1;have hfz15_2:=De BK150.out 2;have hcz16_0:w14.cell? ⟨gb151,0,none⟩=some (.int .i64 a1_0):=(Dg BK151.out 0).trans rfl;have hcz16_1:w14.cell? ⟨gb151,1,none⟩=some (.int .i64 a1_1):=(Dg BK151.out 1).trans rfl;have hcz16_2:w14.cell? ⟨gb151,2,none⟩=some (.slice A1_2 l1_2.length c1_2):=(Dg BK151.out 2).trans rfl;have hfz16_0:=De BK151.out 0;have hfz16_1:=De BK151.out 1;have hfz16_2:=De BK151.out 2))
    go_ret
    exact⟨by first|rfl|(simp [errW_none,errW_some] <;> rfl)|(simp [*,errW_none,errW_some] <;> rfl),by repeat(first|(with_reducible first|exact HB.out|apply Dd|apply Db|apply Dc|refine Dh ?_ GE150.out|refine Dh ?_ GE151.out)|exact HB.out)⟩
   ·rw [if_neg c7] at H
    have c7b0:(a0_0 == a1_0)=false:=beq_eq_false_iff_ne.mpr c7
    have c7b1:(a0_0 != a1_0)=true:=bne_iff_ne.mpr c7
    obtain rfl:=Option.some.inj H
    go_enter Try.func69,Try.ntmps69
    go_wp2_with (first|((with_reducible refine Dp (N:=2) rfl ?_);refine Do ?hg (N:=2) ?hd (cs:=#[.int .i64 a0_0,.int .i64 a0_1,.slice A0_2 l0_2.length c0_2]) (t:=27) ?hr ?_;(case hd=>rfl);(case hg=>rfl);(case hr=>first|(go_simp;done)|(go_simp;rfl));intro gb150 hg w17 hbox hb;have n0_:=Da (Dl (by repeat(first|(with_reducible first|exact HB.out|apply Dd|apply Db|apply Dc)|exact HB.out)) hb);have n1_:=Da (hbox);have n2_:=Da ((by rw [hg];exact(Di (by repeat(first|(with_reducible first|exact HB.out|apply Dd|apply Db|apply Dc)|exact HB.out))):w.heap.size≤gb150));have n3_:=Da ((by rw [hg];exact(Di (by repeat(first|(with_reducible first|exact HB.out|apply Dd|apply Db|apply Dc)|exact HB.out))):w.heap.size≤gb150));clear HB;have HB:=n0_;have BK150:=n1_;have GW150:=n2_;have GE150:=n3_;clear n0_ n1_ n2_ n3_;clear hb hbox hg)|((with_reducible refine Dp (N:=3) rfl ?_);refine Do ?hg (N:=3) ?hd (cs:=#[.int .i64 a1_0,.int .i64 a1_1,.slice A1_2 l1_2.length c1_2]) (t:=27) ?hr ?_;(case hd=>rfl);(case hg=>rfl);(case hr=>first|(go_simp;done)|(go_simp;rfl));intro gb151 hg w18 hbox hb;have n0_:=Da (Dn (g:=gb150) (o:=.cells #[.int .i64 a0_0,.int .i64 a0_1,.slice A0_2 l0_2.length c0_2] 27 (0,0)) (by(with_reducible repeat(first|refine Dk ?_ _|refine Df ?_|refine Dj ?_ _));exact BK150.out) hb);have n1_:=Da (Dl (by repeat(first|(with_reducible first|exact HB.out|apply Dd|apply Db|apply Dc|refine Dh ?_ GE150.out)|exact HB.out)) hb);have n2_:=Da (hbox);have n3_:=Da ((by rw [hg];exact(Di (by repeat(first|(with_reducible first|exact HB.out|apply Dd|apply Db|apply Dc|refine Dh ?_ GE150.out)|exact HB.out))):w.heap.size≤gb151));have n4_:=Da ((by rw [hg];exact(Di (by repeat(first|(with_reducible first|exact HB.out|apply Dd|apply Db|apply Dc|refine Dh ?_ GE150.out)|exact HB.out))):w.heap.size≤gb151));have n5_:=Da ((by rw [hg];exact Nat.ne_of_lt (blk_lt (g:=gb150) (o:=.cells #[.int .i64 a0_0,.int .i64 a0_1,.slice A0_2 l0_2.length c0_2] 27 (0,0)) (by(with_reducible repeat(first|refine Dk ?_ _|refine Df ?_|refine Dj ?_ _));exact BK150.out)):gb150≠gb151));have n6_:=Da ((by rw [hg];exact Nat.ne_of_gt (blk_lt (g:=gb150) (o:=.cells #[.int .i64 a0_0,.int .i64 a0_1,.slice A0_2 l0_2.length c0_2] 27 (0,0)) (by(with_reducible repeat(first|refine Dk ?_ _|refine Df ?_|refine Dj ?_ _));exact BK150.out)):gb151≠gb150));clear BK150;clear HB;have BK150:=n0_;have HB:=n1_;have BK151:=n2_;have GW151:=n3_;have GE151:=n4_;have NB150_151:=n5_;have NB151_150:=n6_;clear n0_ n1_ n2_ n3_ n4_ n5_ n6_;clear hb hbox hg;have hnb19:=NB150_151.out;have hnc19:=NB151_150.out;have hcz20_0:w18.cell? ⟨gb150,0,none⟩=some (.int .i64 a0_0):=(Dg BK150.out 0).trans rfl;have hcz20_1:w18.cell? ⟨gb150,1,none⟩=some (.int .i64 a0_1):=(Dg BK150.out 1).trans rfl;have hcz20_2:w18.cell? ⟨gb150,2,none⟩=some (.slice A0_2 l0_2.length c0_2):=(Dg BK150.out 2).trans rfl;have hfz20_0:=De BK150.out 0;have hfz20_1:=De BK150.out 1;have hfz20_2:=De BK150.out 2)|((with_reducible refine gate_callee (f:=17) rfl ?_);refine goesL_ (some 6) rfl rfl Try.func17 (by kernel_rfl) rfl #[.agg #[.int .i64 a0_0,.int .i64 a0_1,.slice A0_2 l0_2.length c0_2]] rfl (by(try simp only [List.map_toArray,List.map_cons,List.map_nil]);first|done|rfl|(simp only [List.length_drop,List.length_take];rfl)) ?_;(with_reducible refine(impl_PictureOk.calls a0_0 a0_1 _ _ l0_2 true _ ?side1 ?side2 A3.out).mono ?_);(case side1=>repeat(first|exact(Dr HR0_2.out HB.out)|(with_reducible refine Ds ?_ _)|(with_reducible refine Dq ?_ _)|(with_reducible refine Dm ?_)));(case side2=>exact HC0_2.out);rintro e w21 ⟨rfl,hb⟩;refine⟨_,rfl,?_⟩;have n0_:=Da (Dn (g:=gb150) (o:=.cells #[.int .i64 a0_0,.int .i64 a0_1,.slice A0_2 l0_2.length c0_2] 27 (0,0)) (by(with_reducible repeat(first|refine Dk ?_ _|refine Df ?_|refine Dj ?_ _));exact BK150.out) hb);have n1_:=Da (Dn (g:=gb151) (o:=.cells #[.int .i64 a1_0,.int .i64 a1_1,.slice A1_2 l1_2.length c1_2] 27 (0,0)) (by(with_reducible repeat(first|refine Dk ?_ _|refine Df ?_|refine Dj ?_ _));exact BK151.out) hb);have n2_:=Da (Dl (by repeat(first|(with_reducible first|exact HB.out|apply Dd|apply Db|apply Dc|refine Dh ?_ GE150.out|refine Dh ?_ GE151.out)|exact HB.out)) hb);clear BK150;clear BK151;clear HB;have BK150:=n0_;have BK151:=n1_;have HB:=n2_;clear n0_ n1_ n2_;(try clear hb);(try clear hb2);(try clear hk);(try clear hi);have hcz22_0:w21.cell? ⟨gb151,0,none⟩=some (.int .i64 a1_0):=(Dg BK151.out 0).trans rfl;have hcz22_1:w21.cell? ⟨gb151,1,none⟩=some (.int .i64 a1_1):=(Dg BK151.out 1).trans rfl;have hcz22_2:w21.cell? ⟨gb151,2,none⟩=some (.slice A1_2 l1_2.length c1_2):=(Dg BK151.out 2).trans rfl;have hfz22_0:=De BK151.out 0;have hfz22_1:=De BK151.out 1;have hfz22_2:=De BK151.out 2)|(go_at_call 17;(with_reducible refine(impl_PictureOk.calls a1_0 a1_1 _ _ l1_2 true _ ?side1 ?side2 A5.out).mono ?_);(case side1=>repeat(first|exact(Dr HR1_2.out HB.out)|(with_reducible refine Ds ?_ _)|(with_reducible refine Dq ?_ _)|(with_reducible refine Dm ?_)));(case side2=>exact HC1_2.out);rintro e w23 ⟨rfl,hb⟩;have n0_:=Da (Dn (g:=gb150) (o:=.cells #[.int .i64 a0_0,.int .i64 a0_1,.slice A0_2 l0_2.length c0_2] 27 (0,0)) (by(with_reducible repeat(first|refine Dk ?_ _|refine Df ?_|refine Dj ?_ _));exact BK150.out) hb);have n1_:=Da (Dn (g:=gb151) (o:=.cells #[.int .i64 a1_0,.int .i64 a1_1,.slice A1_2 l1_2.length c1_2] 27 (0,0)) (by(with_reducible repeat(first|refine Dk ?_ _|refine Df ?_|refine Dj ?_ _));exact BK151.out) hb);have n2_:=Da (Dl (by repeat(first|(with_reducible first|exact HB.out|apply Dd|apply Db|apply Dc|refine Dh ?_ GE150.out|refine Dh ?_ GE151.out)|exact HB.out)) hb);clear BK150;clear BK151;clear HB;have BK150:=n0_;have BK151:=n1_;have HB:=n2_;clear n0_ n1_ n2_;(try clear hb);(try clear hb2);(try clear hk);(try clear hi);have hcz24_0:w23.cell? ⟨gb150,0,none⟩=some (.int .i64 a0_0):=(Dg BK150.out 0).trans rfl;have hcz24_1:w23.cell? ⟨gb150,1,none⟩=some (.int .i64 a0_1):=(Dg BK150.out 1).trans rfl;have hcz24_2:w23.cell? ⟨gb150,2,none⟩=some (.slice A0_2 l0_2.length c0_2):=(Dg BK150.out 2).trans rfl;have hfz24_0:=De BK150.out 0;have hfz24_1:=De BK150.out 1;have hfz24_2:=De BK150.out 2;have hcz25_0:w23.cell? ⟨gb151,0,none⟩=some (.int .i64 a1_0):=(Dg BK151.out 0).trans rfl;have hcz25_1:w23.cell? ⟨gb151,1,none⟩=some (.int .i64 a1_1):=(Dg BK151.out 1).trans rfl;have hcz25_2:w23.cell? ⟨gb151,2,none⟩=some (.slice A1_2 l1_2.length c1_2):=(Dg BK151.out 2).trans rfl;have hfz25_0:=De BK151.out 0;have hfz25_1:=De BK151.out 1;have hfz25_2:=De BK151.out 2))
    go_ret
    exact⟨by first|rfl|(simp [errW_none,errW_some] <;> rfl)|(simp [*,errW_none,errW_some] <;> rfl),by repeat(first|(with_reducible first|exact HB.out|apply Dd|apply Db|apply Dc|refine Dh ?_ GE150.out|refine Dh ?_ GE151.out)|exact HB.out)⟩
  ·replace c6:=Bool.eq_false_iff.mpr c6
   subst c6
   have H1:(some false)=some r:=by rw [if_neg (show ¬ (false=true) by decide)] at H;exact H
   clear H
   have H:=H1
   clear H1
   obtain rfl:=Option.some.inj H
   go_enter Try.func69,Try.ntmps69
   go_wp2_with (first|((with_reducible refine Dp (N:=2) rfl ?_);refine Do ?hg (N:=2) ?hd (cs:=#[.int .i64 a0_0,.int .i64 a0_1,.slice A0_2 l0_2.length c0_2]) (t:=27) ?hr ?_;(case hd=>rfl);(case hg=>rfl);(case hr=>first|(go_simp;done)|(go_simp;rfl));intro gb150 hg w26 hbox hb;have n0_:=Da (Dl (by repeat(first|(with_reducible first|exact HB.out|apply Dd|apply Db|apply Dc)|exact HB.out)) hb);have n1_:=Da (hbox);have n2_:=Da ((by rw [hg];exact(Di (by repeat(first|(with_reducible first|exact HB.out|apply Dd|apply Db|apply Dc)|exact HB.out))):w.heap.size≤gb150));have n3_:=Da ((by rw [hg];exact(Di (by repeat(first|(with_reducible first|exact HB.out|apply Dd|apply Db|apply Dc)|exact HB.out))):w.heap.size≤gb150));clear HB;have HB:=n0_;have BK150:=n1_;have GW150:=n2_;have GE150:=n3_;clear n0_ n1_ n2_ n3_;clear hb hbox hg)|((with_reducible refine Dp (N:=3) rfl ?_);refine Do ?hg (N:=3) ?hd (cs:=#[.int .i64 a1_0,.int .i64 a1_1,.slice A1_2 l1_2.length c1_2]) (t:=27) ?hr ?_;(case hd=>rfl);(case hg=>rfl);(case hr=>first|(go_simp;done)|(go_simp;rfl));intro gb151 hg w27 hbox hb;have n0_:=Da (Dn (g:=gb150) (o:=.cells #[.int .i64 a0_0,.int .i64 a0_1,.slice A0_2 l0_2.length c0_2] 27 (0,0)) (by(with_reducible repeat(first|refine Dk ?_ _|refine Df ?_|refine Dj ?_ _));exact BK150.out) hb);have n1_:=Da (Dl (by repeat(first|(with_reducible first|exact HB.out|apply Dd|apply Db|apply Dc|refine Dh ?_ GE150.out)|exact HB.out)) hb);have n2_:=Da (hbox);have n3_:=Da ((by rw [hg];exact(Di (by repeat(first|(with_reducible first|exact HB.out|apply Dd|apply Db|apply Dc|refine Dh ?_ GE150.out)|exact HB.out))):w.heap.size≤gb151));have n4_:=Da ((by rw [hg];exact(Di (by repeat(first|(with_reducible first|exact HB.out|apply Dd|apply Db|apply Dc|refine Dh ?_ GE150.out)|exact HB.out))):w.heap.size≤gb151));have n5_:=Da ((by rw [hg];exact Nat.ne_of_lt (blk_lt (g:=gb150) (o:=.cells #[.int .i64 a0_0,.int .i64 a0_1,.slice A0_2 l0_2.length c0_2] 27 (0,0)) (by(with_reducible repeat(first|refine Dk ?_ _|refine Df ?_|refine Dj ?_ _));exact BK150.out)):gb150≠gb151));have n6_:=Da ((by rw [hg];exact Nat.ne_of_gt (blk_lt (g:=gb150) (o:=.cells #[.int .i64 a0_0,.int .i64 a0_1,.slice A0_2 l0_2.length c0_2] 27 (0,0)) (by(with_reducible repeat(first|refine Dk ?_ _|refine Df ?_|refine Dj ?_ _));exact BK150.out)):gb151≠gb150));clear BK150;clear HB;have BK150:=n0_;have HB:=n1_;have BK151:=n2_;have GW151:=n3_;have GE151:=n4_;have NB150_151:=n5_;have NB151_150:=n6_;clear n0_ n1_ n2_ n3_ n4_ n5_ n6_;clear hb hbox hg;have hnb28:=NB150_151.out;have hnc28:=NB151_150.out;have hcz29_0:w27.cell? ⟨gb150,0,none⟩=some (.int .i64 a0_0):=(Dg BK150.out 0).trans rfl;have hcz29_1:w27.cell? ⟨gb150,1,none⟩=some (.int .i64 a0_1):=(Dg BK150.out 1).trans rfl;have hcz29_2:w27.cell? ⟨gb150,2,none⟩=some (.slice A0_2 l0_2.length c0_2):=(Dg BK150.out 2).trans rfl;have hfz29_0:=De BK150.out 0;have hfz29_1:=De BK150.out 1;have hfz29_2:=De BK150.out 2)|((with_reducible refine gate_callee (f:=17) rfl ?_);refine goesL_ (some 6) rfl rfl Try.func17 (by kernel_rfl) rfl #[.agg #[.int .i64 a0_0,.int .i64 a0_1,.slice A0_2 l0_2.length c0_2]] rfl (by(try simp only [List.map_toArray,List.map_cons,List.map_nil]);first|done|rfl|(simp only [List.length_drop,List.length_take];rfl)) ?_;(with_reducible refine(impl_PictureOk.calls a0_0 a0_1 _ _ l0_2 true _ ?side1 ?side2 A3.out).mono ?_);(case side1=>repeat(first|exact(Dr HR0_2.out HB.out)|(with_reducible refine Ds ?_ _)|(with_reducible refine Dq ?_ _)|(with_reducible refine Dm ?_)));(case side2=>exact HC0_2.out);rintro e w30 ⟨rfl,hb⟩;refine⟨_,rfl,?_⟩;have n0_:=Da (Dn (g:=gb150) (o:=.cells #[.int .i64 a0_0,.int .i64 a0_1,.slice A0_2 l0_2.length c0_2] 27 (0,0)) (by(with_reducible repeat(first|refine Dk ?_ _|refine Df ?_|refine Dj ?_ _));exact BK150.out) hb);have n1_:=Da (Dn (g:=gb151) (o:=.cells #[.int .i64 a1_0,.int .i64 a1_1,.slice A1_2 l1_2.length c1_2] 27 (0,0)) (by(with_reducible repeat(first|refine Dk ?_ _|refine Df ?_|refine Dj ?_ _));exact BK151.out) hb);have n2_:=Da (Dl (by repeat(first|(with_reducible first|exact HB.out|apply Dd|apply Db|apply Dc|refine Dh ?_ GE150.out|refine Dh ?_ GE151.out)|exact HB.out)) hb);clear BK150;clear BK151;clear HB;have BK150:=n0_;have BK151:=n1_;have HB:=n2_;clear n0_ n1_ n2_;(try clear hb);(try clear hb2);(try clear hk);(try clear hi);have hcz31_0:w30.cell? ⟨gb151,0,none⟩=some (.int .i64 a1_0):=(Dg BK151.out 0).trans rfl;have hcz31_1:w30.cell? ⟨gb151,1,none⟩=some (.int .i64 a1_1):=(Dg BK151.out 1).trans rfl;have hcz31_2:w30.cell? ⟨gb151,2,none⟩=some (.slice A1_2 l1_2.length c1_2):=(Dg BK151.out 2).trans rfl;have hfz31_0:=De BK151.out 0;have hfz31_1:=De BK151.out 1;have hfz31_2:=De BK151.out 2)|(go_at_call 17;(with_reducible refine(impl_PictureOk.calls a1_0 a1_1 _ _ l1_2 false _ ?side1 ?side2 A5.out).mono ?_);(case side1=>repeat(first|exact(Dr HR1_2.out HB.out)|(with_reducible refine Ds ?_ _)|(with_reducible refine Dq ?_ _)|(with_reducible refine Dm ?_)));(case side2=>exact HC1_2.out);rintro e w32 ⟨rfl,hb⟩;have n0_:=Da (Dn (g:=gb150) (o:=.cells #[.int .i64 a0_0,.int .i64 a0_1,.slice A0_2 l0_2.length c0_2] 27 (0,0)) (by(with_reducible repeat(first|refine Dk ?_ _|refine Df ?_|refine Dj ?_ _));exact BK150.out) hb);have n1_:=Da (Dn (g:=gb151) (o:=.cells #[.int .i64 a1_0,.int .i64 a1_1,.slice A1_2 l1_2.length c1_2] 27 (0,0)) (by(with_reducible repeat(first|refine Dk ?_ _|refine Df ?_|refine Dj ?_ _));exact BK151.out) hb);have n2_:=Da (Dl (by repeat(first|(with_reducible first|exact HB.out|apply Dd|apply Db|apply Dc|refine Dh ?_ GE150.out|refine Dh ?_ GE151.out)|exact HB.out)) hb);clear BK150;clear BK151;clear HB;have BK150:=n0_;have BK151:=n1_;have HB:=n2_;clear n0_ n1_ n2_;(try clear hb);(try clear hb2);(try clear hk);(try clear hi)))
   go_ret
   exact⟨by first|rfl|(simp [errW_none,errW_some] <;> rfl)|(simp [*,errW_none,errW_some] <;> rfl),by repeat(first|(with_reducible first|exact HB.out|apply Dd|apply Db|apply Dc|refine Dh ?_ GE150.out|refine Dh ?_ GE151.out)|exact HB.out)⟩
 ·replace c4:=Bool.eq_false_iff.mpr c4
  subst c4
  have H1:(some false)=some r:=by rw [if_neg (show ¬ (false=true) by decide)] at H;exact H
  clear H
  have H:=H1
  clear H1
  obtain rfl:=Option.some.inj H
  go_enter Try.func69,Try.ntmps69
  go_wp2_with (first|((with_reducible refine Dp (N:=2) rfl ?_);refine Do ?hg (N:=2) ?hd (cs:=#[.int .i64 a0_0,.int .i64 a0_1,.slice A0_2 l0_2.length c0_2]) (t:=27) ?hr ?_;(case hd=>rfl);(case hg=>rfl);(case hr=>first|(go_simp;done)|(go_simp;rfl));intro gb150 hg w33 hbox hb;have n0_:=Da (Dl (by repeat(first|(with_reducible first|exact HB.out|apply Dd|apply Db|apply Dc)|exact HB.out)) hb);have n1_:=Da (hbox);have n2_:=Da ((by rw [hg];exact(Di (by repeat(first|(with_reducible first|exact HB.out|apply Dd|apply Db|apply Dc)|exact HB.out))):w.heap.size≤gb150));have n3_:=Da ((by rw [hg];exact(Di (by repeat(first|(with_reducible first|exact HB.out|apply Dd|apply Db|apply Dc)|exact HB.out))):w.heap.size≤gb150));clear HB;have HB:=n0_;have BK150:=n1_;have GW150:=n2_;have GE150:=n3_;clear n0_ n1_ n2_ n3_;clear hb hbox hg)|((with_reducible refine Dp (N:=3) rfl ?_);refine Do ?hg (N:=3) ?hd (cs:=#[.int .i64 a1_0,.int .i64 a1_1,.slice A1_2 l1_2.length c1_2]) (t:=27) ?hr ?_;(case hd=>rfl);(case hg=>rfl);(case hr=>first|(go_simp;done)|(go_simp;rfl));intro gb151 hg w34 hbox hb;have n0_:=Da (Dn (g:=gb150) (o:=.cells #[.int .i64 a0_0,.int .i64 a0_1,.slice A0_2 l0_2.length c0_2] 27 (0,0)) (by(with_reducible repeat(first|refine Dk ?_ _|refine Df ?_|refine Dj ?_ _));exact BK150.out) hb);have n1_:=Da (Dl (by repeat(first|(with_reducible first|exact HB.out|apply Dd|apply Db|apply Dc|refine Dh ?_ GE150.out)|exact HB.out)) hb);have n2_:=Da (hbox);have n3_:=Da ((by rw [hg];exact(Di (by repeat(first|(with_reducible first|exact HB.out|apply Dd|apply Db|apply Dc|refine Dh ?_ GE150.out)|exact HB.out))):w.heap.size≤gb151));have n4_:=Da ((by rw [hg];exact(Di (by repeat(first|(with_reducible first|exact HB.out|apply Dd|apply Db|apply Dc|refine Dh ?_ GE150.out)|exact HB.out))):w.heap.size≤gb151));have n5_:=Da ((by rw [hg];exact Nat.ne_of_lt (blk_lt (g:=gb150) (o:=.cells #[.int .i64 a0_0,.int .i64 a0_1,.slice A0_2 l0_2.length c0_2] 27 (0,0)) (by(with_reducible repeat(first|refine Dk ?_ _|refine Df ?_|refine Dj ?_ _));exact BK150.out)):gb150≠gb151));have n6_:=Da ((by rw [hg];exact Nat.ne_of_gt (blk_lt (g:=gb150) (o:=.cells #[.int .i64 a0_0,.int .i64 a0_1,.slice A0_2 l0_2.length c0_2] 27 (0,0)) (by(with_reducible repeat(first|refine Dk ?_ _|refine Df ?_|refine Dj ?_ _));exact BK150.out)):gb151≠gb150));clear BK150;clear HB;have BK150:=n0_;have HB:=n1_;have BK151:=n2_;have GW151:=n3_;have GE151:=n4_;have NB150_151:=n5_;have NB151_150:=n6_;clear n0_ n1_ n2_ n3_ n4_ n5_ n6_;clear hb hbox hg;have hnb35:=NB150_151.out;have hnc35:=NB151_150.out;have hcz36_0:w34.cell? ⟨gb150,0,none⟩=some (.int .i64 a0_0):=(Dg BK150.out 0).trans rfl;have hcz36_1:w34.cell? ⟨gb150,1,none⟩=some (.int .i64 a0_1):=(Dg BK150.out 1).trans rfl;have hcz36_2:w34.cell? ⟨gb150,2,none⟩=some (.slice A0_2 l0_2.length c0_2):=(Dg BK150.out 2).trans rfl;have hfz36_0:=De BK150.out 0;have hfz36_1:=De BK150.out 1;have hfz36_2:=De BK150.out 2)|((with_reducible refine gate_callee (f:=17) rfl ?_);refine goesL_ (some 6) rfl rfl Try.func17 (by kernel_rfl) rfl #[.agg #[.int .i64 a0_0,.int .i64 a0_1,.slice A0_2 l0_2.length c0_2]] rfl (by(try simp only [List.map_toArray,List.map_cons,List.map_nil]);first|done|rfl|(simp only [List.length_drop,List.length_take];rfl)) ?_;(with_reducible refine(impl_PictureOk.calls a0_0 a0_1 _ _ l0_2 false _ ?side1 ?side2 A3.out).mono ?_);(case side1=>repeat(first|exact(Dr HR0_2.out HB.out)|(with_reducible refine Ds ?_ _)|(with_reducible refine Dq ?_ _)|(with_reducible refine Dm ?_)));(case side2=>exact HC0_2.out);rintro e w37 ⟨rfl,hb⟩;refine⟨_,rfl,?_⟩;have n0_:=Da (Dn (g:=gb150) (o:=.cells #[.int .i64 a0_0,.int .i64 a0_1,.slice A0_2 l0_2.length c0_2] 27 (0,0)) (by(with_reducible repeat(first|refine Dk ?_ _|refine Df ?_|refine Dj ?_ _));exact BK150.out) hb);have n1_:=Da (Dn (g:=gb151) (o:=.cells #[.int .i64 a1_0,.int .i64 a1_1,.slice A1_2 l1_2.length c1_2] 27 (0,0)) (by(with_reducible repeat(first|refine Dk ?_ _|refine Df ?_|refine Dj ?_ _));exact BK151.out) hb);have n2_:=Da (Dl (by repeat(first|(with_reducible first|exact HB.out|apply Dd|apply Db|apply Dc|refine Dh ?_ GE150.out|refine Dh ?_ GE151.out)|exact HB.out)) hb);clear BK150;clear BK151;clear HB;have BK150:=n0_;have BK151:=n1_;have HB:=n2_;clear n0_ n1_ n2_;(try clear hb);(try clear hb2);(try clear hk);(try clear hi)))
  go_ret
  exact⟨by first|rfl|(simp [errW_none,errW_some] <;> rfl)|(simp [*,errW_none,errW_some] <;> rfl),by repeat(first|(with_reducible first|exact HB.out|apply Dd|apply Db|apply Dc|refine Dh ?_ GE150.out|refine Dh ?_ GE151.out)|exact HB.out)⟩

/-! ### impl_Picture_blocks: function 70 -/
def impl_Picture_blocks.f (a0_0 : Int) (a0_1 : Int) (l0_2 : List Int) : Option (Int) := some (wrap64 ((wrap64 (Int.tdiv a0_0 4)) * (wrap64 (Int.tdiv a0_1 4))))
set_option maxHeartbeats 8000000 in
set_option maxRecDepth 100000 in
theorem impl_Picture_blocks.calls (a0_0 : Int) (a0_1 : Int) (A0_2 : Option Addr) (c0_2 : Nat) (l0_2 : List Int) (r : Int) (w : World) (hr0_2 : Kd.C (Kd.int .i64) w A0_2 l0_2.length l0_2) (hc0_2 : l0_2.length ≤ c0_2) (h : impl_Picture_blocks.f a0_0 a0_1 l0_2 = some r) :
  Calls Try.prog 70 #[.agg #[.int .i64 a0_0,.int .i64 a0_1,.slice A0_2 l0_2.length c0_2]] w fun e w'=>e=.returned (.int .i64 r)∧Below w.heap.size w w':=by
 have hu27:=Try.underlying27
 have HR0_2:=Da hr0_2
 have HC0_2:=Da hc0_2
 clear hr0_2 hc0_2
 have HB:=Da (Below.refl w.heap.size w)
 have H:(some (wrap64 ((wrap64 (Int.tdiv a0_0 4))*(wrap64 (Int.tdiv a0_1 4)))))=some r:=h
 clear h
 obtain rfl:=Option.some.inj H
 go_enter Try.func70,Try.ntmps70
 go_wp2_with (first|((with_reducible refine Dp (N:=1) rfl ?_);refine Do ?hg (N:=1) ?hd (cs:=#[.int .i64 a0_0,.int .i64 a0_1,.slice A0_2 l0_2.length c0_2]) (t:=27) ?hr ?_;(case hd=>rfl);(case hg=>rfl);(case hr=>first|(go_simp;done)|(go_simp;rfl));intro gb154 hg w2 hbox hb;have n0_:=Da (Dl (by repeat(first|(with_reducible first|exact HB.out|apply Dd|apply Db|apply Dc)|exact HB.out)) hb);have n1_:=Da (hbox);have n2_:=Da ((by rw [hg];exact(Di (by repeat(first|(with_reducible first|exact HB.out|apply Dd|apply Db|apply Dc)|exact HB.out))):w.heap.size≤gb154));have n3_:=Da ((by rw [hg];exact(Di (by repeat(first|(with_reducible first|exact HB.out|apply Dd|apply Db|apply Dc)|exact HB.out))):w.heap.size≤gb154));clear HB;have HB:=n0_;have BK154:=n1_;have GW154:=n2_;have GE154:=n3_;clear n0_ n1_ n2_ n3_;clear hb hbox hg;have hcz3_0:w2.cell? ⟨gb154,0,none⟩=some (.int .i64 a0_0):=(Dg BK154.out 0).trans rfl;have hcz3_1:w2.cell? ⟨gb154,1,none⟩=some (.int .i64 a0_1):=(Dg BK154.out 1).trans rfl;have hcz3_2:w2.cell? ⟨gb154,2,none⟩=some (.slice A0_2 l0_2.length c0_2):=(Dg BK154.out 2).trans rfl;have hfz3_0:=De BK154.out 0;have hfz3_1:=De BK154.out 1;have hfz3_2:=De BK154.out 2))
 go_ret
 exact⟨by first|rfl|(simp [errW_none,errW_some] <;> rfl)|(simp [*,errW_none,errW_some] <;> rfl),by repeat(first|(with_reducible first|exact HB.out|apply Dd|apply Db|apply Dc|refine Dh ?_ GE154.out)|exact HB.out)⟩

/-! ### impl_Picture_corner: function 76 -/
def impl_Picture_corner.f (a0_0 : Int) (a0_1 : Int) (l0_2 : List Int) (a1 : Int) : Option (Int × Int) := if (wrap64 (Int.tdiv a0_0 4)) = 0 then (none) else (some (wrap64 ((Int.tmod a1 (wrap64 (Int.tdiv a0_0 4))) * 4), wrap64 ((wrap64 (Int.tdiv a1 (wrap64 (Int.tdiv a0_0 4)))) * 4)))
set_option maxHeartbeats 8000000 in
set_option maxRecDepth 100000 in
theorem impl_Picture_corner.calls (a0_0 : Int) (a0_1 : Int) (A0_2 : Option Addr) (c0_2 : Nat) (l0_2 : List Int) (a1 : Int) (r1 : Int) (r2 : Int) (w : World) (hr0_2 : Kd.C (Kd.int .i64) w A0_2 l0_2.length l0_2) (hc0_2 : l0_2.length ≤ c0_2) (h : impl_Picture_corner.f a0_0 a0_1 l0_2 a1 = some (r1, r2)) :
  Calls Try.prog 76 #[.agg #[.int .i64 a0_0,.int .i64 a0_1,.slice A0_2 l0_2.length c0_2],.int .i64 a1] w fun e w'=>e=.returned (.tuple #[.int .i64 r1,.int .i64 r2])∧Below w.heap.size w w':=by
 have hu27:=Try.underlying27
 have HR0_2:=Da hr0_2
 have HC0_2:=Da hc0_2
 clear hr0_2 hc0_2
 have HB:=Da (Below.refl w.heap.size w)
 have H:(if (wrap64 (Int.tdiv a0_0 4))=0 then (none) else (some (wrap64 ((Int.tmod a1 (wrap64 (Int.tdiv a0_0 4)))*4),wrap64 ((wrap64 (Int.tdiv a1 (wrap64 (Int.tdiv a0_0 4))))*4))))=some (r1,r2):=h
 clear h
 by_cases c3:(wrap64 (Int.tdiv a0_0 4))=0
 ·rw [if_pos c3] at H
  exact absurd H (by simp)
 ·rw [if_neg c3] at H
  have c3b0:((wrap64 (Int.tdiv a0_0 4)) == 0)=false:=beq_eq_false_iff_ne.mpr c3
  have c3b1:((wrap64 (Int.tdiv a0_0 4)) != 0)=true:=bne_iff_ne.mpr c3
  simp only [Option.some.injEq,Prod.mk.injEq] at H
  obtain⟨rfl,rfl⟩:=H
  go_enter Try.func76,Try.ntmps76
  go_wp2_with (first|((with_reducible refine Dp (N:=2) rfl ?_);refine Do ?hg (N:=2) ?hd (cs:=#[.int .i64 a0_0,.int .i64 a0_1,.slice A0_2 l0_2.length c0_2]) (t:=27) ?hr ?_;(case hd=>rfl);(case hg=>rfl);(case hr=>first|(go_simp;done)|(go_simp;rfl));intro gb155 hg w4 hbox hb;have n0_:=Da (Dl (by repeat(first|(with_reducible first|exact HB.out|apply Dd|apply Db|apply Dc)|exact HB.out)) hb);have n1_:=Da (hbox);have n2_:=Da ((by rw [hg];exact(Di (by repeat(first|(with_reducible first|exact HB.out|apply Dd|apply Db|apply Dc)|exact HB.out))):w.heap.size≤gb155));have n3_:=Da ((by rw [hg];exact(Di (by repeat(first|(with_reducible first|exact HB.out|apply Dd|apply Db|apply Dc)|exact HB.out))):w.heap.size≤gb155));clear HB;have HB:=n0_;have BK155:=n1_;have GW155:=n2_;have GE155:=n3_;clear n0_ n1_ n2_ n3_;clear hb hbox hg;have hcz5_0:w4.cell? ⟨gb155,0,none⟩=some (.int .i64 a0_0):=(Dg BK155.out 0).trans rfl;have hcz5_1:w4.cell? ⟨gb155,1,none⟩=some (.int .i64 a0_1):=(Dg BK155.out 1).trans rfl;have hcz5_2:w4.cell? ⟨gb155,2,none⟩=some (.slice A0_2 l0_2.length c0_2):=(Dg BK155.out 2).trans rfl;have hfz5_0:=De BK155.out 0;have hfz5_1:=De BK155.out 1;have hfz5_2:=De BK155.out 2))
  repeat(go_quiet (first|((with_reducible refine Dp (N:=2) rfl ?_);refine Do ?hg (N:=2) ?hd (cs:=#[.int .i64 a0_0,.int .i64 a0_1,.slice A0_2 l0_2.length c0_2]) (t:=27) ?hr ?_;(case hd=>rfl);(case hg=>rfl);(case hr=>first|(go_simp;done)|(go_simp;rfl));intro gb155 hg w4 hbox hb;have n0_:=Da (Dl (by repeat(first|(with_reducible first|exact HB.out|apply Dd|apply Db|apply Dc)|exact HB.out)) hb);have n1_:=Da (hbox);have n2_:=Da ((by rw [hg];exact(Di (by repeat(first|(with_reducible first|exact HB.out|apply Dd|apply Db|apply Dc)|exact HB.out))):w.heap.size≤gb155));have n3_:=Da ((by rw [hg];exact(Di (by repeat(first|(with_reducible first|exact HB.out|apply Dd|apply Db|apply Dc)|exact HB.out))):w.heap.size≤gb155));clear HB;have HB:=n0_;have BK155:=n1_;have GW155:=n2_;have GE155:=n3_;clear n0_ n1_ n2_ n3_;clear hb hbox hg;have hcz5_0:w4.cell? ⟨gb155,0,none⟩=some (.int .i64 a0_0):=(Dg BK155.out 0).trans rfl;have hcz5_1:w4.cell? ⟨gb155,1,none⟩=some (.int .i64 a0_1):=(Dg BK155.out 1).trans rfl;have hcz5_2:w4.cell? ⟨gb155,2,none⟩=some (.slice A0_2 l0_2.length c0_2):=(Dg BK155.out 2).trans rfl;have hfz5_0:=De BK155.out 0;have hfz5_1:=De BK155.out 1;have hfz5_2:=De BK155.out 2));try go_wp2_with (first|((with_reducible refine Dp (N:=2) rfl ?_);refine Do ?hg (N:=2) ?hd (cs:=#[.int .i64 a0_0,.int .i64 a0_1,.slice A0_2 l0_2.length c0_2]) (t:=27) ?hr ?_;(case hd=>rfl);(case hg=>rfl);(case hr=>first|(go_simp;done)|(go_simp;rfl));intro gb155 hg w4 hbox hb;have n0_:=Da (Dl (by repeat(first|(with_reducible first|exact HB.out|apply Dd|apply Db|apply Dc)|exact HB.out)) hb);have n1_:=Da (hbox);have n2_:=Da ((by rw [hg];exact(Di (by repeat(first|(with_reducible first|exact HB.out|apply Dd|apply Db|apply Dc)|exact HB.out))):w.heap.size≤gb155));have n3_:=Da ((by rw [hg];exact(Di (by repeat(first|(with_reducible first|exact HB.out|apply Dd|apply Db|apply Dc)|exact HB.out))):w.heap.size≤gb155));clear HB;have HB:=n0_;have BK155:=n1_;have GW155:=n2_;have GE155:=n3_;clear n0_ n1_ n2_ n3_;clear hb hbox hg;have hcz5_0:w4.cell? ⟨gb155,0,none⟩=some (.int .i64 a0_0):=(Dg BK155.out 0).trans rfl;have hcz5_1:w4.cell? ⟨gb155,1,none⟩=some (.int .i64 a0_1):=(Dg BK155.out 1).trans rfl;have hcz5_2:w4.cell? ⟨gb155,2,none⟩=some (.slice A0_2 l0_2.length c0_2):=(Dg BK155.out 2).trans rfl;have hfz5_0:=De BK155.out 0;have hfz5_1:=De BK155.out 1;have hfz5_2:=De BK155.out 2)))
  go_ret2
  exact⟨by first|rfl|(simp [errW_none,errW_some] <;> rfl)|(simp [*,errW_none,errW_some] <;> rfl),by repeat(first|(with_reducible first|exact HB.out|apply Dd|apply Db|apply Dc|refine Dh ?_ GE155.out)|exact HB.out)⟩

/-! ### impl_Picture_at: function 78 -/
def impl_Picture_at.l0 : Nat → Int → Int → Int → Int → List Int → Int → Int → Int → List Int → Option (List Int)
 | 0, _, _, _, _, _, _, _, _, _ => none
 | k + 1, x2, x3, x9, x10, x11, x22, x157000, x157001, x157002 => if x22 < 16 then (if 0 ≤ (wrap64 ((wrap64 ((mn (mx (wrap64 ((wrap64 (x10 + (wrap64 (Int.tdiv x22 4)))) + x3)) 0) (wrap64 (x157001 - 1))) * x157000)) + (mn (mx (wrap64 ((wrap64 (x9 + (Int.tmod x22 4))) + x2)) 0) (wrap64 (x157000 - 1))))) then (if (wrap64 ((wrap64 ((mn (mx (wrap64 ((wrap64 (x10 + (wrap64 (Int.tdiv x22 4)))) + x3)) 0) (wrap64 (x157001 - 1))) * x157000)) + (mn (mx (wrap64 ((wrap64 (x9 + (Int.tmod x22 4))) + x2)) 0) (wrap64 (x157000 - 1))))) < (x157002.length : Int) then (if x11.length < 17592186044416 then (impl_Picture_at.l0 k x2 x3 x9 x10 (x11 ++ [rd x157002 (wrap64 ((wrap64 ((mn (mx (wrap64 ((wrap64 (x10 + (wrap64 (Int.tdiv x22 4)))) + x3)) 0) (wrap64 (x157001 - 1))) * x157000)) + (mn (mx (wrap64 ((wrap64 (x9 + (Int.tmod x22 4))) + x2)) 0) (wrap64 (x157000 - 1)))))]) (wrap64 (x22 + 1)) x157000 x157001 x157002) else (none)) else (none)) else (none)) else (some x11)
def impl_Picture_at.f (k : Nat) (a0_0 : Int) (a0_1 : Int) (l0_2 : List Int) (a1 : Int) (a2 : Int) (a3 : Int) : Option (List Int) := (impl_Picture_corner.f a0_0 a0_1 l0_2 a1).bind fun bt157 => (impl_Picture_at.l0 k a2 a3 bt157.1 bt157.2 (([] : List Int)) 0 a0_0 a0_1 l0_2)
theorem impl_Picture_at.mono_l : ∀ k, (∀ y0 y1 y2 y3 y4 y5 y6 y7 y8, LeO (impl_Picture_at.l0 k y0 y1 y2 y3 y4 y5 y6 y7 y8) (impl_Picture_at.l0 (k + 1) y0 y1 y2 y3 y4 y5 y6 y7 y8))
 | 0 => fun _ _ _ _ _ _ _ _ _ r h => by simp [impl_Picture_at.l0] at h
 | k + 1 => by
  have ih0:=impl_Picture_at.mono_l k
  ·intro y0 y1 y2 y3 y4 y5 y6 y7 y8
   unfold impl_Picture_at.l0
   repeat' first
   | (with_reducible exact ih0 _ _ _ _ _ _ _ _ _)
   | (with_reducible exact LeO.refl _)
   | (with_reducible exact LeO.none _)
   | (with_reducible refine LeO.ite ?_ ?_)
   | (with_reducible refine LeO.bind ?_ (fun _ => ?_))
   | exact ih0 _ _ _ _ _ _ _ _ _
   | exact LeO.none _
   | refine LeO.ite ?_ ?_
   | refine LeO.bind ?_ (fun _ => ?_)
theorem impl_Picture_at.mono : ∀ a0 a1 a2 a3 a4 a5 k, LeO (impl_Picture_at.f k a0 a1 a2 a3 a4 a5) (impl_Picture_at.f (k + 1) a0 a1 a2 a3 a4 a5) := by
 intro a0 a1 a2 a3 a4 a5 k
 have ih0:=impl_Picture_at.mono_l k
 unfold impl_Picture_at.f
 repeat' first
   | (with_reducible exact ih0 _ _ _ _ _ _ _ _ _)
   | (with_reducible exact LeO.refl _)
   | (with_reducible exact LeO.none _)
   | (with_reducible refine LeO.ite ?_ ?_)
   | (with_reducible refine LeO.bind ?_ (fun _ => ?_))
   | exact ih0 _ _ _ _ _ _ _ _ _
   | exact LeO.none _
   | refine LeO.ite ?_ ?_
   | refine LeO.bind ?_ (fun _ => ?_)
set_option maxHeartbeats 8000000 in
set_option maxRecDepth 100000 in
theorem impl_Picture_at.calls (k : Nat) (a0_0 : Int) (a0_1 : Int) (A0_2 : Option Addr) (c0_2 : Nat) (l0_2 : List Int) (a1 : Int) (a2 : Int) (a3 : Int) (r : List Int) (w : World) (hr0_2 : Kd.C (Kd.int .i64) w A0_2 l0_2.length l0_2) (hc0_2 : l0_2.length ≤ c0_2) (h : impl_Picture_at.f k a0_0 a0_1 l0_2 a1 a2 a3 = some r) :
  Calls Try.prog 78 #[.agg #[.int .i64 a0_0,.int .i64 a0_1,.slice A0_2 l0_2.length c0_2],.int .i64 a1,.int .i64 a2,.int .i64 a3] w fun e w'=>∃ v0_:Value,e=.returned (v0_)∧Kd.R (Kd.int .i64) 2 w' w.heap.size (fun _=>True) v0_ r∧Below w.heap.size w w':=by
 have hu27:=Try.underlying27
 have HR0_2:=Da hr0_2
 have HC0_2:=Da hc0_2
 clear hr0_2 hc0_2
 have HB:=Da (Below.refl w.heap.size w)
 have H:((impl_Picture_corner.f a0_0 a0_1 l0_2 a1).bind fun bt157=>(impl_Picture_at.l0 k a2 a3 bt157.1 bt157.2 (([]:List Int)) 0 a0_0 a0_1 l0_2))=some r:=h
 clear h
 replace H:=Option.bind_eq_some_iff.mp H
 obtain⟨⟨t157,t158⟩,A50,H⟩:=H
 replace H:(impl_Picture_at.l0 k a2 a3 t157 t158 (([]:List Int)) 0 a0_0 a0_1 l0_2)=some r:=H
 have A5:=Da A50
 clear A50
 obtain⟨y159,hy159⟩:∃ y_:List Int,y_=(([]:List Int)):=⟨_,rfl⟩
 replace H:(impl_Picture_at.l0 k a2 a3 t157 t158 y159 0 a0_0 a0_1 l0_2)=some r:=by first|(rw [hy159];with_reducible exact H)|(have H2_:=(Option.bind_some _ _).symm.trans H;rw [hy159];with_reducible exact H2_)|(have H2_:=(Option.bind_some _ _).symm.trans H;with_reducible exact H2_)|with_reducible exact H|(rw [hy159];exact H)|exact H
 have Ny159:=Da hy159
 clear hy159
 have H':=Da H
 clear H
 go_enter Try.func78,Try.ntmps78
 go_wp2_with (first|((with_reducible refine Dp (N:=4) rfl ?_);refine Do ?hg (N:=4) ?hd (cs:=#[.int .i64 a0_0,.int .i64 a0_1,.slice A0_2 l0_2.length c0_2]) (t:=27) ?hr ?_;(case hd=>rfl);(case hg=>rfl);(case hr=>first|(go_simp;done)|(go_simp;rfl));intro gb156 hg w6 hbox hb;have n0_:=Da (Dl (by repeat(first|(with_reducible first|exact HB.out|apply Dd|apply Db|apply Dc)|exact HB.out)) hb);have n1_:=Da (hbox);have n2_:=Da ((by rw [hg];exact(Di (by repeat(first|(with_reducible first|exact HB.out|apply Dd|apply Db|apply Dc)|exact HB.out))):w.heap.size≤gb156));have n3_:=Da ((by rw [hg];exact(Di (by repeat(first|(with_reducible first|exact HB.out|apply Dd|apply Db|apply Dc)|exact HB.out))):w.heap.size≤gb156));clear HB;have HB:=n0_;have BK156:=n1_;have GW156:=n2_;have GE156:=n3_;clear n0_ n1_ n2_ n3_;clear hb hbox hg;have hcz7_0:w6.cell? ⟨gb156,0,none⟩=some (.int .i64 a0_0):=(Dg BK156.out 0).trans rfl;have hcz7_1:w6.cell? ⟨gb156,1,none⟩=some (.int .i64 a0_1):=(Dg BK156.out 1).trans rfl;have hcz7_2:w6.cell? ⟨gb156,2,none⟩=some (.slice A0_2 l0_2.length c0_2):=(Dg BK156.out 2).trans rfl;have hfz7_0:=De BK156.out 0;have hfz7_1:=De BK156.out 1;have hfz7_2:=De BK156.out 2)|((with_reducible refine gate_callee (f:=76) rfl ?_);refine goesL_ (some 18) rfl rfl Try.func76 (by kernel_rfl) rfl #[.agg #[.int .i64 a0_0,.int .i64 a0_1,.slice A0_2 l0_2.length c0_2],.int .i64 a1] rfl (by(try simp only [List.map_toArray,List.map_cons,List.map_nil]);first|done|rfl|(simp only [List.length_drop,List.length_take];rfl)) ?_;(with_reducible refine(impl_Picture_corner.calls a0_0 a0_1 _ _ l0_2 a1 t157 t158 _ ?side1 ?side2 A5.out).mono ?_);(case side1=>repeat(first|exact(Dr HR0_2.out HB.out)|(with_reducible refine Ds ?_ _)|(with_reducible refine Dq ?_ _)|(with_reducible refine Dm ?_)));(case side2=>exact HC0_2.out);rintro e w8 ⟨rfl,hb⟩;refine⟨_,rfl,?_⟩;have n0_:=Da (Dn (g:=gb156) (o:=.cells #[.int .i64 a0_0,.int .i64 a0_1,.slice A0_2 l0_2.length c0_2] 27 (0,0)) (by(with_reducible repeat(first|refine Dk ?_ _|refine Df ?_|refine Dj ?_ _));exact BK156.out) hb);have n1_:=Da (Dl (by repeat(first|(with_reducible first|exact HB.out|apply Dd|apply Db|apply Dc|refine Dh ?_ GE156.out)|exact HB.out)) hb);clear BK156;clear HB;have BK156:=n0_;have HB:=n1_;clear n0_ n1_;(try clear hb);(try clear hb2);(try clear hk);(try clear hi))|((with_reducible refine Dp (N:=21) rfl ?_);refine Kd.R_lit (Kd.int .i64) _ 2 ?hg (N:=21) ?hd (xs:=([]:List Int)) (inner:=[]) (ok:=fun _=>True) (okp:=fun _=>True) ?hr ?hp (fun _ hk=>hk) trivial (Below.refl _ _) (Nat.le_refl _) (by simp) ?_;(case hd=>rfl);(case hg=>rfl);(case hr=>first|(go_simp;done)|(go_simp;rfl));(case hp=>exact(Reps.none _ _));intro v160 w9 ho10 hb hg_ hnew_;clear hg_ hnew_;(first|rw [← Ny159.out] at ho10|(simp only [Int.reduceToNat] at ho10;rw [← Ny159.out] at ho10));have n0_:=Da (Kd.R_lower ho10 (Di (by repeat(first|(with_reducible first|exact HB.out|apply Dd|apply Db|apply Dc|refine Dh ?_ GE156.out)|exact HB.out))));have n1_:=Da (Dn (g:=gb156) (o:=.cells #[.int .i64 a0_0,.int .i64 a0_1,.slice A0_2 l0_2.length c0_2] 27 (0,0)) (by(with_reducible repeat(first|refine Dk ?_ _|refine Df ?_|refine Dj ?_ _));exact BK156.out) hb);have n2_:=Da (Dl (by repeat(first|(with_reducible first|exact HB.out|apply Dd|apply Db|apply Dc|refine Dh ?_ GE156.out)|exact HB.out)) hb);clear BK156;clear HB;have HO161:=n0_;have BK156:=n1_;have HB:=n2_;clear n0_ n1_ n2_;clear hb ho10))
 go_loopg [11,22] k (fun kq v11 v22 w'=>∃ (x11_1:List Int) (x22_1:Int),v22=.int .i64 x22_1∧Aside0 (impl_Picture_at.l0 kq a2 a3 t157 t158 x11_1 x22_1 a0_0 a0_1 l0_2=some r)∧Aside0 (kq≤k)∧Aside0 (Kd.R (Kd.int .i64) 2 w' w.heap.size (fun _=>True) v11 x11_1)∧Aside0 (w'.heap[gb156]? = some (.cells #[.int .i64 a0_0,.int .i64 a0_1,(.slice A0_2 l0_2.length c0_2)] 27 (0,0)))∧Aside0 (Below w.heap.size w w'))
 case atStart=>exact⟨(y159),(0),(by first|rfl|(simp;done)|(simp [*];done)),H',⟨Nat.le_refl _⟩,⟨by(with_reducible repeat(first|apply Kd.R_alloc|apply Kd.R_drewN|apply Kd.R_drew));exact HO161.out⟩,⟨by(with_reducible repeat(first|refine Dk ?_ _|refine Df ?_|refine Dj ?_ _));exact BK156.out⟩,⟨by repeat(first|(with_reducible first|exact HB.out|apply Dd|apply Db|apply Dc|refine Dh ?_ GE156.out)|exact HB.out)⟩⟩
 case round=>
  clear H'
  try clear p2
  try clear c7
  try clear hcz7_0
  try clear hcz7_1
  try clear hcz7_2
  try clear hfz7_0
  try clear hfz7_1
  try clear hfz7_2
  obtain⟨x11_1,x22_1,rfl,HA,HK1,HO_11,BK156,HB⟩:=hrel
  cases gk with
  | zero => exact absurd HA.out (by simp [impl_Picture_at.l0])
  | succ k1 =>
   have H:=HA.out
   clear HA
   simp only [impl_Picture_at.l0] at H
   by_cases c11:x22_1 < 16
   ·rw [if_pos c11] at H
    have c11b0:decide (x22_1 < 16)=true:=decide_eq_true c11
    clear c11
    obtain⟨ji12,hji12⟩:∃ j_:Int,(mx (wrap64 ((wrap64 (t157+(Int.tmod x22_1 4)))+a2)) 0)=j_:=⟨_,rfl⟩
    replace H:(if 0≤(wrap64 ((wrap64 ((mn (mx (wrap64 ((wrap64 (t158+(wrap64 (Int.tdiv x22_1 4))))+a3)) 0) (wrap64 (a0_1 - 1)))*a0_0))+(mn (ji12) (wrap64 (a0_0 - 1))))) then (if (wrap64 ((wrap64 ((mn (mx (wrap64 ((wrap64 (t158+(wrap64 (Int.tdiv x22_1 4))))+a3)) 0) (wrap64 (a0_1 - 1)))*a0_0))+(mn (ji12) (wrap64 (a0_0 - 1))))) < (l0_2.length:Int) then (if x11_1.length < 17592186044416 then (impl_Picture_at.l0 k1 a2 a3 t157 t158 (x11_1 ++ [rd l0_2 (wrap64 ((wrap64 ((mn (mx (wrap64 ((wrap64 (t158+(wrap64 (Int.tdiv x22_1 4))))+a3)) 0) (wrap64 (a0_1 - 1)))*a0_0))+(mn (ji12) (wrap64 (a0_0 - 1)))))]) (wrap64 (x22_1+1)) a0_0 a0_1 l0_2) else (none)) else (none)) else (none))=some r:=by first|(rw [hji12] at H;exact H)|(simp only [hji12] at H ⊢;exact H)
    have hji12_:(if (wrap64 ((wrap64 (t157+(Int.tmod x22_1 4)))+a2)) < 0 then 0 else (wrap64 ((wrap64 (t157+(Int.tmod x22_1 4)))+a2)))=ji12:=hji12
    obtain⟨ji13,hji13⟩:∃ j_:Int,(mn (ji12) (wrap64 (a0_0 - 1)))=j_:=⟨_,rfl⟩
    replace H:(if 0≤(wrap64 ((wrap64 ((mn (mx (wrap64 ((wrap64 (t158+(wrap64 (Int.tdiv x22_1 4))))+a3)) 0) (wrap64 (a0_1 - 1)))*a0_0))+(ji13))) then (if (wrap64 ((wrap64 ((mn (mx (wrap64 ((wrap64 (t158+(wrap64 (Int.tdiv x22_1 4))))+a3)) 0) (wrap64 (a0_1 - 1)))*a0_0))+(ji13))) < (l0_2.length:Int) then (if x11_1.length < 17592186044416 then (impl_Picture_at.l0 k1 a2 a3 t157 t158 (x11_1 ++ [rd l0_2 (wrap64 ((wrap64 ((mn (mx (wrap64 ((wrap64 (t158+(wrap64 (Int.tdiv x22_1 4))))+a3)) 0) (wrap64 (a0_1 - 1)))*a0_0))+(ji13)))]) (wrap64 (x22_1+1)) a0_0 a0_1 l0_2) else (none)) else (none)) else (none))=some r:=by first|(rw [hji13] at H;exact H)|(simp only [hji13] at H ⊢;exact H)
    have hji13_:(if (wrap64 (a0_0 - 1)) < (ji12) then (wrap64 (a0_0 - 1)) else (ji12))=ji13:=hji13
    obtain⟨ji14,hji14⟩:∃ j_:Int,(mx (wrap64 ((wrap64 (t158+(wrap64 (Int.tdiv x22_1 4))))+a3)) 0)=j_:=⟨_,rfl⟩
    replace H:(if 0≤(wrap64 ((wrap64 ((mn (ji14) (wrap64 (a0_1 - 1)))*a0_0))+(ji13))) then (if (wrap64 ((wrap64 ((mn (ji14) (wrap64 (a0_1 - 1)))*a0_0))+(ji13))) < (l0_2.length:Int) then (if x11_1.length < 17592186044416 then (impl_Picture_at.l0 k1 a2 a3 t157 t158 (x11_1 ++ [rd l0_2 (wrap64 ((wrap64 ((mn (ji14) (wrap64 (a0_1 - 1)))*a0_0))+(ji13)))]) (wrap64 (x22_1+1)) a0_0 a0_1 l0_2) else (none)) else (none)) else (none))=some r:=by first|(rw [hji14] at H;exact H)|(simp only [hji14] at H ⊢;exact H)
    have hji14_:(if (wrap64 ((wrap64 (t158+(wrap64 (Int.tdiv x22_1 4))))+a3)) < 0 then 0 else (wrap64 ((wrap64 (t158+(wrap64 (Int.tdiv x22_1 4))))+a3)))=ji14:=hji14
    obtain⟨ji15,hji15⟩:∃ j_:Int,(mn (ji14) (wrap64 (a0_1 - 1)))=j_:=⟨_,rfl⟩
    replace H:(if 0≤(wrap64 ((wrap64 ((ji15)*a0_0))+(ji13))) then (if (wrap64 ((wrap64 ((ji15)*a0_0))+(ji13))) < (l0_2.length:Int) then (if x11_1.length < 17592186044416 then (impl_Picture_at.l0 k1 a2 a3 t157 t158 (x11_1 ++ [rd l0_2 (wrap64 ((wrap64 ((ji15)*a0_0))+(ji13)))]) (wrap64 (x22_1+1)) a0_0 a0_1 l0_2) else (none)) else (none)) else (none))=some r:=by first|(rw [hji15] at H;exact H)|(simp only [hji15] at H ⊢;exact H)
    have hji15_:(if (wrap64 (a0_1 - 1)) < (ji14) then (wrap64 (a0_1 - 1)) else (ji14))=ji15:=hji15
    obtain⟨ji16,hji16⟩:∃ j_:Int,(wrap64 ((wrap64 ((ji15)*a0_0))+(ji13)))=j_:=⟨_,rfl⟩
    replace H:(if 0≤(ji16) then (if (ji16) < (l0_2.length:Int) then (if x11_1.length < 17592186044416 then (impl_Picture_at.l0 k1 a2 a3 t157 t158 (x11_1 ++ [rd l0_2 (ji16)]) (wrap64 (x22_1+1)) a0_0 a0_1 l0_2) else (none)) else (none)) else (none))=some r:=by first|(rw [hji16] at H;exact H)|(simp only [hji16] at H ⊢;exact H)
    have hji16w:(IntKind.i64.wrap ((wrap64 ((ji15)*a0_0))+(ji13)))=ji16:=(i64_w _).trans hji16
    by_cases c17:0≤(ji16)
    ·rw [if_pos c17] at H
     have c17b0:decide (0≤(ji16))=true:=decide_eq_true c17
     clear c17
     by_cases c18:(ji16) < (l0_2.length:Int)
     ·rw [if_pos c18] at H
      have c18b0:decide ((ji16) < (l0_2.length:Int))=true:=decide_eq_true c18
      clear c18
      by_cases c19:x11_1.length < 17592186044416
      ·rw [if_pos c19] at H
       have LMc19:=Da c19
       clear c19
       obtain⟨y163,hy163⟩:∃ y_:List Int,y_=(x11_1 ++ [rd l0_2 (ji16)]):=⟨_,rfl⟩
       replace H:(impl_Picture_at.l0 k1 a2 a3 t157 t158 y163 (wrap64 (x22_1+1)) a0_0 a0_1 l0_2)=some r:=by first|(rw [hy163];with_reducible exact H)|(have H2_:=(Option.bind_some _ _).symm.trans H;rw [hy163];with_reducible exact H2_)|(have H2_:=(Option.bind_some _ _).symm.trans H;with_reducible exact H2_)|with_reducible exact H|(rw [hy163];exact H)|exact H
       have Ny163:=Da hy163
       clear hy163
       have H':=Da H
       clear H
       have hcz20_0:wr.cell? ⟨gb156,0,none⟩=some (.int .i64 a0_0):=(Dg BK156.out 0).trans rfl
       have hcz20_1:wr.cell? ⟨gb156,1,none⟩=some (.int .i64 a0_1):=(Dg BK156.out 1).trans rfl
       have hcz20_2:wr.cell? ⟨gb156,2,none⟩=some (.slice A0_2 l0_2.length c0_2):=(Dg BK156.out 2).trans rfl
       have hfz20_0:=De BK156.out 0
       have hfz20_1:=De BK156.out 1
       have hfz20_2:=De BK156.out 2
       have p162:0≤((ji16):Int):=of_decide_eq_true (by first|(with_reducible assumption)|assumption)
       have q162:(ji16) < (l0_2.length:Int):=of_decide_eq_true (by first|(with_reducible assumption)|assumption)
       obtain⟨ad162,e162,hx162_0⟩:=Kd.at_int HR0_2.out (ji16) p162 q162
       cases e162
       replace hx162_0:=(HB.out.cell (World.block_lt_of_cell? w _ hx162_0)).trans hx162_0
       replace p162:=eq_true p162
       replace q162:=eq_true q162
       go_wp2_with (first|((with_reducible refine gate_builtin (b:=.append) (xs:=#[.tmp 47,.tmp 58]) rfl ?_);at_builtin;refine Kd.R_append (Kd.int .i64) (w0:=w) w.heap.size rfl (.tmp 47) (.tmp 58) 22 2 (.int .i64 0) 8 rfl Try.underlying22 info2 rfl (by decide) (by omega) u11 x11_1 (rd l0_2 (ji16)) [.int .i64 (rd l0_2 (ji16))] (fun _=>True) (fun _=>False) rfl rfl ?aP (fun _ hk=>hk.elim) ?aF ?aO ?aB ?aS ?aL ?_;(case aP=>exact rfl);(case aB=>exact(by repeat(first|(with_reducible first|exact HB.out|apply Dd|apply Db|apply Dc|refine Dh ?_ GE156.out)|exact HB.out)));(case aF=>exact(fun _ _=>trivial));(case aO=>exact(by(with_reducible repeat(first|apply Kd.R_alloc|apply Kd.R_drewN|apply Kd.R_drew));exact HO_11.out));(case aS=>exact(Di (by repeat(first|(with_reducible first|exact HB.out|apply Dd|apply Db|apply Dc|refine Dh ?_ GE156.out)|exact HB.out))));(case aL=>have:=LMc19.out;omega);intro v164 w21 ho hb hg hat;rw [← Ny163.out] at ho;have n0_:=Da (blk_grown (g:=gb156) (o:=.cells #[.int .i64 a0_0,.int .i64 a0_1,.slice (some ad162) l0_2.length c0_2] 27 (0,0)) (by(with_reducible repeat(first|refine Dk ?_ _|refine Df ?_|refine Dj ?_ _));exact BK156.out) hg (Kd.R_ne HO_11.out BK156.out (by decide)));have n1_:=Da (hb);have n2_:=Da (ho);clear BK156;clear HB;clear HO_11;have BK156:=n0_;have HB:=n1_;have HO165:=n2_;clear n0_ n1_ n2_;clear ho hb hg hat))
       go_roundg k1
       case measure=>have:=HK1.out;omega
       case rel=>exact⟨(y163),(wrap64 (x22_1+1)),(by first|rfl|(simp;done)|(simp [*];done)),H',⟨by have:=HK1.out;omega⟩,⟨by(with_reducible repeat(first|apply Kd.R_alloc|apply Kd.R_drewN|apply Kd.R_drew));exact HO165.out⟩,⟨by(with_reducible repeat(first|refine Dk ?_ _|refine Df ?_|refine Dj ?_ _));exact BK156.out⟩,⟨by repeat(first|(with_reducible first|exact HB.out|apply Dd|apply Db|apply Dc|refine Dh ?_ GE156.out)|exact HB.out)⟩⟩
      ·rw [if_neg c19] at H
       exact absurd H (by simp)
     ·rw [if_neg c18] at H
      exact absurd H (by simp)
    ·rw [if_neg c17] at H
     exact absurd H (by simp)
   ·rw [if_neg c11] at H
    have c11b0:decide (x22_1 < 16)=false:=decide_eq_false c11
    clear c11
    obtain rfl:=Option.some.inj H
    go_wp2
    go_ret
    exact⟨_,by first|rfl|(simp [errW_none,errW_some] <;> rfl)|(simp [*,errW_none,errW_some] <;> rfl),by(with_reducible repeat(first|apply Kd.R_alloc|apply Kd.R_drewN|apply Kd.R_drew));exact HO_11.out,by repeat(first|(with_reducible first|exact HB.out|apply Dd|apply Db|apply Dc|refine Dh ?_ GE156.out)|exact HB.out)⟩

/-! ### impl_offBy: function 87 -/
def impl_offBy.l0 : Nat → List Int → Int → List Int → Int → Int → Option (Int)
 | 0, _, _, _, _, _ => none
 | k + 1, x1, x5, x8, x9, x10 => if x10 < x9 then (if 0 ≤ x10 then (if x10 < (x8.length : Int) then (if x10 < (x1.length : Int) then (impl_offBy.l0 k x1 (wrap64 (x5 + (mx (wrap64 ((rd x8 x10) - (rd x1 x10))) (wrap64 ((rd x1 x10) - (rd x8 x10)))))) x8 x9 (wrap64 (x10 + 1))) else (none)) else (none)) else (none)) else (some x5)
def impl_offBy.f (k : Nat) (l0 : List Int) (l1 : List Int) : Option (Int) := impl_offBy.l0 k l1 0 l0 (l0.length : Int) 0
theorem impl_offBy.mono_l : ∀ k, (∀ y0 y1 y2 y3 y4, LeO (impl_offBy.l0 k y0 y1 y2 y3 y4) (impl_offBy.l0 (k + 1) y0 y1 y2 y3 y4))
 | 0 => fun _ _ _ _ _ r h => by simp [impl_offBy.l0] at h
 | k + 1 => by
  have ih0:=impl_offBy.mono_l k
  ·intro y0 y1 y2 y3 y4
   unfold impl_offBy.l0
   repeat' first
   | (with_reducible exact ih0 _ _ _ _ _)
   | (with_reducible exact LeO.refl _)
   | (with_reducible exact LeO.none _)
   | (with_reducible refine LeO.ite ?_ ?_)
   | (with_reducible refine LeO.bind ?_ (fun _ => ?_))
   | exact ih0 _ _ _ _ _
   | exact LeO.none _
   | refine LeO.ite ?_ ?_
   | refine LeO.bind ?_ (fun _ => ?_)
theorem impl_offBy.mono : ∀ a0 a1 k, LeO (impl_offBy.f k a0 a1) (impl_offBy.f (k + 1) a0 a1) := by
 intro a0 a1 k
 have ih0:=impl_offBy.mono_l k
 unfold impl_offBy.f
 repeat' first
   | (with_reducible exact ih0 _ _ _ _ _)
   | (with_reducible exact LeO.refl _)
   | (with_reducible exact LeO.none _)
   | (with_reducible refine LeO.ite ?_ ?_)
   | (with_reducible refine LeO.bind ?_ (fun _ => ?_))
   | exact ih0 _ _ _ _ _
   | exact LeO.none _
   | refine LeO.ite ?_ ?_
   | refine LeO.bind ?_ (fun _ => ?_)
set_option maxHeartbeats 8000000 in
set_option maxRecDepth 100000 in
theorem impl_offBy.calls (k : Nat) (A0 : Option Addr) (c0 : Nat) (l0 : List Int) (A1 : Option Addr) (c1 : Nat) (l1 : List Int) (r : Int) (w : World) (hr0 : Kd.C (Kd.int .i64) w A0 l0.length l0) (hc0 : l0.length ≤ c0) (hr1 : Kd.C (Kd.int .i64) w A1 l1.length l1) (hc1 : l1.length ≤ c1) (h : impl_offBy.f k l0 l1 = some r) :
  Calls Try.prog 87 #[.slice A0 l0.length c0,.slice A1 l1.length c1] w fun e w'=>e=.returned (.int .i64 r)∧Below w.heap.size w w':=by
 have HR0:=Da hr0
 have HC0:=Da hc0
 clear hr0 hc0
 have HR1:=Da hr1
 have HC1:=Da hc1
 clear hr1 hc1
 have HB:=Da (Below.refl w.heap.size w)
 have H:(impl_offBy.l0 k l1 0 l0 (l0.length:Int) 0)=some r:=h
 clear h
 have H':=Da H
 clear H
 go_enter Try.func87,Try.ntmps87
 go_wp2
 repeat(go_quiet (fail);try go_wp2)
 go_loopg [5,10] k (fun kq v5 v10 w'=>∃ (x5_1:Int) (x10_1:Int),v5=.int .i64 x5_1∧v10=.int .i64 x10_1∧Aside0 (impl_offBy.l0 kq l1 x5_1 l0 (l0.length:Int) x10_1=some r)∧Aside0 (kq≤k)∧Aside0 (Below w.heap.size w w'))
 case atStart=>exact⟨(0),(0),(by first|rfl|(simp;done)|(simp [*];done)),(by first|rfl|(simp;done)|(simp [*];done)),H',⟨Nat.le_refl _⟩,⟨by repeat(first|(with_reducible first|exact HB.out|apply Dd|apply Db|apply Dc)|exact HB.out)⟩⟩
 case round=>
  clear H'
  try clear c1
  try clear p2
  obtain⟨x5_1,x10_1,rfl,rfl,HA,HK1,HB⟩:=hrel
  cases gk with
  | zero => exact absurd HA.out (by simp [impl_offBy.l0])
  | succ k1 =>
   have H:=HA.out
   clear HA
   simp only [impl_offBy.l0] at H
   by_cases c3:x10_1 < (l0.length:Int)
   ·rw [if_pos c3] at H
    have c3b0:decide (x10_1 < (l0.length:Int))=true:=decide_eq_true c3
    clear c3
    by_cases c4:0≤x10_1
    ·rw [if_pos c4] at H
     have c4b0:decide (0≤x10_1)=true:=decide_eq_true c4
     clear c4
     by_cases c5:x10_1 < (l0.length:Int)
     ·rw [if_pos c5] at H
      have c5b0:decide (x10_1 < (l0.length:Int))=true:=decide_eq_true c5
      clear c5
      by_cases c6:x10_1 < (l1.length:Int)
      ·rw [if_pos c6] at H
       have c6b0:decide (x10_1 < (l1.length:Int))=true:=decide_eq_true c6
       clear c6
       obtain⟨ji7,hji7⟩:∃ j_:Int,(mx (wrap64 ((rd l0 x10_1) - (rd l1 x10_1))) (wrap64 ((rd l1 x10_1) - (rd l0 x10_1))))=j_:=⟨_,rfl⟩
       replace H:(impl_offBy.l0 k1 l1 (wrap64 (x5_1+(ji7))) l0 (l0.length:Int) (wrap64 (x10_1+1)))=some r:=by first|(rw [hji7] at H;exact H)|(simp only [hji7] at H ⊢;exact H)
       have hji7_:(if (wrap64 ((rd l0 x10_1) - (rd l1 x10_1))) < (wrap64 ((rd l1 x10_1) - (rd l0 x10_1))) then (wrap64 ((rd l1 x10_1) - (rd l0 x10_1))) else (wrap64 ((rd l0 x10_1) - (rd l1 x10_1))))=ji7:=hji7
       have H':=Da H
       clear H
       have p166:0≤(x10_1:Int):=of_decide_eq_true (by first|(with_reducible assumption)|assumption)
       have q166:x10_1 < (l0.length:Int):=of_decide_eq_true (by first|(with_reducible assumption)|assumption)
       obtain⟨ad166,e166,hx166_0⟩:=Kd.at_int HR0.out x10_1 p166 q166
       cases e166
       replace hx166_0:=(HB.out.cell (World.block_lt_of_cell? w _ hx166_0)).trans hx166_0
       replace p166:=eq_true p166
       replace q166:=eq_true q166
       have p167:0≤(x10_1:Int):=of_decide_eq_true (by first|(with_reducible assumption)|assumption)
       have q167:x10_1 < (l1.length:Int):=of_decide_eq_true (by first|(with_reducible assumption)|assumption)
       obtain⟨ad167,e167,hx167_0⟩:=Kd.at_int HR1.out x10_1 p167 q167
       cases e167
       replace hx167_0:=(HB.out.cell (World.block_lt_of_cell? w _ hx167_0)).trans hx167_0
       replace p167:=eq_true p167
       replace q167:=eq_true q167
       have p168:0≤(x10_1:Int):=of_decide_eq_true (by first|(with_reducible assumption)|assumption)
       have q168:x10_1 < (l1.length:Int):=of_decide_eq_true (by first|(with_reducible assumption)|assumption)
       obtain⟨ad168,e168,hx168_0⟩:=Kd.at_int HR1.out x10_1 p168 q168
       obtain rfl:ad167=ad168:=(by injection e168)
       replace hx168_0:=(HB.out.cell (World.block_lt_of_cell? w _ hx168_0)).trans hx168_0
       replace p168:=eq_true p168
       replace q168:=eq_true q168
       go_wp2
       repeat(go_quiet (fail);try go_wp2)
       go_roundg k1
       case measure=>have:=HK1.out;omega
       case rel=>exact⟨(wrap64 (x5_1+(ji7))),(wrap64 (x10_1+1)),(by first|rfl|(simp;done)|(simp only [← hji7] <;> (first|rfl|simp))|(simp [*];done)),(by first|rfl|(simp;done)|(simp [*];done)),H',⟨by have:=HK1.out;omega⟩,⟨by repeat(first|(with_reducible first|exact HB.out|apply Dd|apply Db|apply Dc)|exact HB.out)⟩⟩
      ·rw [if_neg c6] at H
       exact absurd H (by simp)
     ·rw [if_neg c5] at H
      exact absurd H (by simp)
    ·rw [if_neg c4] at H
     exact absurd H (by simp)
   ·rw [if_neg c3] at H
    have c3b0:decide (x10_1 < (l0.length:Int))=false:=decide_eq_false c3
    clear c3
    obtain rfl:=Option.some.inj H
    go_wp2
    repeat(go_quiet (fail);try go_wp2)
    go_ret
    exact⟨by first|rfl|(simp [errW_none,errW_some] <;> rfl)|(simp [*,errW_none,errW_some] <;> rfl),by repeat(first|(with_reducible first|exact HB.out|apply Dd|apply Db|apply Dc)|exact HB.out)⟩

/-! ### cmp_Or_int: function 90 -/
def cmp_Or_int.l0 : Nat → Int → List Int → Int → Int → Option (Int)
 | 0, _, _, _, _ => none
 | k + 1, x3, x6, x7, x8 => if x8 < x7 then (if 0 ≤ x8 then (if x8 < (x6.length : Int) then (if (rd x6 x8) = x3 then (cmp_Or_int.l0 k x3 x6 x7 (wrap64 (x8 + 1))) else (some (rd x6 x8))) else (none)) else (none)) else (some x3)
def cmp_Or_int.f (k : Nat) (l0 : List Int) : Option (Int) := cmp_Or_int.l0 k 0 l0 (l0.length : Int) 0
theorem cmp_Or_int.mono_l : ∀ k, (∀ y0 y1 y2 y3, LeO (cmp_Or_int.l0 k y0 y1 y2 y3) (cmp_Or_int.l0 (k + 1) y0 y1 y2 y3))
 | 0 => fun _ _ _ _ r h => by simp [cmp_Or_int.l0] at h
 | k + 1 => by
  have ih0:=cmp_Or_int.mono_l k
  ·intro y0 y1 y2 y3
   unfold cmp_Or_int.l0
   repeat' first
   | (with_reducible exact ih0 _ _ _ _)
   | (with_reducible exact LeO.refl _)
   | (with_reducible exact LeO.none _)
   | (with_reducible refine LeO.ite ?_ ?_)
   | (with_reducible refine LeO.bind ?_ (fun _ => ?_))
   | exact ih0 _ _ _ _
   | exact LeO.none _
   | refine LeO.ite ?_ ?_
   | refine LeO.bind ?_ (fun _ => ?_)
theorem cmp_Or_int.mono : ∀ a0 k, LeO (cmp_Or_int.f k a0) (cmp_Or_int.f (k + 1) a0) := by
 intro a0 k
 have ih0:=cmp_Or_int.mono_l k
 unfold cmp_Or_int.f
 repeat' first
   | (with_reducible exact ih0 _ _ _ _)
   | (with_reducible exact LeO.refl _)
   | (with_reducible exact LeO.none _)
   | (with_reducible refine LeO.ite ?_ ?_)
   | (with_reducible refine LeO.bind ?_ (fun _ => ?_))
   | exact ih0 _ _ _ _
   | exact LeO.none _
   | refine LeO.ite ?_ ?_
   | refine LeO.bind ?_ (fun _ => ?_)
set_option maxHeartbeats 8000000 in
set_option maxRecDepth 100000 in
theorem cmp_Or_int.calls (k : Nat) (A0 : Option Addr) (c0 : Nat) (l0 : List Int) (r : Int) (w : World) (hr0 : Kd.C (Kd.int .i64) w A0 l0.length l0) (hc0 : l0.length ≤ c0) (h : cmp_Or_int.f k l0 = some r) :
  Calls Try.prog 90 #[.slice A0 l0.length c0] w fun e w'=>e=.returned (.int .i64 r)∧Drawn0 w w':=by
 have HR0:=Da hr0
 have HC0:=Da hc0
 clear hr0 hc0
 have H:(cmp_Or_int.l0 k 0 l0 (l0.length:Int) 0)=some r:=h
 clear h
 have H':=Da H
 clear H
 go_enter Try.func90,Try.ntmps90
 go_wp2
 go_loopg [8] k (fun kq v8 w'=>∃ (qa:Int),v8=.int .i64 qa∧Aside0 (cmp_Or_int.l0 kq 0 l0 (l0.length:Int) qa=some r)∧Aside0 (kq≤k)∧Drawn0 w w')
 case atStart=>exact⟨(0),(by first|rfl|(simp;done)|(simp [*];done)),H',⟨Nat.le_refl _⟩,by repeat(first|exact Drawn0.refl _|apply Drawn0.step)⟩
 case round=>
  clear H'
  obtain⟨qa,rfl,HA,HK1,⟨m1,rfl⟩⟩:=hrel
  cases gk with
  | zero => exact absurd HA.out (by simp [cmp_Or_int.l0])
  | succ k1 =>
   have H:=HA.out
   clear HA
   simp only [cmp_Or_int.l0] at H
   by_cases c2:qa < (l0.length:Int)
   ·rw [if_pos c2] at H
    have c2b0:decide (qa < (l0.length:Int))=true:=decide_eq_true c2
    clear c2
    by_cases c3:0≤qa
    ·rw [if_pos c3] at H
     have c3b0:decide (0≤qa)=true:=decide_eq_true c3
     clear c3
     by_cases c4:qa < (l0.length:Int)
     ·rw [if_pos c4] at H
      have c4b0:decide (qa < (l0.length:Int))=true:=decide_eq_true c4
      clear c4
      by_cases c5:(rd l0 qa)=0
      ·rw [if_pos c5] at H
       have c5b0:((rd l0 qa) == 0)=true:=beq_iff_eq.mpr c5
       have c5b1:((rd l0 qa) != 0)=false:=bne_eq_false_iff_eq.mpr c5
       clear c5
       have H':=Da H
       clear H
       have p169:0≤(qa:Int):=of_decide_eq_true (by first|(with_reducible assumption)|assumption)
       have q169:qa < (l0.length:Int):=of_decide_eq_true (by first|(with_reducible assumption)|assumption)
       obtain⟨ad169,e169,hx169_0⟩:=Kd.at_int HR0.out qa p169 q169
       cases e169
       replace p169:=eq_true p169
       replace q169:=eq_true q169
       go_wp2
       go_roundg k1
       case measure=>have:=HK1.out;omega
       case rel=>exact⟨(wrap64 (qa+1)),(by first|rfl|(simp;done)|(simp [*];done)),H',⟨by have:=HK1.out;omega⟩,by repeat(first|exact Drawn0.refl _|apply Drawn0.step)⟩
      ·rw [if_neg c5] at H
       have c5b0:((rd l0 qa) == 0)=false:=beq_eq_false_iff_ne.mpr c5
       have c5b1:((rd l0 qa) != 0)=true:=bne_iff_ne.mpr c5
       obtain rfl:=Option.some.inj H
       have p169:0≤(qa:Int):=of_decide_eq_true (by first|(with_reducible assumption)|assumption)
       have q169:qa < (l0.length:Int):=of_decide_eq_true (by first|(with_reducible assumption)|assumption)
       obtain⟨ad169,e169,hx169_0⟩:=Kd.at_int HR0.out qa p169 q169
       cases e169
       replace p169:=eq_true p169
       replace q169:=eq_true q169
       go_wp2
       go_ret
       exact⟨by first|rfl|(simp;done)|(simp [*];done),by repeat(first|exact Drawn0.refl _|apply Drawn0.step)⟩
     ·rw [if_neg c4] at H
      exact absurd H (by simp)
    ·rw [if_neg c3] at H
     exact absurd H (by simp)
   ·rw [if_neg c2] at H
    have c2b0:decide (qa < (l0.length:Int))=false:=decide_eq_false c2
    clear c2
    obtain rfl:=Option.some.inj H
    go_wp2
    go_ret
    exact⟨by first|rfl|(simp;done)|(simp [*];done),by repeat(first|exact Drawn0.refl _|apply Drawn0.step)⟩

/-! ### cmp_isNaN_int64: function 98 -/
def cmp_isNaN_int64.f (a0 : Int) : Option (Bool) := some (a0 != a0)
set_option maxHeartbeats 8000000 in
set_option maxRecDepth 100000 in
theorem cmp_isNaN_int64.calls (a0 : Int) (r : Bool) (w : World) (h : cmp_isNaN_int64.f a0 = some r) :
  Calls Try.prog 98 #[.int .i64 a0] w fun e w'=>e=.returned (.bool r)∧Drawn0 w w':=by
 have H:(some (a0 != a0))=some r:=h
 clear h
 obtain rfl:=Option.some.inj H
 go_enter Try.func98,Try.ntmps98
 go_wp2
 go_ret
 exact⟨by first|rfl|(simp;done)|(simp [*];done),by repeat(first|exact Drawn0.refl _|apply Drawn0.step)⟩

end Go.Proofs.Ytbdnpfjjaokdbaa.HFnMotion
