-- Laid by myprint.py, a program of this repo, out of the kit's printer and this repo's own texts (wip/hand).
import Derived.Test.YtbdnpfjjaokdbaaHFnDecodedx0
namespace Go.Proofs.Ytbdnpfjjaokdbaa.HFnDecoded
open Go.RowKit Go.Proofs.YtbdnpfjjaokdbaaW.PrintWords Go.Proofs.YtbdnpfjjaokdbaaW.PrintLast Go.Proofs.YtbdnpfjjaokdbaaW.PrintMore
attribute [local go_sem] max2_int min2_int max_two min_two max_three min_three max_four min_four   -- for this text's walks alone
set_option linter.unusedVariables false
set_option linter.unusedSimpArgs false
theorem Da : type_of% @Aside0.mk := @Aside0.mk
theorem Db : type_of% @pw_below_drewN := @pw_below_drewN
theorem Dc : type_of% @below_drew1 := @below_drew1
theorem Dd : type_of% @below_alloc := @below_alloc
theorem De : type_of% @blk_cell := @blk_cell

/-! ### spec_l1Min: function 59 -/
def spec_l1Min.f (a0 : Int) (a1 : Int) : Option (Int) := if a0 < a1 then (some a0) else (some a1)
set_option maxHeartbeats 8000000 in
set_option maxRecDepth 100000 in
theorem spec_l1Min.calls (a0 : Int) (a1 : Int) (r : Int) (w : World) (h : spec_l1Min.f a0 a1 = some r) :
  Calls Try.prog 59 #[.int .i64 a0,.int .i64 a1] w fun e w'=>e=.returned (.int .i64 r)∧Drawn0 w w':=by
 have H:(if a0 < a1 then (some a0) else (some a1))=some r:=h
 clear h
 by_cases c3:a0 < a1
 ·rw [if_pos c3] at H
  have c3b0:decide (a0 < a1)=true:=decide_eq_true c3
  clear c3
  obtain rfl:=Option.some.inj H
  go_enter Try.func59,Try.ntmps59
  go_wp2
  go_ret
  exact⟨by first|rfl|(simp;done)|(simp [*];done),by repeat(first|exact Drawn0.refl _|apply Drawn0.step)⟩
 ·rw [if_neg c3] at H
  have c3b0:decide (a0 < a1)=false:=decide_eq_false c3
  clear c3
  obtain rfl:=Option.some.inj H
  go_enter Try.func59,Try.ntmps59
  go_wp2
  go_ret
  exact⟨by first|rfl|(simp;done)|(simp [*];done),by repeat(first|exact Drawn0.refl _|apply Drawn0.step)⟩

/-! ### spec_l14Blocks: function 67 -/
def spec_l14Blocks.f (a0_0 : Int) (a0_1 : Int) (l0_2 : List Int) : Option (Int) := some (wrap64 ((wrap64 (Int.tdiv a0_0 4)) * (wrap64 (Int.tdiv a0_1 4))))
set_option maxHeartbeats 8000000 in
set_option maxRecDepth 100000 in
theorem spec_l14Blocks.calls (a0_0 : Int) (a0_1 : Int) (A0_2 : Option Addr) (c0_2 : Nat) (l0_2 : List Int) (r : Int) (w : World) (hr0_2 : Kd.C (Kd.int .i64) w A0_2 l0_2.length l0_2) (hc0_2 : l0_2.length ≤ c0_2) (h : spec_l14Blocks.f a0_0 a0_1 l0_2 = some r) :
  Calls Try.prog 67 #[.agg #[.int .i64 a0_0,.int .i64 a0_1,.slice A0_2 l0_2.length c0_2]] w fun e w'=>e=.returned (.int .i64 r)∧Below w.heap.size w w':=by
 have hu27:=Try.underlying27
 have HR0_2:=Da hr0_2
 have HC0_2:=Da hc0_2
 clear hr0_2 hc0_2
 have HB:=Da (Below.refl w.heap.size w)
 have H:(some (wrap64 ((wrap64 (Int.tdiv a0_0 4))*(wrap64 (Int.tdiv a0_1 4)))))=some r:=h
 clear h
 obtain rfl:=Option.some.inj H
 go_enter Try.func67,Try.ntmps67
 go_wp2_with (first|((with_reducible refine gate_dst (N:=1) rfl ?_);refine box_event ?hg (N:=1) ?hd (cs:=#[.int .i64 a0_0,.int .i64 a0_1,.slice A0_2 l0_2.length c0_2]) (t:=27) ?hr ?_;(case hd=>rfl);(case hg=>rfl);(case hr=>first|(go_simp;done)|(go_simp;rfl));intro gb138 hg w2 hbox hb;have n0_:=Da (below_step (by repeat(first|(with_reducible first|exact HB.out|apply Dd|apply Db|apply Dc)|exact HB.out)) hb);have n1_:=Da (hbox);have n2_:=Da ((by rw [hg];exact(below_size (by repeat(first|(with_reducible first|exact HB.out|apply Dd|apply Db|apply Dc)|exact HB.out))):w.heap.size≤gb138));have n3_:=Da ((by rw [hg];exact(below_size (by repeat(first|(with_reducible first|exact HB.out|apply Dd|apply Db|apply Dc)|exact HB.out))):w.heap.size≤gb138));clear HB;have HB:=n0_;have BK138:=n1_;have GW138:=n2_;have GE138:=n3_;clear n0_ n1_ n2_ n3_;clear hb hbox hg;have hcz3_0:w2.cell? ⟨gb138,0,none⟩=some (.int .i64 a0_0):=(De BK138.out 0).trans rfl;have hcz3_1:w2.cell? ⟨gb138,1,none⟩=some (.int .i64 a0_1):=(De BK138.out 1).trans rfl;have hcz3_2:w2.cell? ⟨gb138,2,none⟩=some (.slice A0_2 l0_2.length c0_2):=(De BK138.out 2).trans rfl;have hfz3_0:=blk_frozen BK138.out 0;have hfz3_1:=blk_frozen BK138.out 1;have hfz3_2:=blk_frozen BK138.out 2))
 go_ret
 exact⟨by first|rfl|(simp [errW_none,errW_some] <;> rfl)|(simp [*,errW_none,errW_some] <;> rfl),by repeat(first|(with_reducible first|exact HB.out|apply Dd|apply Db|apply Dc|refine below_set ?_ GE138.out)|exact HB.out)⟩

/-! ### spec_l1Max: function 74 -/
def spec_l1Max.f (a0 : Int) (a1 : Int) : Option (Int) := if a0 > a1 then (some a0) else (some a1)
set_option maxHeartbeats 8000000 in
set_option maxRecDepth 100000 in
theorem spec_l1Max.calls (a0 : Int) (a1 : Int) (r : Int) (w : World) (h : spec_l1Max.f a0 a1 = some r) :
  Calls Try.prog 74 #[.int .i64 a0,.int .i64 a1] w fun e w'=>e=.returned (.int .i64 r)∧Drawn0 w w':=by
 have H:(if a0 > a1 then (some a0) else (some a1))=some r:=h
 clear h
 by_cases c3:a0 > a1
 ·rw [if_pos c3] at H
  have c3b0:decide (a1 < a0)=true:=decide_eq_true c3
  clear c3
  obtain rfl:=Option.some.inj H
  go_enter Try.func74,Try.ntmps74
  go_wp2
  go_ret
  exact⟨by first|rfl|(simp;done)|(simp [*];done),by repeat(first|exact Drawn0.refl _|apply Drawn0.step)⟩
 ·rw [if_neg c3] at H
  have c3b0:decide (a1 < a0)=false:=decide_eq_false c3
  clear c3
  obtain rfl:=Option.some.inj H
  go_enter Try.func74,Try.ntmps74
  go_wp2
  go_ret
  exact⟨by first|rfl|(simp;done)|(simp [*];done),by repeat(first|exact Drawn0.refl _|apply Drawn0.step)⟩

/-! ### spec_l14At: function 93 -/
def spec_l14At.f (a0_0 : Int) (a0_1 : Int) (l0_2 : List Int) (a1 : Int) (a2 : Int) : Option (Int) := (spec_l1Max.f 0 a1).bind fun t140 => ((spec_l1Min.f (wrap64 (a0_0 - 1)) t140).bind fun t141 => ((spec_l1Max.f 0 a2).bind fun t142 => ((spec_l1Min.f (wrap64 (a0_1 - 1)) t142).bind fun t143 => (if 0 ≤ (wrap64 ((wrap64 (t143 * a0_0)) + t141)) then (if (wrap64 ((wrap64 (t143 * a0_0)) + t141)) < (l0_2.length : Int) then (some (rd l0_2 (wrap64 ((wrap64 (t143 * a0_0)) + t141)))) else (none)) else (none)))))
set_option maxHeartbeats 8000000 in
set_option maxRecDepth 100000 in
theorem spec_l14At.calls (a0_0 : Int) (a0_1 : Int) (A0_2 : Option Addr) (c0_2 : Nat) (l0_2 : List Int) (a1 : Int) (a2 : Int) (r : Int) (w : World) (hr0_2 : Kd.C (Kd.int .i64) w A0_2 l0_2.length l0_2) (hc0_2 : l0_2.length ≤ c0_2) (h : spec_l14At.f a0_0 a0_1 l0_2 a1 a2 = some r) :
  Calls Try.prog 93 #[.agg #[.int .i64 a0_0,.int .i64 a0_1,.slice A0_2 l0_2.length c0_2],.int .i64 a1,.int .i64 a2] w fun e w'=>e=.returned (.int .i64 r)∧Below w.heap.size w w':=by
 have hu27:=Try.underlying27
 have HR0_2:=Da hr0_2
 have HC0_2:=Da hc0_2
 clear hr0_2 hc0_2
 have HB:=Da (Below.refl w.heap.size w)
 have H:((spec_l1Max.f 0 a1).bind fun t140=>((spec_l1Min.f (wrap64 (a0_0 - 1)) t140).bind fun t141=>((spec_l1Max.f 0 a2).bind fun t142=>((spec_l1Min.f (wrap64 (a0_1 - 1)) t142).bind fun t143=>(if 0≤(wrap64 ((wrap64 (t143*a0_0))+t141)) then (if (wrap64 ((wrap64 (t143*a0_0))+t141)) < (l0_2.length:Int) then (some (rd l0_2 (wrap64 ((wrap64 (t143*a0_0))+t141)))) else (none)) else (none))))))=some r:=h
 clear h
 obtain⟨jw,hjw⟩:∃ j_:Int,wrap64 (a0_0 - 1)=j_:=⟨_,rfl⟩
 rw [hjw] at H
 have hjww:IntKind.i64.wrap (a0_0 - 1)=jw:=(i64_w _).trans hjw
 obtain⟨jh,hjh⟩:∃ j_:Int,wrap64 (a0_1 - 1)=j_:=⟨_,rfl⟩
 rw [hjh] at H
 have hjhw:IntKind.i64.wrap (a0_1 - 1)=jh:=(i64_w _).trans hjh
 replace H:=Option.bind_eq_some_iff.mp H
 obtain⟨t140,A40,H⟩:=H
 replace H:((spec_l1Min.f jw t140).bind fun t141=>((spec_l1Max.f 0 a2).bind fun t142=>((spec_l1Min.f jh t142).bind fun t143=>(if 0≤(wrap64 ((wrap64 (t143*a0_0))+t141)) then (if (wrap64 ((wrap64 (t143*a0_0))+t141)) < (l0_2.length:Int) then (some (rd l0_2 (wrap64 ((wrap64 (t143*a0_0))+t141)))) else (none)) else (none)))))=some r:=H
 have A4:=Da A40
 clear A40
 replace H:=Option.bind_eq_some_iff.mp H
 obtain⟨t141,A50,H⟩:=H
 replace H:((spec_l1Max.f 0 a2).bind fun t142=>((spec_l1Min.f jh t142).bind fun t143=>(if 0≤(wrap64 ((wrap64 (t143*a0_0))+t141)) then (if (wrap64 ((wrap64 (t143*a0_0))+t141)) < (l0_2.length:Int) then (some (rd l0_2 (wrap64 ((wrap64 (t143*a0_0))+t141)))) else (none)) else (none))))=some r:=H
 have A5:=Da A50
 clear A50
 replace H:=Option.bind_eq_some_iff.mp H
 obtain⟨t142,A60,H⟩:=H
 replace H:((spec_l1Min.f jh t142).bind fun t143=>(if 0≤(wrap64 ((wrap64 (t143*a0_0))+t141)) then (if (wrap64 ((wrap64 (t143*a0_0))+t141)) < (l0_2.length:Int) then (some (rd l0_2 (wrap64 ((wrap64 (t143*a0_0))+t141)))) else (none)) else (none)))=some r:=H
 have A6:=Da A60
 clear A60
 replace H:=Option.bind_eq_some_iff.mp H
 obtain⟨t143,A70,H⟩:=H
 replace H:(if 0≤(wrap64 ((wrap64 (t143*a0_0))+t141)) then (if (wrap64 ((wrap64 (t143*a0_0))+t141)) < (l0_2.length:Int) then (some (rd l0_2 (wrap64 ((wrap64 (t143*a0_0))+t141)))) else (none)) else (none))=some r:=H
 have A7:=Da A70
 clear A70
 obtain⟨ji8,hji8⟩:∃ j_:Int,(wrap64 ((wrap64 (t143*a0_0))+t141))=j_:=⟨_,rfl⟩
 replace H:(if 0≤(ji8) then (if (ji8) < (l0_2.length:Int) then (some (rd l0_2 (ji8))) else (none)) else (none))=some r:=by first|(rw [hji8] at H;exact H)|(simp only [hji8] at H ⊢;exact H)
 (try rw [hji8] at A4)
 (try rw [hji8] at A5)
 (try rw [hji8] at A6)
 (try rw [hji8] at A7)
 have hji8w:(IntKind.i64.wrap ((wrap64 (t143*a0_0))+t141))=ji8:=(i64_w _).trans hji8
 by_cases c9:0≤(ji8)
 ·rw [if_pos c9] at H
  have c9b0:decide (0≤(ji8))=true:=decide_eq_true c9
  clear c9
  by_cases c10:(ji8) < (l0_2.length:Int)
  ·rw [if_pos c10] at H
   have c10b0:decide ((ji8) < (l0_2.length:Int))=true:=decide_eq_true c10
   clear c10
   obtain rfl:=Option.some.inj H
   go_enter Try.func93,Try.ntmps93
   go_wp2_with (first|((with_reducible refine gate_dst (N:=3) rfl ?_);refine box_event ?hg (N:=3) ?hd (cs:=#[.int .i64 a0_0,.int .i64 a0_1,.slice A0_2 l0_2.length c0_2]) (t:=27) ?hr ?_;(case hd=>rfl);(case hg=>rfl);(case hr=>first|(go_simp;done)|(go_simp;rfl));intro gb139 hg w11 hbox hb;have n0_:=Da (below_step (by repeat(first|(with_reducible first|exact HB.out|apply Dd|apply Db|apply Dc)|exact HB.out)) hb);have n1_:=Da (hbox);have n2_:=Da ((by rw [hg];exact(below_size (by repeat(first|(with_reducible first|exact HB.out|apply Dd|apply Db|apply Dc)|exact HB.out))):w.heap.size≤gb139));have n3_:=Da ((by rw [hg];exact(below_size (by repeat(first|(with_reducible first|exact HB.out|apply Dd|apply Db|apply Dc)|exact HB.out))):w.heap.size≤gb139));clear HB;have HB:=n0_;have BK139:=n1_;have GW139:=n2_;have GE139:=n3_;clear n0_ n1_ n2_ n3_;clear hb hbox hg;have hcz12_0:w11.cell? ⟨gb139,0,none⟩=some (.int .i64 a0_0):=(De BK139.out 0).trans rfl;have hcz12_1:w11.cell? ⟨gb139,1,none⟩=some (.int .i64 a0_1):=(De BK139.out 1).trans rfl;have hcz12_2:w11.cell? ⟨gb139,2,none⟩=some (.slice A0_2 l0_2.length c0_2):=(De BK139.out 2).trans rfl;have hfz12_0:=blk_frozen BK139.out 0;have hfz12_1:=blk_frozen BK139.out 1;have hfz12_2:=blk_frozen BK139.out 2)|(go_at_call 74;(with_reducible refine(spec_l1Max.calls 0 a1 t140 _ A4.out).mono ?_);rintro e w' ⟨rfl,⟨nd,rfl⟩⟩;(try first|exact⟨rfl,_,World.drewN_drewN _ _ _⟩|exact⟨rfl,_,Eq.trans (World.drewN_drewN _ _ _) (congrArg (World.drewN _) (Nat.add_assoc _ _ _))⟩))|(go_at_call 59;(with_reducible refine(spec_l1Min.calls jw t140 t141 _ A5.out).mono ?_);rintro e w' ⟨rfl,⟨nd,rfl⟩⟩;(try first|exact⟨rfl,_,World.drewN_drewN _ _ _⟩|exact⟨rfl,_,Eq.trans (World.drewN_drewN _ _ _) (congrArg (World.drewN _) (Nat.add_assoc _ _ _))⟩))|(go_at_call 74;(with_reducible refine(spec_l1Max.calls 0 a2 t142 _ A6.out).mono ?_);rintro e w' ⟨rfl,⟨nd,rfl⟩⟩;(try first|exact⟨rfl,_,World.drewN_drewN _ _ _⟩|exact⟨rfl,_,Eq.trans (World.drewN_drewN _ _ _) (congrArg (World.drewN _) (Nat.add_assoc _ _ _))⟩))|(go_at_call 59;(with_reducible refine(spec_l1Min.calls jh t142 t143 _ A7.out).mono ?_);rintro e w' ⟨rfl,⟨nd,rfl⟩⟩;(try first|exact⟨rfl,_,World.drewN_drewN _ _ _⟩|exact⟨rfl,_,Eq.trans (World.drewN_drewN _ _ _) (congrArg (World.drewN _) (Nat.add_assoc _ _ _))⟩);have p144:0≤((ji8):Int):=of_decide_eq_true (by first|(with_reducible assumption)|assumption);have q144:(ji8) < (l0_2.length:Int):=of_decide_eq_true (by first|(with_reducible assumption)|assumption);obtain⟨ad144,e144,hx144_0⟩:=Kd.at_int HR0_2.out (ji8) p144 q144;cases e144;replace hx144_0:=(HB.out.cell (World.block_lt_of_cell? w _ hx144_0)).trans hx144_0;replace p144:=eq_true p144;replace q144:=eq_true q144))
   repeat(go_quiet (first|((with_reducible refine gate_dst (N:=3) rfl ?_);refine box_event ?hg (N:=3) ?hd (cs:=#[.int .i64 a0_0,.int .i64 a0_1,.slice A0_2 l0_2.length c0_2]) (t:=27) ?hr ?_;(case hd=>rfl);(case hg=>rfl);(case hr=>first|(go_simp;done)|(go_simp;rfl));intro gb139 hg w11 hbox hb;have n0_:=Da (below_step (by repeat(first|(with_reducible first|exact HB.out|apply Dd|apply Db|apply Dc)|exact HB.out)) hb);have n1_:=Da (hbox);have n2_:=Da ((by rw [hg];exact(below_size (by repeat(first|(with_reducible first|exact HB.out|apply Dd|apply Db|apply Dc)|exact HB.out))):w.heap.size≤gb139));have n3_:=Da ((by rw [hg];exact(below_size (by repeat(first|(with_reducible first|exact HB.out|apply Dd|apply Db|apply Dc)|exact HB.out))):w.heap.size≤gb139));clear HB;have HB:=n0_;have BK139:=n1_;have GW139:=n2_;have GE139:=n3_;clear n0_ n1_ n2_ n3_;clear hb hbox hg;have hcz12_0:w11.cell? ⟨gb139,0,none⟩=some (.int .i64 a0_0):=(De BK139.out 0).trans rfl;have hcz12_1:w11.cell? ⟨gb139,1,none⟩=some (.int .i64 a0_1):=(De BK139.out 1).trans rfl;have hcz12_2:w11.cell? ⟨gb139,2,none⟩=some (.slice A0_2 l0_2.length c0_2):=(De BK139.out 2).trans rfl;have hfz12_0:=blk_frozen BK139.out 0;have hfz12_1:=blk_frozen BK139.out 1;have hfz12_2:=blk_frozen BK139.out 2)|(go_at_call 74;(with_reducible refine(spec_l1Max.calls 0 a1 t140 _ A4.out).mono ?_);rintro e w' ⟨rfl,⟨nd,rfl⟩⟩;(try first|exact⟨rfl,_,World.drewN_drewN _ _ _⟩|exact⟨rfl,_,Eq.trans (World.drewN_drewN _ _ _) (congrArg (World.drewN _) (Nat.add_assoc _ _ _))⟩))|(go_at_call 59;(with_reducible refine(spec_l1Min.calls jw t140 t141 _ A5.out).mono ?_);rintro e w' ⟨rfl,⟨nd,rfl⟩⟩;(try first|exact⟨rfl,_,World.drewN_drewN _ _ _⟩|exact⟨rfl,_,Eq.trans (World.drewN_drewN _ _ _) (congrArg (World.drewN _) (Nat.add_assoc _ _ _))⟩))|(go_at_call 74;(with_reducible refine(spec_l1Max.calls 0 a2 t142 _ A6.out).mono ?_);rintro e w' ⟨rfl,⟨nd,rfl⟩⟩;(try first|exact⟨rfl,_,World.drewN_drewN _ _ _⟩|exact⟨rfl,_,Eq.trans (World.drewN_drewN _ _ _) (congrArg (World.drewN _) (Nat.add_assoc _ _ _))⟩))|(go_at_call 59;(with_reducible refine(spec_l1Min.calls jh t142 t143 _ A7.out).mono ?_);rintro e w' ⟨rfl,⟨nd,rfl⟩⟩;(try first|exact⟨rfl,_,World.drewN_drewN _ _ _⟩|exact⟨rfl,_,Eq.trans (World.drewN_drewN _ _ _) (congrArg (World.drewN _) (Nat.add_assoc _ _ _))⟩);have p144:0≤((ji8):Int):=of_decide_eq_true (by first|(with_reducible assumption)|assumption);have q144:(ji8) < (l0_2.length:Int):=of_decide_eq_true (by first|(with_reducible assumption)|assumption);obtain⟨ad144,e144,hx144_0⟩:=Kd.at_int HR0_2.out (ji8) p144 q144;cases e144;replace hx144_0:=(HB.out.cell (World.block_lt_of_cell? w _ hx144_0)).trans hx144_0;replace p144:=eq_true p144;replace q144:=eq_true q144));try go_wp2_with (first|((with_reducible refine gate_dst (N:=3) rfl ?_);refine box_event ?hg (N:=3) ?hd (cs:=#[.int .i64 a0_0,.int .i64 a0_1,.slice A0_2 l0_2.length c0_2]) (t:=27) ?hr ?_;(case hd=>rfl);(case hg=>rfl);(case hr=>first|(go_simp;done)|(go_simp;rfl));intro gb139 hg w11 hbox hb;have n0_:=Da (below_step (by repeat(first|(with_reducible first|exact HB.out|apply Dd|apply Db|apply Dc)|exact HB.out)) hb);have n1_:=Da (hbox);have n2_:=Da ((by rw [hg];exact(below_size (by repeat(first|(with_reducible first|exact HB.out|apply Dd|apply Db|apply Dc)|exact HB.out))):w.heap.size≤gb139));have n3_:=Da ((by rw [hg];exact(below_size (by repeat(first|(with_reducible first|exact HB.out|apply Dd|apply Db|apply Dc)|exact HB.out))):w.heap.size≤gb139));clear HB;have HB:=n0_;have BK139:=n1_;have GW139:=n2_;have GE139:=n3_;clear n0_ n1_ n2_ n3_;clear hb hbox hg;have hcz12_0:w11.cell? ⟨gb139,0,none⟩=some (.int .i64 a0_0):=(De BK139.out 0).trans rfl;have hcz12_1:w11.cell? ⟨gb139,1,none⟩=some (.int .i64 a0_1):=(De BK139.out 1).trans rfl;have hcz12_2:w11.cell? ⟨gb139,2,none⟩=some (.slice A0_2 l0_2.length c0_2):=(De BK139.out 2).trans rfl;have hfz12_0:=blk_frozen BK139.out 0;have hfz12_1:=blk_frozen BK139.out 1;have hfz12_2:=blk_frozen BK139.out 2)|(go_at_call 74;(with_reducible refine(spec_l1Max.calls 0 a1 t140 _ A4.out).mono ?_);rintro e w' ⟨rfl,⟨nd,rfl⟩⟩;(try first|exact⟨rfl,_,World.drewN_drewN _ _ _⟩|exact⟨rfl,_,Eq.trans (World.drewN_drewN _ _ _) (congrArg (World.drewN _) (Nat.add_assoc _ _ _))⟩))|(go_at_call 59;(with_reducible refine(spec_l1Min.calls jw t140 t141 _ A5.out).mono ?_);rintro e w' ⟨rfl,⟨nd,rfl⟩⟩;(try first|exact⟨rfl,_,World.drewN_drewN _ _ _⟩|exact⟨rfl,_,Eq.trans (World.drewN_drewN _ _ _) (congrArg (World.drewN _) (Nat.add_assoc _ _ _))⟩))|(go_at_call 74;(with_reducible refine(spec_l1Max.calls 0 a2 t142 _ A6.out).mono ?_);rintro e w' ⟨rfl,⟨nd,rfl⟩⟩;(try first|exact⟨rfl,_,World.drewN_drewN _ _ _⟩|exact⟨rfl,_,Eq.trans (World.drewN_drewN _ _ _) (congrArg (World.drewN _) (Nat.add_assoc _ _ _))⟩))|(go_at_call 59;(with_reducible refine(spec_l1Min.calls jh t142 t143 _ A7.out).mono ?_);rintro e w' ⟨rfl,⟨nd,rfl⟩⟩;(try first|exact⟨rfl,_,World.drewN_drewN _ _ _⟩|exact⟨rfl,_,Eq.trans (World.drewN_drewN _ _ _) (congrArg (World.drewN _) (Nat.add_assoc _ _ _))⟩);have p144:0≤((ji8):Int):=of_decide_eq_true (by first|(with_reducible assumption)|assumption);have q144:(ji8) < (l0_2.length:Int):=of_decide_eq_true (by first|(with_reducible assumption)|assumption);obtain⟨ad144,e144,hx144_0⟩:=Kd.at_int HR0_2.out (ji8) p144 q144;cases e144;replace hx144_0:=(HB.out.cell (World.block_lt_of_cell? w _ hx144_0)).trans hx144_0;replace p144:=eq_true p144;replace q144:=eq_true q144)))
   go_ret
   exact⟨by first|rfl|(simp [errW_none,errW_some] <;> rfl)|(simp only [← hji8];first|rfl|(simp [errW_none,errW_some] <;> rfl))|(simp [*,errW_none,errW_some] <;> rfl),by repeat(first|(with_reducible first|exact HB.out|apply Dd|apply Db|apply Dc|refine below_set ?_ GE139.out)|exact HB.out)⟩
  ·rw [if_neg c10] at H
   exact absurd H (by simp)
 ·rw [if_neg c9] at H
  exact absurd H (by simp)

/-! ### spec_l14Block: function 73 -/
mutual
def spec_l14Block.l0 : Nat → Int → Int → Int → List Int → Int → Int → Int → Int → List Int → Option (List Int)
 | 0, _, _, _, _, _, _, _, _, _ => none
 | k + 1, x1, x2, x3, x9, x10, x11, x146000, x146001, x146002 => if x11 < 4 then (spec_l14Block.l1 k x1 x2 x3 x9 x10 x11 0 x146000 x146001 x146002) else (some x9)
def spec_l14Block.l1 : Nat → Int → Int → Int → List Int → Int → Int → Int → Int → Int → List Int → Option (List Int)
 | 0, _, _, _, _, _, _, _, _, _, _ => none
 | k + 1, x1, x2, x3, x9, x10, x11, x12, x146000, x146001, x146002 => if x12 < 4 then (if x10 = 0 then (none) else ((spec_l14At.f x146000 x146001 x146002 (wrap64 ((wrap64 ((wrap64 ((Int.tmod x1 x10) * 4)) + x12)) + x2)) (wrap64 ((wrap64 ((wrap64 ((wrap64 (Int.tdiv x1 x10)) * 4)) + x11)) + x3))).bind fun t149 => (if x9.length < 17592186044416 then (spec_l14Block.l1 k x1 x2 x3 (x9 ++ [t149]) x10 x11 (wrap64 (x12 + 1)) x146000 x146001 x146002) else (none)))) else (spec_l14Block.l0 k x1 x2 x3 x9 x10 (wrap64 (x11 + 1)) x146000 x146001 x146002)
end
def spec_l14Block.f (k : Nat) (a0_0 : Int) (a0_1 : Int) (l0_2 : List Int) (a1 : Int) (a2 : Int) (a3 : Int) : Option (List Int) := spec_l14Block.l0 k a1 a2 a3 (([] : List Int)) (wrap64 (Int.tdiv a0_0 4)) 0 a0_0 a0_1 l0_2
theorem spec_l14Block.mono_l : ∀ k, (∀ y0 y1 y2 y3 y4 y5 y6 y7 y8, LeO (spec_l14Block.l0 k y0 y1 y2 y3 y4 y5 y6 y7 y8) (spec_l14Block.l0 (k + 1) y0 y1 y2 y3 y4 y5 y6 y7 y8)) ∧ (∀ y0 y1 y2 y3 y4 y5 y6 y7 y8 y9, LeO (spec_l14Block.l1 k y0 y1 y2 y3 y4 y5 y6 y7 y8 y9) (spec_l14Block.l1 (k + 1) y0 y1 y2 y3 y4 y5 y6 y7 y8 y9))
 | 0 => ⟨fun _ _ _ _ _ _ _ _ _ r h => by simp [spec_l14Block.l0] at h, fun _ _ _ _ _ _ _ _ _ _ r h => by simp [spec_l14Block.l1] at h⟩
 | k + 1 => by
  obtain⟨ih0,ih1⟩:=spec_l14Block.mono_l k
  refine⟨?_,?_⟩
  ·intro y0 y1 y2 y3 y4 y5 y6 y7 y8
   unfold spec_l14Block.l0
   repeat' first
   | (with_reducible exact ih0 _ _ _ _ _ _ _ _ _)
   | (with_reducible exact ih1 _ _ _ _ _ _ _ _ _ _)
   | (with_reducible exact LeO.refl _)
   | (with_reducible exact LeO.none _)
   | (with_reducible refine LeO.ite ?_ ?_)
   | (with_reducible refine LeO.bind ?_ (fun _ => ?_))
   | exact ih0 _ _ _ _ _ _ _ _ _
   | exact ih1 _ _ _ _ _ _ _ _ _ _
   | exact LeO.none _
   | refine LeO.ite ?_ ?_
   | refine LeO.bind ?_ (fun _ => ?_)
  ·intro y0 y1 y2 y3 y4 y5 y6 y7 y8 y9
   unfold spec_l14Block.l1
   repeat' first
   | (with_reducible exact ih0 _ _ _ _ _ _ _ _ _)
   | (with_reducible exact ih1 _ _ _ _ _ _ _ _ _ _)
   | (with_reducible exact LeO.refl _)
   | (with_reducible exact LeO.none _)
   | (with_reducible refine LeO.ite ?_ ?_)
   | (with_reducible refine LeO.bind ?_ (fun _ => ?_))
   | exact ih0 _ _ _ _ _ _ _ _ _
   | exact ih1 _ _ _ _ _ _ _ _ _ _
   | exact LeO.none _
   | refine LeO.ite ?_ ?_
   | refine LeO.bind ?_ (fun _ => ?_)
theorem spec_l14Block.mono : ∀ a0 a1 a2 a3 a4 a5 k, LeO (spec_l14Block.f k a0 a1 a2 a3 a4 a5) (spec_l14Block.f (k + 1) a0 a1 a2 a3 a4 a5) := by
 intro a0 a1 a2 a3 a4 a5 k
 obtain⟨ih0,ih1⟩:=spec_l14Block.mono_l k
 unfold spec_l14Block.f
 repeat' first
   | (with_reducible exact ih0 _ _ _ _ _ _ _ _ _)
   | (with_reducible exact ih1 _ _ _ _ _ _ _ _ _ _)
   | (with_reducible exact LeO.refl _)
   | (with_reducible exact LeO.none _)
   | (with_reducible refine LeO.ite ?_ ?_)
   | (with_reducible refine LeO.bind ?_ (fun _ => ?_))
   | exact ih0 _ _ _ _ _ _ _ _ _
   | exact ih1 _ _ _ _ _ _ _ _ _ _
   | exact LeO.none _
   | refine LeO.ite ?_ ?_
   | refine LeO.bind ?_ (fun _ => ?_)
def spec_l14Block.T9 : Bool × List (List Nat × List Nat) := (true, [([], []), ([], []), ([], []), ([], []), ([2, 3], [2, 3]), ([4], [4]), ([], []), ([5, 6], [5, 6]), ([], []), ([7, 8], [7, 8]), ([], []), ([], []), ([10, 11], [10, 11]), ([12], [12]), ([], []), ([13, 14], [13, 14]), ([], []), ([15, 16], [15, 16]), ([1, 9, 17], [1, 9, 17]), ([18], [18]), ([0, 19, 18], [0, 19]), ([20, 20, 0, 1, 2, 3, 4, 5, 6, 7, 8, 9, 10, 11, 12, 13, 14, 15, 16, 17, 18, 19, 20], [0, 20])])
def spec_l14Block.B9 : List Nat := [0, 0, 0, 0, 12, 28, 0, 124, 0, 508, 0, 0, 3072, 7168, 0, 31744, 0, 130048, 262142, 524286, 1048575, 2097151]
theorem spec_l14Block.tab9 : rtab .any (opsOf Try.f73 9) = spec_l14Block.T9 := by kernel_rfl
theorem spec_l14Block.bits9 : waitsOk spec_l14Block.T9.2 spec_l14Block.B9 = true := by kernel_rfl
set_option maxHeartbeats 8000000 in
set_option maxRecDepth 100000 in
theorem spec_l14Block.calls (k : Nat) (a0_0 : Int) (a0_1 : Int) (A0_2 : Option Addr) (c0_2 : Nat) (l0_2 : List Int) (a1 : Int) (a2 : Int) (a3 : Int) (r : List Int) (w : World) (hr0_2 : Kd.C (Kd.int .i64) w A0_2 l0_2.length l0_2) (hc0_2 : l0_2.length ≤ c0_2) (h : spec_l14Block.f k a0_0 a0_1 l0_2 a1 a2 a3 = some r) :
  Calls Try.prog 73 #[.agg #[.int .i64 a0_0,.int .i64 a0_1,.slice A0_2 l0_2.length c0_2],.int .i64 a1,.int .i64 a2,.int .i64 a3] w fun e w'=>∃ v0_:Value,e=.returned (v0_)∧Kd.R (Kd.int .i64) 2 w' w.heap.size (fun _=>True) v0_ r∧Below w.heap.size w w':=by
 have hu27:=Try.underlying27
 have HR0_2:=Da hr0_2
 have HC0_2:=Da hc0_2
 clear hr0_2 hc0_2
 have HB:=Da (Below.refl w.heap.size w)
 have H:(spec_l14Block.l0 k a1 a2 a3 (([]:List Int)) (wrap64 (Int.tdiv a0_0 4)) 0 a0_0 a0_1 l0_2)=some r:=h
 clear h
 obtain⟨y146,hy146⟩:∃ y_:List Int,y_=(([]:List Int)):=⟨_,rfl⟩
 replace H:(spec_l14Block.l0 k a1 a2 a3 y146 (wrap64 (Int.tdiv a0_0 4)) 0 a0_0 a0_1 l0_2)=some r:=by first|(rw [hy146];with_reducible exact H)|(have H2_:=(Option.bind_some _ _).symm.trans H;rw [hy146];with_reducible exact H2_)|(have H2_:=(Option.bind_some _ _).symm.trans H;with_reducible exact H2_)|with_reducible exact H|(rw [hy146];exact H)|exact H
 have Ny146:=Da hy146
 clear hy146
 have H':=Da H
 clear H
 go_enter Try.func73,Try.ntmps73
 go_wp2_with (first|((with_reducible refine gate_dst (N:=4) rfl ?_);refine box_event ?hg (N:=4) ?hd (cs:=#[.int .i64 a0_0,.int .i64 a0_1,.slice A0_2 l0_2.length c0_2]) (t:=27) ?hr ?_;(case hd=>rfl);(case hg=>rfl);(case hr=>first|(go_simp;done)|(go_simp;rfl));intro qb hg w5 hbox hb;have n0_:=Da (below_step (by repeat(first|(with_reducible first|exact HB.out|apply Dd|apply Db|apply Dc)|exact HB.out)) hb);have n1_:=Da (hbox);have n2_:=Da ((by rw [hg];exact(below_size (by repeat(first|(with_reducible first|exact HB.out|apply Dd|apply Db|apply Dc)|exact HB.out))):w.heap.size≤qb));have n3_:=Da ((by rw [hg];exact(below_size (by repeat(first|(with_reducible first|exact HB.out|apply Dd|apply Db|apply Dc)|exact HB.out))):w.heap.size≤qb));clear HB;have HB:=n0_;have qa:=n1_;have GW145:=n2_;have qe:=n3_;clear n0_ n1_ n2_ n3_;clear hb hbox hg)|((with_reducible refine gate_dst (N:=13) rfl ?_);refine Kd.R_lit (Kd.int .i64) _ 2 ?hg (N:=13) ?hd (xs:=([]:List Int)) (inner:=[]) (ok:=fun _=>True) (okp:=fun _=>True) ?hr ?hp (fun _ hk=>hk) trivial (Below.refl _ _) (Nat.le_refl _) (by simp) ?_;(case hd=>rfl);(case hg=>rfl);(case hr=>first|(go_simp;done)|(go_simp;rfl));(case hp=>exact(Reps.none _ _));intro v147 w6 ho7 hb hg_ hnew_;clear hg_ hnew_;(first|rw [← Ny146.out] at ho7|(simp only [Int.reduceToNat] at ho7;rw [← Ny146.out] at ho7));have n0_:=Da (Kd.R_lower ho7 (below_size (by repeat(first|(with_reducible first|exact HB.out|apply Dd|apply Db|apply Dc|refine below_set ?_ qe.out)|exact HB.out))));have n1_:=Da (blk_below (g:=qb) (o:=.cells #[.int .i64 a0_0,.int .i64 a0_1,.slice A0_2 l0_2.length c0_2] 27 (0,0)) (by(with_reducible repeat(first|refine blk_drewN ?_ _|refine blk_drew ?_|refine blk_alloc ?_ _));exact qa.out) hb);have n2_:=Da (below_step (by repeat(first|(with_reducible first|exact HB.out|apply Dd|apply Db|apply Dc|refine below_set ?_ qe.out)|exact HB.out)) hb);clear qa;clear HB;have HO148:=n0_;have qa:=n1_;have HB:=n2_;clear n0_ n1_ n2_;clear hb ho7;have hcz8_0:w6.cell? ⟨qb,0,none⟩=some (.int .i64 a0_0):=(De qa.out 0).trans rfl;have hcz8_1:w6.cell? ⟨qb,1,none⟩=some (.int .i64 a0_1):=(De qa.out 1).trans rfl;have hcz8_2:w6.cell? ⟨qb,2,none⟩=some (.slice A0_2 l0_2.length c0_2):=(De qa.out 2).trans rfl;have hfz8_0:=blk_frozen qa.out 0;have hfz8_1:=blk_frozen qa.out 1;have hfz8_2:=blk_frozen qa.out 2))
 go_loopg [9,11] k (fun kq v9 v11 w'=>∃ (x9_1:List Int) (qc:Int),v11=.int .i64 qc∧Aside0 (spec_l14Block.l0 kq a1 a2 a3 x9_1 (wrap64 (Int.tdiv a0_0 4)) qc a0_0 a0_1 l0_2=some r)∧Aside0 (kq≤k)∧Aside0 (Kd.R (Kd.int .i64) 2 w' w.heap.size (fun _=>True) v9 x9_1)∧Aside0 (w'.heap[qb]? = some (.cells #[.int .i64 a0_0,.int .i64 a0_1,(.slice A0_2 l0_2.length c0_2)] 27 (0,0)))∧Aside0 (Below w.heap.size w w'))
 case atStart=>exact⟨(y146),(0),(by first|rfl|(simp;done)|(simp [*];done)),H',⟨Nat.le_refl _⟩,⟨by(with_reducible repeat(first|apply Kd.R_alloc|apply Kd.R_drewN|apply Kd.R_drew));exact HO148.out⟩,⟨by(with_reducible repeat(first|refine blk_drewN ?_ _|refine blk_drew ?_|refine blk_alloc ?_ _));exact qa.out⟩,⟨by repeat(first|(with_reducible first|exact HB.out|apply Dd|apply Db|apply Dc|refine below_set ?_ qe.out)|exact HB.out)⟩⟩
 case round=>
  clear H'
  try clear p2
  try clear p6
  try clear c7
  try clear hcz8_0
  try clear hcz8_1
  try clear hcz8_2
  try clear hfz8_0
  try clear hfz8_1
  try clear hfz8_2
  obtain⟨x9_1,qc,rfl,HA,HK1,qf,qa,HB⟩:=hrel
  cases gk with
  | zero => exact absurd HA.out (by simp [spec_l14Block.l0])
  | succ k1 =>
   have H:=HA.out
   clear HA
   simp only [spec_l14Block.l0] at H
   by_cases c9:qc < 4
   ·rw [if_pos c9] at H
    have c9b0:decide (qc < 4)=true:=decide_eq_true c9
    clear c9
    have H':=Da H
    clear H
    go_wp2
    go_loopg [9,12] k1 (fun kq v9 v12 w'=>∃ (x9_2:List Int) (qd:Int),v12=.int .i64 qd∧Aside0 (spec_l14Block.l1 kq a1 a2 a3 x9_2 (wrap64 (Int.tdiv a0_0 4)) qc qd a0_0 a0_1 l0_2=some r)∧Aside0 (kq≤k1)∧Aside0 (Kd.R (Kd.int .i64) 2 w' w.heap.size (fun _=>True) v9 x9_2)∧Aside0 (w'.heap[qb]? = some (.cells #[.int .i64 a0_0,.int .i64 a0_1,(.slice A0_2 l0_2.length c0_2)] 27 (0,0)))∧Aside0 (Below w.heap.size w w'))
    case atStart=>exact⟨(x9_1),(0),(by first|rfl|(simp;done)|(simp [*];done)),H',⟨Nat.le_refl _⟩,⟨by(with_reducible repeat(first|apply Kd.R_alloc|apply Kd.R_drewN|apply Kd.R_drew));exact qf.out⟩,⟨by(with_reducible repeat(first|refine blk_drewN ?_ _|refine blk_drew ?_|refine blk_alloc ?_ _));exact qa.out⟩,⟨by repeat(first|(with_reducible first|exact HB.out|apply Dd|apply Db|apply Dc|refine below_set ?_ qe.out)|exact HB.out)⟩⟩
    case round=>
     clear H'
     try clear p2
     try clear p6
     try clear c7
     try clear c9
     try clear c9b0
     try clear hcz8_0
     try clear hcz8_1
     try clear hcz8_2
     try clear hfz8_0
     try clear hfz8_1
     try clear hfz8_2
     try clear p2
     try clear p6
     obtain⟨x9_2,qd,rfl,HA,HK2,qf,qa,HB⟩:=hrel
     cases gk with
     | zero => exact absurd HA.out (by simp [spec_l14Block.l1])
     | succ k2 =>
      have H:=HA.out
      clear HA
      simp only [spec_l14Block.l1] at H
      by_cases c10:qd < 4
      ·rw [if_pos c10] at H
       have c10b0:decide (qd < 4)=true:=decide_eq_true c10
       clear c10
       by_cases c11:(wrap64 (Int.tdiv a0_0 4))=0
       ·rw [if_pos c11] at H
        exact absurd H (by simp)
       ·rw [if_neg c11] at H
        have c11b0:((wrap64 (Int.tdiv a0_0 4)) == 0)=false:=beq_eq_false_iff_ne.mpr c11
        have c11b1:((wrap64 (Int.tdiv a0_0 4)) != 0)=true:=bne_iff_ne.mpr c11
        replace H:=Option.bind_eq_some_iff.mp H
        obtain⟨t149,A120,H⟩:=H
        replace H:(if x9_2.length < 17592186044416 then (spec_l14Block.l1 k2 a1 a2 a3 (x9_2 ++ [t149]) (wrap64 (Int.tdiv a0_0 4)) qc (wrap64 (qd+1)) a0_0 a0_1 l0_2) else (none))=some r:=H
        have A12:=Da A120
        clear A120
        by_cases c13:x9_2.length < 17592186044416
        ·rw [if_pos c13] at H
         have LMc13:=Da c13
         clear c13
         obtain⟨y150,hy150⟩:∃ y_:List Int,y_=(x9_2 ++ [t149]):=⟨_,rfl⟩
         replace H:(spec_l14Block.l1 k2 a1 a2 a3 y150 (wrap64 (Int.tdiv a0_0 4)) qc (wrap64 (qd+1)) a0_0 a0_1 l0_2)=some r:=by first|(rw [hy150];with_reducible exact H)|(have H2_:=(Option.bind_some _ _).symm.trans H;rw [hy150];with_reducible exact H2_)|(have H2_:=(Option.bind_some _ _).symm.trans H;with_reducible exact H2_)|with_reducible exact H|(rw [hy150];exact H)|exact H
         have Ny150:=Da hy150
         clear hy150
         have H':=Da H
         clear H
         try go_wp2
         have n0_:=Da (Kd.R_drew qf.out)
         have n1_:=Da (blk_drew qa.out)
         have n2_:=Da (Dc HB.out)
         clear qf
         clear qa
         clear HB
         have qf:=n0_
         have qa:=n1_
         have HB:=n2_
         clear n0_ n1_ n2_
         refine start_ (n:=22) (S:=fun w'=>w'.cell? ⟨qb,0,none⟩=some (.int .i64 a0_0)∧w'.cell? ⟨qb,1,none⟩=some (.int .i64 a0_1)∧w'.cell? ⟨qb,2,none⟩=some (.slice A0_2 l0_2.length c0_2)) (ds:=[]) #[false,false,false,false,false,false,false,false,false,false,false,false,false,false,false,false,false,false,false,false,false,false] (by kernel_rfl) rfl rfl ⟨(De qa.out 0).trans rfl,(De qa.out 1).trans rfl,(De qa.out 2).trans rfl⟩ (fun hHeld=>?_);refine with_tabW spec_l14Block.tab9 spec_l14Block.bits9 (fun HT_ HW_=>?_)
         generalize wr.drew=w14 at qf qa HB hHeld ⊢
         refine pure_ (i:=0) (N:=some 25) (v:=?_) (a':=?_) #[true,false,false,false,false,false,false,false,false,false,false,false,false,false,false,false,false,false,false,false,false,false] rfl rfl (any_of HT_.out (by kernel_rfl)) (fun _ _ _ h=>h) (Or.inl ⟨by rfl,?_⟩) ?_ ?_
         rotate_left
         ·intro w'
          go_simp
          with_reducible rfl
         rotate_left
         ·simp only [Act.put,List.setIfInBounds_toArray,List.set_cons_zero,List.set_cons_succ,i64_w,i32_w]
          rfl
         refine pure_ (i:=2) (N:=some 27) (v:=?_) (a':=?_) #[true,false,true,false,false,false,false,false,false,false,false,false,false,false,false,false,false,false,false,false,false,false] rfl rfl (any_of HT_.out (by kernel_rfl)) (fun _ _ _ h=>h) (Or.inl ⟨by rfl,?_⟩) ?_ ?_
         rotate_left
         ·intro w'
          go_simp
          with_reducible rfl
         rotate_left
         ·simp only [Act.put,List.setIfInBounds_toArray,List.set_cons_zero,List.set_cons_succ,i64_w,i32_w]
          rfl
         refine pure_ (i:=3) (N:=some 28) (v:=?_) (a':=?_) #[true,false,true,true,false,false,false,false,false,false,false,false,false,false,false,false,false,false,false,false,false,false] rfl rfl (any_of HT_.out (by kernel_rfl)) (fun _ _ _ h=>h) (Or.inl ⟨by rfl,?_⟩) ?_ ?_
         rotate_left
         ·intro w'
          go_simp
          with_reducible rfl
         rotate_left
         ·simp only [Act.put,List.setIfInBounds_toArray,List.set_cons_zero,List.set_cons_succ,i64_w,i32_w]
          rfl
         refine pure_ (i:=4) (N:=some 29) (v:=?_) (a':=?_) #[true,false,true,true,true,false,false,false,false,false,false,false,false,false,false,false,false,false,false,false,false,false] rfl rfl (any_of HT_.out (by kernel_rfl)) (fun _ _ _ h=>h) (Or.inl ⟨by rfl,?_⟩) ?_ ?_
         rotate_left
         ·intro w'
          go_simp
          with_reducible rfl
         rotate_left
         ·simp only [Act.put,List.setIfInBounds_toArray,List.set_cons_zero,List.set_cons_succ,i64_w,i32_w]
          rfl
         refine pure_ (i:=5) (N:=some 30) (v:=?_) (a':=?_) #[true,false,true,true,true,true,false,false,false,false,false,false,false,false,false,false,false,false,false,false,false,false] rfl rfl (any_of HT_.out (by kernel_rfl)) (fun _ _ _ h=>h) (Or.inl ⟨by rfl,?_⟩) ?_ ?_
         rotate_left
         ·intro w'
          go_simp
          with_reducible rfl
         rotate_left
         ·simp only [Act.put,List.setIfInBounds_toArray,List.set_cons_zero,List.set_cons_succ,i64_w,i32_w]
          rfl
         refine pure_ (i:=6) (N:=some 31) (v:=?_) (a':=?_) #[true,false,true,true,true,true,true,false,false,false,false,false,false,false,false,false,false,false,false,false,false,false] rfl rfl (any_of HT_.out (by kernel_rfl)) (fun _ _ _ h=>h) (Or.inl ⟨by rfl,?_⟩) ?_ ?_
         rotate_left
         ·intro w'
          go_simp
          with_reducible rfl
         rotate_left
         ·simp only [Act.put,List.setIfInBounds_toArray,List.set_cons_zero,List.set_cons_succ,i64_w,i32_w]
          rfl
         refine pure_ (i:=7) (N:=some 32) (v:=?_) (a':=?_) #[true,false,true,true,true,true,true,true,false,false,false,false,false,false,false,false,false,false,false,false,false,false] rfl rfl (any_of HT_.out (by kernel_rfl)) (fun _ _ _ h=>h) (Or.inl ⟨by rfl,?_⟩) ?_ ?_
         rotate_left
         ·intro w'
          go_simp
          with_reducible rfl
         rotate_left
         ·simp only [Act.put,List.setIfInBounds_toArray,List.set_cons_zero,List.set_cons_succ,i64_w,i32_w]
          rfl
         refine pure_ (i:=8) (N:=some 33) (v:=?_) (a':=?_) #[true,false,true,true,true,true,true,true,true,false,false,false,false,false,false,false,false,false,false,false,false,false] rfl rfl (any_of HT_.out (by kernel_rfl)) (fun _ _ _ h=>h) (Or.inl ⟨by rfl,?_⟩) ?_ ?_
         rotate_left
         ·intro w'
          go_simp
          with_reducible rfl
         rotate_left
         ·simp only [Act.put,List.setIfInBounds_toArray,List.set_cons_zero,List.set_cons_succ,i64_w,i32_w]
          rfl
         refine pure_ (i:=9) (N:=some 34) (v:=?_) (a':=?_) #[true,false,true,true,true,true,true,true,true,true,false,false,false,false,false,false,false,false,false,false,false,false] rfl rfl (any_of HT_.out (by kernel_rfl)) (fun _ _ _ h=>h) (Or.inl ⟨by rfl,?_⟩) ?_ ?_
         rotate_left
         ·intro w'
          go_simp
          with_reducible rfl
         rotate_left
         ·simp only [Act.put,List.setIfInBounds_toArray,List.set_cons_zero,List.set_cons_succ,i64_w,i32_w]
          rfl
         refine pure_ (i:=10) (N:=some 35) (v:=?_) (a':=?_) #[true,false,true,true,true,true,true,true,true,true,true,false,false,false,false,false,false,false,false,false,false,false] rfl rfl (any_of HT_.out (by kernel_rfl)) (fun _ _ _ h=>h) (Or.inl ⟨by rfl,?_⟩) ?_ ?_
         rotate_left
         ·intro w'
          go_simp
          with_reducible rfl
         rotate_left
         ·simp only [Act.put,List.setIfInBounds_toArray,List.set_cons_zero,List.set_cons_succ,i64_w,i32_w]
          rfl
         refine pure_ (i:=11) (N:=some 36) (v:=?_) (a':=?_) #[true,false,true,true,true,true,true,true,true,true,true,true,false,false,false,false,false,false,false,false,false,false] rfl rfl (any_of HT_.out (by kernel_rfl)) (fun _ _ _ h=>h) (Or.inl ⟨by rfl,?_⟩) ?_ ?_
         rotate_left
         ·intro w'
          go_simp
          with_reducible rfl
         rotate_left
         ·simp only [Act.put,List.setIfInBounds_toArray,List.set_cons_zero,List.set_cons_succ,i64_w,i32_w]
          rfl
         refine pure_ (i:=12) (N:=some 37) (v:=?_) (a':=?_) #[true,false,true,true,true,true,true,true,true,true,true,true,true,false,false,false,false,false,false,false,false,false] rfl rfl (any_of HT_.out (by kernel_rfl)) (fun _ _ _ h=>h) (Or.inl ⟨by rfl,?_⟩) ?_ ?_
         rotate_left
         ·intro w'
          go_simp
          with_reducible rfl
         rotate_left
         ·simp only [Act.put,List.setIfInBounds_toArray,List.set_cons_zero,List.set_cons_succ,i64_w,i32_w]
          rfl
         refine pure_ (i:=13) (N:=some 38) (v:=?_) (a':=?_) #[true,false,true,true,true,true,true,true,true,true,true,true,true,true,false,false,false,false,false,false,false,false] rfl rfl (any_of HT_.out (by kernel_rfl)) (fun _ _ _ h=>h) (Or.inl ⟨by rfl,?_⟩) ?_ ?_
         rotate_left
         ·intro w'
          go_simp
          with_reducible rfl
         rotate_left
         ·simp only [Act.put,List.setIfInBounds_toArray,List.set_cons_zero,List.set_cons_succ,i64_w,i32_w]
          rfl
         refine pure_ (i:=14) (N:=some 39) (v:=?_) (a':=?_) #[true,false,true,true,true,true,true,true,true,true,true,true,true,true,true,false,false,false,false,false,false,false] rfl rfl (any_of HT_.out (by kernel_rfl)) (fun _ _ _ h=>h) (Or.inl ⟨by rfl,?_⟩) ?_ ?_
         rotate_left
         ·intro w'
          go_simp
          with_reducible rfl
         rotate_left
         ·simp only [Act.put,List.setIfInBounds_toArray,List.set_cons_zero,List.set_cons_succ,i64_w,i32_w]
          rfl
         refine pure_ (i:=15) (N:=some 40) (v:=?_) (a':=?_) #[true,false,true,true,true,true,true,true,true,true,true,true,true,true,true,true,false,false,false,false,false,false] rfl rfl (any_of HT_.out (by kernel_rfl)) (fun _ _ _ h=>h) (Or.inl ⟨by rfl,?_⟩) ?_ ?_
         rotate_left
         ·intro w'
          go_simp
          with_reducible rfl
         rotate_left
         ·simp only [Act.put,List.setIfInBounds_toArray,List.set_cons_zero,List.set_cons_succ,i64_w,i32_w]
          rfl
         refine pure_ (i:=16) (N:=some 41) (v:=?_) (a':=?_) #[true,false,true,true,true,true,true,true,true,true,true,true,true,true,true,true,true,false,false,false,false,false] rfl rfl (any_of HT_.out (by kernel_rfl)) (fun _ _ _ h=>h) (Or.inl ⟨by rfl,?_⟩) ?_ ?_
         rotate_left
         ·intro w'
          go_simp
          with_reducible rfl
         rotate_left
         ·simp only [Act.put,List.setIfInBounds_toArray,List.set_cons_zero,List.set_cons_succ,i64_w,i32_w]
          rfl
         refine pure_ (i:=17) (N:=some 42) (v:=?_) (a':=?_) #[true,false,true,true,true,true,true,true,true,true,true,true,true,true,true,true,true,true,false,false,false,false] rfl rfl (any_of HT_.out (by kernel_rfl)) (fun _ _ _ h=>h) (Or.inl ⟨by rfl,?_⟩) ?_ ?_
         rotate_left
         ·intro w'
          go_simp
          with_reducible rfl
         rotate_left
         ·simp only [Act.put,List.setIfInBounds_toArray,List.set_cons_zero,List.set_cons_succ,i64_w,i32_w]
          rfl
         refine take_ (i:=1) (N:=some 26) (v:=?_) (a':=?_) #[true,true,true,true,true,true,true,true,true,true,true,true,true,true,true,true,true,true,false,false,false,false] rfl rfl (take_ofW HT_.out HW_.out (by kernel_rfl)) (fun _ _ _ h=>h) (Or.inl ⟨by rfl,?_⟩) hHeld ?_ ?_
         rotate_left
         ·rintro w' ⟨s0,s1,s2⟩
          go_simp
          with_reducible rfl
         rotate_left
         ·simp only [Act.put,List.setIfInBounds_toArray,List.set_cons_zero,List.set_cons_succ,i64_w,i32_w]
          rfl
         refine one_ (i:=18) (N:=some 43) #[true,true,true,true,true,true,true,true,true,true,true,true,true,true,true,true,true,true,true,false,false,false] rfl rfl (one_of HT_.out (by kernel_rfl)) (by decide) (fun K hK=>?_)
         refine goes_ Try.func93 (by kernel_rfl) rfl #[.agg #[.int .i64 a0_0,.int .i64 a0_1,.slice A0_2 l0_2.length c0_2],.int .i64 (wrap64 ((wrap64 ((wrap64 ((Int.tmod a1 (wrap64 (Int.tdiv a0_0 4)))*4))+qd))+a2)),.int .i64 (wrap64 ((wrap64 ((wrap64 ((wrap64 (Int.tdiv a1 (wrap64 (Int.tdiv a0_0 4))))*4))+qc))+a3))] (by rfl) rfl rfl (by(try simp only [List.map_toArray,List.map_cons,List.map_nil]);first|done|rfl|(simp only [List.length_drop,List.length_take];rfl)) ?_
         with_reducible refine(spec_l14At.calls a0_0 a0_1 _ _ l0_2 (wrap64 ((wrap64 ((wrap64 ((Int.tmod a1 (wrap64 (Int.tdiv a0_0 4)))*4))+qd))+a2)) (wrap64 ((wrap64 ((wrap64 ((wrap64 (Int.tdiv a1 (wrap64 (Int.tdiv a0_0 4))))*4))+qc))+a3)) t149 _ ?side1 ?side2 A12.out).mono ?_
         (case side1=>repeat(first|exact(Kd.C_below HR0_2.out HB.out)|(with_reducible refine Kd.C_alloc ?_ _)|(with_reducible refine Kd.C_drewN ?_ _)|(with_reducible refine Kd.C_drew ?_)))
         (case side2=>exact HC0_2.out)
         rintro e w15 ⟨rfl,hb⟩
         refine⟨_,rfl,?_⟩
         have n0_:=Da (Kd.R_below (by(with_reducible repeat(first|apply Kd.R_alloc|apply Kd.R_drewN|apply Kd.R_drew));exact qf.out) hb)
         have n1_:=Da (blk_below (g:=qb) (o:=.cells #[.int .i64 a0_0,.int .i64 a0_1,.slice A0_2 l0_2.length c0_2] 27 (0,0)) (by(with_reducible repeat(first|refine blk_drewN ?_ _|refine blk_drew ?_|refine blk_alloc ?_ _));exact qa.out) hb)
         have n2_:=Da (below_step (by repeat(first|(with_reducible first|exact HB.out|apply Dd|apply Db|apply Dc|refine below_set ?_ qe.out)|exact HB.out)) hb)
         clear qf
         clear qa
         clear HB
         have qf:=n0_
         have qa:=n1_
         have HB:=n2_
         clear n0_ n1_ n2_
         (try clear hb)
         (try clear hb2)
         (try clear hk)
         (try clear hi)
         refine hK.out _ _ ⟨(De qa.out 0).trans rfl,(De qa.out 1).trans rfl,(De qa.out 2).trans rfl⟩ (fun hHeld=>?_)
         clear hK K
         refine norm_ (a':=?_) ?_ ?_
         rotate_left
         ·show Act.put _ (some 43) _=_
          simp only [Act.put,List.setIfInBounds_toArray,List.set_cons_zero,List.set_cons_succ,i64_w,i32_w]
          rfl
         refine one_ (i:=19) (N:=some 44) #[true,true,true,true,true,true,true,true,true,true,true,true,true,true,true,true,true,true,true,true,false,false] rfl rfl (one_of HT_.out (by kernel_rfl)) (by decide) (fun K hK=>?_)
         refine value_ (w1:=?_) (v:=?_) (by rfl) rfl ?_ ?_
         rotate_left 2
         ·go_simp
          constructor
          ·rfl
          ·rfl
         refine hK.out _ _ ⟨(De (blk_alloc qa.out _) 0).trans rfl,(De (blk_alloc qa.out _) 1).trans rfl,(De (blk_alloc qa.out _) 2).trans rfl⟩ (fun hHeld=>?_)
         clear hK K
         refine norm_ (a':=?_) ?_ ?_
         rotate_left
         ·show Act.put _ (some 44) _=_
          simp only [Act.put,List.setIfInBounds_toArray,List.set_cons_zero,List.set_cons_succ,i64_w,i32_w]
          rfl
         refine one_ (i:=20) (N:=some 45) #[true,true,true,true,true,true,true,true,true,true,true,true,true,true,true,true,true,true,true,true,true,false] rfl rfl (one_of HT_.out (by kernel_rfl)) (by decide) (fun K hK=>?_)
         refine Kd.R_append_step (Kd.int .i64) (w0:=w) w.heap.size (by rfl) (.tmp 25) (.tmp 44) 22 2 (.int .i64 0) 8 rfl Try.underlying22 info2 rfl (by decide) (by omega) u9 x9_2 t149 [.int .i64 t149] (fun _=>True) (fun _=>False) rfl rfl ?aP (fun _ hk=>hk.elim) ?aF ?aO ?aB ?aS ?aL ?_
         (case aP=>exact rfl)
         (case aB=>exact(by repeat(first|(with_reducible first|exact HB.out|apply Dd|apply Db|apply Dc|refine below_set ?_ qe.out)|exact HB.out)))
         (case aF=>exact(fun _ _=>trivial))
         (case aO=>exact(by(with_reducible repeat(first|apply Kd.R_alloc|apply Kd.R_drewN|apply Kd.R_drew));exact qf.out))
         (case aS=>exact(below_size (by repeat(first|(with_reducible first|exact HB.out|apply Dd|apply Db|apply Dc|refine below_set ?_ qe.out)|exact HB.out))))
         (case aL=>have:=LMc13.out;omega)
         intro v151 w16 ho hb hg hat
         rw [← Ny150.out] at ho
         have n0_:=Da (blk_grown (g:=qb) (o:=.cells #[.int .i64 a0_0,.int .i64 a0_1,.slice A0_2 l0_2.length c0_2] 27 (0,0)) (by(with_reducible repeat(first|refine blk_drewN ?_ _|refine blk_drew ?_|refine blk_alloc ?_ _));exact qa.out) hg (Kd.R_ne qf.out qa.out (by decide)))
         have n1_:=Da (hb)
         have n2_:=Da (ho)
         clear qa
         clear HB
         clear qf
         have qa:=n0_
         have HB:=n1_
         have HO152:=n2_
         clear n0_ n1_ n2_
         clear ho hb hg hat
         refine hK.out _ _ ⟨(De qa.out 0).trans rfl,(De qa.out 1).trans rfl,(De qa.out 2).trans rfl⟩ (fun hHeld=>?_)
         clear hK K
         refine norm_ (a':=?_) ?_ ?_
         rotate_left
         ·show Act.put _ (some 45) _=_
          simp only [Act.put,List.setIfInBounds_toArray,List.set_cons_zero,List.set_cons_succ,i64_w,i32_w]
          rfl
         refine pure_ (i:=21) (N:=some 9) (v:=?_) (a':=?_) #[true,true,true,true,true,true,true,true,true,true,true,true,true,true,true,true,true,true,true,true,true,true] rfl rfl (any_of HT_.out (by kernel_rfl)) (fun _ _ _ h=>h) (Or.inl ⟨by rfl,?_⟩) ?_ ?_
         rotate_left
         ·intro w'
          go_simp
          with_reducible rfl
         rotate_left
         ·simp only [Act.put,List.setIfInBounds_toArray,List.set_cons_zero,List.set_cons_succ,i64_w,i32_w]
          rfl
         refine done_ (done_of HT_.out (by kernel_rfl)) ?_
         try go_wp2
         go_roundg k2
         case measure=>have:=HK1.out;have:=HK2.out;omega
         case rel=>exact⟨(y150),(wrap64 (qd+1)),(by first|rfl|(simp;done)|(simp [*];done)),H',⟨by have:=HK1.out;have:=HK2.out;omega⟩,⟨by(with_reducible repeat(first|apply Kd.R_alloc|apply Kd.R_drewN|apply Kd.R_drew));exact HO152.out⟩,⟨by(with_reducible repeat(first|refine blk_drewN ?_ _|refine blk_drew ?_|refine blk_alloc ?_ _));exact qa.out⟩,⟨by repeat(first|(with_reducible first|exact HB.out|apply Dd|apply Db|apply Dc|refine below_set ?_ qe.out)|exact HB.out)⟩⟩
        ·rw [if_neg c13] at H
         exact absurd H (by simp)
      ·rw [if_neg c10] at H
       have c10b0:decide (qd < 4)=false:=decide_eq_false c10
       clear c10
       have H':=Da H
       clear H
       go_wp2
       go_roundg k2
       case measure=>have:=HK1.out;have:=HK2.out;omega
       case rel=>exact⟨(x9_2),(wrap64 (qc+1)),(by first|rfl|(simp;done)|(simp [*];done)),H',⟨by have:=HK1.out;have:=HK2.out;omega⟩,⟨by(with_reducible repeat(first|apply Kd.R_alloc|apply Kd.R_drewN|apply Kd.R_drew));exact qf.out⟩,⟨by(with_reducible repeat(first|refine blk_drewN ?_ _|refine blk_drew ?_|refine blk_alloc ?_ _));exact qa.out⟩,⟨by repeat(first|(with_reducible first|exact HB.out|apply Dd|apply Db|apply Dc|refine below_set ?_ qe.out)|exact HB.out)⟩⟩
   ·rw [if_neg c9] at H
    have c9b0:decide (qc < 4)=false:=decide_eq_false c9
    clear c9
    obtain rfl:=Option.some.inj H
    go_wp2
    go_ret
    exact⟨_,by first|rfl|(simp [errW_none,errW_some] <;> rfl)|(simp [*,errW_none,errW_some] <;> rfl),by(with_reducible repeat(first|apply Kd.R_alloc|apply Kd.R_drewN|apply Kd.R_drew));exact qf.out,by repeat(first|(with_reducible first|exact HB.out|apply Dd|apply Db|apply Dc|refine below_set ?_ qe.out)|exact HB.out)⟩

end Go.Proofs.Ytbdnpfjjaokdbaa.HFnDecoded
