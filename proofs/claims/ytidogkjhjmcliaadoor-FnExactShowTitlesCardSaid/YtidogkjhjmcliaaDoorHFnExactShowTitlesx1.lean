-- Laid by myprint.py, a program of this repo, out of the kit's printer and this repo's own texts (wip/hand).
import Derived.Test.YtidogkjhjmcliaaDoorHFnExactShowTitlesx0
namespace Go.Proofs.YtidogkjhjmcliaaDoor.HFnExactShowTitles
open Go.RowKit Go.Proofs.YtidogkjhjmcliaaDoorW.PrintWords Go.Proofs.YtidogkjhjmcliaaDoorW.PrintLast Go.Proofs.YtidogkjhjmcliaaDoorW.PrintMore
attribute [local go_sem] max2_int min2_int max_two min_two max_three min_three max_four min_four   -- for this text's walks alone
set_option linter.unusedVariables false
set_option linter.unusedSimpArgs false
theorem Ba : type_of% @Aside0.mk := @Aside0.mk
theorem Bb : type_of% @pw_below_drewN := @pw_below_drewN

/-! ### laws_szTitle: function 20 -/
def laws_szTitle.f (a0_0 : Int) (a0_1 : Int) (a0_2 : ByteArray) (a1 : Int) : Option (Int) := if (wrap64 (a1 - (a0_2.size : Int))) < 0 then (some (-1)) else (some (wrap64 (a1 - (a0_2.size : Int))))
set_option maxHeartbeats 8000000 in
set_option maxRecDepth 100000 in
theorem laws_szTitle.calls (a0_0 : Int) (a0_1 : Int) (a0_2 : ByteArray) (a1 : Int) (r : Int) (w : World) (h : laws_szTitle.f a0_0 a0_1 a0_2 a1 = some r) :
  Calls Tryd.prog 20 #[.agg #[.int .i64 a0_0,.int .i64 a0_1,.string a0_2],.int .i64 a1] w fun e w'=>e=.returned (.int .i64 r)∧Below w.heap.size w w':=by
 have hu44:=Tryd.underlying44
 have HB:=Ba (Below.refl w.heap.size w)
 have H:(if (wrap64 (a1 - (a0_2.size:Int))) < 0 then (some (-1)) else (some (wrap64 (a1 - (a0_2.size:Int)))))=some r:=h
 clear h
 by_cases c3:(wrap64 (a1 - (a0_2.size:Int))) < 0
 ·rw [if_pos c3] at H
  have c3b0:decide ((wrap64 (a1 - (a0_2.size:Int))) < 0)=true:=decide_eq_true c3
  clear c3
  obtain rfl:=Option.some.inj H
  go_enter Tryd.func20,Tryd.ntmps20
  go_wp2_with (first|((with_reducible refine gate_dst (N:=2) rfl ?_);refine box_event ?hg (N:=2) ?hd (cs:=#[.int .i64 a0_0,.int .i64 a0_1,.string a0_2]) (t:=44) ?hr ?_;(case hd=>rfl);(case hg=>rfl);(case hr=>first|(go_simp;done)|(go_simp;rfl));intro gb101 hg w4 hbox hb;have n0_:=Ba (below_step (by repeat(first|(with_reducible first|exact HB.out|apply below_alloc|apply Bb|apply below_drew1)|exact HB.out)) hb);have n1_:=Ba (hbox);have n2_:=Ba ((by rw [hg];exact(below_size (by repeat(first|(with_reducible first|exact HB.out|apply below_alloc|apply Bb|apply below_drew1)|exact HB.out))):w.heap.size≤gb101));have n3_:=Ba ((by rw [hg];exact(below_size (by repeat(first|(with_reducible first|exact HB.out|apply below_alloc|apply Bb|apply below_drew1)|exact HB.out))):w.heap.size≤gb101));clear HB;have HB:=n0_;have BK101:=n1_;have GW101:=n2_;have GE101:=n3_;clear n0_ n1_ n2_ n3_;clear hb hbox hg;have hcz5_0:w4.cell? ⟨gb101,0,none⟩=some (.int .i64 a0_0):=(blk_cell BK101.out 0).trans rfl;have hcz5_1:w4.cell? ⟨gb101,1,none⟩=some (.int .i64 a0_1):=(blk_cell BK101.out 1).trans rfl;have hcz5_2:w4.cell? ⟨gb101,2,none⟩=some (.string a0_2):=(blk_cell BK101.out 2).trans rfl;have hfz5_0:=blk_frozen BK101.out 0;have hfz5_1:=blk_frozen BK101.out 1;have hfz5_2:=blk_frozen BK101.out 2))
  go_ret
  exact⟨by first|rfl|(simp [errW_none,errW_some] <;> rfl)|(simp [*,errW_none,errW_some] <;> rfl),by repeat(first|(with_reducible first|exact HB.out|apply below_alloc|apply Bb|apply below_drew1|refine below_set ?_ GE101.out)|exact HB.out)⟩
 ·rw [if_neg c3] at H
  have c3b0:decide ((wrap64 (a1 - (a0_2.size:Int))) < 0)=false:=decide_eq_false c3
  clear c3
  obtain rfl:=Option.some.inj H
  go_enter Tryd.func20,Tryd.ntmps20
  go_wp2_with (first|((with_reducible refine gate_dst (N:=2) rfl ?_);refine box_event ?hg (N:=2) ?hd (cs:=#[.int .i64 a0_0,.int .i64 a0_1,.string a0_2]) (t:=44) ?hr ?_;(case hd=>rfl);(case hg=>rfl);(case hr=>first|(go_simp;done)|(go_simp;rfl));intro gb101 hg w6 hbox hb;have n0_:=Ba (below_step (by repeat(first|(with_reducible first|exact HB.out|apply below_alloc|apply Bb|apply below_drew1)|exact HB.out)) hb);have n1_:=Ba (hbox);have n2_:=Ba ((by rw [hg];exact(below_size (by repeat(first|(with_reducible first|exact HB.out|apply below_alloc|apply Bb|apply below_drew1)|exact HB.out))):w.heap.size≤gb101));have n3_:=Ba ((by rw [hg];exact(below_size (by repeat(first|(with_reducible first|exact HB.out|apply below_alloc|apply Bb|apply below_drew1)|exact HB.out))):w.heap.size≤gb101));clear HB;have HB:=n0_;have BK101:=n1_;have GW101:=n2_;have GE101:=n3_;clear n0_ n1_ n2_ n3_;clear hb hbox hg;have hcz7_0:w6.cell? ⟨gb101,0,none⟩=some (.int .i64 a0_0):=(blk_cell BK101.out 0).trans rfl;have hcz7_1:w6.cell? ⟨gb101,1,none⟩=some (.int .i64 a0_1):=(blk_cell BK101.out 1).trans rfl;have hcz7_2:w6.cell? ⟨gb101,2,none⟩=some (.string a0_2):=(blk_cell BK101.out 2).trans rfl;have hfz7_0:=blk_frozen BK101.out 0;have hfz7_1:=blk_frozen BK101.out 1;have hfz7_2:=blk_frozen BK101.out 2))
  go_ret
  exact⟨by first|rfl|(simp [errW_none,errW_some] <;> rfl)|(simp [*,errW_none,errW_some] <;> rfl),by repeat(first|(with_reducible first|exact HB.out|apply below_alloc|apply Bb|apply below_drew1|refine below_set ?_ GE101.out)|exact HB.out)⟩

/-! ### laws_szTitleS: function 6 -/
def laws_szTitleS.l0 : Nat → List (S44) → Int → Int → Option (Int)
 | 0, _, _, _ => none
 | k + 1, x0, x1, x5 => if x5 < (x0.length : Int) then (if 0 ≤ x5 then ((laws_szTitle.f ((rd_T44 x0 x5).f0) ((rd_T44 x0 x5).f1) ((rd_T44 x0 x5).f2) x1).bind fun t103 => (if t103 < 0 then (some (-1)) else (laws_szTitleS.l0 k x0 t103 (wrap64 (x5 + 1))))) else (none)) else (some x1)
def laws_szTitleS.f (k : Nat) (l0 : List (S44)) (a1 : Int) : Option (Int) := if (wrap64 (a1 - (l0.length : Int))) < 0 then (some (-1)) else (laws_szTitleS.l0 k l0 (wrap64 (a1 - (l0.length : Int))) 0)
theorem laws_szTitleS.mono_l : ∀ k, (∀ y0 y1 y2, LeO (laws_szTitleS.l0 k y0 y1 y2) (laws_szTitleS.l0 (k + 1) y0 y1 y2))
 | 0 => fun _ _ _ r h => by simp [laws_szTitleS.l0] at h
 | k + 1 => by
  have ih0:=laws_szTitleS.mono_l k
  ·intro y0 y1 y2
   unfold laws_szTitleS.l0
   repeat' first
   | (with_reducible exact ih0 _ _ _)
   | (with_reducible exact LeO.refl _)
   | (with_reducible exact LeO.none _)
   | (with_reducible refine LeO.ite ?_ ?_)
   | (with_reducible refine LeO.bind ?_ (fun _ => ?_))
   | exact ih0 _ _ _
   | exact LeO.none _
   | refine LeO.ite ?_ ?_
   | refine LeO.bind ?_ (fun _ => ?_)
theorem laws_szTitleS.mono : ∀ a0 a1 k, LeO (laws_szTitleS.f k a0 a1) (laws_szTitleS.f (k + 1) a0 a1) := by
 intro a0 a1 k
 have ih0:=laws_szTitleS.mono_l k
 unfold laws_szTitleS.f
 repeat' first
   | (with_reducible exact ih0 _ _ _)
   | (with_reducible exact LeO.refl _)
   | (with_reducible exact LeO.none _)
   | (with_reducible refine LeO.ite ?_ ?_)
   | (with_reducible refine LeO.bind ?_ (fun _ => ?_))
   | exact ih0 _ _ _
   | exact LeO.none _
   | refine LeO.ite ?_ ?_
   | refine LeO.bind ?_ (fun _ => ?_)
set_option maxHeartbeats 8000000 in
set_option maxRecDepth 100000 in
theorem laws_szTitleS.calls (k : Nat) (A0 : Option Addr) (c0 : Nat) (l0 : List (S44)) (a1 : Int) (r : Int) (w : World) (hr0 : Kd.C k44 w A0 l0.length l0) (hc0 : l0.length ≤ c0) (h : laws_szTitleS.f k l0 a1 = some r) :
  Calls Tryd.prog 6 #[.slice A0 l0.length c0,.int .i64 a1] w fun e w'=>e=.returned (.int .i64 r)∧Below w.heap.size w w':=by
 have hu44:=Tryd.underlying44
 have HR0:=Ba hr0
 have HC0:=Ba hc0
 clear hr0 hc0
 have HB:=Ba (Below.refl w.heap.size w)
 have H:(if (wrap64 (a1 - (l0.length:Int))) < 0 then (some (-1)) else (laws_szTitleS.l0 k l0 (wrap64 (a1 - (l0.length:Int))) 0))=some r:=h
 clear h
 by_cases c3:(wrap64 (a1 - (l0.length:Int))) < 0
 ·rw [if_pos c3] at H
  have c3b0:decide ((wrap64 (a1 - (l0.length:Int))) < 0)=true:=decide_eq_true c3
  clear c3
  obtain rfl:=Option.some.inj H
  go_enter Tryd.func6,Tryd.ntmps6
  go_wp2
  go_ret
  exact⟨by first|rfl|(simp [errW_none,errW_some] <;> rfl)|(simp [*,errW_none,errW_some] <;> rfl),by repeat(first|(with_reducible first|exact HB.out|apply below_alloc|apply Bb|apply below_drew1)|exact HB.out)⟩
 ·rw [if_neg c3] at H
  have c3b0:decide ((wrap64 (a1 - (l0.length:Int))) < 0)=false:=decide_eq_false c3
  clear c3
  have H':=Ba H
  clear H
  go_enter Tryd.func6,Tryd.ntmps6
  go_wp2
  go_loopg [1,5] k (fun kq v1 v5 w'=>∃ (x1_1:Int) (x5_1:Int),v1=.int .i64 x1_1∧v5=.int .i64 x5_1∧Aside0 (laws_szTitleS.l0 kq l0 x1_1 x5_1=some r)∧Aside0 (kq≤k)∧Aside0 (Below w.heap.size w w'))
  case atStart=>exact⟨(wrap64 (a1 - (l0.length:Int))),(0),(by first|rfl|(simp;done)|(simp [*];done)),(by first|rfl|(simp;done)|(simp [*];done)),H',⟨Nat.le_refl _⟩,⟨by repeat(first|(with_reducible first|exact HB.out|apply below_alloc|apply Bb|apply below_drew1)|exact HB.out)⟩⟩
  case round=>
   clear H'
   try clear p2
   try clear c3
   try clear c3b0
   obtain⟨x1_1,x5_1,rfl,rfl,HA,HK1,HB⟩:=hrel
   cases gk with
   | zero => exact absurd HA.out (by simp [laws_szTitleS.l0])
   | succ k1 =>
    have H:=HA.out
    clear HA
    simp only [laws_szTitleS.l0] at H
    by_cases c4:x5_1 < (l0.length:Int)
    ·rw [if_pos c4] at H
     have c4b0:decide (x5_1 < (l0.length:Int))=true:=decide_eq_true c4
     clear c4
     by_cases c5:0≤x5_1
     ·rw [if_pos c5] at H
      have c5b0:decide (0≤x5_1)=true:=decide_eq_true c5
      clear c5
      replace H:=Option.bind_eq_some_iff.mp H
      obtain⟨t103,A60,H⟩:=H
      replace H:(if t103 < 0 then (some (-1)) else (laws_szTitleS.l0 k1 l0 t103 (wrap64 (x5_1+1))))=some r:=H
      have A6:=Ba A60
      clear A60
      by_cases c7:t103 < 0
      ·rw [if_pos c7] at H
       have c7b0:decide (t103 < 0)=true:=decide_eq_true c7
       clear c7
       obtain rfl:=Option.some.inj H
       have p102:0≤(x5_1:Int):=of_decide_eq_true (by first|(with_reducible assumption)|assumption)
       have q102:x5_1 < (l0.length:Int):=of_decide_eq_true (by first|(with_reducible assumption)|assumption)
       obtain⟨ad102,e102,hx102_0,hx102_1,hx102_2⟩:=at_T44 HR0.out x5_1 p102 q102
       cases e102
       replace hx102_0:=(HB.out.cell (World.block_lt_of_cell? w _ hx102_0)).trans hx102_0
       replace hx102_1:=(HB.out.cell (World.block_lt_of_cell? w _ hx102_1)).trans hx102_1
       replace hx102_2:=(HB.out.cell (World.block_lt_of_cell? w _ hx102_2)).trans hx102_2
       replace p102:=eq_true p102
       replace q102:=eq_true q102
       go_wp2_with (first|((with_reducible refine gate_callee (f:=20) rfl ?_);refine goesL_ (some 23) rfl rfl Tryd.func20 (by kernel_rfl) rfl #[.agg #[.int .i64 ((rd_T44 l0 x5_1).f0),.int .i64 ((rd_T44 l0 x5_1).f1),.string ((rd_T44 l0 x5_1).f2)],.int .i64 x1_1] rfl (by(try simp only [List.map_toArray,List.map_cons,List.map_nil]);first|done|rfl|(simp only [List.length_drop,List.length_take];rfl)) ?_;(with_reducible refine(laws_szTitle.calls ((rd_T44 l0 x5_1).f0) ((rd_T44 l0 x5_1).f1) ((rd_T44 l0 x5_1).f2) x1_1 t103 _ A6.out).mono ?_);rintro e w8 ⟨rfl,hb⟩;refine⟨_,rfl,?_⟩;have n0_:=Ba (below_step (by repeat(first|(with_reducible first|exact HB.out|apply below_alloc|apply Bb|apply below_drew1)|exact HB.out)) hb);clear HB;have HB:=n0_;clear n0_;(try clear hb);(try clear hb2);(try clear hk);(try clear hi)))
       go_ret
       exact⟨by first|rfl|(simp [errW_none,errW_some] <;> rfl)|(simp [*,errW_none,errW_some] <;> rfl),by repeat(first|(with_reducible first|exact HB.out|apply below_alloc|apply Bb|apply below_drew1)|exact HB.out)⟩
      ·rw [if_neg c7] at H
       have c7b0:decide (t103 < 0)=false:=decide_eq_false c7
       clear c7
       have H':=Ba H
       clear H
       have p102:0≤(x5_1:Int):=of_decide_eq_true (by first|(with_reducible assumption)|assumption)
       have q102:x5_1 < (l0.length:Int):=of_decide_eq_true (by first|(with_reducible assumption)|assumption)
       obtain⟨ad102,e102,hx102_0,hx102_1,hx102_2⟩:=at_T44 HR0.out x5_1 p102 q102
       cases e102
       replace hx102_0:=(HB.out.cell (World.block_lt_of_cell? w _ hx102_0)).trans hx102_0
       replace hx102_1:=(HB.out.cell (World.block_lt_of_cell? w _ hx102_1)).trans hx102_1
       replace hx102_2:=(HB.out.cell (World.block_lt_of_cell? w _ hx102_2)).trans hx102_2
       replace p102:=eq_true p102
       replace q102:=eq_true q102
       go_wp2_with (first|((with_reducible refine gate_callee (f:=20) rfl ?_);refine goesL_ (some 23) rfl rfl Tryd.func20 (by kernel_rfl) rfl #[.agg #[.int .i64 ((rd_T44 l0 x5_1).f0),.int .i64 ((rd_T44 l0 x5_1).f1),.string ((rd_T44 l0 x5_1).f2)],.int .i64 x1_1] rfl (by(try simp only [List.map_toArray,List.map_cons,List.map_nil]);first|done|rfl|(simp only [List.length_drop,List.length_take];rfl)) ?_;(with_reducible refine(laws_szTitle.calls ((rd_T44 l0 x5_1).f0) ((rd_T44 l0 x5_1).f1) ((rd_T44 l0 x5_1).f2) x1_1 t103 _ A6.out).mono ?_);rintro e w9 ⟨rfl,hb⟩;refine⟨_,rfl,?_⟩;have n0_:=Ba (below_step (by repeat(first|(with_reducible first|exact HB.out|apply below_alloc|apply Bb|apply below_drew1)|exact HB.out)) hb);clear HB;have HB:=n0_;clear n0_;(try clear hb);(try clear hb2);(try clear hk);(try clear hi)))
       go_roundg k1
       case measure=>have:=HK1.out;omega
       case rel=>exact⟨(t103),(wrap64 (x5_1+1)),(by first|rfl|(simp;done)|(simp [*];done)),(by first|rfl|(simp;done)|(simp [*];done)),H',⟨by have:=HK1.out;omega⟩,⟨by repeat(first|(with_reducible first|exact HB.out|apply below_alloc|apply Bb|apply below_drew1)|exact HB.out)⟩⟩
     ·rw [if_neg c5] at H
      exact absurd H (by simp)
    ·rw [if_neg c4] at H
     have c4b0:decide (x5_1 < (l0.length:Int))=false:=decide_eq_false c4
     clear c4
     obtain rfl:=Option.some.inj H
     go_wp2
     go_ret
     exact⟨by first|rfl|(simp [errW_none,errW_some] <;> rfl)|(simp [*,errW_none,errW_some] <;> rfl),by repeat(first|(with_reducible first|exact HB.out|apply below_alloc|apply Bb|apply below_drew1)|exact HB.out)⟩

/-! ### spec_l12Text: function 32 -/
mutual
def spec_l12Text.j0 : Nat → ByteArray → Int → Bool → Option (Bool)
 | 0, _, _, _ => none
 | k + 1, x0, x3, x24 => if x24 = true then (some false) else (spec_l12Text.l0 k x0 x3 0)
def spec_l12Text.l0 : Nat → ByteArray → Int → Int → Option (Bool)
 | 0, _, _, _ => none
 | k + 1, x0, x3, x4 => if x4 < x3 then (if 0 ≤ x4 then (if x4 < (x0.size : Int) then (if (bt x0 x4) = 10 then (if 0 ≤ (wrap64 (x4 - 1)) then (if (wrap64 (x4 - 1)) < (x0.size : Int) then (if (bt x0 (wrap64 (x4 - 1))) = 10 then (some false) else (if (bt x0 x4) = 127 then (some false) else (spec_l12Text.l0 k x0 x3 (wrap64 (x4 + 1))))) else (none)) else (none)) else (if (bt x0 x4) < 32 then (some false) else (if (bt x0 x4) = 127 then (some false) else (spec_l12Text.l0 k x0 x3 (wrap64 (x4 + 1)))))) else (none)) else (none)) else (some true)
end
def spec_l12Text.f (k : Nat) (a0 : ByteArray) : Option (Bool) := if (a0.size : Int) < 1 then (spec_l12Text.j0 k a0 (a0.size : Int) true) else (if (a0.size : Int) > 200 then (spec_l12Text.j0 k a0 (a0.size : Int) true) else (if 0 < (a0.size : Int) then (if (bt a0 0) = 10 then (spec_l12Text.j0 k a0 (a0.size : Int) true) else (if 0 ≤ (wrap64 ((a0.size : Int) - 1)) then (if (wrap64 ((a0.size : Int) - 1)) < (a0.size : Int) then (spec_l12Text.j0 k a0 (a0.size : Int) ((bt a0 (wrap64 ((a0.size : Int) - 1))) == 10)) else (none)) else (none))) else (none)))
theorem spec_l12Text.mono_l : ∀ k, (∀ y0 y1 y2, LeO (spec_l12Text.j0 k y0 y1 y2) (spec_l12Text.j0 (k + 1) y0 y1 y2)) ∧ (∀ y0 y1 y2, LeO (spec_l12Text.l0 k y0 y1 y2) (spec_l12Text.l0 (k + 1) y0 y1 y2))
 | 0 => ⟨fun _ _ _ r h => by simp [spec_l12Text.j0] at h, fun _ _ _ r h => by simp [spec_l12Text.l0] at h⟩
 | k + 1 => by
  obtain⟨ih0,ih1⟩:=spec_l12Text.mono_l k
  refine⟨?_,?_⟩
  ·intro y0 y1 y2
   unfold spec_l12Text.j0
   repeat' first
   | (with_reducible exact ih0 _ _ _)
   | (with_reducible exact ih1 _ _ _)
   | (with_reducible exact LeO.refl _)
   | (with_reducible exact LeO.none _)
   | (with_reducible refine LeO.ite ?_ ?_)
   | (with_reducible refine LeO.bind ?_ (fun _ => ?_))
   | exact ih0 _ _ _
   | exact ih1 _ _ _
   | exact LeO.none _
   | refine LeO.ite ?_ ?_
   | refine LeO.bind ?_ (fun _ => ?_)
  ·intro y0 y1 y2
   unfold spec_l12Text.l0
   repeat' first
   | (with_reducible exact ih0 _ _ _)
   | (with_reducible exact ih1 _ _ _)
   | (with_reducible exact LeO.refl _)
   | (with_reducible exact LeO.none _)
   | (with_reducible refine LeO.ite ?_ ?_)
   | (with_reducible refine LeO.bind ?_ (fun _ => ?_))
   | exact ih0 _ _ _
   | exact ih1 _ _ _
   | exact LeO.none _
   | refine LeO.ite ?_ ?_
   | refine LeO.bind ?_ (fun _ => ?_)
theorem spec_l12Text.mono : ∀ a0 k, LeO (spec_l12Text.f k a0) (spec_l12Text.f (k + 1) a0) := by
 intro a0 k
 obtain⟨ih0,ih1⟩:=spec_l12Text.mono_l k
 unfold spec_l12Text.f
 repeat' first
   | (with_reducible exact ih0 _ _ _)
   | (with_reducible exact ih1 _ _ _)
   | (with_reducible exact LeO.refl _)
   | (with_reducible exact LeO.none _)
   | (with_reducible refine LeO.ite ?_ ?_)
   | (with_reducible refine LeO.bind ?_ (fun _ => ?_))
   | exact ih0 _ _ _
   | exact ih1 _ _ _
   | exact LeO.none _
   | refine LeO.ite ?_ ?_
   | refine LeO.bind ?_ (fun _ => ?_)
set_option maxHeartbeats 8000000 in
set_option maxRecDepth 100000 in
theorem spec_l12Text.calls (k : Nat) (a0 : ByteArray) (r : Bool) (w : World) (h : spec_l12Text.f k a0 = some r) :
  Calls Tryd.prog 32 #[.string a0] w fun e w'=>e=.returned (.bool r)∧Drawn0 w w':=by
 have H:(if (a0.size:Int) < 1 then (spec_l12Text.j0 k a0 (a0.size:Int) true) else (if (a0.size:Int) > 200 then (spec_l12Text.j0 k a0 (a0.size:Int) true) else (if 0 < (a0.size:Int) then (if (bt a0 0)=10 then (spec_l12Text.j0 k a0 (a0.size:Int) true) else (if 0≤(wrap64 ((a0.size:Int) - 1)) then (if (wrap64 ((a0.size:Int) - 1)) < (a0.size:Int) then (spec_l12Text.j0 k a0 (a0.size:Int) ((bt a0 (wrap64 ((a0.size:Int) - 1))) == 10)) else (none)) else (none))) else (none))))=some r:=h
 clear h
 have HC2:=Ba H
 clear H
 go_enter Tryd.func32,Tryd.ntmps32
 go_upto_region 2 with (fail)
 go_cut [24] (fun v24 wc=>∃ (kq:Nat) (x24_1:Bool),v24=.bool x24_1∧Aside0 (spec_l12Text.j0 kq a0 (a0.size:Int) x24_1=some r)∧Aside0 (kq≤k)∧Drawn0 w wc)
 case first=>
  have H:=HC2.out
  clear HC2
  by_cases c3:(a0.size:Int) < 1
  ·rw [if_pos c3] at H
   have c3b0:decide ((a0.size:Int) < 1)=true:=decide_eq_true c3
   have c3b1:decide (a0.size < 1)=true:=decide_eq_true (by omega)
   clear c3
   (first|rw [c3b0]|(simp only [i64_w,i32_w];rw [c3b0])|skip)
   have H':=Ba H
   clear H
   go_wp2
   go_meet
   case rel=>exact⟨_,(true),(by first|rfl|(simp;done)|(simp [*];done)),H',⟨by first|omega|exact Nat.le_refl _⟩,by repeat(first|exact Drawn0.refl _|apply Drawn0.step)⟩
  ·rw [if_neg c3] at H
   have c3b0:decide ((a0.size:Int) < 1)=false:=decide_eq_false c3
   have c3b1:decide (a0.size < 1)=false:=decide_eq_false (by omega)
   clear c3
   (first|rw [c3b0]|(simp only [i64_w,i32_w];rw [c3b0])|skip)
   by_cases c4:(a0.size:Int) > 200
   ·rw [if_pos c4] at H
    have c4b0:decide (200 < (a0.size:Int))=true:=decide_eq_true c4
    have c4b1:decide (200 < a0.size)=true:=decide_eq_true (by omega)
    clear c4
    have H':=Ba H
    clear H
    go_wp2
    go_meet
    case rel=>exact⟨_,(true),(by first|rfl|(simp;done)|(simp [*];done)),H',⟨by first|omega|exact Nat.le_refl _⟩,by repeat(first|exact Drawn0.refl _|apply Drawn0.step)⟩
   ·rw [if_neg c4] at H
    have c4b0:decide (200 < (a0.size:Int))=false:=decide_eq_false c4
    have c4b1:decide (200 < a0.size)=false:=decide_eq_false (by omega)
    clear c4
    by_cases c5:0 < (a0.size:Int)
    ·rw [if_pos c5] at H
     have c5b0:decide (0 < (a0.size:Int))=true:=decide_eq_true c5
     have c5b1:decide (0 < a0.size)=true:=decide_eq_true (by omega)
     clear c5
     by_cases c7:(bt a0 0)=10
     ·rw [if_pos c7] at H
      have c7b0:((bt a0 0) == 10)=true:=beq_iff_eq.mpr c7
      have c7b1:((bt a0 0) != 10)=false:=bne_eq_false_iff_eq.mpr c7
      clear c7
      have H':=Ba H
      clear H
      have p6:0≤(0:Int):=(by omega)
      have q6:0 < a0.size:=(by have:(0:Int) < (a0.size:Int):=of_decide_eq_true (by first|(with_reducible assumption)|assumption);omega)
      have hx6:∀ h:0 < a0.size,((a0[0]'h).toNat:Int)=bt a0 0:=bt_at a0 0
      clear p6
      have qi6:(0 < (a0.size:Int))=True:=eq_true (of_decide_eq_true (by first|(with_reducible assumption)|assumption))
      replace q6:=eq_true q6
      go_wp2
      go_meet
      case rel=>exact⟨_,(true),(by first|rfl|(simp;done)|(simp [*];done)),H',⟨by first|omega|exact Nat.le_refl _⟩,by repeat(first|exact Drawn0.refl _|apply Drawn0.step)⟩
     ·rw [if_neg c7] at H
      have c7b0:((bt a0 0) == 10)=false:=beq_eq_false_iff_ne.mpr c7
      have c7b1:((bt a0 0) != 10)=true:=bne_iff_ne.mpr c7
      obtain⟨ji8,hji8⟩:∃ j_:Int,(wrap64 ((a0.size:Int) - 1))=j_:=⟨_,rfl⟩
      replace H:(if 0≤(ji8) then (if (ji8) < (a0.size:Int) then (spec_l12Text.j0 k a0 (a0.size:Int) ((bt a0 (ji8)) == 10)) else (none)) else (none))=some r:=by first|(rw [hji8] at H;exact H)|(simp only [hji8] at H ⊢;exact H)
      have hji8w:(IntKind.i64.wrap ((a0.size:Int) - 1))=ji8:=(i64_w _).trans hji8
      by_cases c9:0≤(ji8)
      ·rw [if_pos c9] at H
       have c9b0:decide (0≤(ji8))=true:=decide_eq_true c9
       clear c9
       by_cases c10:(ji8) < (a0.size:Int)
       ·rw [if_pos c10] at H
        have c10b0:decide ((ji8) < (a0.size:Int))=true:=decide_eq_true c10
        clear c10
        have H':=Ba H
        clear H
        have p6:0≤(0:Int):=(by omega)
        have q6:0 < a0.size:=(by have:(0:Int) < (a0.size:Int):=of_decide_eq_true (by first|(with_reducible assumption)|assumption);omega)
        have hx6:∀ h:0 < a0.size,((a0[0]'h).toNat:Int)=bt a0 0:=bt_at a0 0
        clear p6
        have qi6:(0 < (a0.size:Int))=True:=eq_true (of_decide_eq_true (by first|(with_reducible assumption)|assumption))
        replace q6:=eq_true q6
        have p11:0≤((ji8):Int):=of_decide_eq_true (by first|(with_reducible assumption)|assumption)
        have q11:(ji8) < (a0.size:Int):=of_decide_eq_true (by first|(with_reducible assumption)|assumption)
        have hx11:=bt_at a0 (ji8)
        replace p11:=eq_true p11
        replace q11:=eq_true q11
        go_wp2
        go_meet
        case rel=>exact⟨_,(((bt a0 (ji8)) == 10)),(by first|rfl|(simp;done)|(simp only [← hji8] <;> (first|rfl|simp))|(simp [*];done)),H',⟨by first|omega|exact Nat.le_refl _⟩,by repeat(first|exact Drawn0.refl _|apply Drawn0.step)⟩
       ·rw [if_neg c10] at H
        exact absurd H (by simp)
      ·rw [if_neg c9] at H
       exact absurd H (by simp)
    ·rw [if_neg c5] at H
     exact absurd H (by simp)
 case rest=>
  clear HC2
  try clear c1
  try clear p1
  try clear q1
  try clear hx1
  try clear p2
  try clear c3
  try clear c3b0
  try clear c3b1
  try clear c4
  try clear c4b0
  try clear c4b1
  try clear c5
  try clear c5b0
  try clear c5b1
  try clear p6
  try clear q6
  try clear hx6
  try clear qi6
  try clear c7
  try clear c7b0
  try clear c7b1
  try clear c9
  try clear c9b0
  try clear c10
  try clear c10b0
  try clear p11
  try clear q11
  try clear hx11
  try clear p11
  try clear p6
  try clear q11
  try clear q6
  obtain⟨kq,x24_1,rfl,HA,HJ1,⟨mc1,rfl⟩⟩:=hcut
  cases kq with
  | zero => exact absurd HA.out (by simp [spec_l12Text.j0])
  | succ kj1 =>
   have H:=HA.out
   clear HA
   simp only [spec_l12Text.j0] at H
   by_cases c12:x24_1=true
   ·subst c12
    have H1:(some false)=some r:=by rw [if_pos rfl] at H;exact H
    clear H
    have H:=H1
    clear H1
    obtain rfl:=Option.some.inj H
    go_wp2
    go_ret
    exact⟨by first|rfl|(simp;done)|(simp [*];done),by repeat(first|exact Drawn0.refl _|apply Drawn0.step)⟩
   ·replace c12:=Bool.eq_false_iff.mpr c12
    subst c12
    have H1:(spec_l12Text.l0 kj1 a0 (a0.size:Int) 0)=some r:=by rw [if_neg (show ¬ (false=true) by decide)] at H;exact H
    clear H
    have H:=H1
    clear H1
    have H':=Ba H
    clear H
    go_wp2
    go_loopg [4] kj1 (fun kq v4 w'=>∃ (qa:Int),v4=.int .i64 qa∧Aside0 (spec_l12Text.l0 kq a0 (a0.size:Int) qa=some r)∧Aside0 (kq≤kj1)∧Drawn0 w w')
    case atStart=>exact⟨(0),(by first|rfl|(simp;done)|(simp [*];done)),H',⟨Nat.le_refl _⟩,by repeat(first|exact Drawn0.refl _|apply Drawn0.step)⟩
    case round=>
     clear H'
     try clear c1
     try clear p1
     try clear q1
     try clear hx1
     try clear p2
     try clear c3
     try clear c3b0
     try clear c3b1
     try clear c4
     try clear c4b0
     try clear c4b1
     try clear c5
     try clear c5b0
     try clear c5b1
     try clear p6
     try clear q6
     try clear hx6
     try clear qi6
     try clear c7
     try clear c7b0
     try clear c7b1
     try clear c9
     try clear c9b0
     try clear c10
     try clear c10b0
     try clear p11
     try clear q11
     try clear hx11
     try clear c12
     try clear p1
     try clear p11
     try clear p2
     try clear p6
     try clear q1
     try clear q11
     try clear q6
     obtain⟨qa,rfl,HA,HK2,⟨m2,rfl⟩⟩:=hrel
     cases gk with
     | zero => exact absurd HA.out (by simp [spec_l12Text.l0])
     | succ k2 =>
      have H:=HA.out
      clear HA
      simp only [spec_l12Text.l0] at H
      by_cases c13:qa < (a0.size:Int)
      ·rw [if_pos c13] at H
       have c13b0:decide (qa < (a0.size:Int))=true:=decide_eq_true c13
       clear c13
       by_cases c14:0≤qa
       ·rw [if_pos c14] at H
        have c14b0:decide (0≤qa)=true:=decide_eq_true c14
        clear c14
        by_cases c15:qa < (a0.size:Int)
        ·rw [if_pos c15] at H
         have c15b0:decide (qa < (a0.size:Int))=true:=decide_eq_true c15
         clear c15
         by_cases c17:(bt a0 qa)=10
         ·rw [if_pos c17] at H
          have c17b0:((bt a0 qa) == 10)=true:=beq_iff_eq.mpr c17
          have c17b1:((bt a0 qa) != 10)=false:=bne_eq_false_iff_eq.mpr c17
          clear c17
          obtain⟨qb,hji18⟩:∃ j_:Int,(wrap64 (qa - 1))=j_:=⟨_,rfl⟩
          replace H:(if 0≤(qb) then (if (qb) < (a0.size:Int) then (if (bt a0 (qb))=10 then (some false) else (if (bt a0 qa)=127 then (some false) else (spec_l12Text.l0 k2 a0 (a0.size:Int) (wrap64 (qa+1))))) else (none)) else (none))=some r:=by first|(rw [hji18] at H;exact H)|(simp only [hji18] at H ⊢;exact H)
          have hji18w:(IntKind.i64.wrap (qa - 1))=qb:=(i64_w _).trans hji18
          by_cases c19:0≤(qb)
          ·rw [if_pos c19] at H
           have c19b0:decide (0≤(qb))=true:=decide_eq_true c19
           clear c19
           by_cases c20:(qb) < (a0.size:Int)
           ·rw [if_pos c20] at H
            have c20b0:decide ((qb) < (a0.size:Int))=true:=decide_eq_true c20
            clear c20
            by_cases c22:(bt a0 (qb))=10
            ·rw [if_pos c22] at H
             have c22b0:((bt a0 (qb)) == 10)=true:=beq_iff_eq.mpr c22
             have c22b1:((bt a0 (qb)) != 10)=false:=bne_eq_false_iff_eq.mpr c22
             clear c22
             obtain rfl:=Option.some.inj H
             have p16:0≤(qa:Int):=of_decide_eq_true (by first|(with_reducible assumption)|assumption)
             have q16:qa < (a0.size:Int):=of_decide_eq_true (by first|(with_reducible assumption)|assumption)
             have hx16:=bt_at a0 qa
             replace p16:=eq_true p16
             replace q16:=eq_true q16
             have p21:0≤((qb):Int):=of_decide_eq_true (by first|(with_reducible assumption)|assumption)
             have q21:(qb) < (a0.size:Int):=of_decide_eq_true (by first|(with_reducible assumption)|assumption)
             have hx21:=bt_at a0 (qb)
             replace p21:=eq_true p21
             replace q21:=eq_true q21
             go_wp2
             go_ret
             exact⟨by first|rfl|(simp;done)|(simp only [← hji18] <;> (first|rfl|simp))|(simp [*];done),by repeat(first|exact Drawn0.refl _|apply Drawn0.step)⟩
            ·rw [if_neg c22] at H
             have c22b0:((bt a0 (qb)) == 10)=false:=beq_eq_false_iff_ne.mpr c22
             have c22b1:((bt a0 (qb)) != 10)=true:=bne_iff_ne.mpr c22
             by_cases c25:(bt a0 qa)=127
             ·rw [if_pos c25] at H
              have c25b0:((bt a0 qa) == 127)=true:=beq_iff_eq.mpr c25
              have c25b1:((bt a0 qa) != 127)=false:=bne_eq_false_iff_eq.mpr c25
              clear c25
              obtain rfl:=Option.some.inj H
              have p16:0≤(qa:Int):=of_decide_eq_true (by first|(with_reducible assumption)|assumption)
              have q16:qa < (a0.size:Int):=of_decide_eq_true (by first|(with_reducible assumption)|assumption)
              have hx16:=bt_at a0 qa
              replace p16:=eq_true p16
              replace q16:=eq_true q16
              have p21:0≤((qb):Int):=of_decide_eq_true (by first|(with_reducible assumption)|assumption)
              have q21:(qb) < (a0.size:Int):=of_decide_eq_true (by first|(with_reducible assumption)|assumption)
              have hx21:=bt_at a0 (qb)
              replace p21:=eq_true p21
              replace q21:=eq_true q21
              have p23:0≤(qa:Int):=of_decide_eq_true (by first|(with_reducible assumption)|assumption)
              have q23:qa < (a0.size:Int):=of_decide_eq_true (by first|(with_reducible assumption)|assumption)
              have hx23:=bt_at a0 qa
              replace p23:=eq_true p23
              replace q23:=eq_true q23
              have p24:0≤(qa:Int):=of_decide_eq_true (by first|(with_reducible assumption)|assumption)
              have q24:qa < (a0.size:Int):=of_decide_eq_true (by first|(with_reducible assumption)|assumption)
              have hx24:=bt_at a0 qa
              replace p24:=eq_true p24
              replace q24:=eq_true q24
              go_wp2
              go_ret
              exact⟨by first|rfl|(simp;done)|(simp only [← hji18] <;> (first|rfl|simp))|(simp [*];done),by repeat(first|exact Drawn0.refl _|apply Drawn0.step)⟩
             ·rw [if_neg c25] at H
              have c25b0:((bt a0 qa) == 127)=false:=beq_eq_false_iff_ne.mpr c25
              have c25b1:((bt a0 qa) != 127)=true:=bne_iff_ne.mpr c25
              have H':=Ba H
              clear H
              have p16:0≤(qa:Int):=of_decide_eq_true (by first|(with_reducible assumption)|assumption)
              have q16:qa < (a0.size:Int):=of_decide_eq_true (by first|(with_reducible assumption)|assumption)
              have hx16:=bt_at a0 qa
              replace p16:=eq_true p16
              replace q16:=eq_true q16
              have p21:0≤((qb):Int):=of_decide_eq_true (by first|(with_reducible assumption)|assumption)
              have q21:(qb) < (a0.size:Int):=of_decide_eq_true (by first|(with_reducible assumption)|assumption)
              have hx21:=bt_at a0 (qb)
              replace p21:=eq_true p21
              replace q21:=eq_true q21
              have p23:0≤(qa:Int):=of_decide_eq_true (by first|(with_reducible assumption)|assumption)
              have q23:qa < (a0.size:Int):=of_decide_eq_true (by first|(with_reducible assumption)|assumption)
              have hx23:=bt_at a0 qa
              replace p23:=eq_true p23
              replace q23:=eq_true q23
              have p24:0≤(qa:Int):=of_decide_eq_true (by first|(with_reducible assumption)|assumption)
              have q24:qa < (a0.size:Int):=of_decide_eq_true (by first|(with_reducible assumption)|assumption)
              have hx24:=bt_at a0 qa
              replace p24:=eq_true p24
              replace q24:=eq_true q24
              go_wp2
              go_roundg k2
              case measure=>have:=HJ1.out;have:=HK2.out;omega
              case rel=>exact⟨(wrap64 (qa+1)),(by first|rfl|(simp;done)|(simp [*];done)),H',⟨by have:=HJ1.out;have:=HK2.out;omega⟩,by repeat(first|exact Drawn0.refl _|apply Drawn0.step)⟩
           ·rw [if_neg c20] at H
            exact absurd H (by simp)
          ·rw [if_neg c19] at H
           exact absurd H (by simp)
         ·rw [if_neg c17] at H
          have c17b0:((bt a0 qa) == 10)=false:=beq_eq_false_iff_ne.mpr c17
          have c17b1:((bt a0 qa) != 10)=true:=bne_iff_ne.mpr c17
          by_cases c28:(bt a0 qa) < 32
          ·rw [if_pos c28] at H
           have c28b0:decide ((bt a0 qa) < 32)=true:=decide_eq_true c28
           clear c28
           obtain rfl:=Option.some.inj H
           have p16:0≤(qa:Int):=of_decide_eq_true (by first|(with_reducible assumption)|assumption)
           have q16:qa < (a0.size:Int):=of_decide_eq_true (by first|(with_reducible assumption)|assumption)
           have hx16:=bt_at a0 qa
           replace p16:=eq_true p16
           replace q16:=eq_true q16
           have p26:0≤(qa:Int):=of_decide_eq_true (by first|(with_reducible assumption)|assumption)
           have q26:qa < (a0.size:Int):=of_decide_eq_true (by first|(with_reducible assumption)|assumption)
           have hx26:=bt_at a0 qa
           replace p26:=eq_true p26
           replace q26:=eq_true q26
           have p27:0≤(qa:Int):=of_decide_eq_true (by first|(with_reducible assumption)|assumption)
           have q27:qa < (a0.size:Int):=of_decide_eq_true (by first|(with_reducible assumption)|assumption)
           have hx27:=bt_at a0 qa
           replace p27:=eq_true p27
           replace q27:=eq_true q27
           go_wp2
           go_ret
           exact⟨by first|rfl|(simp;done)|(simp [*];done),by repeat(first|exact Drawn0.refl _|apply Drawn0.step)⟩
          ·rw [if_neg c28] at H
           have c28b0:decide ((bt a0 qa) < 32)=false:=decide_eq_false c28
           clear c28
           by_cases c30:(bt a0 qa)=127
           ·rw [if_pos c30] at H
            have c30b0:((bt a0 qa) == 127)=true:=beq_iff_eq.mpr c30
            have c30b1:((bt a0 qa) != 127)=false:=bne_eq_false_iff_eq.mpr c30
            clear c30
            obtain rfl:=Option.some.inj H
            have p16:0≤(qa:Int):=of_decide_eq_true (by first|(with_reducible assumption)|assumption)
            have q16:qa < (a0.size:Int):=of_decide_eq_true (by first|(with_reducible assumption)|assumption)
            have hx16:=bt_at a0 qa
            replace p16:=eq_true p16
            replace q16:=eq_true q16
            have p26:0≤(qa:Int):=of_decide_eq_true (by first|(with_reducible assumption)|assumption)
            have q26:qa < (a0.size:Int):=of_decide_eq_true (by first|(with_reducible assumption)|assumption)
            have hx26:=bt_at a0 qa
            replace p26:=eq_true p26
            replace q26:=eq_true q26
            have p27:0≤(qa:Int):=of_decide_eq_true (by first|(with_reducible assumption)|assumption)
            have q27:qa < (a0.size:Int):=of_decide_eq_true (by first|(with_reducible assumption)|assumption)
            have hx27:=bt_at a0 qa
            replace p27:=eq_true p27
            replace q27:=eq_true q27
            have p29:0≤(qa:Int):=of_decide_eq_true (by first|(with_reducible assumption)|assumption)
            have q29:qa < (a0.size:Int):=of_decide_eq_true (by first|(with_reducible assumption)|assumption)
            have hx29:=bt_at a0 qa
            replace p29:=eq_true p29
            replace q29:=eq_true q29
            go_wp2
            go_ret
            exact⟨by first|rfl|(simp;done)|(simp [*];done),by repeat(first|exact Drawn0.refl _|apply Drawn0.step)⟩
           ·rw [if_neg c30] at H
            have c30b0:((bt a0 qa) == 127)=false:=beq_eq_false_iff_ne.mpr c30
            have c30b1:((bt a0 qa) != 127)=true:=bne_iff_ne.mpr c30
            have H':=Ba H
            clear H
            have p16:0≤(qa:Int):=of_decide_eq_true (by first|(with_reducible assumption)|assumption)
            have q16:qa < (a0.size:Int):=of_decide_eq_true (by first|(with_reducible assumption)|assumption)
            have hx16:=bt_at a0 qa
            replace p16:=eq_true p16
            replace q16:=eq_true q16
            have p26:0≤(qa:Int):=of_decide_eq_true (by first|(with_reducible assumption)|assumption)
            have q26:qa < (a0.size:Int):=of_decide_eq_true (by first|(with_reducible assumption)|assumption)
            have hx26:=bt_at a0 qa
            replace p26:=eq_true p26
            replace q26:=eq_true q26
            have p27:0≤(qa:Int):=of_decide_eq_true (by first|(with_reducible assumption)|assumption)
            have q27:qa < (a0.size:Int):=of_decide_eq_true (by first|(with_reducible assumption)|assumption)
            have hx27:=bt_at a0 qa
            replace p27:=eq_true p27
            replace q27:=eq_true q27
            have p29:0≤(qa:Int):=of_decide_eq_true (by first|(with_reducible assumption)|assumption)
            have q29:qa < (a0.size:Int):=of_decide_eq_true (by first|(with_reducible assumption)|assumption)
            have hx29:=bt_at a0 qa
            replace p29:=eq_true p29
            replace q29:=eq_true q29
            go_wp2
            go_roundg k2
            case measure=>have:=HJ1.out;have:=HK2.out;omega
            case rel=>exact⟨(wrap64 (qa+1)),(by first|rfl|(simp;done)|(simp [*];done)),H',⟨by have:=HJ1.out;have:=HK2.out;omega⟩,by repeat(first|exact Drawn0.refl _|apply Drawn0.step)⟩
        ·rw [if_neg c15] at H
         exact absurd H (by simp)
       ·rw [if_neg c14] at H
        exact absurd H (by simp)
      ·rw [if_neg c13] at H
       have c13b0:decide (qa < (a0.size:Int))=false:=decide_eq_false c13
       clear c13
       obtain rfl:=Option.some.inj H
       go_wp2
       go_ret
       exact⟨by first|rfl|(simp;done)|(simp [*];done),by repeat(first|exact Drawn0.refl _|apply Drawn0.step)⟩

end Go.Proofs.YtidogkjhjmcliaaDoor.HFnExactShowTitles
