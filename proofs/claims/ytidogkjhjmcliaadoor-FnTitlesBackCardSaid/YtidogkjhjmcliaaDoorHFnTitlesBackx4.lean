-- Laid by myprint.py, a program of this repo, out of the kit's printer and this repo's own texts (wip/hand).
import Derived.Test.YtidogkjhjmcliaaDoorHFnTitlesBackx0
import Derived.Test.YtidogkjhjmcliaaDoorHFnTitlesBackx3
import Derived.Test.YtidogkjhjmcliaaDoorCmp
namespace Go.Proofs.YtidogkjhjmcliaaDoor.HFnTitlesBack
open Go.RowKit Go.Proofs.YtidogkjhjmcliaaDoorW.PrintWords Go.Proofs.YtidogkjhjmcliaaDoorW.PrintLast Go.Proofs.YtidogkjhjmcliaaDoorW.PrintMore
attribute [local go_sem] max2_int min2_int max_two min_two max_three min_three max_four min_four   -- for this text's walks alone
set_option linter.unusedVariables false
set_option linter.unusedSimpArgs false
theorem Ea : type_of% @Aside0.mk := @Aside0.mk

/-! ### spec_TitlesOk: function 21 -/
def spec_TitlesOk.l0 : Nat → List (S40) → Int → Option (Bool)
 | 0, _, _ => none
 | k + 1, x0, x3 => if x3 < (x0.length : Int) then (if 0 ≤ x3 then (if ((rd_T40 x0 x3).f0) < 0 then (some false) else (if ((rd_T40 x0 x3).f0) ≥ ((rd_T40 x0 x3).f1) then (some false) else (if ((rd_T40 x0 x3).f1) > 359999999 then (some false) else ((spec_l12Text.f k ((rd_T40 x0 x3).f2)).bind fun t103 => (if t103 = true then (if x3 > 0 then (if 0 ≤ (wrap64 (x3 - 1)) then (if (wrap64 (x3 - 1)) < (x0.length : Int) then (if ((rd_T40 x0 x3).f0) < ((rd_T40 x0 (wrap64 (x3 - 1))).f1) then (some false) else (spec_TitlesOk.l0 k x0 (wrap64 (x3 + 1)))) else (none)) else (none)) else (spec_TitlesOk.l0 k x0 (wrap64 (x3 + 1)))) else (some false)))))) else (none)) else (some true)
def spec_TitlesOk.f (k : Nat) (l0 : List (S40)) : Option (Bool) := if (l0.length : Int) > 200 then (some false) else (spec_TitlesOk.l0 k l0 0)
theorem spec_TitlesOk.mono_l : ∀ k, (∀ y0 y1, LeO (spec_TitlesOk.l0 k y0 y1) (spec_TitlesOk.l0 (k + 1) y0 y1))
 | 0 => fun _ _ r h => by simp [spec_TitlesOk.l0] at h
 | k + 1 => by
  have ih0:=spec_TitlesOk.mono_l k
  ·intro y0 y1
   unfold spec_TitlesOk.l0
   repeat' first|(with_reducible first|exact ih0 _ _|exact spec_l12Text.mono _ _|exact LeO.refl _|exact LeO.none _|refine LeO.ite ?_ ?_|refine LeO.bind ?_ (fun _=>?_))|exact ih0 _ _|exact spec_l12Text.mono _ _|exact LeO.none _|refine LeO.ite ?_ ?_|refine LeO.bind ?_ (fun _=>?_)
theorem spec_TitlesOk.mono : ∀ a0 k, LeO (spec_TitlesOk.f k a0) (spec_TitlesOk.f (k + 1) a0) := by
 intro a0 k
 have ih0:=spec_TitlesOk.mono_l k
 unfold spec_TitlesOk.f
 repeat' first|(with_reducible first|exact ih0 _ _|exact spec_l12Text.mono _ _|exact LeO.refl _|exact LeO.none _|refine LeO.ite ?_ ?_|refine LeO.bind ?_ (fun _=>?_))|exact ih0 _ _|exact spec_l12Text.mono _ _|exact LeO.none _|refine LeO.ite ?_ ?_|refine LeO.bind ?_ (fun _=>?_)
def spec_TitlesOk.T7 : Bool × List (List Nat × List Nat) := (true, [([], []), ([0], [0]), ([1], [1]), ([2], [2]), ([3], [3]), ([4, 3], [3, 4]), ([3], [3]), ([6, 3], [3, 6]), ([5, 7, 3], [3, 5, 7]), ([3, 8], [3, 8]), ([9, 3], [9]), ([10], [10]), ([11, 10], [10, 11]), ([12, 10], [10, 12]), ([10, 13], [10, 13]), ([14, 10], [14]), ([15], [15]), ([16, 15], [15, 16]), ([17, 15, 15], [15, 17]), ([18, 15], [15, 18]), ([15, 19], [15, 19]), ([20, 18], [20]), ([21], [21]), ([22, 21], [21, 22]), ([23, 21, 21], [21, 23]), ([24], [24]), ([25, 24], [24, 25]), ([24], [24]), ([24], [24]), ([28, 24], [24, 28]), ([27, 29, 24], [24, 27, 29]), ([30, 24], [24, 30]), ([31, 24], [24, 31]), ([26, 32, 24], [24, 26, 32]), ([24, 33, 21], [21, 24, 33]), ([21, 34], [21, 34])])
def spec_TitlesOk.B7 : List Nat := [0, 1, 3, 7, 15, 31, 15, 79, 255, 511, 1023, 2047, 4095, 8191, 16383, 32767, 65535, 131071, 262143, 524287, 1048575, 2097151, 4194303, 8388607, 16777215, 33554431, 67108863, 33554431, 33554431, 301989887, 973078527, 2046820351, 4194303999, 8589934591, 17179869183, 34359738367]
theorem spec_TitlesOk.tab7 : rtab .any (opsOf Tryd.f21 7) = spec_TitlesOk.T7 := by kernel_rfl
theorem spec_TitlesOk.bits7 : waitsOk spec_TitlesOk.T7.2 spec_TitlesOk.B7 = true := by kernel_rfl
set_option maxHeartbeats 8000000 in
set_option maxRecDepth 100000 in
theorem spec_TitlesOk.calls (k : Nat) (A0 : Option Addr) (c0 : Nat) (l0 : List (S40)) (r : Bool) (w : World) (hr0 : Kd.C k40 w A0 l0.length l0) (hc0 : l0.length ≤ c0) (h : spec_TitlesOk.f k l0 = some r) :
  Calls Tryd.prog 21 #[.slice A0 l0.length c0] w fun e w'=>e=.returned (.bool r)∧Below w.heap.size w w':=by
 have hu40:=Tryd.underlying40
 have HR0:=Ea hr0
 have HC0:=Ea hc0
 clear hr0 hc0
 have HB:=Ea (Below.refl w.heap.size w)
 have H:(if (l0.length:Int) > 200 then (some false) else (spec_TitlesOk.l0 k l0 0))=some r:=h
 clear h
 by_cases c2:(l0.length:Int) > 200
 ·rw [if_pos c2] at H
  have c2b0:=decide_eq_true c2
  have c2b1:decide (200 < l0.length)=true:=decide_eq_true (by omega)
  clear c2
  obtain rfl:=Option.some.inj H
  go_enter Tryd.func21,Tryd.ntmps21
  go_wp2
  go_ret
  exact⟨by first|rfl|(simp [errW_none,errW_some] <;> rfl)|(simp [*,errW_none,errW_some] <;> rfl),by repeat(first|(with_reducible first|exact HB.out|apply below_alloc|apply pw_below_drewN|apply below_drew1)|exact HB.out)⟩
 ·rw [if_neg c2] at H
  have c2b0:=decide_eq_false c2
  have c2b1:decide (200 < l0.length)=false:=decide_eq_false (by omega)
  clear c2
  have H':=Ea H
  clear H
  go_enter Tryd.func21,Tryd.ntmps21
  go_wp2
  go_loopg [3] k (fun kq v3 w'=>∃ (qc:Int),v3=.int .i64 qc∧Aside0 (spec_TitlesOk.l0 kq l0 qc=some r)∧Aside0 (kq≤k)∧Aside0 (Below w.heap.size w w'))
  case atStart=>exact⟨(0),(by first|rfl|(simp;done)|(simp [*];done)),H',⟨Nat.le_refl _⟩,⟨by repeat(first|(with_reducible first|exact HB.out|apply below_alloc|apply pw_below_drewN|apply below_drew1)|exact HB.out)⟩⟩
  case round=>
   clear H';try clear c2;try clear c2b0;try clear c2b1;try clear p2
   obtain⟨qc,rfl,HA,HK1,HB⟩:=hrel
   cases gk with
   | zero => exact absurd HA.out (by simp [spec_TitlesOk.l0])
   | succ k1 =>
    have H:=HA.out
    clear HA
    simp only [spec_TitlesOk.l0] at H
    by_cases c3:qc < (l0.length:Int)
    ·rw [if_pos c3] at H
     have c3b0:=decide_eq_true c3
     clear c3
     by_cases c4:0≤qc
     case neg=>rw[if_neg c4] at H;exact absurd H (by simp)
     rw[if_pos c4] at H
     have c4b0:=decide_eq_true c4
     clear c4
     by_cases c5:((rd_T40 l0 qc).f0) < 0
     ·rw [if_pos c5] at H
      have c5b0:=decide_eq_true c5
      clear c5
      obtain rfl:=Option.some.inj H
      have qo:0≤(qc:Int):=of_decide_eq_true (by first|(with_reducible assumption)|assumption)
      have qp:qc < (l0.length:Int):=of_decide_eq_true (by first|(with_reducible assumption)|assumption)
      obtain⟨qn,qt,qd,qe,qf⟩:=at_T40 HR0.out qc qo qp
      cases qt
      replace qd:=(HB.out.cell (World.block_lt_of_cell? w _ qd)).trans qd
      replace qe:=(HB.out.cell (World.block_lt_of_cell? w _ qe)).trans qe
      replace qf:=(HB.out.cell (World.block_lt_of_cell? w _ qf)).trans qf
      replace qo:=eq_true qo
      replace qp:=eq_true qp
      try go_wp2_with (first|((with_reducible refine gate_dst (N:=4) rfl ?_);refine box_event ?hg (N:=4) ?hd (cs:=#[.int .i64 0,.int .i64 0,.string (⟨#[]⟩:ByteArray)]) (t:=40) ?hr ?_;(case hd=>rfl);(case hg=>rfl);(case hr=>first|(go_simp;done)|(go_simp;rfl));intro qa hg w6 hbox hb;have qg:=Ea (below_step (by repeat(first|(with_reducible first|exact HB.out|apply below_alloc|apply pw_below_drewN|apply below_drew1)|exact HB.out)) hb);have qh:=Ea (hbox);have qv:=Ea ((by rw [hg];exact(below_size (by repeat(first|(with_reducible first|exact HB.out|apply below_alloc|apply pw_below_drewN|apply below_drew1)|exact HB.out))):w.heap.size≤qa));have qw:=Ea ((by rw [hg];exact(below_size (by repeat(first|(with_reducible first|exact HB.out|apply below_alloc|apply pw_below_drewN|apply below_drew1)|exact HB.out))):w.heap.size≤qa));clear HB;have HB:=qg;have qb:=qh;have qu:=qv;have qi:=qw;clear qg qh qv qw;clear hb hbox hg;have hcz7_0:w6.cell? ⟨qa,0,none⟩=some (.int .i64 0):=(blk_cell qb.out 0).trans rfl;have hcz7_1:w6.cell? ⟨qa,1,none⟩=some (.int .i64 0):=(blk_cell qb.out 1).trans rfl;have hcz7_2:w6.cell? ⟨qa,2,none⟩=some (.string (⟨#[]⟩:ByteArray)):=(blk_cell qb.out 2).trans rfl;have hfz7_0:=blk_frozen qb.out 0;have hfz7_1:=blk_frozen qb.out 1;have hfz7_2:=blk_frozen qb.out 2))
      have qg:Aside0 ((((w6.setCell ⟨qa,0,none⟩ (.int .i64 ((rd_T40 l0 qc).f0))).setCell ⟨qa,1,none⟩ (.int .i64 ((rd_T40 l0 qc).f1))).setCell ⟨qa,2,none⟩ (.string ((rd_T40 l0 qc).f2))).heap[qa]? = some (.cells #[.int .i64 ((rd_T40 l0 qc).f0),.int .i64 ((rd_T40 l0 qc).f1),.string ((rd_T40 l0 qc).f2)] 40 (0,0))):=⟨by(with_reducible repeat(first|refine blk_drewN ?_ _|refine blk_drew ?_|refine blk_alloc ?_ _));refine blk_put (cs:=#[.int .i64 ((rd_T40 l0 qc).f0),.int .i64 ((rd_T40 l0 qc).f1),.string (⟨#[]⟩:ByteArray)]) ?_ 2 _ rfl;(with_reducible repeat(first|refine blk_drewN ?_ _|refine blk_drew ?_|refine blk_alloc ?_ _));refine blk_put (cs:=#[.int .i64 ((rd_T40 l0 qc).f0),.int .i64 0,.string (⟨#[]⟩:ByteArray)]) ?_ 1 _ rfl;(with_reducible repeat(first|refine blk_drewN ?_ _|refine blk_drew ?_|refine blk_alloc ?_ _));refine blk_put (cs:=#[.int .i64 0,.int .i64 0,.string (⟨#[]⟩:ByteArray)]) ?_ 0 _ rfl;(with_reducible repeat(first|refine blk_drewN ?_ _|refine blk_drew ?_|refine blk_alloc ?_ _));exact qb.out⟩
      have qh:Aside0 (Below w.heap.size w (((w6.setCell ⟨qa,0,none⟩ (.int .i64 ((rd_T40 l0 qc).f0))).setCell ⟨qa,1,none⟩ (.int .i64 ((rd_T40 l0 qc).f1))).setCell ⟨qa,2,none⟩ (.string ((rd_T40 l0 qc).f2)))):=⟨by repeat(first|(with_reducible first|exact HB.out|apply below_alloc|apply pw_below_drewN|apply below_drew1|refine below_set ?_ qi.out)|exact HB.out)⟩
      (try clear qb)
      (try clear HB)
      generalize (((w6.setCell ⟨qa,0,none⟩ (.int .i64 ((rd_T40 l0 qc).f0))).setCell ⟨qa,1,none⟩ (.int .i64 ((rd_T40 l0 qc).f1))).setCell ⟨qa,2,none⟩ (.string ((rd_T40 l0 qc).f2)))=w8 at qg qh ⊢
      have qb:=qg
      have HB:=qh
      clear qg qh
      have qg:=Ea (blk_drew qb.out)
      have qh:=Ea (below_drew1 HB.out)
      clear qb HB
      have qb:=qg
      have HB:=qh
      clear qg qh
      refine start_ (n:=36) (S:=fun w'=>w'.cell? ⟨qa,0,none⟩=some (.int .i64 ((rd_T40 l0 qc).f0))∧w'.cell? ⟨qa,1,none⟩=some (.int .i64 ((rd_T40 l0 qc).f1))∧w'.cell? ⟨qa,2,none⟩=some (.string ((rd_T40 l0 qc).f2))) (ds:=[]) #[false,false,false,false,false,false,false,false,false,false,false,false,false,false,false,false,false,false,false,false,false,false,false,false,false,false,false,false,false,false,false,false,false,false,false,false] (by kernel_rfl) rfl rfl ⟨(blk_cell qb.out 0).trans rfl,(blk_cell qb.out 1).trans rfl,(blk_cell qb.out 2).trans rfl⟩ (fun hHeld=>?_);refine with_tabW spec_TitlesOk.tab7 spec_TitlesOk.bits7 (fun HT_ HW_=>?_)
      generalize w8.drew=w9 at qb HB hHeld ⊢
      refine pz 0 18 (bm 36 1) HT_ ?_
      refine tz 1 19 (bm 36 3) HT_ HW_ hHeld rfl (by rintro w' ⟨s0,s1,s2⟩;go_simp;with_reducible rfl) ?_
      refine pz 2 20 (bm 36 7) HT_ ?_
      refine pz 3 21 (bm 36 15) HT_ ?_
      refine pd 4 22 (bm 36 31) HT_ ?_
      refine pd 5 23 (bm 36 63) HT_ ?_
      refine pd 6 24 (bm 36 127) HT_ ?_
      refine pd 7 25 (bm 36 255) HT_ ?_
      refine pd 8 26 (bm 36 511) HT_ ?_
      refine pz 9 27 (bm 36 1023) HT_ ?_
      refine pz 10 28 (bm 36 2047) HT_ ?_
      refine pd 11 29 (bm 36 4095) HT_ ?_
      refine pd 12 30 (bm 36 8191) HT_ ?_
      refine pd 13 31 (bm 36 16383) HT_ ?_
      refine pz 14 32 (bm 36 32767) HT_ ?_
      refine pz 15 33 (bm 36 65535) HT_ ?_
      refine pd 16 34 (bm 36 131071) HT_ ?_
      refine pd 17 35 (bm 36 262143) HT_ ?_
      refine pd 18 36 (bm 36 524287) HT_ ?_
      refine pd 19 37 (bm 36 1048575) HT_ ?_
      refine pz 20 38 (bm 36 2097151) HT_ ?_
      refine pz 21 39 (bm 36 4194303) HT_ ?_
      refine pd 22 40 (bm 36 8388607) HT_ ?_
      refine pd 23 41 (bm 36 16777215) HT_ ?_
      refine pd 24 42 (bm 36 33554431) HT_ ?_
      refine pd 25 43 (bm 36 67108863) HT_ ?_
      refine pd 26 44 (bm 36 134217727) HT_ ?_
      refine pd 27 45 (bm 36 268435455) HT_ ?_
      refine pd 28 46 (bm 36 536870911) HT_ ?_
      refine pd 29 47 (bm 36 1073741823) HT_ ?_
      refine pd 30 48 (bm 36 2147483647) HT_ ?_
      refine pd 31 49 (bm 36 4294967295) HT_ ?_
      refine pd 32 50 (bm 36 8589934591) HT_ ?_
      refine pd 33 51 (bm 36 17179869183) HT_ ?_
      refine pd 34 52 (bm 36 34359738367) HT_ ?_
      refine pz 35 53 (bm 36 68719476735) HT_ ?_
      refine done_ (done_of HT_.out (by kernel_rfl)) ?_
      try go_wp2
      go_ret
      exact⟨by first|rfl|(simp [errW_none,errW_some] <;> rfl)|(simp [*,errW_none,errW_some] <;> rfl),by repeat(first|(with_reducible first|exact HB.out|apply below_alloc|apply pw_below_drewN|apply below_drew1|refine below_set ?_ qi.out)|exact HB.out)⟩
     ·rw [if_neg c5] at H
      have c5b0:=decide_eq_false c5
      clear c5
      by_cases c10:((rd_T40 l0 qc).f0) ≥ ((rd_T40 l0 qc).f1)
      ·rw [if_pos c10] at H
       have c10b0:=decide_eq_true c10
       clear c10
       obtain rfl:=Option.some.inj H
       have qo:0≤(qc:Int):=of_decide_eq_true (by first|(with_reducible assumption)|assumption)
       have qp:qc < (l0.length:Int):=of_decide_eq_true (by first|(with_reducible assumption)|assumption)
       obtain⟨qn,qt,qd,qe,qf⟩:=at_T40 HR0.out qc qo qp
       cases qt
       replace qd:=(HB.out.cell (World.block_lt_of_cell? w _ qd)).trans qd
       replace qe:=(HB.out.cell (World.block_lt_of_cell? w _ qe)).trans qe
       replace qf:=(HB.out.cell (World.block_lt_of_cell? w _ qf)).trans qf
       replace qo:=eq_true qo
       replace qp:=eq_true qp
       try go_wp2_with (first|((with_reducible refine gate_dst (N:=4) rfl ?_);refine box_event ?hg (N:=4) ?hd (cs:=#[.int .i64 0,.int .i64 0,.string (⟨#[]⟩:ByteArray)]) (t:=40) ?hr ?_;(case hd=>rfl);(case hg=>rfl);(case hr=>first|(go_simp;done)|(go_simp;rfl));intro qa hg w11 hbox hb;have qg:=Ea (below_step (by repeat(first|(with_reducible first|exact HB.out|apply below_alloc|apply pw_below_drewN|apply below_drew1)|exact HB.out)) hb);have qh:=Ea (hbox);have qv:=Ea ((by rw [hg];exact(below_size (by repeat(first|(with_reducible first|exact HB.out|apply below_alloc|apply pw_below_drewN|apply below_drew1)|exact HB.out))):w.heap.size≤qa));have qw:=Ea ((by rw [hg];exact(below_size (by repeat(first|(with_reducible first|exact HB.out|apply below_alloc|apply pw_below_drewN|apply below_drew1)|exact HB.out))):w.heap.size≤qa));clear HB;have HB:=qg;have qb:=qh;have qu:=qv;have qi:=qw;clear qg qh qv qw;clear hb hbox hg;have hcz12_0:w11.cell? ⟨qa,0,none⟩=some (.int .i64 0):=(blk_cell qb.out 0).trans rfl;have hcz12_1:w11.cell? ⟨qa,1,none⟩=some (.int .i64 0):=(blk_cell qb.out 1).trans rfl;have hcz12_2:w11.cell? ⟨qa,2,none⟩=some (.string (⟨#[]⟩:ByteArray)):=(blk_cell qb.out 2).trans rfl;have hfz12_0:=blk_frozen qb.out 0;have hfz12_1:=blk_frozen qb.out 1;have hfz12_2:=blk_frozen qb.out 2))
       have qg:Aside0 ((((w11.setCell ⟨qa,0,none⟩ (.int .i64 ((rd_T40 l0 qc).f0))).setCell ⟨qa,1,none⟩ (.int .i64 ((rd_T40 l0 qc).f1))).setCell ⟨qa,2,none⟩ (.string ((rd_T40 l0 qc).f2))).heap[qa]? = some (.cells #[.int .i64 ((rd_T40 l0 qc).f0),.int .i64 ((rd_T40 l0 qc).f1),.string ((rd_T40 l0 qc).f2)] 40 (0,0))):=⟨by(with_reducible repeat(first|refine blk_drewN ?_ _|refine blk_drew ?_|refine blk_alloc ?_ _));refine blk_put (cs:=#[.int .i64 ((rd_T40 l0 qc).f0),.int .i64 ((rd_T40 l0 qc).f1),.string (⟨#[]⟩:ByteArray)]) ?_ 2 _ rfl;(with_reducible repeat(first|refine blk_drewN ?_ _|refine blk_drew ?_|refine blk_alloc ?_ _));refine blk_put (cs:=#[.int .i64 ((rd_T40 l0 qc).f0),.int .i64 0,.string (⟨#[]⟩:ByteArray)]) ?_ 1 _ rfl;(with_reducible repeat(first|refine blk_drewN ?_ _|refine blk_drew ?_|refine blk_alloc ?_ _));refine blk_put (cs:=#[.int .i64 0,.int .i64 0,.string (⟨#[]⟩:ByteArray)]) ?_ 0 _ rfl;(with_reducible repeat(first|refine blk_drewN ?_ _|refine blk_drew ?_|refine blk_alloc ?_ _));exact qb.out⟩
       have qh:Aside0 (Below w.heap.size w (((w11.setCell ⟨qa,0,none⟩ (.int .i64 ((rd_T40 l0 qc).f0))).setCell ⟨qa,1,none⟩ (.int .i64 ((rd_T40 l0 qc).f1))).setCell ⟨qa,2,none⟩ (.string ((rd_T40 l0 qc).f2)))):=⟨by repeat(first|(with_reducible first|exact HB.out|apply below_alloc|apply pw_below_drewN|apply below_drew1|refine below_set ?_ qi.out)|exact HB.out)⟩
       (try clear qb)
       (try clear HB)
       generalize (((w11.setCell ⟨qa,0,none⟩ (.int .i64 ((rd_T40 l0 qc).f0))).setCell ⟨qa,1,none⟩ (.int .i64 ((rd_T40 l0 qc).f1))).setCell ⟨qa,2,none⟩ (.string ((rd_T40 l0 qc).f2)))=w13 at qg qh ⊢
       have qb:=qg
       have HB:=qh
       clear qg qh
       have qg:=Ea (blk_drew qb.out)
       have qh:=Ea (below_drew1 HB.out)
       clear qb HB
       have qb:=qg
       have HB:=qh
       clear qg qh
       refine start_ (n:=36) (S:=fun w'=>w'.cell? ⟨qa,0,none⟩=some (.int .i64 ((rd_T40 l0 qc).f0))∧w'.cell? ⟨qa,1,none⟩=some (.int .i64 ((rd_T40 l0 qc).f1))∧w'.cell? ⟨qa,2,none⟩=some (.string ((rd_T40 l0 qc).f2))) (ds:=[]) #[false,false,false,false,false,false,false,false,false,false,false,false,false,false,false,false,false,false,false,false,false,false,false,false,false,false,false,false,false,false,false,false,false,false,false,false] (by kernel_rfl) rfl rfl ⟨(blk_cell qb.out 0).trans rfl,(blk_cell qb.out 1).trans rfl,(blk_cell qb.out 2).trans rfl⟩ (fun hHeld=>?_);refine with_tabW spec_TitlesOk.tab7 spec_TitlesOk.bits7 (fun HT_ HW_=>?_)
       generalize w13.drew=w14 at qb HB hHeld ⊢
       refine pz 0 18 (bm 36 1) HT_ ?_
       refine tz 1 19 (bm 36 3) HT_ HW_ hHeld rfl (by rintro w' ⟨s0,s1,s2⟩;go_simp;with_reducible rfl) ?_
       refine pz 2 20 (bm 36 7) HT_ ?_
       refine pz 3 21 (bm 36 15) HT_ ?_
       refine pz 4 22 (bm 36 31) HT_ ?_
       refine pz 6 24 (bm 36 95) HT_ ?_
       refine tz 5 23 (bm 36 127) HT_ HW_ hHeld rfl (by rintro w' ⟨s0,s1,s2⟩;go_simp;with_reducible rfl) ?_
       refine tz 7 25 (bm 36 255) HT_ HW_ hHeld rfl (by rintro w' ⟨s0,s1,s2⟩;go_simp;with_reducible rfl) ?_
       refine pz 8 26 (bm 36 511) HT_ ?_
       refine pz 9 27 (bm 36 1023) HT_ ?_
       refine pz 10 28 (bm 36 2047) HT_ ?_
       refine pd 11 29 (bm 36 4095) HT_ ?_
       refine pd 12 30 (bm 36 8191) HT_ ?_
       refine pd 13 31 (bm 36 16383) HT_ ?_
       refine pz 14 32 (bm 36 32767) HT_ ?_
       refine pz 15 33 (bm 36 65535) HT_ ?_
       refine pd 16 34 (bm 36 131071) HT_ ?_
       refine pd 17 35 (bm 36 262143) HT_ ?_
       refine pd 18 36 (bm 36 524287) HT_ ?_
       refine pd 19 37 (bm 36 1048575) HT_ ?_
       refine pz 20 38 (bm 36 2097151) HT_ ?_
       refine pz 21 39 (bm 36 4194303) HT_ ?_
       refine pd 22 40 (bm 36 8388607) HT_ ?_
       refine pd 23 41 (bm 36 16777215) HT_ ?_
       refine pd 24 42 (bm 36 33554431) HT_ ?_
       refine pd 25 43 (bm 36 67108863) HT_ ?_
       refine pd 26 44 (bm 36 134217727) HT_ ?_
       refine pd 27 45 (bm 36 268435455) HT_ ?_
       refine pd 28 46 (bm 36 536870911) HT_ ?_
       refine pd 29 47 (bm 36 1073741823) HT_ ?_
       refine pd 30 48 (bm 36 2147483647) HT_ ?_
       refine pd 31 49 (bm 36 4294967295) HT_ ?_
       refine pd 32 50 (bm 36 8589934591) HT_ ?_
       refine pd 33 51 (bm 36 17179869183) HT_ ?_
       refine pd 34 52 (bm 36 34359738367) HT_ ?_
       refine pz 35 53 (bm 36 68719476735) HT_ ?_
       refine done_ (done_of HT_.out (by kernel_rfl)) ?_
       try go_wp2
       go_ret
       exact⟨by first|rfl|(simp [errW_none,errW_some] <;> rfl)|(simp [*,errW_none,errW_some] <;> rfl),by repeat(first|(with_reducible first|exact HB.out|apply below_alloc|apply pw_below_drewN|apply below_drew1|refine below_set ?_ qi.out)|exact HB.out)⟩
      ·rw [if_neg c10] at H
       have c10b0:=decide_eq_false c10
       clear c10
       by_cases c15:((rd_T40 l0 qc).f1) > 359999999
       ·rw [if_pos c15] at H
        have c15b0:=decide_eq_true c15
        clear c15
        obtain rfl:=Option.some.inj H
        have qo:0≤(qc:Int):=of_decide_eq_true (by first|(with_reducible assumption)|assumption)
        have qp:qc < (l0.length:Int):=of_decide_eq_true (by first|(with_reducible assumption)|assumption)
        obtain⟨qn,qt,qd,qe,qf⟩:=at_T40 HR0.out qc qo qp
        cases qt
        replace qd:=(HB.out.cell (World.block_lt_of_cell? w _ qd)).trans qd
        replace qe:=(HB.out.cell (World.block_lt_of_cell? w _ qe)).trans qe
        replace qf:=(HB.out.cell (World.block_lt_of_cell? w _ qf)).trans qf
        replace qo:=eq_true qo
        replace qp:=eq_true qp
        try go_wp2_with (first|((with_reducible refine gate_dst (N:=4) rfl ?_);refine box_event ?hg (N:=4) ?hd (cs:=#[.int .i64 0,.int .i64 0,.string (⟨#[]⟩:ByteArray)]) (t:=40) ?hr ?_;(case hd=>rfl);(case hg=>rfl);(case hr=>first|(go_simp;done)|(go_simp;rfl));intro qa hg w16 hbox hb;have qg:=Ea (below_step (by repeat(first|(with_reducible first|exact HB.out|apply below_alloc|apply pw_below_drewN|apply below_drew1)|exact HB.out)) hb);have qh:=Ea (hbox);have qv:=Ea ((by rw [hg];exact(below_size (by repeat(first|(with_reducible first|exact HB.out|apply below_alloc|apply pw_below_drewN|apply below_drew1)|exact HB.out))):w.heap.size≤qa));have qw:=Ea ((by rw [hg];exact(below_size (by repeat(first|(with_reducible first|exact HB.out|apply below_alloc|apply pw_below_drewN|apply below_drew1)|exact HB.out))):w.heap.size≤qa));clear HB;have HB:=qg;have qb:=qh;have qu:=qv;have qi:=qw;clear qg qh qv qw;clear hb hbox hg;have hcz17_0:w16.cell? ⟨qa,0,none⟩=some (.int .i64 0):=(blk_cell qb.out 0).trans rfl;have hcz17_1:w16.cell? ⟨qa,1,none⟩=some (.int .i64 0):=(blk_cell qb.out 1).trans rfl;have hcz17_2:w16.cell? ⟨qa,2,none⟩=some (.string (⟨#[]⟩:ByteArray)):=(blk_cell qb.out 2).trans rfl;have hfz17_0:=blk_frozen qb.out 0;have hfz17_1:=blk_frozen qb.out 1;have hfz17_2:=blk_frozen qb.out 2))
        have qg:Aside0 ((((w16.setCell ⟨qa,0,none⟩ (.int .i64 ((rd_T40 l0 qc).f0))).setCell ⟨qa,1,none⟩ (.int .i64 ((rd_T40 l0 qc).f1))).setCell ⟨qa,2,none⟩ (.string ((rd_T40 l0 qc).f2))).heap[qa]? = some (.cells #[.int .i64 ((rd_T40 l0 qc).f0),.int .i64 ((rd_T40 l0 qc).f1),.string ((rd_T40 l0 qc).f2)] 40 (0,0))):=⟨by(with_reducible repeat(first|refine blk_drewN ?_ _|refine blk_drew ?_|refine blk_alloc ?_ _));refine blk_put (cs:=#[.int .i64 ((rd_T40 l0 qc).f0),.int .i64 ((rd_T40 l0 qc).f1),.string (⟨#[]⟩:ByteArray)]) ?_ 2 _ rfl;(with_reducible repeat(first|refine blk_drewN ?_ _|refine blk_drew ?_|refine blk_alloc ?_ _));refine blk_put (cs:=#[.int .i64 ((rd_T40 l0 qc).f0),.int .i64 0,.string (⟨#[]⟩:ByteArray)]) ?_ 1 _ rfl;(with_reducible repeat(first|refine blk_drewN ?_ _|refine blk_drew ?_|refine blk_alloc ?_ _));refine blk_put (cs:=#[.int .i64 0,.int .i64 0,.string (⟨#[]⟩:ByteArray)]) ?_ 0 _ rfl;(with_reducible repeat(first|refine blk_drewN ?_ _|refine blk_drew ?_|refine blk_alloc ?_ _));exact qb.out⟩
        have qh:Aside0 (Below w.heap.size w (((w16.setCell ⟨qa,0,none⟩ (.int .i64 ((rd_T40 l0 qc).f0))).setCell ⟨qa,1,none⟩ (.int .i64 ((rd_T40 l0 qc).f1))).setCell ⟨qa,2,none⟩ (.string ((rd_T40 l0 qc).f2)))):=⟨by repeat(first|(with_reducible first|exact HB.out|apply below_alloc|apply pw_below_drewN|apply below_drew1|refine below_set ?_ qi.out)|exact HB.out)⟩
        (try clear qb)
        (try clear HB)
        generalize (((w16.setCell ⟨qa,0,none⟩ (.int .i64 ((rd_T40 l0 qc).f0))).setCell ⟨qa,1,none⟩ (.int .i64 ((rd_T40 l0 qc).f1))).setCell ⟨qa,2,none⟩ (.string ((rd_T40 l0 qc).f2)))=w18 at qg qh ⊢
        have qb:=qg
        have HB:=qh
        clear qg qh
        have qg:=Ea (blk_drew qb.out)
        have qh:=Ea (below_drew1 HB.out)
        clear qb HB
        have qb:=qg
        have HB:=qh
        clear qg qh
        refine start_ (n:=36) (S:=fun w'=>w'.cell? ⟨qa,0,none⟩=some (.int .i64 ((rd_T40 l0 qc).f0))∧w'.cell? ⟨qa,1,none⟩=some (.int .i64 ((rd_T40 l0 qc).f1))∧w'.cell? ⟨qa,2,none⟩=some (.string ((rd_T40 l0 qc).f2))) (ds:=[]) #[false,false,false,false,false,false,false,false,false,false,false,false,false,false,false,false,false,false,false,false,false,false,false,false,false,false,false,false,false,false,false,false,false,false,false,false] (by kernel_rfl) rfl rfl ⟨(blk_cell qb.out 0).trans rfl,(blk_cell qb.out 1).trans rfl,(blk_cell qb.out 2).trans rfl⟩ (fun hHeld=>?_);refine with_tabW spec_TitlesOk.tab7 spec_TitlesOk.bits7 (fun HT_ HW_=>?_)
        generalize w18.drew=w19 at qb HB hHeld ⊢
        refine pz 0 18 (bm 36 1) HT_ ?_
        refine tz 1 19 (bm 36 3) HT_ HW_ hHeld rfl (by rintro w' ⟨s0,s1,s2⟩;go_simp;with_reducible rfl) ?_
        refine pz 2 20 (bm 36 7) HT_ ?_
        refine pz 3 21 (bm 36 15) HT_ ?_
        refine pz 4 22 (bm 36 31) HT_ ?_
        refine pz 6 24 (bm 36 95) HT_ ?_
        refine tz 5 23 (bm 36 127) HT_ HW_ hHeld rfl (by rintro w' ⟨s0,s1,s2⟩;go_simp;with_reducible rfl) ?_
        refine tz 7 25 (bm 36 255) HT_ HW_ hHeld rfl (by rintro w' ⟨s0,s1,s2⟩;go_simp;with_reducible rfl) ?_
        refine pz 8 26 (bm 36 511) HT_ ?_
        refine pz 9 27 (bm 36 1023) HT_ ?_
        refine pz 10 28 (bm 36 2047) HT_ ?_
        refine pz 11 29 (bm 36 4095) HT_ ?_
        refine tz 12 30 (bm 36 8191) HT_ HW_ hHeld rfl (by rintro w' ⟨s0,s1,s2⟩;go_simp;with_reducible rfl) ?_
        refine pz 13 31 (bm 36 16383) HT_ ?_
        refine pz 14 32 (bm 36 32767) HT_ ?_
        refine pz 15 33 (bm 36 65535) HT_ ?_
        refine pd 16 34 (bm 36 131071) HT_ ?_
        refine pd 17 35 (bm 36 262143) HT_ ?_
        refine pd 18 36 (bm 36 524287) HT_ ?_
        refine pd 19 37 (bm 36 1048575) HT_ ?_
        refine pz 20 38 (bm 36 2097151) HT_ ?_
        refine pz 21 39 (bm 36 4194303) HT_ ?_
        refine pd 22 40 (bm 36 8388607) HT_ ?_
        refine pd 23 41 (bm 36 16777215) HT_ ?_
        refine pd 24 42 (bm 36 33554431) HT_ ?_
        refine pd 25 43 (bm 36 67108863) HT_ ?_
        refine pd 26 44 (bm 36 134217727) HT_ ?_
        refine pd 27 45 (bm 36 268435455) HT_ ?_
        refine pd 28 46 (bm 36 536870911) HT_ ?_
        refine pd 29 47 (bm 36 1073741823) HT_ ?_
        refine pd 30 48 (bm 36 2147483647) HT_ ?_
        refine pd 31 49 (bm 36 4294967295) HT_ ?_
        refine pd 32 50 (bm 36 8589934591) HT_ ?_
        refine pd 33 51 (bm 36 17179869183) HT_ ?_
        refine pd 34 52 (bm 36 34359738367) HT_ ?_
        refine pz 35 53 (bm 36 68719476735) HT_ ?_
        refine done_ (done_of HT_.out (by kernel_rfl)) ?_
        try go_wp2
        go_ret
        exact⟨by first|rfl|(simp [errW_none,errW_some] <;> rfl)|(simp [*,errW_none,errW_some] <;> rfl),by repeat(first|(with_reducible first|exact HB.out|apply below_alloc|apply pw_below_drewN|apply below_drew1|refine below_set ?_ qi.out)|exact HB.out)⟩
       ·rw [if_neg c15] at H
        have c15b0:=decide_eq_false c15
        clear c15
        replace H:=Option.bind_eq_some_iff.mp H
        obtain⟨t103,A200,H⟩:=H
        try dsimp only at H
        have A20:=Ea A200
        clear A200
        by_cases c21:t103=true
        ·subst c21
         rw[if_pos rfl] at H
         by_cases c22:qc > 0
         ·rw [if_pos c22] at H
          have c22b0:=decide_eq_true c22
          clear c22
          obtain⟨qm,hji23⟩:∃ j_:Int,(wrap64 (qc - 1))=j_:=⟨_,rfl⟩
          replace H:(if 0≤(qm) then (if (qm) < (l0.length:Int) then (if ((rd_T40 l0 qc).f0) < ((rd_T40 l0 (qm)).f1) then (some false) else (spec_TitlesOk.l0 k1 l0 (wrap64 (qc+1)))) else (none)) else (none))=some r:=by first|(rw [hji23] at H;exact H)|(simp only [hji23] at H ⊢;exact H)
          (try rw [hji23] at A20)
          have hji23w:(IntKind.i64.wrap (qc - 1))=qm:=(i64_w _).trans hji23
          by_cases c24:0≤(qm)
          case neg=>rw[if_neg c24] at H;exact absurd H (by simp)
          rw[if_pos c24] at H
          have c24b0:=decide_eq_true c24
          clear c24
          by_cases c25:(qm) < (l0.length:Int)
          case neg=>rw[if_neg c25] at H;exact absurd H (by simp)
          rw[if_pos c25] at H
          have c25b0:=decide_eq_true c25
          clear c25
          by_cases c26:((rd_T40 l0 qc).f0) < ((rd_T40 l0 (qm)).f1)
          ·rw [if_pos c26] at H
           have c26b0:=decide_eq_true c26
           clear c26
           obtain rfl:=Option.some.inj H
           have qo:0≤(qc:Int):=of_decide_eq_true (by first|(with_reducible assumption)|assumption)
           have qp:qc < (l0.length:Int):=of_decide_eq_true (by first|(with_reducible assumption)|assumption)
           obtain⟨qn,qt,qd,qe,qf⟩:=at_T40 HR0.out qc qo qp
           cases qt
           replace qd:=(HB.out.cell (World.block_lt_of_cell? w _ qd)).trans qd
           replace qe:=(HB.out.cell (World.block_lt_of_cell? w _ qe)).trans qe
           replace qf:=(HB.out.cell (World.block_lt_of_cell? w _ qf)).trans qf
           replace qo:=eq_true qo
           replace qp:=eq_true qp
           try go_wp2_with (first|((with_reducible refine gate_dst (N:=4) rfl ?_);refine box_event ?hg (N:=4) ?hd (cs:=#[.int .i64 0,.int .i64 0,.string (⟨#[]⟩:ByteArray)]) (t:=40) ?hr ?_;(case hd=>rfl);(case hg=>rfl);(case hr=>first|(go_simp;done)|(go_simp;rfl));intro qa hg w27 hbox hb;have qg:=Ea (below_step (by repeat(first|(with_reducible first|exact HB.out|apply below_alloc|apply pw_below_drewN|apply below_drew1)|exact HB.out)) hb);have qh:=Ea (hbox);have qv:=Ea ((by rw [hg];exact(below_size (by repeat(first|(with_reducible first|exact HB.out|apply below_alloc|apply pw_below_drewN|apply below_drew1)|exact HB.out))):w.heap.size≤qa));have qw:=Ea ((by rw [hg];exact(below_size (by repeat(first|(with_reducible first|exact HB.out|apply below_alloc|apply pw_below_drewN|apply below_drew1)|exact HB.out))):w.heap.size≤qa));clear HB;have HB:=qg;have qb:=qh;have qu:=qv;have qi:=qw;clear qg qh qv qw;clear hb hbox hg;have hcz28_0:w27.cell? ⟨qa,0,none⟩=some (.int .i64 0):=(blk_cell qb.out 0).trans rfl;have hcz28_1:w27.cell? ⟨qa,1,none⟩=some (.int .i64 0):=(blk_cell qb.out 1).trans rfl;have hcz28_2:w27.cell? ⟨qa,2,none⟩=some (.string (⟨#[]⟩:ByteArray)):=(blk_cell qb.out 2).trans rfl;have hfz28_0:=blk_frozen qb.out 0;have hfz28_1:=blk_frozen qb.out 1;have hfz28_2:=blk_frozen qb.out 2))
           have qg:Aside0 ((((w27.setCell ⟨qa,0,none⟩ (.int .i64 ((rd_T40 l0 qc).f0))).setCell ⟨qa,1,none⟩ (.int .i64 ((rd_T40 l0 qc).f1))).setCell ⟨qa,2,none⟩ (.string ((rd_T40 l0 qc).f2))).heap[qa]? = some (.cells #[.int .i64 ((rd_T40 l0 qc).f0),.int .i64 ((rd_T40 l0 qc).f1),.string ((rd_T40 l0 qc).f2)] 40 (0,0))):=⟨by(with_reducible repeat(first|refine blk_drewN ?_ _|refine blk_drew ?_|refine blk_alloc ?_ _));refine blk_put (cs:=#[.int .i64 ((rd_T40 l0 qc).f0),.int .i64 ((rd_T40 l0 qc).f1),.string (⟨#[]⟩:ByteArray)]) ?_ 2 _ rfl;(with_reducible repeat(first|refine blk_drewN ?_ _|refine blk_drew ?_|refine blk_alloc ?_ _));refine blk_put (cs:=#[.int .i64 ((rd_T40 l0 qc).f0),.int .i64 0,.string (⟨#[]⟩:ByteArray)]) ?_ 1 _ rfl;(with_reducible repeat(first|refine blk_drewN ?_ _|refine blk_drew ?_|refine blk_alloc ?_ _));refine blk_put (cs:=#[.int .i64 0,.int .i64 0,.string (⟨#[]⟩:ByteArray)]) ?_ 0 _ rfl;(with_reducible repeat(first|refine blk_drewN ?_ _|refine blk_drew ?_|refine blk_alloc ?_ _));exact qb.out⟩
           have qh:Aside0 (Below w.heap.size w (((w27.setCell ⟨qa,0,none⟩ (.int .i64 ((rd_T40 l0 qc).f0))).setCell ⟨qa,1,none⟩ (.int .i64 ((rd_T40 l0 qc).f1))).setCell ⟨qa,2,none⟩ (.string ((rd_T40 l0 qc).f2)))):=⟨by repeat(first|(with_reducible first|exact HB.out|apply below_alloc|apply pw_below_drewN|apply below_drew1|refine below_set ?_ qi.out)|exact HB.out)⟩
           (try clear qb)
           (try clear HB)
           generalize (((w27.setCell ⟨qa,0,none⟩ (.int .i64 ((rd_T40 l0 qc).f0))).setCell ⟨qa,1,none⟩ (.int .i64 ((rd_T40 l0 qc).f1))).setCell ⟨qa,2,none⟩ (.string ((rd_T40 l0 qc).f2)))=w29 at qg qh ⊢
           have qb:=qg
           have HB:=qh
           clear qg qh
           have qg:=Ea (blk_drew qb.out)
           have qh:=Ea (below_drew1 HB.out)
           clear qb HB
           have qb:=qg
           have HB:=qh
           clear qg qh
           have p104:0≤((qm):Int):=of_decide_eq_true (by first|(with_reducible assumption)|assumption)
           have q104:(qm) < (l0.length:Int):=of_decide_eq_true (by first|(with_reducible assumption)|assumption)
           obtain⟨ad104,e104,qj,qk,ql⟩:=at_T40 HR0.out (qm) p104 q104
           have qs:=ql
           have qr:=qk
           have qq:=qj
           obtain rfl:qn=ad104:=(by injection e104)
           replace qj:=(HB.out.cell (World.block_lt_of_cell? w _ qj)).trans qj
           replace qk:=(HB.out.cell (World.block_lt_of_cell? w _ qk)).trans qk
           replace ql:=(HB.out.cell (World.block_lt_of_cell? w _ ql)).trans ql
           replace p104:=eq_true p104
           replace q104:=eq_true q104
           refine start_ (n:=36) (S:=fun w'=>w'.cell? ⟨qa,0,none⟩=some (.int .i64 ((rd_T40 l0 qc).f0))∧w'.cell? ⟨qa,1,none⟩=some (.int .i64 ((rd_T40 l0 qc).f1))∧w'.cell? ⟨qa,2,none⟩=some (.string ((rd_T40 l0 qc).f2))∧w'.cell? (qn.add (((qm)).toNat*3))=some (.int .i64 ((rd_T40 l0 (qm)).f0))∧w'.cell? ⟨(qn.add (((qm)).toNat*3)).block,(qn.add (((qm)).toNat*3)).off+1,none⟩=some (.int .i64 ((rd_T40 l0 (qm)).f1))∧w'.cell? ⟨(qn.add (((qm)).toNat*3)).block,(qn.add (((qm)).toNat*3)).off+2,none⟩=some (.string ((rd_T40 l0 (qm)).f2))) (ds:=[]) #[false,false,false,false,false,false,false,false,false,false,false,false,false,false,false,false,false,false,false,false,false,false,false,false,false,false,false,false,false,false,false,false,false,false,false,false] (by kernel_rfl) rfl rfl ⟨(blk_cell qb.out 0).trans rfl,(blk_cell qb.out 1).trans rfl,(blk_cell qb.out 2).trans rfl,((HB.out.cell (World.block_lt_of_cell? w _ qq)).trans qq),((HB.out.cell (World.block_lt_of_cell? w _ qr)).trans qr),((HB.out.cell (World.block_lt_of_cell? w _ qs)).trans qs)⟩ (fun hHeld=>?_);refine with_tabW spec_TitlesOk.tab7 spec_TitlesOk.bits7 (fun HT_ HW_=>?_)
           generalize w29.drew=w30 at qb HB qj qk ql hHeld ⊢
           refine pz 0 18 (bm 36 1) HT_ ?_
           refine tz 1 19 (bm 36 3) HT_ HW_ hHeld rfl (by rintro w' ⟨s0,s1,s2,s3,s4,s5⟩;go_simp;with_reducible rfl) ?_
           refine pz 2 20 (bm 36 7) HT_ ?_
           refine pz 3 21 (bm 36 15) HT_ ?_
           refine pz 4 22 (bm 36 31) HT_ ?_
           refine pz 6 24 (bm 36 95) HT_ ?_
           refine tz 5 23 (bm 36 127) HT_ HW_ hHeld rfl (by rintro w' ⟨s0,s1,s2,s3,s4,s5⟩;go_simp;with_reducible rfl) ?_
           refine tz 7 25 (bm 36 255) HT_ HW_ hHeld rfl (by rintro w' ⟨s0,s1,s2,s3,s4,s5⟩;go_simp;with_reducible rfl) ?_
           refine pz 8 26 (bm 36 511) HT_ ?_
           refine pz 9 27 (bm 36 1023) HT_ ?_
           refine pz 10 28 (bm 36 2047) HT_ ?_
           refine pz 11 29 (bm 36 4095) HT_ ?_
           refine tz 12 30 (bm 36 8191) HT_ HW_ hHeld rfl (by rintro w' ⟨s0,s1,s2,s3,s4,s5⟩;go_simp;with_reducible rfl) ?_
           refine pz 13 31 (bm 36 16383) HT_ ?_
           refine pz 14 32 (bm 36 32767) HT_ ?_
           refine pz 15 33 (bm 36 65535) HT_ ?_
           refine pz 16 34 (bm 36 131071) HT_ ?_
           refine tz 17 35 (bm 36 262143) HT_ HW_ hHeld rfl (by rintro w' ⟨s0,s1,s2,s3,s4,s5⟩;go_simp;with_reducible rfl) ?_
           refine one_ (i:=18) (N:=some 36) (bm 36 524287) rfl rfl (one_of HT_.out (by kernel_rfl)) (by decide) (fun K hK=>?_)
           refine goes_ Tryd.func32 (by kernel_rfl) rfl #[.string ((rd_T40 l0 qc).f2)] (by rfl) rfl rfl (by(try simp only [List.map_toArray,List.map_cons,List.map_nil]);first|done|rfl|(simp only [List.length_drop,List.length_take];rfl)) ?_
           with_reducible refine(spec_l12Text.calls k1 ((rd_T40 l0 qc).f2) true _ A20.out).mono ?_
           rintro e w' ⟨rfl,⟨nd,rfl⟩⟩
           refine⟨_,rfl,?_⟩
           refine hK.out _ _ ⟨(blk_cell qb.out 0).trans rfl,(blk_cell qb.out 1).trans rfl,(blk_cell qb.out 2).trans rfl,((HB.out.cell (World.block_lt_of_cell? w _ qq)).trans qq),((HB.out.cell (World.block_lt_of_cell? w _ qr)).trans qr),((HB.out.cell (World.block_lt_of_cell? w _ qs)).trans qs)⟩ (fun hHeld=>?_)
           clear hK K
           refine norm_ (a':=?_) ?_ ?_;rotate_left;(show Act.put _ (some 36) _=_;simp only[pw];rfl)
           refine pz 19 37 (bm 36 1048575) HT_ ?_
           refine pz 20 38 (bm 36 2097151) HT_ ?_
           refine pz 21 39 (bm 36 4194303) HT_ ?_
           refine pz 22 40 (bm 36 8388607) HT_ ?_
           refine pz 23 41 (bm 36 16777215) HT_ ?_
           refine pz 24 42 (bm 36 33554431) HT_ ?_
           refine pz 25 43 (bm 36 67108863) HT_ ?_
           refine pz 27 45 (bm 36 201326591) HT_ ?_
           refine pz 28 46 (bm 36 469762047) HT_ ?_
           refine pz 29 47 (bm 36 1006632959) HT_ ?_
           refine pz 30 48 (bm 36 2080374783) HT_ ?_
           refine pz 31 49 (bm 36 4227858431) HT_ ?_
           refine tz 26 44 (bm 36 4294967295) HT_ HW_ hHeld rfl (by rintro w' ⟨s0,s1,s2,s3,s4,s5⟩;go_simp;with_reducible rfl) ?_
           refine tz 32 50 (bm 36 8589934591) HT_ HW_ hHeld rfl (by rintro w' ⟨s0,s1,s2,s3,s4,s5⟩;go_simp;with_reducible rfl) ?_
           refine pz 33 51 (bm 36 17179869183) HT_ ?_
           refine pz 34 52 (bm 36 34359738367) HT_ ?_
           refine pz 35 53 (bm 36 68719476735) HT_ ?_
           refine done_ (done_of HT_.out (by kernel_rfl)) ?_
           try go_wp2
           go_ret
           exact⟨by first|rfl|(simp [errW_none,errW_some] <;> rfl)|(simp only [← hji23];first|rfl|(simp [errW_none,errW_some] <;> rfl))|(simp [*,errW_none,errW_some] <;> rfl),by repeat(first|(with_reducible first|exact HB.out|apply below_alloc|apply pw_below_drewN|apply below_drew1|refine below_set ?_ qi.out)|exact HB.out)⟩
          ·rw [if_neg c26] at H
           have c26b0:=decide_eq_false c26
           clear c26
           have H':=Ea H
           clear H
           have qo:0≤(qc:Int):=of_decide_eq_true (by first|(with_reducible assumption)|assumption)
           have qp:qc < (l0.length:Int):=of_decide_eq_true (by first|(with_reducible assumption)|assumption)
           obtain⟨qn,qt,qd,qe,qf⟩:=at_T40 HR0.out qc qo qp
           cases qt
           replace qd:=(HB.out.cell (World.block_lt_of_cell? w _ qd)).trans qd
           replace qe:=(HB.out.cell (World.block_lt_of_cell? w _ qe)).trans qe
           replace qf:=(HB.out.cell (World.block_lt_of_cell? w _ qf)).trans qf
           replace qo:=eq_true qo
           replace qp:=eq_true qp
           try go_wp2_with (first|((with_reducible refine gate_dst (N:=4) rfl ?_);refine box_event ?hg (N:=4) ?hd (cs:=#[.int .i64 0,.int .i64 0,.string (⟨#[]⟩:ByteArray)]) (t:=40) ?hr ?_;(case hd=>rfl);(case hg=>rfl);(case hr=>first|(go_simp;done)|(go_simp;rfl));intro qa hg w31 hbox hb;have qg:=Ea (below_step (by repeat(first|(with_reducible first|exact HB.out|apply below_alloc|apply pw_below_drewN|apply below_drew1)|exact HB.out)) hb);have qh:=Ea (hbox);have qv:=Ea ((by rw [hg];exact(below_size (by repeat(first|(with_reducible first|exact HB.out|apply below_alloc|apply pw_below_drewN|apply below_drew1)|exact HB.out))):w.heap.size≤qa));have qw:=Ea ((by rw [hg];exact(below_size (by repeat(first|(with_reducible first|exact HB.out|apply below_alloc|apply pw_below_drewN|apply below_drew1)|exact HB.out))):w.heap.size≤qa));clear HB;have HB:=qg;have qb:=qh;have qu:=qv;have qi:=qw;clear qg qh qv qw;clear hb hbox hg;have hcz32_0:w31.cell? ⟨qa,0,none⟩=some (.int .i64 0):=(blk_cell qb.out 0).trans rfl;have hcz32_1:w31.cell? ⟨qa,1,none⟩=some (.int .i64 0):=(blk_cell qb.out 1).trans rfl;have hcz32_2:w31.cell? ⟨qa,2,none⟩=some (.string (⟨#[]⟩:ByteArray)):=(blk_cell qb.out 2).trans rfl;have hfz32_0:=blk_frozen qb.out 0;have hfz32_1:=blk_frozen qb.out 1;have hfz32_2:=blk_frozen qb.out 2))
           have qg:Aside0 ((((w31.setCell ⟨qa,0,none⟩ (.int .i64 ((rd_T40 l0 qc).f0))).setCell ⟨qa,1,none⟩ (.int .i64 ((rd_T40 l0 qc).f1))).setCell ⟨qa,2,none⟩ (.string ((rd_T40 l0 qc).f2))).heap[qa]? = some (.cells #[.int .i64 ((rd_T40 l0 qc).f0),.int .i64 ((rd_T40 l0 qc).f1),.string ((rd_T40 l0 qc).f2)] 40 (0,0))):=⟨by(with_reducible repeat(first|refine blk_drewN ?_ _|refine blk_drew ?_|refine blk_alloc ?_ _));refine blk_put (cs:=#[.int .i64 ((rd_T40 l0 qc).f0),.int .i64 ((rd_T40 l0 qc).f1),.string (⟨#[]⟩:ByteArray)]) ?_ 2 _ rfl;(with_reducible repeat(first|refine blk_drewN ?_ _|refine blk_drew ?_|refine blk_alloc ?_ _));refine blk_put (cs:=#[.int .i64 ((rd_T40 l0 qc).f0),.int .i64 0,.string (⟨#[]⟩:ByteArray)]) ?_ 1 _ rfl;(with_reducible repeat(first|refine blk_drewN ?_ _|refine blk_drew ?_|refine blk_alloc ?_ _));refine blk_put (cs:=#[.int .i64 0,.int .i64 0,.string (⟨#[]⟩:ByteArray)]) ?_ 0 _ rfl;(with_reducible repeat(first|refine blk_drewN ?_ _|refine blk_drew ?_|refine blk_alloc ?_ _));exact qb.out⟩
           have qh:Aside0 (Below w.heap.size w (((w31.setCell ⟨qa,0,none⟩ (.int .i64 ((rd_T40 l0 qc).f0))).setCell ⟨qa,1,none⟩ (.int .i64 ((rd_T40 l0 qc).f1))).setCell ⟨qa,2,none⟩ (.string ((rd_T40 l0 qc).f2)))):=⟨by repeat(first|(with_reducible first|exact HB.out|apply below_alloc|apply pw_below_drewN|apply below_drew1|refine below_set ?_ qi.out)|exact HB.out)⟩
           (try clear qb)
           (try clear HB)
           generalize (((w31.setCell ⟨qa,0,none⟩ (.int .i64 ((rd_T40 l0 qc).f0))).setCell ⟨qa,1,none⟩ (.int .i64 ((rd_T40 l0 qc).f1))).setCell ⟨qa,2,none⟩ (.string ((rd_T40 l0 qc).f2)))=w33 at qg qh ⊢
           have qb:=qg
           have HB:=qh
           clear qg qh
           have qg:=Ea (blk_drew qb.out)
           have qh:=Ea (below_drew1 HB.out)
           clear qb HB
           have qb:=qg
           have HB:=qh
           clear qg qh
           have p104:0≤((qm):Int):=of_decide_eq_true (by first|(with_reducible assumption)|assumption)
           have q104:(qm) < (l0.length:Int):=of_decide_eq_true (by first|(with_reducible assumption)|assumption)
           obtain⟨ad104,e104,qj,qk,ql⟩:=at_T40 HR0.out (qm) p104 q104
           have qs:=ql
           have qr:=qk
           have qq:=qj
           obtain rfl:qn=ad104:=(by injection e104)
           replace qj:=(HB.out.cell (World.block_lt_of_cell? w _ qj)).trans qj
           replace qk:=(HB.out.cell (World.block_lt_of_cell? w _ qk)).trans qk
           replace ql:=(HB.out.cell (World.block_lt_of_cell? w _ ql)).trans ql
           replace p104:=eq_true p104
           replace q104:=eq_true q104
           refine start_ (n:=36) (S:=fun w'=>w'.cell? ⟨qa,0,none⟩=some (.int .i64 ((rd_T40 l0 qc).f0))∧w'.cell? ⟨qa,1,none⟩=some (.int .i64 ((rd_T40 l0 qc).f1))∧w'.cell? ⟨qa,2,none⟩=some (.string ((rd_T40 l0 qc).f2))∧w'.cell? (qn.add (((qm)).toNat*3))=some (.int .i64 ((rd_T40 l0 (qm)).f0))∧w'.cell? ⟨(qn.add (((qm)).toNat*3)).block,(qn.add (((qm)).toNat*3)).off+1,none⟩=some (.int .i64 ((rd_T40 l0 (qm)).f1))∧w'.cell? ⟨(qn.add (((qm)).toNat*3)).block,(qn.add (((qm)).toNat*3)).off+2,none⟩=some (.string ((rd_T40 l0 (qm)).f2))) (ds:=[]) #[false,false,false,false,false,false,false,false,false,false,false,false,false,false,false,false,false,false,false,false,false,false,false,false,false,false,false,false,false,false,false,false,false,false,false,false] (by kernel_rfl) rfl rfl ⟨(blk_cell qb.out 0).trans rfl,(blk_cell qb.out 1).trans rfl,(blk_cell qb.out 2).trans rfl,((HB.out.cell (World.block_lt_of_cell? w _ qq)).trans qq),((HB.out.cell (World.block_lt_of_cell? w _ qr)).trans qr),((HB.out.cell (World.block_lt_of_cell? w _ qs)).trans qs)⟩ (fun hHeld=>?_);refine with_tabW spec_TitlesOk.tab7 spec_TitlesOk.bits7 (fun HT_ HW_=>?_)
           generalize w33.drew=w34 at qb HB qj qk ql hHeld ⊢
           refine pz 0 18 (bm 36 1) HT_ ?_
           refine tz 1 19 (bm 36 3) HT_ HW_ hHeld rfl (by rintro w' ⟨s0,s1,s2,s3,s4,s5⟩;go_simp;with_reducible rfl) ?_
           refine pz 2 20 (bm 36 7) HT_ ?_
           refine pz 3 21 (bm 36 15) HT_ ?_
           refine pz 4 22 (bm 36 31) HT_ ?_
           refine pz 6 24 (bm 36 95) HT_ ?_
           refine tz 5 23 (bm 36 127) HT_ HW_ hHeld rfl (by rintro w' ⟨s0,s1,s2,s3,s4,s5⟩;go_simp;with_reducible rfl) ?_
           refine tz 7 25 (bm 36 255) HT_ HW_ hHeld rfl (by rintro w' ⟨s0,s1,s2,s3,s4,s5⟩;go_simp;with_reducible rfl) ?_
           refine pz 8 26 (bm 36 511) HT_ ?_
           refine pz 9 27 (bm 36 1023) HT_ ?_
           refine pz 10 28 (bm 36 2047) HT_ ?_
           refine pz 11 29 (bm 36 4095) HT_ ?_
           refine tz 12 30 (bm 36 8191) HT_ HW_ hHeld rfl (by rintro w' ⟨s0,s1,s2,s3,s4,s5⟩;go_simp;with_reducible rfl) ?_
           refine pz 13 31 (bm 36 16383) HT_ ?_
           refine pz 14 32 (bm 36 32767) HT_ ?_
           refine pz 15 33 (bm 36 65535) HT_ ?_
           refine pz 16 34 (bm 36 131071) HT_ ?_
           refine tz 17 35 (bm 36 262143) HT_ HW_ hHeld rfl (by rintro w' ⟨s0,s1,s2,s3,s4,s5⟩;go_simp;with_reducible rfl) ?_
           refine one_ (i:=18) (N:=some 36) (bm 36 524287) rfl rfl (one_of HT_.out (by kernel_rfl)) (by decide) (fun K hK=>?_)
           refine goes_ Tryd.func32 (by kernel_rfl) rfl #[.string ((rd_T40 l0 qc).f2)] (by rfl) rfl rfl (by(try simp only [List.map_toArray,List.map_cons,List.map_nil]);first|done|rfl|(simp only [List.length_drop,List.length_take];rfl)) ?_
           with_reducible refine(spec_l12Text.calls k1 ((rd_T40 l0 qc).f2) true _ A20.out).mono ?_
           rintro e w' ⟨rfl,⟨nd,rfl⟩⟩
           refine⟨_,rfl,?_⟩
           refine hK.out _ _ ⟨(blk_cell qb.out 0).trans rfl,(blk_cell qb.out 1).trans rfl,(blk_cell qb.out 2).trans rfl,((HB.out.cell (World.block_lt_of_cell? w _ qq)).trans qq),((HB.out.cell (World.block_lt_of_cell? w _ qr)).trans qr),((HB.out.cell (World.block_lt_of_cell? w _ qs)).trans qs)⟩ (fun hHeld=>?_)
           clear hK K
           refine norm_ (a':=?_) ?_ ?_;rotate_left;(show Act.put _ (some 36) _=_;simp only[pw];rfl)
           refine pz 19 37 (bm 36 1048575) HT_ ?_
           refine pz 20 38 (bm 36 2097151) HT_ ?_
           refine pz 21 39 (bm 36 4194303) HT_ ?_
           refine pz 22 40 (bm 36 8388607) HT_ ?_
           refine pz 23 41 (bm 36 16777215) HT_ ?_
           refine pz 24 42 (bm 36 33554431) HT_ ?_
           refine pz 25 43 (bm 36 67108863) HT_ ?_
           refine pz 27 45 (bm 36 201326591) HT_ ?_
           refine pz 28 46 (bm 36 469762047) HT_ ?_
           refine pz 29 47 (bm 36 1006632959) HT_ ?_
           refine pz 30 48 (bm 36 2080374783) HT_ ?_
           refine pz 31 49 (bm 36 4227858431) HT_ ?_
           refine tz 26 44 (bm 36 4294967295) HT_ HW_ hHeld rfl (by rintro w' ⟨s0,s1,s2,s3,s4,s5⟩;go_simp;with_reducible rfl) ?_
           refine tz 32 50 (bm 36 8589934591) HT_ HW_ hHeld rfl (by rintro w' ⟨s0,s1,s2,s3,s4,s5⟩;go_simp;with_reducible rfl) ?_
           refine pz 33 51 (bm 36 17179869183) HT_ ?_
           refine pz 34 52 (bm 36 34359738367) HT_ ?_
           refine pz 35 53 (bm 36 68719476735) HT_ ?_
           refine done_ (done_of HT_.out (by kernel_rfl)) ?_
           try go_wp2
           go_roundg k1
           case measure=>have:=HK1.out;omega
           case rel=>exact⟨(wrap64 (qc+1)),(by first|rfl|(simp;done)|(simp [*];done)),H',⟨by have:=HK1.out;omega⟩,⟨by repeat(first|(with_reducible first|exact HB.out|apply below_alloc|apply pw_below_drewN|apply below_drew1|refine below_set ?_ qi.out)|exact HB.out)⟩⟩
         ·rw [if_neg c22] at H
          have c22b0:=decide_eq_false c22
          clear c22
          have H':=Ea H
          clear H
          have qo:0≤(qc:Int):=of_decide_eq_true (by first|(with_reducible assumption)|assumption)
          have qp:qc < (l0.length:Int):=of_decide_eq_true (by first|(with_reducible assumption)|assumption)
          obtain⟨qn,qt,qd,qe,qf⟩:=at_T40 HR0.out qc qo qp
          cases qt
          replace qd:=(HB.out.cell (World.block_lt_of_cell? w _ qd)).trans qd
          replace qe:=(HB.out.cell (World.block_lt_of_cell? w _ qe)).trans qe
          replace qf:=(HB.out.cell (World.block_lt_of_cell? w _ qf)).trans qf
          replace qo:=eq_true qo
          replace qp:=eq_true qp
          try go_wp2_with (first|((with_reducible refine gate_dst (N:=4) rfl ?_);refine box_event ?hg (N:=4) ?hd (cs:=#[.int .i64 0,.int .i64 0,.string (⟨#[]⟩:ByteArray)]) (t:=40) ?hr ?_;(case hd=>rfl);(case hg=>rfl);(case hr=>first|(go_simp;done)|(go_simp;rfl));intro qa hg w35 hbox hb;have qg:=Ea (below_step (by repeat(first|(with_reducible first|exact HB.out|apply below_alloc|apply pw_below_drewN|apply below_drew1)|exact HB.out)) hb);have qh:=Ea (hbox);have qv:=Ea ((by rw [hg];exact(below_size (by repeat(first|(with_reducible first|exact HB.out|apply below_alloc|apply pw_below_drewN|apply below_drew1)|exact HB.out))):w.heap.size≤qa));have qw:=Ea ((by rw [hg];exact(below_size (by repeat(first|(with_reducible first|exact HB.out|apply below_alloc|apply pw_below_drewN|apply below_drew1)|exact HB.out))):w.heap.size≤qa));clear HB;have HB:=qg;have qb:=qh;have qu:=qv;have qi:=qw;clear qg qh qv qw;clear hb hbox hg;have hcz36_0:w35.cell? ⟨qa,0,none⟩=some (.int .i64 0):=(blk_cell qb.out 0).trans rfl;have hcz36_1:w35.cell? ⟨qa,1,none⟩=some (.int .i64 0):=(blk_cell qb.out 1).trans rfl;have hcz36_2:w35.cell? ⟨qa,2,none⟩=some (.string (⟨#[]⟩:ByteArray)):=(blk_cell qb.out 2).trans rfl;have hfz36_0:=blk_frozen qb.out 0;have hfz36_1:=blk_frozen qb.out 1;have hfz36_2:=blk_frozen qb.out 2))
          have qg:Aside0 ((((w35.setCell ⟨qa,0,none⟩ (.int .i64 ((rd_T40 l0 qc).f0))).setCell ⟨qa,1,none⟩ (.int .i64 ((rd_T40 l0 qc).f1))).setCell ⟨qa,2,none⟩ (.string ((rd_T40 l0 qc).f2))).heap[qa]? = some (.cells #[.int .i64 ((rd_T40 l0 qc).f0),.int .i64 ((rd_T40 l0 qc).f1),.string ((rd_T40 l0 qc).f2)] 40 (0,0))):=⟨by(with_reducible repeat(first|refine blk_drewN ?_ _|refine blk_drew ?_|refine blk_alloc ?_ _));refine blk_put (cs:=#[.int .i64 ((rd_T40 l0 qc).f0),.int .i64 ((rd_T40 l0 qc).f1),.string (⟨#[]⟩:ByteArray)]) ?_ 2 _ rfl;(with_reducible repeat(first|refine blk_drewN ?_ _|refine blk_drew ?_|refine blk_alloc ?_ _));refine blk_put (cs:=#[.int .i64 ((rd_T40 l0 qc).f0),.int .i64 0,.string (⟨#[]⟩:ByteArray)]) ?_ 1 _ rfl;(with_reducible repeat(first|refine blk_drewN ?_ _|refine blk_drew ?_|refine blk_alloc ?_ _));refine blk_put (cs:=#[.int .i64 0,.int .i64 0,.string (⟨#[]⟩:ByteArray)]) ?_ 0 _ rfl;(with_reducible repeat(first|refine blk_drewN ?_ _|refine blk_drew ?_|refine blk_alloc ?_ _));exact qb.out⟩
          have qh:Aside0 (Below w.heap.size w (((w35.setCell ⟨qa,0,none⟩ (.int .i64 ((rd_T40 l0 qc).f0))).setCell ⟨qa,1,none⟩ (.int .i64 ((rd_T40 l0 qc).f1))).setCell ⟨qa,2,none⟩ (.string ((rd_T40 l0 qc).f2)))):=⟨by repeat(first|(with_reducible first|exact HB.out|apply below_alloc|apply pw_below_drewN|apply below_drew1|refine below_set ?_ qi.out)|exact HB.out)⟩
          (try clear qb)
          (try clear HB)
          generalize (((w35.setCell ⟨qa,0,none⟩ (.int .i64 ((rd_T40 l0 qc).f0))).setCell ⟨qa,1,none⟩ (.int .i64 ((rd_T40 l0 qc).f1))).setCell ⟨qa,2,none⟩ (.string ((rd_T40 l0 qc).f2)))=w37 at qg qh ⊢
          have qb:=qg
          have HB:=qh
          clear qg qh
          have qg:=Ea (blk_drew qb.out)
          have qh:=Ea (below_drew1 HB.out)
          clear qb HB
          have qb:=qg
          have HB:=qh
          clear qg qh
          refine start_ (n:=36) (S:=fun w'=>w'.cell? ⟨qa,0,none⟩=some (.int .i64 ((rd_T40 l0 qc).f0))∧w'.cell? ⟨qa,1,none⟩=some (.int .i64 ((rd_T40 l0 qc).f1))∧w'.cell? ⟨qa,2,none⟩=some (.string ((rd_T40 l0 qc).f2))) (ds:=[]) #[false,false,false,false,false,false,false,false,false,false,false,false,false,false,false,false,false,false,false,false,false,false,false,false,false,false,false,false,false,false,false,false,false,false,false,false] (by kernel_rfl) rfl rfl ⟨(blk_cell qb.out 0).trans rfl,(blk_cell qb.out 1).trans rfl,(blk_cell qb.out 2).trans rfl⟩ (fun hHeld=>?_);refine with_tabW spec_TitlesOk.tab7 spec_TitlesOk.bits7 (fun HT_ HW_=>?_)
          generalize w37.drew=w38 at qb HB hHeld ⊢
          refine pz 0 18 (bm 36 1) HT_ ?_
          refine tz 1 19 (bm 36 3) HT_ HW_ hHeld rfl (by rintro w' ⟨s0,s1,s2⟩;go_simp;with_reducible rfl) ?_
          refine pz 2 20 (bm 36 7) HT_ ?_
          refine pz 3 21 (bm 36 15) HT_ ?_
          refine pz 4 22 (bm 36 31) HT_ ?_
          refine pz 6 24 (bm 36 95) HT_ ?_
          refine tz 5 23 (bm 36 127) HT_ HW_ hHeld rfl (by rintro w' ⟨s0,s1,s2⟩;go_simp;with_reducible rfl) ?_
          refine tz 7 25 (bm 36 255) HT_ HW_ hHeld rfl (by rintro w' ⟨s0,s1,s2⟩;go_simp;with_reducible rfl) ?_
          refine pz 8 26 (bm 36 511) HT_ ?_
          refine pz 9 27 (bm 36 1023) HT_ ?_
          refine pz 10 28 (bm 36 2047) HT_ ?_
          refine pz 11 29 (bm 36 4095) HT_ ?_
          refine tz 12 30 (bm 36 8191) HT_ HW_ hHeld rfl (by rintro w' ⟨s0,s1,s2⟩;go_simp;with_reducible rfl) ?_
          refine pz 13 31 (bm 36 16383) HT_ ?_
          refine pz 14 32 (bm 36 32767) HT_ ?_
          refine pz 15 33 (bm 36 65535) HT_ ?_
          refine pz 16 34 (bm 36 131071) HT_ ?_
          refine tz 17 35 (bm 36 262143) HT_ HW_ hHeld rfl (by rintro w' ⟨s0,s1,s2⟩;go_simp;with_reducible rfl) ?_
          refine one_ (i:=18) (N:=some 36) (bm 36 524287) rfl rfl (one_of HT_.out (by kernel_rfl)) (by decide) (fun K hK=>?_)
          refine goes_ Tryd.func32 (by kernel_rfl) rfl #[.string ((rd_T40 l0 qc).f2)] (by rfl) rfl rfl (by(try simp only [List.map_toArray,List.map_cons,List.map_nil]);first|done|rfl|(simp only [List.length_drop,List.length_take];rfl)) ?_
          with_reducible refine(spec_l12Text.calls k1 ((rd_T40 l0 qc).f2) true _ A20.out).mono ?_
          rintro e w' ⟨rfl,⟨nd,rfl⟩⟩
          refine⟨_,rfl,?_⟩
          refine hK.out _ _ ⟨(blk_cell qb.out 0).trans rfl,(blk_cell qb.out 1).trans rfl,(blk_cell qb.out 2).trans rfl⟩ (fun hHeld=>?_)
          clear hK K
          refine norm_ (a':=?_) ?_ ?_;rotate_left;(show Act.put _ (some 36) _=_;simp only[pw];rfl)
          refine pz 19 37 (bm 36 1048575) HT_ ?_
          refine pz 20 38 (bm 36 2097151) HT_ ?_
          refine pz 21 39 (bm 36 4194303) HT_ ?_
          refine pz 22 40 (bm 36 8388607) HT_ ?_
          refine pz 23 41 (bm 36 16777215) HT_ ?_
          refine pz 24 42 (bm 36 33554431) HT_ ?_
          refine pd 25 43 (bm 36 67108863) HT_ ?_
          refine pd 26 44 (bm 36 134217727) HT_ ?_
          refine pd 27 45 (bm 36 268435455) HT_ ?_
          refine pd 28 46 (bm 36 536870911) HT_ ?_
          refine pd 29 47 (bm 36 1073741823) HT_ ?_
          refine pd 30 48 (bm 36 2147483647) HT_ ?_
          refine pd 31 49 (bm 36 4294967295) HT_ ?_
          refine pd 32 50 (bm 36 8589934591) HT_ ?_
          refine pd 33 51 (bm 36 17179869183) HT_ ?_
          refine pz 34 52 (bm 36 34359738367) HT_ ?_
          refine pz 35 53 (bm 36 68719476735) HT_ ?_
          refine done_ (done_of HT_.out (by kernel_rfl)) ?_
          try go_wp2
          go_roundg k1
          case measure=>have:=HK1.out;omega
          case rel=>exact⟨(wrap64 (qc+1)),(by first|rfl|(simp;done)|(simp [*];done)),H',⟨by have:=HK1.out;omega⟩,⟨by repeat(first|(with_reducible first|exact HB.out|apply below_alloc|apply pw_below_drewN|apply below_drew1|refine below_set ?_ qi.out)|exact HB.out)⟩⟩
        ·replace c21:=Bool.eq_false_iff.mpr c21
         subst c21
         have H1:(some false)=some r:=by rw [if_neg (show ¬ (false=true) by decide)] at H;exact H
         clear H
         have H:=H1
         clear H1
         obtain rfl:=Option.some.inj H
         have qo:0≤(qc:Int):=of_decide_eq_true (by first|(with_reducible assumption)|assumption)
         have qp:qc < (l0.length:Int):=of_decide_eq_true (by first|(with_reducible assumption)|assumption)
         obtain⟨qn,qt,qd,qe,qf⟩:=at_T40 HR0.out qc qo qp
         cases qt
         replace qd:=(HB.out.cell (World.block_lt_of_cell? w _ qd)).trans qd
         replace qe:=(HB.out.cell (World.block_lt_of_cell? w _ qe)).trans qe
         replace qf:=(HB.out.cell (World.block_lt_of_cell? w _ qf)).trans qf
         replace qo:=eq_true qo
         replace qp:=eq_true qp
         try go_wp2_with (first|((with_reducible refine gate_dst (N:=4) rfl ?_);refine box_event ?hg (N:=4) ?hd (cs:=#[.int .i64 0,.int .i64 0,.string (⟨#[]⟩:ByteArray)]) (t:=40) ?hr ?_;(case hd=>rfl);(case hg=>rfl);(case hr=>first|(go_simp;done)|(go_simp;rfl));intro qa hg w39 hbox hb;have qg:=Ea (below_step (by repeat(first|(with_reducible first|exact HB.out|apply below_alloc|apply pw_below_drewN|apply below_drew1)|exact HB.out)) hb);have qh:=Ea (hbox);have qv:=Ea ((by rw [hg];exact(below_size (by repeat(first|(with_reducible first|exact HB.out|apply below_alloc|apply pw_below_drewN|apply below_drew1)|exact HB.out))):w.heap.size≤qa));have qw:=Ea ((by rw [hg];exact(below_size (by repeat(first|(with_reducible first|exact HB.out|apply below_alloc|apply pw_below_drewN|apply below_drew1)|exact HB.out))):w.heap.size≤qa));clear HB;have HB:=qg;have qb:=qh;have qu:=qv;have qi:=qw;clear qg qh qv qw;clear hb hbox hg;have hcz40_0:w39.cell? ⟨qa,0,none⟩=some (.int .i64 0):=(blk_cell qb.out 0).trans rfl;have hcz40_1:w39.cell? ⟨qa,1,none⟩=some (.int .i64 0):=(blk_cell qb.out 1).trans rfl;have hcz40_2:w39.cell? ⟨qa,2,none⟩=some (.string (⟨#[]⟩:ByteArray)):=(blk_cell qb.out 2).trans rfl;have hfz40_0:=blk_frozen qb.out 0;have hfz40_1:=blk_frozen qb.out 1;have hfz40_2:=blk_frozen qb.out 2))
         have qg:Aside0 ((((w39.setCell ⟨qa,0,none⟩ (.int .i64 ((rd_T40 l0 qc).f0))).setCell ⟨qa,1,none⟩ (.int .i64 ((rd_T40 l0 qc).f1))).setCell ⟨qa,2,none⟩ (.string ((rd_T40 l0 qc).f2))).heap[qa]? = some (.cells #[.int .i64 ((rd_T40 l0 qc).f0),.int .i64 ((rd_T40 l0 qc).f1),.string ((rd_T40 l0 qc).f2)] 40 (0,0))):=⟨by(with_reducible repeat(first|refine blk_drewN ?_ _|refine blk_drew ?_|refine blk_alloc ?_ _));refine blk_put (cs:=#[.int .i64 ((rd_T40 l0 qc).f0),.int .i64 ((rd_T40 l0 qc).f1),.string (⟨#[]⟩:ByteArray)]) ?_ 2 _ rfl;(with_reducible repeat(first|refine blk_drewN ?_ _|refine blk_drew ?_|refine blk_alloc ?_ _));refine blk_put (cs:=#[.int .i64 ((rd_T40 l0 qc).f0),.int .i64 0,.string (⟨#[]⟩:ByteArray)]) ?_ 1 _ rfl;(with_reducible repeat(first|refine blk_drewN ?_ _|refine blk_drew ?_|refine blk_alloc ?_ _));refine blk_put (cs:=#[.int .i64 0,.int .i64 0,.string (⟨#[]⟩:ByteArray)]) ?_ 0 _ rfl;(with_reducible repeat(first|refine blk_drewN ?_ _|refine blk_drew ?_|refine blk_alloc ?_ _));exact qb.out⟩
         have qh:Aside0 (Below w.heap.size w (((w39.setCell ⟨qa,0,none⟩ (.int .i64 ((rd_T40 l0 qc).f0))).setCell ⟨qa,1,none⟩ (.int .i64 ((rd_T40 l0 qc).f1))).setCell ⟨qa,2,none⟩ (.string ((rd_T40 l0 qc).f2)))):=⟨by repeat(first|(with_reducible first|exact HB.out|apply below_alloc|apply pw_below_drewN|apply below_drew1|refine below_set ?_ qi.out)|exact HB.out)⟩
         (try clear qb)
         (try clear HB)
         generalize (((w39.setCell ⟨qa,0,none⟩ (.int .i64 ((rd_T40 l0 qc).f0))).setCell ⟨qa,1,none⟩ (.int .i64 ((rd_T40 l0 qc).f1))).setCell ⟨qa,2,none⟩ (.string ((rd_T40 l0 qc).f2)))=w41 at qg qh ⊢
         have qb:=qg
         have HB:=qh
         clear qg qh
         have qg:=Ea (blk_drew qb.out)
         have qh:=Ea (below_drew1 HB.out)
         clear qb HB
         have qb:=qg
         have HB:=qh
         clear qg qh
         refine start_ (n:=36) (S:=fun w'=>w'.cell? ⟨qa,0,none⟩=some (.int .i64 ((rd_T40 l0 qc).f0))∧w'.cell? ⟨qa,1,none⟩=some (.int .i64 ((rd_T40 l0 qc).f1))∧w'.cell? ⟨qa,2,none⟩=some (.string ((rd_T40 l0 qc).f2))) (ds:=[]) #[false,false,false,false,false,false,false,false,false,false,false,false,false,false,false,false,false,false,false,false,false,false,false,false,false,false,false,false,false,false,false,false,false,false,false,false] (by kernel_rfl) rfl rfl ⟨(blk_cell qb.out 0).trans rfl,(blk_cell qb.out 1).trans rfl,(blk_cell qb.out 2).trans rfl⟩ (fun hHeld=>?_);refine with_tabW spec_TitlesOk.tab7 spec_TitlesOk.bits7 (fun HT_ HW_=>?_)
         generalize w41.drew=w42 at qb HB hHeld ⊢
         refine pz 0 18 (bm 36 1) HT_ ?_
         refine tz 1 19 (bm 36 3) HT_ HW_ hHeld rfl (by rintro w' ⟨s0,s1,s2⟩;go_simp;with_reducible rfl) ?_
         refine pz 2 20 (bm 36 7) HT_ ?_
         refine pz 3 21 (bm 36 15) HT_ ?_
         refine pz 4 22 (bm 36 31) HT_ ?_
         refine pz 6 24 (bm 36 95) HT_ ?_
         refine tz 5 23 (bm 36 127) HT_ HW_ hHeld rfl (by rintro w' ⟨s0,s1,s2⟩;go_simp;with_reducible rfl) ?_
         refine tz 7 25 (bm 36 255) HT_ HW_ hHeld rfl (by rintro w' ⟨s0,s1,s2⟩;go_simp;with_reducible rfl) ?_
         refine pz 8 26 (bm 36 511) HT_ ?_
         refine pz 9 27 (bm 36 1023) HT_ ?_
         refine pz 10 28 (bm 36 2047) HT_ ?_
         refine pz 11 29 (bm 36 4095) HT_ ?_
         refine tz 12 30 (bm 36 8191) HT_ HW_ hHeld rfl (by rintro w' ⟨s0,s1,s2⟩;go_simp;with_reducible rfl) ?_
         refine pz 13 31 (bm 36 16383) HT_ ?_
         refine pz 14 32 (bm 36 32767) HT_ ?_
         refine pz 15 33 (bm 36 65535) HT_ ?_
         refine pz 16 34 (bm 36 131071) HT_ ?_
         refine tz 17 35 (bm 36 262143) HT_ HW_ hHeld rfl (by rintro w' ⟨s0,s1,s2⟩;go_simp;with_reducible rfl) ?_
         refine one_ (i:=18) (N:=some 36) (bm 36 524287) rfl rfl (one_of HT_.out (by kernel_rfl)) (by decide) (fun K hK=>?_)
         refine goes_ Tryd.func32 (by kernel_rfl) rfl #[.string ((rd_T40 l0 qc).f2)] (by rfl) rfl rfl (by(try simp only [List.map_toArray,List.map_cons,List.map_nil]);first|done|rfl|(simp only [List.length_drop,List.length_take];rfl)) ?_
         with_reducible refine(spec_l12Text.calls k1 ((rd_T40 l0 qc).f2) false _ A20.out).mono ?_
         rintro e w' ⟨rfl,⟨nd,rfl⟩⟩
         refine⟨_,rfl,?_⟩
         refine hK.out _ _ ⟨(blk_cell qb.out 0).trans rfl,(blk_cell qb.out 1).trans rfl,(blk_cell qb.out 2).trans rfl⟩ (fun hHeld=>?_)
         clear hK K
         refine norm_ (a':=?_) ?_ ?_;rotate_left;(show Act.put _ (some 36) _=_;simp only[pw];rfl)
         refine pz 19 37 (bm 36 1048575) HT_ ?_
         refine pz 20 38 (bm 36 2097151) HT_ ?_
         refine pz 21 39 (bm 36 4194303) HT_ ?_
         refine pd 22 40 (bm 36 8388607) HT_ ?_
         refine pd 23 41 (bm 36 16777215) HT_ ?_
         refine pd 24 42 (bm 36 33554431) HT_ ?_
         refine pd 25 43 (bm 36 67108863) HT_ ?_
         refine pd 26 44 (bm 36 134217727) HT_ ?_
         refine pd 27 45 (bm 36 268435455) HT_ ?_
         refine pd 28 46 (bm 36 536870911) HT_ ?_
         refine pd 29 47 (bm 36 1073741823) HT_ ?_
         refine pd 30 48 (bm 36 2147483647) HT_ ?_
         refine pd 31 49 (bm 36 4294967295) HT_ ?_
         refine pd 32 50 (bm 36 8589934591) HT_ ?_
         refine pd 33 51 (bm 36 17179869183) HT_ ?_
         refine pd 34 52 (bm 36 34359738367) HT_ ?_
         refine pz 35 53 (bm 36 68719476735) HT_ ?_
         refine done_ (done_of HT_.out (by kernel_rfl)) ?_
         try go_wp2
         go_ret
         exact⟨by first|rfl|(simp [errW_none,errW_some] <;> rfl)|(simp [*,errW_none,errW_some] <;> rfl),by repeat(first|(with_reducible first|exact HB.out|apply below_alloc|apply pw_below_drewN|apply below_drew1|refine below_set ?_ qi.out)|exact HB.out)⟩
    ·rw [if_neg c3] at H
     have c3b0:=decide_eq_false c3
     clear c3
     obtain rfl:=Option.some.inj H
     go_wp2
     go_ret
     exact⟨by first|rfl|(simp [errW_none,errW_some] <;> rfl)|(simp [*,errW_none,errW_some] <;> rfl),by repeat(first|(with_reducible first|exact HB.out|apply below_alloc|apply pw_below_drewN|apply below_drew1)|exact HB.out)⟩

end Go.Proofs.YtidogkjhjmcliaaDoor.HFnTitlesBack
