-- Laid by myprint.py, a program of this repo, out of the kit's printer and this repo's own texts (wip/hand).
import Derived.Test.YtidogkjhjmcliaaDoorHFnTitlesBackx0
import Derived.Test.YtidogkjhjmcliaaDoorHFnTitlesBackx6
import Derived.Test.YtidogkjhjmcliaaDoorCmp
namespace Go.Proofs.YtidogkjhjmcliaaDoor.HFnTitlesBack
open Go.RowKit Go.Proofs.YtidogkjhjmcliaaDoorW.PrintWords Go.Proofs.YtidogkjhjmcliaaDoorW.PrintLast Go.Proofs.YtidogkjhjmcliaaDoorW.PrintMore
attribute [local go_sem] max2_int min2_int max_two min_two max_three min_three max_four min_four   -- for this text's walks alone
set_option linter.unusedVariables false
set_option linter.unusedSimpArgs false
theorem Ha : type_of% @Aside0.mk := @Aside0.mk

/-! ### impl_TitlesOk: function 19 -/
def impl_TitlesOk.l0 : Nat → List (S40) → List (S40) → Int → Int → Option (Bool)
 | 0, _, _, _, _ => none
 | k + 1, x0, x5, x6, x7 => if x7 < x6 then (if 0 ≤ x7 then (if x7 < (x5.length : Int) then ((impl_Title_timesOk.f ((rd_T40 x5 x7).f0) ((rd_T40 x5 x7).f1) ((rd_T40 x5 x7).f2)).bind fun t138 => (if t138 = true then ((impl_textOk.f k ((rd_T40 x5 x7).f2)).bind fun t139 => (if t139 = true then (if x7 > 0 then (if 0 ≤ (wrap64 (x7 - 1)) then (if (wrap64 (x7 - 1)) < (x0.length : Int) then (if ((rd_T40 x5 x7).f0) < ((rd_T40 x0 (wrap64 (x7 - 1))).f1) then (some false) else (impl_TitlesOk.l0 k x0 x5 x6 (wrap64 (x7 + 1)))) else (none)) else (none)) else (impl_TitlesOk.l0 k x0 x5 x6 (wrap64 (x7 + 1)))) else (some false))) else (some false))) else (none)) else (none)) else (some (decide ((x0.length : Int) ≤ 200)))
def impl_TitlesOk.f (k : Nat) (l0 : List (S40)) : Option (Bool) := impl_TitlesOk.l0 k l0 l0 (l0.length : Int) 0
theorem impl_TitlesOk.mono_l : ∀ k, (∀ y0 y1 y2 y3, LeO (impl_TitlesOk.l0 k y0 y1 y2 y3) (impl_TitlesOk.l0 (k + 1) y0 y1 y2 y3))
 | 0 => fun _ _ _ _ r h => by simp [impl_TitlesOk.l0] at h
 | k + 1 => by
  have ih0:=impl_TitlesOk.mono_l k
  ·intro y0 y1 y2 y3
   unfold impl_TitlesOk.l0
   repeat' first|(with_reducible first|exact ih0 _ _ _ _|exact impl_textOk.mono _ _|exact LeO.refl _|exact LeO.none _|refine LeO.ite ?_ ?_|refine LeO.bind ?_ (fun _=>?_))|exact ih0 _ _ _ _|exact impl_textOk.mono _ _|exact LeO.none _|refine LeO.ite ?_ ?_|refine LeO.bind ?_ (fun _=>?_)
theorem impl_TitlesOk.mono : ∀ a0 k, LeO (impl_TitlesOk.f k a0) (impl_TitlesOk.f (k + 1) a0) := by
 intro a0 k
 have ih0:=impl_TitlesOk.mono_l k
 unfold impl_TitlesOk.f
 repeat' first|(with_reducible first|exact ih0 _ _ _ _|exact impl_textOk.mono _ _|exact LeO.refl _|exact LeO.none _|refine LeO.ite ?_ ?_|refine LeO.bind ?_ (fun _=>?_))|exact ih0 _ _ _ _|exact impl_textOk.mono _ _|exact LeO.none _|refine LeO.ite ?_ ?_|refine LeO.bind ?_ (fun _=>?_)
def impl_TitlesOk.T4 : Bool × List (List Nat × List Nat) := (true, [([], []), ([0], [0]), ([1], [1]), ([2, 1], [2]), ([3], [3]), ([4, 3], [3, 4]), ([5, 3, 3], [3, 5]), ([6, 3], [3, 6]), ([3, 7], [3, 7]), ([8, 6], [8]), ([9], [9]), ([10, 9], [9, 10]), ([11, 9, 9], [9, 11]), ([12], [12]), ([13, 12], [12, 13]), ([12], [12]), ([12], [12]), ([16, 12], [12, 16]), ([15, 17, 12], [12, 15, 17]), ([18, 12], [12, 18]), ([19, 12], [12, 19]), ([14, 20, 12], [12, 14, 20]), ([12, 21, 9], [9, 12, 21]), ([9, 22], [9, 22])])
def impl_TitlesOk.B4 : List Nat := [0, 1, 3, 7, 15, 31, 63, 127, 255, 511, 1023, 2047, 4095, 8191, 16383, 8191, 8191, 73727, 237567, 499711, 1023999, 2097151, 4194303, 8388607]
theorem impl_TitlesOk.tab4 : rtab .any (opsOf Tryd.f19 4) = impl_TitlesOk.T4 := by kernel_rfl
theorem impl_TitlesOk.bits4 : waitsOk impl_TitlesOk.T4.2 impl_TitlesOk.B4 = true := by kernel_rfl
set_option maxHeartbeats 8000000 in
set_option maxRecDepth 100000 in
theorem impl_TitlesOk.calls (k : Nat) (A0 : Option Addr) (c0 : Nat) (l0 : List (S40)) (r : Bool) (w : World) (hgl : Glob w) (hr0 : Kd.C k40 w A0 l0.length l0) (hc0 : l0.length ≤ c0) (h : impl_TitlesOk.f k l0 = some r) :
  Calls Tryd.prog 19 #[.slice A0 l0.length c0] w fun e w'=>e=.returned (.bool r)∧Below w.heap.size w w':=by
 have HGL:=Ha hgl
 clear hgl
 have hu40:=Tryd.underlying40
 have HR0:=Ha hr0
 have HC0:=Ha hc0
 clear hr0 hc0
 have HB:=Ha (Below.refl w.heap.size w)
 have H:(impl_TitlesOk.l0 k l0 l0 (l0.length:Int) 0)=some r:=h
 clear h
 have H':=Ha H
 clear H
 go_enter Tryd.func19,Tryd.ntmps19
 go_wp2
 go_loopg [7] k (fun kq v7 w'=>∃ (qb:Int),v7=.int .i64 qb∧Aside0 (impl_TitlesOk.l0 kq l0 l0 (l0.length:Int) qb=some r)∧Aside0 (kq≤k)∧Aside0 (Below w.heap.size w w'))
 case atStart=>exact⟨(0),(by first|rfl|(simp;done)|(simp [*];done)),H',⟨Nat.le_refl _⟩,⟨by repeat(first|(with_reducible first|exact HB.out|apply below_alloc|apply pw_below_drewN|apply below_drew1)|exact HB.out)⟩⟩
 case round=>
  clear H';try clear c1
  obtain⟨qb,rfl,HA,HK1,HB⟩:=hrel
  cases gk with
  | zero => exact absurd HA.out (by simp [impl_TitlesOk.l0])
  | succ k1 =>
   have H:=HA.out
   clear HA
   simp only [impl_TitlesOk.l0] at H
   by_cases c2:qb < (l0.length:Int)
   ·rw [if_pos c2] at H
    have c2b0:=decide_eq_true c2
    clear c2
    by_cases c3:0≤qb
    case neg=>rw[if_neg c3] at H;exact absurd H (by simp)
    rw[if_pos c3] at H
    have c3b0:=decide_eq_true c3
    clear c3
    by_cases c4:qb < (l0.length:Int)
    case neg=>rw[if_neg c4] at H;exact absurd H (by simp)
    rw[if_pos c4] at H
    have c4b0:=decide_eq_true c4
    clear c4
    replace H:=Option.bind_eq_some_iff.mp H
    obtain⟨t138,A50,H⟩:=H
    try dsimp only at H
    have A5:=Ha A50
    clear A50
    by_cases c6:t138=true
    ·subst c6
     rw[if_pos rfl] at H
     replace H:=Option.bind_eq_some_iff.mp H
     obtain⟨t139,A70,H⟩:=H
     try dsimp only at H
     have A7:=Ha A70
     clear A70
     by_cases c8:t139=true
     ·subst c8
      rw[if_pos rfl] at H
      by_cases c9:qb > 0
      ·rw [if_pos c9] at H
       have c9b0:=decide_eq_true c9
       clear c9
       obtain⟨qp,qt⟩:∃ j_:Int,(wrap64 (qb - 1))=j_:=⟨_,rfl⟩
       replace H:(if 0≤(qp) then (if (qp) < (l0.length:Int) then (if ((rd_T40 l0 qb).f0) < ((rd_T40 l0 (qp)).f1) then (some false) else (impl_TitlesOk.l0 k1 l0 l0 (l0.length:Int) (wrap64 (qb+1)))) else (none)) else (none))=some r:=by first|(rw [qt] at H;exact H)|(simp only [qt] at H ⊢;exact H)
       (try rw [qt] at A5)
       (try rw [qt] at A7)
       have hji10w:(IntKind.i64.wrap (qb - 1))=qp:=(i64_w _).trans qt
       by_cases c11:0≤(qp)
       case neg=>rw[if_neg c11] at H;exact absurd H (by simp)
       rw[if_pos c11] at H
       have c11b0:=decide_eq_true c11
       clear c11
       by_cases c12:(qp) < (l0.length:Int)
       case neg=>rw[if_neg c12] at H;exact absurd H (by simp)
       rw[if_pos c12] at H
       have c12b0:=decide_eq_true c12
       clear c12
       by_cases c13:((rd_T40 l0 qb).f0) < ((rd_T40 l0 (qp)).f1)
       ·rw [if_pos c13] at H
        have c13b0:=decide_eq_true c13
        clear c13
        obtain rfl:=Option.some.inj H
        have qr:0≤(qb:Int):=of_decide_eq_true (by first|(with_reducible assumption)|assumption)
        have qs:qb < (l0.length:Int):=of_decide_eq_true (by first|(with_reducible assumption)|assumption)
        obtain⟨qq,e136,qd,qe,qf⟩:=at_T40 HR0.out qb qr qs
        cases e136
        replace qd:=(HB.out.cell (World.block_lt_of_cell? w _ qd)).trans qd
        replace qe:=(HB.out.cell (World.block_lt_of_cell? w _ qe)).trans qe
        replace qf:=(HB.out.cell (World.block_lt_of_cell? w _ qf)).trans qf
        replace qr:=eq_true qr
        replace qs:=eq_true qs
        try go_wp2_with (first|((with_reducible refine gate_dst (N:=4) rfl ?_);refine box_event ?hg (N:=4) ?hd (cs:=#[.int .i64 0,.int .i64 0,.string (⟨#[]⟩:ByteArray)]) (t:=40) ?hr ?_;(case hd=>rfl);(case hg=>rfl);(case hr=>first|(go_simp;done)|(go_simp;rfl));intro qc hg w14 hbox hb;have qk:=Ha (below_step (by repeat(first|(with_reducible first|exact HB.out|apply below_alloc|apply pw_below_drewN|apply below_drew1)|exact HB.out)) hb);have ql:=Ha (hbox);have n2_:=Ha ((by rw [hg];exact(below_size (by repeat(first|(with_reducible first|exact HB.out|apply below_alloc|apply pw_below_drewN|apply below_drew1)|exact HB.out))):w.heap.size≤qc));have n3_:=Ha ((by rw [hg];exact(below_size (by repeat(first|(with_reducible first|exact HB.out|apply below_alloc|apply pw_below_drewN|apply below_drew1)|exact HB.out))):w.heap.size≤qc));clear HB;have HB:=qk;have qa:=ql;have GW137:=n2_;have qg:=n3_;clear qk ql n2_ n3_;clear hb hbox hg;have hcz15_0:w14.cell? ⟨qc,0,none⟩=some (.int .i64 0):=(blk_cell qa.out 0).trans rfl;have hcz15_1:w14.cell? ⟨qc,1,none⟩=some (.int .i64 0):=(blk_cell qa.out 1).trans rfl;have hcz15_2:w14.cell? ⟨qc,2,none⟩=some (.string (⟨#[]⟩:ByteArray)):=(blk_cell qa.out 2).trans rfl;have hfz15_0:=blk_frozen qa.out 0;have hfz15_1:=blk_frozen qa.out 1;have hfz15_2:=blk_frozen qa.out 2))
        have qk:Aside0 ((((w14.setCell ⟨qc,0,none⟩ (.int .i64 ((rd_T40 l0 qb).f0))).setCell ⟨qc,1,none⟩ (.int .i64 ((rd_T40 l0 qb).f1))).setCell ⟨qc,2,none⟩ (.string ((rd_T40 l0 qb).f2))).heap[qc]? = some (.cells #[.int .i64 ((rd_T40 l0 qb).f0),.int .i64 ((rd_T40 l0 qb).f1),.string ((rd_T40 l0 qb).f2)] 40 (0,0))):=⟨by(with_reducible repeat(first|refine blk_drewN ?_ _|refine blk_drew ?_|refine blk_alloc ?_ _));refine blk_put (cs:=#[.int .i64 ((rd_T40 l0 qb).f0),.int .i64 ((rd_T40 l0 qb).f1),.string (⟨#[]⟩:ByteArray)]) ?_ 2 _ rfl;(with_reducible repeat(first|refine blk_drewN ?_ _|refine blk_drew ?_|refine blk_alloc ?_ _));refine blk_put (cs:=#[.int .i64 ((rd_T40 l0 qb).f0),.int .i64 0,.string (⟨#[]⟩:ByteArray)]) ?_ 1 _ rfl;(with_reducible repeat(first|refine blk_drewN ?_ _|refine blk_drew ?_|refine blk_alloc ?_ _));refine blk_put (cs:=#[.int .i64 0,.int .i64 0,.string (⟨#[]⟩:ByteArray)]) ?_ 0 _ rfl;(with_reducible repeat(first|refine blk_drewN ?_ _|refine blk_drew ?_|refine blk_alloc ?_ _));exact qa.out⟩
        have ql:Aside0 (Below w.heap.size w (((w14.setCell ⟨qc,0,none⟩ (.int .i64 ((rd_T40 l0 qb).f0))).setCell ⟨qc,1,none⟩ (.int .i64 ((rd_T40 l0 qb).f1))).setCell ⟨qc,2,none⟩ (.string ((rd_T40 l0 qb).f2)))):=⟨by repeat(first|(with_reducible first|exact HB.out|apply below_alloc|apply pw_below_drewN|apply below_drew1|refine below_set ?_ qg.out)|exact HB.out)⟩
        (try clear qa)
        (try clear HB)
        generalize (((w14.setCell ⟨qc,0,none⟩ (.int .i64 ((rd_T40 l0 qb).f0))).setCell ⟨qc,1,none⟩ (.int .i64 ((rd_T40 l0 qb).f1))).setCell ⟨qc,2,none⟩ (.string ((rd_T40 l0 qb).f2)))=w16 at qk ql ⊢
        have qa:=qk
        have HB:=ql
        clear qk ql
        have qk:=Ha (blk_drew qa.out)
        have ql:=Ha (below_drew1 HB.out)
        clear qa HB
        have qa:=qk
        have HB:=ql
        clear qk ql
        have p140:0≤((qp):Int):=of_decide_eq_true (by first|(with_reducible assumption)|assumption)
        have q140:(qp) < (l0.length:Int):=of_decide_eq_true (by first|(with_reducible assumption)|assumption)
        obtain⟨ad140,e140,qm,qn,qo⟩:=at_T40 HR0.out (qp) p140 q140
        have qj:=qo
        have qi:=qn
        have qh:=qm
        obtain rfl:qq=ad140:=(by injection e140)
        replace qm:=(HB.out.cell (World.block_lt_of_cell? w _ qm)).trans qm
        replace qn:=(HB.out.cell (World.block_lt_of_cell? w _ qn)).trans qn
        replace qo:=(HB.out.cell (World.block_lt_of_cell? w _ qo)).trans qo
        replace p140:=eq_true p140
        replace q140:=eq_true q140
        refine start_ (n:=24) (S:=fun w'=>w'.cell? ⟨qc,0,none⟩=some (.int .i64 ((rd_T40 l0 qb).f0))∧w'.cell? ⟨qc,1,none⟩=some (.int .i64 ((rd_T40 l0 qb).f1))∧w'.cell? ⟨qc,2,none⟩=some (.string ((rd_T40 l0 qb).f2))∧w'.cell? (qq.add (((qp)).toNat*3))=some (.int .i64 ((rd_T40 l0 (qp)).f0))∧w'.cell? ⟨(qq.add (((qp)).toNat*3)).block,(qq.add (((qp)).toNat*3)).off+1,none⟩=some (.int .i64 ((rd_T40 l0 (qp)).f1))∧w'.cell? ⟨(qq.add (((qp)).toNat*3)).block,(qq.add (((qp)).toNat*3)).off+2,none⟩=some (.string ((rd_T40 l0 (qp)).f2))) (ds:=[]) #[false,false,false,false,false,false,false,false,false,false,false,false,false,false,false,false,false,false,false,false,false,false,false,false] (by kernel_rfl) rfl rfl ⟨(blk_cell qa.out 0).trans rfl,(blk_cell qa.out 1).trans rfl,(blk_cell qa.out 2).trans rfl,((HB.out.cell (World.block_lt_of_cell? w _ qh)).trans qh),((HB.out.cell (World.block_lt_of_cell? w _ qi)).trans qi),((HB.out.cell (World.block_lt_of_cell? w _ qj)).trans qj)⟩ (fun hHeld=>?_);refine with_tabW impl_TitlesOk.tab4 impl_TitlesOk.bits4 (fun HT_ HW_=>?_)
        generalize w16.drew=w17 at qa HB qm qn qo hHeld ⊢
        refine tz 0 12 (bm 24 1) HT_ HW_ hHeld rfl (by rintro w' ⟨s0,s1,s2,s3,s4,s5⟩;go_simp;with_reducible rfl) ?_
        refine one_ (i:=1) (N:=some 13) (bm 24 3) rfl rfl (one_of HT_.out (by kernel_rfl)) (by decide) (fun K hK=>?_)
        refine goes_ Tryd.func39 (by kernel_rfl) rfl #[.agg #[.int .i64 ((rd_T40 l0 qb).f0),.int .i64 ((rd_T40 l0 qb).f1),.string ((rd_T40 l0 qb).f2)]] (by rfl) rfl rfl (by(try simp only [List.map_toArray,List.map_cons,List.map_nil]);first|done|rfl|(simp only [List.length_drop,List.length_take];rfl)) ?_
        with_reducible refine(impl_Title_timesOk.calls ((rd_T40 l0 qb).f0) ((rd_T40 l0 qb).f1) ((rd_T40 l0 qb).f2) true _ A5.out).mono ?_
        rintro e w18 ⟨rfl,hb⟩
        refine⟨_,rfl,?_⟩
        have qk:=Ha (blk_below (g:=qc) (o:=.cells #[.int .i64 ((rd_T40 l0 qb).f0),.int .i64 ((rd_T40 l0 qb).f1),.string ((rd_T40 l0 qb).f2)] 40 (0,0)) (by(with_reducible repeat(first|refine blk_drewN ?_ _|refine blk_drew ?_|refine blk_alloc ?_ _));exact qa.out) hb)
        have ql:=Ha (below_step (by repeat(first|(with_reducible first|exact HB.out|apply below_alloc|apply pw_below_drewN|apply below_drew1|refine below_set ?_ qg.out)|exact HB.out)) hb)
        clear qa HB
        have qa:=qk
        have HB:=ql
        clear qk ql
        (try clear hb)
        (try clear hb2)
        (try clear hk)
        (try clear hi)
        refine hK.out _ _ ⟨(blk_cell qa.out 0).trans rfl,(blk_cell qa.out 1).trans rfl,(blk_cell qa.out 2).trans rfl,((HB.out.cell (World.block_lt_of_cell? w _ qh)).trans qh),((HB.out.cell (World.block_lt_of_cell? w _ qi)).trans qi),((HB.out.cell (World.block_lt_of_cell? w _ qj)).trans qj)⟩ (fun hHeld=>?_)
        clear hK K
        refine norm_ (a':=?_) ?_ ?_;rotate_left;(show Act.put _ (some 13) _=_;simp only[pw];rfl)
        refine pz 2 14 (bm 24 7) HT_ ?_
        refine pz 3 15 (bm 24 15) HT_ ?_
        refine pz 4 16 (bm 24 31) HT_ ?_
        refine tz 5 17 (bm 24 63) HT_ HW_ hHeld rfl (by rintro w' ⟨s0,s1,s2,s3,s4,s5⟩;go_simp;with_reducible rfl) ?_
        refine one_ (i:=6) (N:=some 18) (bm 24 127) rfl rfl (one_of HT_.out (by kernel_rfl)) (by decide) (fun K hK=>?_)
        refine goes_ Tryd.func40 (by kernel_rfl) rfl #[.string ((rd_T40 l0 qb).f2)] (by rfl) rfl rfl (by(try simp only [List.map_toArray,List.map_cons,List.map_nil]);first|done|rfl|(simp only [List.length_drop,List.length_take];rfl)) ?_
        with_reducible refine(impl_textOk.calls k1 ((rd_T40 l0 qb).f2) true _ (by first|exact HGL.out|((repeat(with_reducible refine Glob.drewN ?_));exact HGL.out)|exact Glob.below HGL.out (by repeat(first|(with_reducible first|exact HB.out|apply below_alloc|apply pw_below_drewN|apply below_drew1|refine below_set ?_ qg.out)|exact HB.out))) A7.out).mono ?_
        rintro e w' ⟨rfl,⟨nd,rfl⟩⟩
        refine⟨_,rfl,?_⟩
        refine hK.out _ _ ⟨(blk_cell qa.out 0).trans rfl,(blk_cell qa.out 1).trans rfl,(blk_cell qa.out 2).trans rfl,((HB.out.cell (World.block_lt_of_cell? w _ qh)).trans qh),((HB.out.cell (World.block_lt_of_cell? w _ qi)).trans qi),((HB.out.cell (World.block_lt_of_cell? w _ qj)).trans qj)⟩ (fun hHeld=>?_)
        clear hK K
        refine norm_ (a':=?_) ?_ ?_;rotate_left;(show Act.put _ (some 18) _=_;simp only[pw];rfl)
        refine pz 7 19 (bm 24 255) HT_ ?_
        refine pz 8 20 (bm 24 511) HT_ ?_
        refine pz 9 21 (bm 24 1023) HT_ ?_
        refine pz 10 22 (bm 24 2047) HT_ ?_
        refine pz 11 23 (bm 24 4095) HT_ ?_
        refine pz 12 24 (bm 24 8191) HT_ ?_
        refine pz 13 25 (bm 24 16383) HT_ ?_
        refine pz 15 27 (bm 24 49151) HT_ ?_
        refine pz 16 28 (bm 24 114687) HT_ ?_
        refine pz 17 29 (bm 24 245759) HT_ ?_
        refine pz 18 30 (bm 24 507903) HT_ ?_
        refine pz 19 31 (bm 24 1032191) HT_ ?_
        refine tz 14 26 (bm 24 1048575) HT_ HW_ hHeld rfl (by rintro w' ⟨s0,s1,s2,s3,s4,s5⟩;go_simp;with_reducible rfl) ?_
        refine tz 20 32 (bm 24 2097151) HT_ HW_ hHeld rfl (by rintro w' ⟨s0,s1,s2,s3,s4,s5⟩;go_simp;with_reducible rfl) ?_
        refine pz 21 33 (bm 24 4194303) HT_ ?_
        refine pz 22 34 (bm 24 8388607) HT_ ?_
        refine pz 23 35 (bm 24 16777215) HT_ ?_
        refine done_ (done_of HT_.out (by kernel_rfl)) ?_
        try go_wp2
        go_ret
        exact⟨by first|rfl|(simp [errW_none,errW_some] <;> rfl)|(simp only [← qt];first|rfl|(simp [errW_none,errW_some] <;> rfl))|(simp [*,errW_none,errW_some] <;> rfl),by repeat(first|(with_reducible first|exact HB.out|apply below_alloc|apply pw_below_drewN|apply below_drew1|refine below_set ?_ qg.out)|exact HB.out)⟩
       ·rw [if_neg c13] at H
        have c13b0:=decide_eq_false c13
        clear c13
        have H':=Ha H
        clear H
        have qr:0≤(qb:Int):=of_decide_eq_true (by first|(with_reducible assumption)|assumption)
        have qs:qb < (l0.length:Int):=of_decide_eq_true (by first|(with_reducible assumption)|assumption)
        obtain⟨qq,e136,qd,qe,qf⟩:=at_T40 HR0.out qb qr qs
        cases e136
        replace qd:=(HB.out.cell (World.block_lt_of_cell? w _ qd)).trans qd
        replace qe:=(HB.out.cell (World.block_lt_of_cell? w _ qe)).trans qe
        replace qf:=(HB.out.cell (World.block_lt_of_cell? w _ qf)).trans qf
        replace qr:=eq_true qr
        replace qs:=eq_true qs
        try go_wp2_with (first|((with_reducible refine gate_dst (N:=4) rfl ?_);refine box_event ?hg (N:=4) ?hd (cs:=#[.int .i64 0,.int .i64 0,.string (⟨#[]⟩:ByteArray)]) (t:=40) ?hr ?_;(case hd=>rfl);(case hg=>rfl);(case hr=>first|(go_simp;done)|(go_simp;rfl));intro qc hg w19 hbox hb;have qk:=Ha (below_step (by repeat(first|(with_reducible first|exact HB.out|apply below_alloc|apply pw_below_drewN|apply below_drew1)|exact HB.out)) hb);have ql:=Ha (hbox);have n2_:=Ha ((by rw [hg];exact(below_size (by repeat(first|(with_reducible first|exact HB.out|apply below_alloc|apply pw_below_drewN|apply below_drew1)|exact HB.out))):w.heap.size≤qc));have n3_:=Ha ((by rw [hg];exact(below_size (by repeat(first|(with_reducible first|exact HB.out|apply below_alloc|apply pw_below_drewN|apply below_drew1)|exact HB.out))):w.heap.size≤qc));clear HB;have HB:=qk;have qa:=ql;have GW137:=n2_;have qg:=n3_;clear qk ql n2_ n3_;clear hb hbox hg;have hcz20_0:w19.cell? ⟨qc,0,none⟩=some (.int .i64 0):=(blk_cell qa.out 0).trans rfl;have hcz20_1:w19.cell? ⟨qc,1,none⟩=some (.int .i64 0):=(blk_cell qa.out 1).trans rfl;have hcz20_2:w19.cell? ⟨qc,2,none⟩=some (.string (⟨#[]⟩:ByteArray)):=(blk_cell qa.out 2).trans rfl;have hfz20_0:=blk_frozen qa.out 0;have hfz20_1:=blk_frozen qa.out 1;have hfz20_2:=blk_frozen qa.out 2))
        have qk:Aside0 ((((w19.setCell ⟨qc,0,none⟩ (.int .i64 ((rd_T40 l0 qb).f0))).setCell ⟨qc,1,none⟩ (.int .i64 ((rd_T40 l0 qb).f1))).setCell ⟨qc,2,none⟩ (.string ((rd_T40 l0 qb).f2))).heap[qc]? = some (.cells #[.int .i64 ((rd_T40 l0 qb).f0),.int .i64 ((rd_T40 l0 qb).f1),.string ((rd_T40 l0 qb).f2)] 40 (0,0))):=⟨by(with_reducible repeat(first|refine blk_drewN ?_ _|refine blk_drew ?_|refine blk_alloc ?_ _));refine blk_put (cs:=#[.int .i64 ((rd_T40 l0 qb).f0),.int .i64 ((rd_T40 l0 qb).f1),.string (⟨#[]⟩:ByteArray)]) ?_ 2 _ rfl;(with_reducible repeat(first|refine blk_drewN ?_ _|refine blk_drew ?_|refine blk_alloc ?_ _));refine blk_put (cs:=#[.int .i64 ((rd_T40 l0 qb).f0),.int .i64 0,.string (⟨#[]⟩:ByteArray)]) ?_ 1 _ rfl;(with_reducible repeat(first|refine blk_drewN ?_ _|refine blk_drew ?_|refine blk_alloc ?_ _));refine blk_put (cs:=#[.int .i64 0,.int .i64 0,.string (⟨#[]⟩:ByteArray)]) ?_ 0 _ rfl;(with_reducible repeat(first|refine blk_drewN ?_ _|refine blk_drew ?_|refine blk_alloc ?_ _));exact qa.out⟩
        have ql:Aside0 (Below w.heap.size w (((w19.setCell ⟨qc,0,none⟩ (.int .i64 ((rd_T40 l0 qb).f0))).setCell ⟨qc,1,none⟩ (.int .i64 ((rd_T40 l0 qb).f1))).setCell ⟨qc,2,none⟩ (.string ((rd_T40 l0 qb).f2)))):=⟨by repeat(first|(with_reducible first|exact HB.out|apply below_alloc|apply pw_below_drewN|apply below_drew1|refine below_set ?_ qg.out)|exact HB.out)⟩
        (try clear qa)
        (try clear HB)
        generalize (((w19.setCell ⟨qc,0,none⟩ (.int .i64 ((rd_T40 l0 qb).f0))).setCell ⟨qc,1,none⟩ (.int .i64 ((rd_T40 l0 qb).f1))).setCell ⟨qc,2,none⟩ (.string ((rd_T40 l0 qb).f2)))=w21 at qk ql ⊢
        have qa:=qk
        have HB:=ql
        clear qk ql
        have qk:=Ha (blk_drew qa.out)
        have ql:=Ha (below_drew1 HB.out)
        clear qa HB
        have qa:=qk
        have HB:=ql
        clear qk ql
        have p140:0≤((qp):Int):=of_decide_eq_true (by first|(with_reducible assumption)|assumption)
        have q140:(qp) < (l0.length:Int):=of_decide_eq_true (by first|(with_reducible assumption)|assumption)
        obtain⟨ad140,e140,qm,qn,qo⟩:=at_T40 HR0.out (qp) p140 q140
        have qj:=qo
        have qi:=qn
        have qh:=qm
        obtain rfl:qq=ad140:=(by injection e140)
        replace qm:=(HB.out.cell (World.block_lt_of_cell? w _ qm)).trans qm
        replace qn:=(HB.out.cell (World.block_lt_of_cell? w _ qn)).trans qn
        replace qo:=(HB.out.cell (World.block_lt_of_cell? w _ qo)).trans qo
        replace p140:=eq_true p140
        replace q140:=eq_true q140
        refine start_ (n:=24) (S:=fun w'=>w'.cell? ⟨qc,0,none⟩=some (.int .i64 ((rd_T40 l0 qb).f0))∧w'.cell? ⟨qc,1,none⟩=some (.int .i64 ((rd_T40 l0 qb).f1))∧w'.cell? ⟨qc,2,none⟩=some (.string ((rd_T40 l0 qb).f2))∧w'.cell? (qq.add (((qp)).toNat*3))=some (.int .i64 ((rd_T40 l0 (qp)).f0))∧w'.cell? ⟨(qq.add (((qp)).toNat*3)).block,(qq.add (((qp)).toNat*3)).off+1,none⟩=some (.int .i64 ((rd_T40 l0 (qp)).f1))∧w'.cell? ⟨(qq.add (((qp)).toNat*3)).block,(qq.add (((qp)).toNat*3)).off+2,none⟩=some (.string ((rd_T40 l0 (qp)).f2))) (ds:=[]) #[false,false,false,false,false,false,false,false,false,false,false,false,false,false,false,false,false,false,false,false,false,false,false,false] (by kernel_rfl) rfl rfl ⟨(blk_cell qa.out 0).trans rfl,(blk_cell qa.out 1).trans rfl,(blk_cell qa.out 2).trans rfl,((HB.out.cell (World.block_lt_of_cell? w _ qh)).trans qh),((HB.out.cell (World.block_lt_of_cell? w _ qi)).trans qi),((HB.out.cell (World.block_lt_of_cell? w _ qj)).trans qj)⟩ (fun hHeld=>?_);refine with_tabW impl_TitlesOk.tab4 impl_TitlesOk.bits4 (fun HT_ HW_=>?_)
        generalize w21.drew=w22 at qa HB qm qn qo hHeld ⊢
        refine tz 0 12 (bm 24 1) HT_ HW_ hHeld rfl (by rintro w' ⟨s0,s1,s2,s3,s4,s5⟩;go_simp;with_reducible rfl) ?_
        refine one_ (i:=1) (N:=some 13) (bm 24 3) rfl rfl (one_of HT_.out (by kernel_rfl)) (by decide) (fun K hK=>?_)
        refine goes_ Tryd.func39 (by kernel_rfl) rfl #[.agg #[.int .i64 ((rd_T40 l0 qb).f0),.int .i64 ((rd_T40 l0 qb).f1),.string ((rd_T40 l0 qb).f2)]] (by rfl) rfl rfl (by(try simp only [List.map_toArray,List.map_cons,List.map_nil]);first|done|rfl|(simp only [List.length_drop,List.length_take];rfl)) ?_
        with_reducible refine(impl_Title_timesOk.calls ((rd_T40 l0 qb).f0) ((rd_T40 l0 qb).f1) ((rd_T40 l0 qb).f2) true _ A5.out).mono ?_
        rintro e w23 ⟨rfl,hb⟩
        refine⟨_,rfl,?_⟩
        have qk:=Ha (blk_below (g:=qc) (o:=.cells #[.int .i64 ((rd_T40 l0 qb).f0),.int .i64 ((rd_T40 l0 qb).f1),.string ((rd_T40 l0 qb).f2)] 40 (0,0)) (by(with_reducible repeat(first|refine blk_drewN ?_ _|refine blk_drew ?_|refine blk_alloc ?_ _));exact qa.out) hb)
        have ql:=Ha (below_step (by repeat(first|(with_reducible first|exact HB.out|apply below_alloc|apply pw_below_drewN|apply below_drew1|refine below_set ?_ qg.out)|exact HB.out)) hb)
        clear qa HB
        have qa:=qk
        have HB:=ql
        clear qk ql
        (try clear hb)
        (try clear hb2)
        (try clear hk)
        (try clear hi)
        refine hK.out _ _ ⟨(blk_cell qa.out 0).trans rfl,(blk_cell qa.out 1).trans rfl,(blk_cell qa.out 2).trans rfl,((HB.out.cell (World.block_lt_of_cell? w _ qh)).trans qh),((HB.out.cell (World.block_lt_of_cell? w _ qi)).trans qi),((HB.out.cell (World.block_lt_of_cell? w _ qj)).trans qj)⟩ (fun hHeld=>?_)
        clear hK K
        refine norm_ (a':=?_) ?_ ?_;rotate_left;(show Act.put _ (some 13) _=_;simp only[pw];rfl)
        refine pz 2 14 (bm 24 7) HT_ ?_
        refine pz 3 15 (bm 24 15) HT_ ?_
        refine pz 4 16 (bm 24 31) HT_ ?_
        refine tz 5 17 (bm 24 63) HT_ HW_ hHeld rfl (by rintro w' ⟨s0,s1,s2,s3,s4,s5⟩;go_simp;with_reducible rfl) ?_
        refine one_ (i:=6) (N:=some 18) (bm 24 127) rfl rfl (one_of HT_.out (by kernel_rfl)) (by decide) (fun K hK=>?_)
        refine goes_ Tryd.func40 (by kernel_rfl) rfl #[.string ((rd_T40 l0 qb).f2)] (by rfl) rfl rfl (by(try simp only [List.map_toArray,List.map_cons,List.map_nil]);first|done|rfl|(simp only [List.length_drop,List.length_take];rfl)) ?_
        with_reducible refine(impl_textOk.calls k1 ((rd_T40 l0 qb).f2) true _ (by first|exact HGL.out|((repeat(with_reducible refine Glob.drewN ?_));exact HGL.out)|exact Glob.below HGL.out (by repeat(first|(with_reducible first|exact HB.out|apply below_alloc|apply pw_below_drewN|apply below_drew1|refine below_set ?_ qg.out)|exact HB.out))) A7.out).mono ?_
        rintro e w' ⟨rfl,⟨nd,rfl⟩⟩
        refine⟨_,rfl,?_⟩
        refine hK.out _ _ ⟨(blk_cell qa.out 0).trans rfl,(blk_cell qa.out 1).trans rfl,(blk_cell qa.out 2).trans rfl,((HB.out.cell (World.block_lt_of_cell? w _ qh)).trans qh),((HB.out.cell (World.block_lt_of_cell? w _ qi)).trans qi),((HB.out.cell (World.block_lt_of_cell? w _ qj)).trans qj)⟩ (fun hHeld=>?_)
        clear hK K
        refine norm_ (a':=?_) ?_ ?_;rotate_left;(show Act.put _ (some 18) _=_;simp only[pw];rfl)
        refine pz 7 19 (bm 24 255) HT_ ?_
        refine pz 8 20 (bm 24 511) HT_ ?_
        refine pz 9 21 (bm 24 1023) HT_ ?_
        refine pz 10 22 (bm 24 2047) HT_ ?_
        refine pz 11 23 (bm 24 4095) HT_ ?_
        refine pz 12 24 (bm 24 8191) HT_ ?_
        refine pz 13 25 (bm 24 16383) HT_ ?_
        refine pz 15 27 (bm 24 49151) HT_ ?_
        refine pz 16 28 (bm 24 114687) HT_ ?_
        refine pz 17 29 (bm 24 245759) HT_ ?_
        refine pz 18 30 (bm 24 507903) HT_ ?_
        refine pz 19 31 (bm 24 1032191) HT_ ?_
        refine tz 14 26 (bm 24 1048575) HT_ HW_ hHeld rfl (by rintro w' ⟨s0,s1,s2,s3,s4,s5⟩;go_simp;with_reducible rfl) ?_
        refine tz 20 32 (bm 24 2097151) HT_ HW_ hHeld rfl (by rintro w' ⟨s0,s1,s2,s3,s4,s5⟩;go_simp;with_reducible rfl) ?_
        refine pz 21 33 (bm 24 4194303) HT_ ?_
        refine pz 22 34 (bm 24 8388607) HT_ ?_
        refine pz 23 35 (bm 24 16777215) HT_ ?_
        refine done_ (done_of HT_.out (by kernel_rfl)) ?_
        try go_wp2
        go_roundg k1
        case measure=>have:=HK1.out;omega
        case rel=>exact⟨(wrap64 (qb+1)),(by first|rfl|(simp;done)|(simp [*];done)),H',⟨by have:=HK1.out;omega⟩,⟨by repeat(first|(with_reducible first|exact HB.out|apply below_alloc|apply pw_below_drewN|apply below_drew1|refine below_set ?_ qg.out)|exact HB.out)⟩⟩
      ·rw [if_neg c9] at H
       have c9b0:=decide_eq_false c9
       clear c9
       have H':=Ha H
       clear H
       have qr:0≤(qb:Int):=of_decide_eq_true (by first|(with_reducible assumption)|assumption)
       have qs:qb < (l0.length:Int):=of_decide_eq_true (by first|(with_reducible assumption)|assumption)
       obtain⟨qq,e136,qd,qe,qf⟩:=at_T40 HR0.out qb qr qs
       cases e136
       replace qd:=(HB.out.cell (World.block_lt_of_cell? w _ qd)).trans qd
       replace qe:=(HB.out.cell (World.block_lt_of_cell? w _ qe)).trans qe
       replace qf:=(HB.out.cell (World.block_lt_of_cell? w _ qf)).trans qf
       replace qr:=eq_true qr
       replace qs:=eq_true qs
       try go_wp2_with (first|((with_reducible refine gate_dst (N:=4) rfl ?_);refine box_event ?hg (N:=4) ?hd (cs:=#[.int .i64 0,.int .i64 0,.string (⟨#[]⟩:ByteArray)]) (t:=40) ?hr ?_;(case hd=>rfl);(case hg=>rfl);(case hr=>first|(go_simp;done)|(go_simp;rfl));intro qc hg w24 hbox hb;have qk:=Ha (below_step (by repeat(first|(with_reducible first|exact HB.out|apply below_alloc|apply pw_below_drewN|apply below_drew1)|exact HB.out)) hb);have ql:=Ha (hbox);have n2_:=Ha ((by rw [hg];exact(below_size (by repeat(first|(with_reducible first|exact HB.out|apply below_alloc|apply pw_below_drewN|apply below_drew1)|exact HB.out))):w.heap.size≤qc));have n3_:=Ha ((by rw [hg];exact(below_size (by repeat(first|(with_reducible first|exact HB.out|apply below_alloc|apply pw_below_drewN|apply below_drew1)|exact HB.out))):w.heap.size≤qc));clear HB;have HB:=qk;have qa:=ql;have GW137:=n2_;have qg:=n3_;clear qk ql n2_ n3_;clear hb hbox hg;have hcz25_0:w24.cell? ⟨qc,0,none⟩=some (.int .i64 0):=(blk_cell qa.out 0).trans rfl;have hcz25_1:w24.cell? ⟨qc,1,none⟩=some (.int .i64 0):=(blk_cell qa.out 1).trans rfl;have hcz25_2:w24.cell? ⟨qc,2,none⟩=some (.string (⟨#[]⟩:ByteArray)):=(blk_cell qa.out 2).trans rfl;have hfz25_0:=blk_frozen qa.out 0;have hfz25_1:=blk_frozen qa.out 1;have hfz25_2:=blk_frozen qa.out 2))
       have qk:Aside0 ((((w24.setCell ⟨qc,0,none⟩ (.int .i64 ((rd_T40 l0 qb).f0))).setCell ⟨qc,1,none⟩ (.int .i64 ((rd_T40 l0 qb).f1))).setCell ⟨qc,2,none⟩ (.string ((rd_T40 l0 qb).f2))).heap[qc]? = some (.cells #[.int .i64 ((rd_T40 l0 qb).f0),.int .i64 ((rd_T40 l0 qb).f1),.string ((rd_T40 l0 qb).f2)] 40 (0,0))):=⟨by(with_reducible repeat(first|refine blk_drewN ?_ _|refine blk_drew ?_|refine blk_alloc ?_ _));refine blk_put (cs:=#[.int .i64 ((rd_T40 l0 qb).f0),.int .i64 ((rd_T40 l0 qb).f1),.string (⟨#[]⟩:ByteArray)]) ?_ 2 _ rfl;(with_reducible repeat(first|refine blk_drewN ?_ _|refine blk_drew ?_|refine blk_alloc ?_ _));refine blk_put (cs:=#[.int .i64 ((rd_T40 l0 qb).f0),.int .i64 0,.string (⟨#[]⟩:ByteArray)]) ?_ 1 _ rfl;(with_reducible repeat(first|refine blk_drewN ?_ _|refine blk_drew ?_|refine blk_alloc ?_ _));refine blk_put (cs:=#[.int .i64 0,.int .i64 0,.string (⟨#[]⟩:ByteArray)]) ?_ 0 _ rfl;(with_reducible repeat(first|refine blk_drewN ?_ _|refine blk_drew ?_|refine blk_alloc ?_ _));exact qa.out⟩
       have ql:Aside0 (Below w.heap.size w (((w24.setCell ⟨qc,0,none⟩ (.int .i64 ((rd_T40 l0 qb).f0))).setCell ⟨qc,1,none⟩ (.int .i64 ((rd_T40 l0 qb).f1))).setCell ⟨qc,2,none⟩ (.string ((rd_T40 l0 qb).f2)))):=⟨by repeat(first|(with_reducible first|exact HB.out|apply below_alloc|apply pw_below_drewN|apply below_drew1|refine below_set ?_ qg.out)|exact HB.out)⟩
       (try clear qa)
       (try clear HB)
       generalize (((w24.setCell ⟨qc,0,none⟩ (.int .i64 ((rd_T40 l0 qb).f0))).setCell ⟨qc,1,none⟩ (.int .i64 ((rd_T40 l0 qb).f1))).setCell ⟨qc,2,none⟩ (.string ((rd_T40 l0 qb).f2)))=w26 at qk ql ⊢
       have qa:=qk
       have HB:=ql
       clear qk ql
       have qk:=Ha (blk_drew qa.out)
       have ql:=Ha (below_drew1 HB.out)
       clear qa HB
       have qa:=qk
       have HB:=ql
       clear qk ql
       refine start_ (n:=24) (S:=fun w'=>w'.cell? ⟨qc,0,none⟩=some (.int .i64 ((rd_T40 l0 qb).f0))∧w'.cell? ⟨qc,1,none⟩=some (.int .i64 ((rd_T40 l0 qb).f1))∧w'.cell? ⟨qc,2,none⟩=some (.string ((rd_T40 l0 qb).f2))) (ds:=[]) #[false,false,false,false,false,false,false,false,false,false,false,false,false,false,false,false,false,false,false,false,false,false,false,false] (by kernel_rfl) rfl rfl ⟨(blk_cell qa.out 0).trans rfl,(blk_cell qa.out 1).trans rfl,(blk_cell qa.out 2).trans rfl⟩ (fun hHeld=>?_);refine with_tabW impl_TitlesOk.tab4 impl_TitlesOk.bits4 (fun HT_ HW_=>?_)
       generalize w26.drew=w27 at qa HB hHeld ⊢
       refine tz 0 12 (bm 24 1) HT_ HW_ hHeld rfl (by rintro w' ⟨s0,s1,s2⟩;go_simp;with_reducible rfl) ?_
       refine one_ (i:=1) (N:=some 13) (bm 24 3) rfl rfl (one_of HT_.out (by kernel_rfl)) (by decide) (fun K hK=>?_)
       refine goes_ Tryd.func39 (by kernel_rfl) rfl #[.agg #[.int .i64 ((rd_T40 l0 qb).f0),.int .i64 ((rd_T40 l0 qb).f1),.string ((rd_T40 l0 qb).f2)]] (by rfl) rfl rfl (by(try simp only [List.map_toArray,List.map_cons,List.map_nil]);first|done|rfl|(simp only [List.length_drop,List.length_take];rfl)) ?_
       with_reducible refine(impl_Title_timesOk.calls ((rd_T40 l0 qb).f0) ((rd_T40 l0 qb).f1) ((rd_T40 l0 qb).f2) true _ A5.out).mono ?_
       rintro e w28 ⟨rfl,hb⟩
       refine⟨_,rfl,?_⟩
       have qk:=Ha (blk_below (g:=qc) (o:=.cells #[.int .i64 ((rd_T40 l0 qb).f0),.int .i64 ((rd_T40 l0 qb).f1),.string ((rd_T40 l0 qb).f2)] 40 (0,0)) (by(with_reducible repeat(first|refine blk_drewN ?_ _|refine blk_drew ?_|refine blk_alloc ?_ _));exact qa.out) hb)
       have ql:=Ha (below_step (by repeat(first|(with_reducible first|exact HB.out|apply below_alloc|apply pw_below_drewN|apply below_drew1|refine below_set ?_ qg.out)|exact HB.out)) hb)
       clear qa HB
       have qa:=qk
       have HB:=ql
       clear qk ql
       (try clear hb)
       (try clear hb2)
       (try clear hk)
       (try clear hi)
       refine hK.out _ _ ⟨(blk_cell qa.out 0).trans rfl,(blk_cell qa.out 1).trans rfl,(blk_cell qa.out 2).trans rfl⟩ (fun hHeld=>?_)
       clear hK K
       refine norm_ (a':=?_) ?_ ?_;rotate_left;(show Act.put _ (some 13) _=_;simp only[pw];rfl)
       refine pz 2 14 (bm 24 7) HT_ ?_
       refine pz 3 15 (bm 24 15) HT_ ?_
       refine pz 4 16 (bm 24 31) HT_ ?_
       refine tz 5 17 (bm 24 63) HT_ HW_ hHeld rfl (by rintro w' ⟨s0,s1,s2⟩;go_simp;with_reducible rfl) ?_
       refine one_ (i:=6) (N:=some 18) (bm 24 127) rfl rfl (one_of HT_.out (by kernel_rfl)) (by decide) (fun K hK=>?_)
       refine goes_ Tryd.func40 (by kernel_rfl) rfl #[.string ((rd_T40 l0 qb).f2)] (by rfl) rfl rfl (by(try simp only [List.map_toArray,List.map_cons,List.map_nil]);first|done|rfl|(simp only [List.length_drop,List.length_take];rfl)) ?_
       with_reducible refine(impl_textOk.calls k1 ((rd_T40 l0 qb).f2) true _ (by first|exact HGL.out|((repeat(with_reducible refine Glob.drewN ?_));exact HGL.out)|exact Glob.below HGL.out (by repeat(first|(with_reducible first|exact HB.out|apply below_alloc|apply pw_below_drewN|apply below_drew1|refine below_set ?_ qg.out)|exact HB.out))) A7.out).mono ?_
       rintro e w' ⟨rfl,⟨nd,rfl⟩⟩
       refine⟨_,rfl,?_⟩
       refine hK.out _ _ ⟨(blk_cell qa.out 0).trans rfl,(blk_cell qa.out 1).trans rfl,(blk_cell qa.out 2).trans rfl⟩ (fun hHeld=>?_)
       clear hK K
       refine norm_ (a':=?_) ?_ ?_;rotate_left;(show Act.put _ (some 18) _=_;simp only[pw];rfl)
       refine pz 7 19 (bm 24 255) HT_ ?_
       refine pz 8 20 (bm 24 511) HT_ ?_
       refine pz 9 21 (bm 24 1023) HT_ ?_
       refine pz 10 22 (bm 24 2047) HT_ ?_
       refine pz 11 23 (bm 24 4095) HT_ ?_
       refine pz 12 24 (bm 24 8191) HT_ ?_
       refine pd 13 25 (bm 24 16383) HT_ ?_
       refine pd 14 26 (bm 24 32767) HT_ ?_
       refine pd 15 27 (bm 24 65535) HT_ ?_
       refine pd 16 28 (bm 24 131071) HT_ ?_
       refine pd 17 29 (bm 24 262143) HT_ ?_
       refine pd 18 30 (bm 24 524287) HT_ ?_
       refine pd 19 31 (bm 24 1048575) HT_ ?_
       refine pd 20 32 (bm 24 2097151) HT_ ?_
       refine pd 21 33 (bm 24 4194303) HT_ ?_
       refine pz 22 34 (bm 24 8388607) HT_ ?_
       refine pz 23 35 (bm 24 16777215) HT_ ?_
       refine done_ (done_of HT_.out (by kernel_rfl)) ?_
       try go_wp2
       go_roundg k1
       case measure=>have:=HK1.out;omega
       case rel=>exact⟨(wrap64 (qb+1)),(by first|rfl|(simp;done)|(simp [*];done)),H',⟨by have:=HK1.out;omega⟩,⟨by repeat(first|(with_reducible first|exact HB.out|apply below_alloc|apply pw_below_drewN|apply below_drew1|refine below_set ?_ qg.out)|exact HB.out)⟩⟩
     ·replace c8:=Bool.eq_false_iff.mpr c8
      subst c8
      have H1:(some false)=some r:=by rw [if_neg (show ¬ (false=true) by decide)] at H;exact H
      clear H
      have H:=H1
      clear H1
      obtain rfl:=Option.some.inj H
      have qr:0≤(qb:Int):=of_decide_eq_true (by first|(with_reducible assumption)|assumption)
      have qs:qb < (l0.length:Int):=of_decide_eq_true (by first|(with_reducible assumption)|assumption)
      obtain⟨qq,e136,qd,qe,qf⟩:=at_T40 HR0.out qb qr qs
      cases e136
      replace qd:=(HB.out.cell (World.block_lt_of_cell? w _ qd)).trans qd
      replace qe:=(HB.out.cell (World.block_lt_of_cell? w _ qe)).trans qe
      replace qf:=(HB.out.cell (World.block_lt_of_cell? w _ qf)).trans qf
      replace qr:=eq_true qr
      replace qs:=eq_true qs
      try go_wp2_with (first|((with_reducible refine gate_dst (N:=4) rfl ?_);refine box_event ?hg (N:=4) ?hd (cs:=#[.int .i64 0,.int .i64 0,.string (⟨#[]⟩:ByteArray)]) (t:=40) ?hr ?_;(case hd=>rfl);(case hg=>rfl);(case hr=>first|(go_simp;done)|(go_simp;rfl));intro qc hg w29 hbox hb;have qk:=Ha (below_step (by repeat(first|(with_reducible first|exact HB.out|apply below_alloc|apply pw_below_drewN|apply below_drew1)|exact HB.out)) hb);have ql:=Ha (hbox);have n2_:=Ha ((by rw [hg];exact(below_size (by repeat(first|(with_reducible first|exact HB.out|apply below_alloc|apply pw_below_drewN|apply below_drew1)|exact HB.out))):w.heap.size≤qc));have n3_:=Ha ((by rw [hg];exact(below_size (by repeat(first|(with_reducible first|exact HB.out|apply below_alloc|apply pw_below_drewN|apply below_drew1)|exact HB.out))):w.heap.size≤qc));clear HB;have HB:=qk;have qa:=ql;have GW137:=n2_;have qg:=n3_;clear qk ql n2_ n3_;clear hb hbox hg;have hcz30_0:w29.cell? ⟨qc,0,none⟩=some (.int .i64 0):=(blk_cell qa.out 0).trans rfl;have hcz30_1:w29.cell? ⟨qc,1,none⟩=some (.int .i64 0):=(blk_cell qa.out 1).trans rfl;have hcz30_2:w29.cell? ⟨qc,2,none⟩=some (.string (⟨#[]⟩:ByteArray)):=(blk_cell qa.out 2).trans rfl;have hfz30_0:=blk_frozen qa.out 0;have hfz30_1:=blk_frozen qa.out 1;have hfz30_2:=blk_frozen qa.out 2))
      have qk:Aside0 ((((w29.setCell ⟨qc,0,none⟩ (.int .i64 ((rd_T40 l0 qb).f0))).setCell ⟨qc,1,none⟩ (.int .i64 ((rd_T40 l0 qb).f1))).setCell ⟨qc,2,none⟩ (.string ((rd_T40 l0 qb).f2))).heap[qc]? = some (.cells #[.int .i64 ((rd_T40 l0 qb).f0),.int .i64 ((rd_T40 l0 qb).f1),.string ((rd_T40 l0 qb).f2)] 40 (0,0))):=⟨by(with_reducible repeat(first|refine blk_drewN ?_ _|refine blk_drew ?_|refine blk_alloc ?_ _));refine blk_put (cs:=#[.int .i64 ((rd_T40 l0 qb).f0),.int .i64 ((rd_T40 l0 qb).f1),.string (⟨#[]⟩:ByteArray)]) ?_ 2 _ rfl;(with_reducible repeat(first|refine blk_drewN ?_ _|refine blk_drew ?_|refine blk_alloc ?_ _));refine blk_put (cs:=#[.int .i64 ((rd_T40 l0 qb).f0),.int .i64 0,.string (⟨#[]⟩:ByteArray)]) ?_ 1 _ rfl;(with_reducible repeat(first|refine blk_drewN ?_ _|refine blk_drew ?_|refine blk_alloc ?_ _));refine blk_put (cs:=#[.int .i64 0,.int .i64 0,.string (⟨#[]⟩:ByteArray)]) ?_ 0 _ rfl;(with_reducible repeat(first|refine blk_drewN ?_ _|refine blk_drew ?_|refine blk_alloc ?_ _));exact qa.out⟩
      have ql:Aside0 (Below w.heap.size w (((w29.setCell ⟨qc,0,none⟩ (.int .i64 ((rd_T40 l0 qb).f0))).setCell ⟨qc,1,none⟩ (.int .i64 ((rd_T40 l0 qb).f1))).setCell ⟨qc,2,none⟩ (.string ((rd_T40 l0 qb).f2)))):=⟨by repeat(first|(with_reducible first|exact HB.out|apply below_alloc|apply pw_below_drewN|apply below_drew1|refine below_set ?_ qg.out)|exact HB.out)⟩
      (try clear qa)
      (try clear HB)
      generalize (((w29.setCell ⟨qc,0,none⟩ (.int .i64 ((rd_T40 l0 qb).f0))).setCell ⟨qc,1,none⟩ (.int .i64 ((rd_T40 l0 qb).f1))).setCell ⟨qc,2,none⟩ (.string ((rd_T40 l0 qb).f2)))=w31 at qk ql ⊢
      have qa:=qk
      have HB:=ql
      clear qk ql
      have qk:=Ha (blk_drew qa.out)
      have ql:=Ha (below_drew1 HB.out)
      clear qa HB
      have qa:=qk
      have HB:=ql
      clear qk ql
      refine start_ (n:=24) (S:=fun w'=>w'.cell? ⟨qc,0,none⟩=some (.int .i64 ((rd_T40 l0 qb).f0))∧w'.cell? ⟨qc,1,none⟩=some (.int .i64 ((rd_T40 l0 qb).f1))∧w'.cell? ⟨qc,2,none⟩=some (.string ((rd_T40 l0 qb).f2))) (ds:=[]) #[false,false,false,false,false,false,false,false,false,false,false,false,false,false,false,false,false,false,false,false,false,false,false,false] (by kernel_rfl) rfl rfl ⟨(blk_cell qa.out 0).trans rfl,(blk_cell qa.out 1).trans rfl,(blk_cell qa.out 2).trans rfl⟩ (fun hHeld=>?_);refine with_tabW impl_TitlesOk.tab4 impl_TitlesOk.bits4 (fun HT_ HW_=>?_)
      generalize w31.drew=w32 at qa HB hHeld ⊢
      refine tz 0 12 (bm 24 1) HT_ HW_ hHeld rfl (by rintro w' ⟨s0,s1,s2⟩;go_simp;with_reducible rfl) ?_
      refine one_ (i:=1) (N:=some 13) (bm 24 3) rfl rfl (one_of HT_.out (by kernel_rfl)) (by decide) (fun K hK=>?_)
      refine goes_ Tryd.func39 (by kernel_rfl) rfl #[.agg #[.int .i64 ((rd_T40 l0 qb).f0),.int .i64 ((rd_T40 l0 qb).f1),.string ((rd_T40 l0 qb).f2)]] (by rfl) rfl rfl (by(try simp only [List.map_toArray,List.map_cons,List.map_nil]);first|done|rfl|(simp only [List.length_drop,List.length_take];rfl)) ?_
      with_reducible refine(impl_Title_timesOk.calls ((rd_T40 l0 qb).f0) ((rd_T40 l0 qb).f1) ((rd_T40 l0 qb).f2) true _ A5.out).mono ?_
      rintro e w33 ⟨rfl,hb⟩
      refine⟨_,rfl,?_⟩
      have qk:=Ha (blk_below (g:=qc) (o:=.cells #[.int .i64 ((rd_T40 l0 qb).f0),.int .i64 ((rd_T40 l0 qb).f1),.string ((rd_T40 l0 qb).f2)] 40 (0,0)) (by(with_reducible repeat(first|refine blk_drewN ?_ _|refine blk_drew ?_|refine blk_alloc ?_ _));exact qa.out) hb)
      have ql:=Ha (below_step (by repeat(first|(with_reducible first|exact HB.out|apply below_alloc|apply pw_below_drewN|apply below_drew1|refine below_set ?_ qg.out)|exact HB.out)) hb)
      clear qa HB
      have qa:=qk
      have HB:=ql
      clear qk ql
      (try clear hb)
      (try clear hb2)
      (try clear hk)
      (try clear hi)
      refine hK.out _ _ ⟨(blk_cell qa.out 0).trans rfl,(blk_cell qa.out 1).trans rfl,(blk_cell qa.out 2).trans rfl⟩ (fun hHeld=>?_)
      clear hK K
      refine norm_ (a':=?_) ?_ ?_;rotate_left;(show Act.put _ (some 13) _=_;simp only[pw];rfl)
      refine pz 2 14 (bm 24 7) HT_ ?_
      refine pz 3 15 (bm 24 15) HT_ ?_
      refine pz 4 16 (bm 24 31) HT_ ?_
      refine tz 5 17 (bm 24 63) HT_ HW_ hHeld rfl (by rintro w' ⟨s0,s1,s2⟩;go_simp;with_reducible rfl) ?_
      refine one_ (i:=6) (N:=some 18) (bm 24 127) rfl rfl (one_of HT_.out (by kernel_rfl)) (by decide) (fun K hK=>?_)
      refine goes_ Tryd.func40 (by kernel_rfl) rfl #[.string ((rd_T40 l0 qb).f2)] (by rfl) rfl rfl (by(try simp only [List.map_toArray,List.map_cons,List.map_nil]);first|done|rfl|(simp only [List.length_drop,List.length_take];rfl)) ?_
      with_reducible refine(impl_textOk.calls k1 ((rd_T40 l0 qb).f2) false _ (by first|exact HGL.out|((repeat(with_reducible refine Glob.drewN ?_));exact HGL.out)|exact Glob.below HGL.out (by repeat(first|(with_reducible first|exact HB.out|apply below_alloc|apply pw_below_drewN|apply below_drew1|refine below_set ?_ qg.out)|exact HB.out))) A7.out).mono ?_
      rintro e w' ⟨rfl,⟨nd,rfl⟩⟩
      refine⟨_,rfl,?_⟩
      refine hK.out _ _ ⟨(blk_cell qa.out 0).trans rfl,(blk_cell qa.out 1).trans rfl,(blk_cell qa.out 2).trans rfl⟩ (fun hHeld=>?_)
      clear hK K
      refine norm_ (a':=?_) ?_ ?_;rotate_left;(show Act.put _ (some 18) _=_;simp only[pw];rfl)
      refine pz 7 19 (bm 24 255) HT_ ?_
      refine pz 8 20 (bm 24 511) HT_ ?_
      refine pz 9 21 (bm 24 1023) HT_ ?_
      refine pd 10 22 (bm 24 2047) HT_ ?_
      refine pd 11 23 (bm 24 4095) HT_ ?_
      refine pd 12 24 (bm 24 8191) HT_ ?_
      refine pd 13 25 (bm 24 16383) HT_ ?_
      refine pd 14 26 (bm 24 32767) HT_ ?_
      refine pd 15 27 (bm 24 65535) HT_ ?_
      refine pd 16 28 (bm 24 131071) HT_ ?_
      refine pd 17 29 (bm 24 262143) HT_ ?_
      refine pd 18 30 (bm 24 524287) HT_ ?_
      refine pd 19 31 (bm 24 1048575) HT_ ?_
      refine pd 20 32 (bm 24 2097151) HT_ ?_
      refine pd 21 33 (bm 24 4194303) HT_ ?_
      refine pd 22 34 (bm 24 8388607) HT_ ?_
      refine pz 23 35 (bm 24 16777215) HT_ ?_
      refine done_ (done_of HT_.out (by kernel_rfl)) ?_
      try go_wp2
      go_ret
      exact⟨by first|rfl|(simp [errW_none,errW_some] <;> rfl)|(simp [*,errW_none,errW_some] <;> rfl),by repeat(first|(with_reducible first|exact HB.out|apply below_alloc|apply pw_below_drewN|apply below_drew1|refine below_set ?_ qg.out)|exact HB.out)⟩
    ·replace c6:=Bool.eq_false_iff.mpr c6
     subst c6
     have H1:(some false)=some r:=by rw [if_neg (show ¬ (false=true) by decide)] at H;exact H
     clear H
     have H:=H1
     clear H1
     obtain rfl:=Option.some.inj H
     have qr:0≤(qb:Int):=of_decide_eq_true (by first|(with_reducible assumption)|assumption)
     have qs:qb < (l0.length:Int):=of_decide_eq_true (by first|(with_reducible assumption)|assumption)
     obtain⟨qq,e136,qd,qe,qf⟩:=at_T40 HR0.out qb qr qs
     cases e136
     replace qd:=(HB.out.cell (World.block_lt_of_cell? w _ qd)).trans qd
     replace qe:=(HB.out.cell (World.block_lt_of_cell? w _ qe)).trans qe
     replace qf:=(HB.out.cell (World.block_lt_of_cell? w _ qf)).trans qf
     replace qr:=eq_true qr
     replace qs:=eq_true qs
     try go_wp2_with (first|((with_reducible refine gate_dst (N:=4) rfl ?_);refine box_event ?hg (N:=4) ?hd (cs:=#[.int .i64 0,.int .i64 0,.string (⟨#[]⟩:ByteArray)]) (t:=40) ?hr ?_;(case hd=>rfl);(case hg=>rfl);(case hr=>first|(go_simp;done)|(go_simp;rfl));intro qc hg w34 hbox hb;have qk:=Ha (below_step (by repeat(first|(with_reducible first|exact HB.out|apply below_alloc|apply pw_below_drewN|apply below_drew1)|exact HB.out)) hb);have ql:=Ha (hbox);have n2_:=Ha ((by rw [hg];exact(below_size (by repeat(first|(with_reducible first|exact HB.out|apply below_alloc|apply pw_below_drewN|apply below_drew1)|exact HB.out))):w.heap.size≤qc));have n3_:=Ha ((by rw [hg];exact(below_size (by repeat(first|(with_reducible first|exact HB.out|apply below_alloc|apply pw_below_drewN|apply below_drew1)|exact HB.out))):w.heap.size≤qc));clear HB;have HB:=qk;have qa:=ql;have GW137:=n2_;have qg:=n3_;clear qk ql n2_ n3_;clear hb hbox hg;have hcz35_0:w34.cell? ⟨qc,0,none⟩=some (.int .i64 0):=(blk_cell qa.out 0).trans rfl;have hcz35_1:w34.cell? ⟨qc,1,none⟩=some (.int .i64 0):=(blk_cell qa.out 1).trans rfl;have hcz35_2:w34.cell? ⟨qc,2,none⟩=some (.string (⟨#[]⟩:ByteArray)):=(blk_cell qa.out 2).trans rfl;have hfz35_0:=blk_frozen qa.out 0;have hfz35_1:=blk_frozen qa.out 1;have hfz35_2:=blk_frozen qa.out 2))
     have qk:Aside0 ((((w34.setCell ⟨qc,0,none⟩ (.int .i64 ((rd_T40 l0 qb).f0))).setCell ⟨qc,1,none⟩ (.int .i64 ((rd_T40 l0 qb).f1))).setCell ⟨qc,2,none⟩ (.string ((rd_T40 l0 qb).f2))).heap[qc]? = some (.cells #[.int .i64 ((rd_T40 l0 qb).f0),.int .i64 ((rd_T40 l0 qb).f1),.string ((rd_T40 l0 qb).f2)] 40 (0,0))):=⟨by(with_reducible repeat(first|refine blk_drewN ?_ _|refine blk_drew ?_|refine blk_alloc ?_ _));refine blk_put (cs:=#[.int .i64 ((rd_T40 l0 qb).f0),.int .i64 ((rd_T40 l0 qb).f1),.string (⟨#[]⟩:ByteArray)]) ?_ 2 _ rfl;(with_reducible repeat(first|refine blk_drewN ?_ _|refine blk_drew ?_|refine blk_alloc ?_ _));refine blk_put (cs:=#[.int .i64 ((rd_T40 l0 qb).f0),.int .i64 0,.string (⟨#[]⟩:ByteArray)]) ?_ 1 _ rfl;(with_reducible repeat(first|refine blk_drewN ?_ _|refine blk_drew ?_|refine blk_alloc ?_ _));refine blk_put (cs:=#[.int .i64 0,.int .i64 0,.string (⟨#[]⟩:ByteArray)]) ?_ 0 _ rfl;(with_reducible repeat(first|refine blk_drewN ?_ _|refine blk_drew ?_|refine blk_alloc ?_ _));exact qa.out⟩
     have ql:Aside0 (Below w.heap.size w (((w34.setCell ⟨qc,0,none⟩ (.int .i64 ((rd_T40 l0 qb).f0))).setCell ⟨qc,1,none⟩ (.int .i64 ((rd_T40 l0 qb).f1))).setCell ⟨qc,2,none⟩ (.string ((rd_T40 l0 qb).f2)))):=⟨by repeat(first|(with_reducible first|exact HB.out|apply below_alloc|apply pw_below_drewN|apply below_drew1|refine below_set ?_ qg.out)|exact HB.out)⟩
     (try clear qa)
     (try clear HB)
     generalize (((w34.setCell ⟨qc,0,none⟩ (.int .i64 ((rd_T40 l0 qb).f0))).setCell ⟨qc,1,none⟩ (.int .i64 ((rd_T40 l0 qb).f1))).setCell ⟨qc,2,none⟩ (.string ((rd_T40 l0 qb).f2)))=w36 at qk ql ⊢
     have qa:=qk
     have HB:=ql
     clear qk ql
     have qk:=Ha (blk_drew qa.out)
     have ql:=Ha (below_drew1 HB.out)
     clear qa HB
     have qa:=qk
     have HB:=ql
     clear qk ql
     refine start_ (n:=24) (S:=fun w'=>w'.cell? ⟨qc,0,none⟩=some (.int .i64 ((rd_T40 l0 qb).f0))∧w'.cell? ⟨qc,1,none⟩=some (.int .i64 ((rd_T40 l0 qb).f1))∧w'.cell? ⟨qc,2,none⟩=some (.string ((rd_T40 l0 qb).f2))) (ds:=[]) #[false,false,false,false,false,false,false,false,false,false,false,false,false,false,false,false,false,false,false,false,false,false,false,false] (by kernel_rfl) rfl rfl ⟨(blk_cell qa.out 0).trans rfl,(blk_cell qa.out 1).trans rfl,(blk_cell qa.out 2).trans rfl⟩ (fun hHeld=>?_);refine with_tabW impl_TitlesOk.tab4 impl_TitlesOk.bits4 (fun HT_ HW_=>?_)
     generalize w36.drew=w37 at qa HB hHeld ⊢
     refine tz 0 12 (bm 24 1) HT_ HW_ hHeld rfl (by rintro w' ⟨s0,s1,s2⟩;go_simp;with_reducible rfl) ?_
     refine one_ (i:=1) (N:=some 13) (bm 24 3) rfl rfl (one_of HT_.out (by kernel_rfl)) (by decide) (fun K hK=>?_)
     refine goes_ Tryd.func39 (by kernel_rfl) rfl #[.agg #[.int .i64 ((rd_T40 l0 qb).f0),.int .i64 ((rd_T40 l0 qb).f1),.string ((rd_T40 l0 qb).f2)]] (by rfl) rfl rfl (by(try simp only [List.map_toArray,List.map_cons,List.map_nil]);first|done|rfl|(simp only [List.length_drop,List.length_take];rfl)) ?_
     with_reducible refine(impl_Title_timesOk.calls ((rd_T40 l0 qb).f0) ((rd_T40 l0 qb).f1) ((rd_T40 l0 qb).f2) false _ A5.out).mono ?_
     rintro e w38 ⟨rfl,hb⟩
     refine⟨_,rfl,?_⟩
     have qk:=Ha (blk_below (g:=qc) (o:=.cells #[.int .i64 ((rd_T40 l0 qb).f0),.int .i64 ((rd_T40 l0 qb).f1),.string ((rd_T40 l0 qb).f2)] 40 (0,0)) (by(with_reducible repeat(first|refine blk_drewN ?_ _|refine blk_drew ?_|refine blk_alloc ?_ _));exact qa.out) hb)
     have ql:=Ha (below_step (by repeat(first|(with_reducible first|exact HB.out|apply below_alloc|apply pw_below_drewN|apply below_drew1|refine below_set ?_ qg.out)|exact HB.out)) hb)
     clear qa HB
     have qa:=qk
     have HB:=ql
     clear qk ql
     (try clear hb)
     (try clear hb2)
     (try clear hk)
     (try clear hi)
     refine hK.out _ _ ⟨(blk_cell qa.out 0).trans rfl,(blk_cell qa.out 1).trans rfl,(blk_cell qa.out 2).trans rfl⟩ (fun hHeld=>?_)
     clear hK K
     refine norm_ (a':=?_) ?_ ?_;rotate_left;(show Act.put _ (some 13) _=_;simp only[pw];rfl)
     refine pz 2 14 (bm 24 7) HT_ ?_
     refine pz 3 15 (bm 24 15) HT_ ?_
     refine pd 4 16 (bm 24 31) HT_ ?_
     refine pd 5 17 (bm 24 63) HT_ ?_
     refine pd 6 18 (bm 24 127) HT_ ?_
     refine pd 7 19 (bm 24 255) HT_ ?_
     refine pz 8 20 (bm 24 511) HT_ ?_
     refine pz 9 21 (bm 24 1023) HT_ ?_
     refine pd 10 22 (bm 24 2047) HT_ ?_
     refine pd 11 23 (bm 24 4095) HT_ ?_
     refine pd 12 24 (bm 24 8191) HT_ ?_
     refine pd 13 25 (bm 24 16383) HT_ ?_
     refine pd 14 26 (bm 24 32767) HT_ ?_
     refine pd 15 27 (bm 24 65535) HT_ ?_
     refine pd 16 28 (bm 24 131071) HT_ ?_
     refine pd 17 29 (bm 24 262143) HT_ ?_
     refine pd 18 30 (bm 24 524287) HT_ ?_
     refine pd 19 31 (bm 24 1048575) HT_ ?_
     refine pd 20 32 (bm 24 2097151) HT_ ?_
     refine pd 21 33 (bm 24 4194303) HT_ ?_
     refine pd 22 34 (bm 24 8388607) HT_ ?_
     refine pz 23 35 (bm 24 16777215) HT_ ?_
     refine done_ (done_of HT_.out (by kernel_rfl)) ?_
     try go_wp2
     go_ret
     exact⟨by first|rfl|(simp [errW_none,errW_some] <;> rfl)|(simp [*,errW_none,errW_some] <;> rfl),by repeat(first|(with_reducible first|exact HB.out|apply below_alloc|apply pw_below_drewN|apply below_drew1|refine below_set ?_ qg.out)|exact HB.out)⟩
   ·rw [if_neg c2] at H
    have c2b0:=decide_eq_false c2
    clear c2
    obtain rfl:=Option.some.inj H
    go_wp2
    go_ret
    exact⟨by first|rfl|(simp [errW_none,errW_some] <;> rfl)|(simp [*,errW_none,errW_some] <;> rfl),by repeat(first|(with_reducible first|exact HB.out|apply below_alloc|apply pw_below_drewN|apply below_drew1)|exact HB.out)⟩

end Go.Proofs.YtidogkjhjmcliaaDoor.HFnTitlesBack
