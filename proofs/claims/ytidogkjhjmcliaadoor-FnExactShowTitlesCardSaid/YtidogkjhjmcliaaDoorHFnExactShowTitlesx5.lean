-- Laid by myprint.py, a program of this repo, out of the kit's printer and this repo's own texts (wip/hand).
import Derived.Test.YtidogkjhjmcliaaDoorHFnExactShowTitlesx0
import Derived.Test.YtidogkjhjmcliaaDoorHFnExactShowTitlesx4
namespace Go.Proofs.YtidogkjhjmcliaaDoor.HFnExactShowTitles
open Go.RowKit Go.Proofs.YtidogkjhjmcliaaDoorW.PrintWords Go.Proofs.YtidogkjhjmcliaaDoorW.PrintLast Go.Proofs.YtidogkjhjmcliaaDoorW.PrintMore
attribute [local go_sem] max2_int min2_int max_two min_two max_three min_three max_four min_four   -- for this text's walks alone
set_option linter.unusedVariables false
set_option linter.unusedSimpArgs false
theorem Fa : type_of% @Aside0.mk := @Aside0.mk
theorem Fb : type_of% @any_of := @any_of
theorem Fc : type_of% @pw_below_drewN := @pw_below_drewN
theorem Fd : type_of% @blk_cell := @blk_cell
theorem Fe : type_of% @below_drew1 := @below_drew1
theorem Ff : type_of% @blk_drew := @blk_drew
theorem Fg : type_of% @below_alloc := @below_alloc
theorem Fh : type_of% @blk_alloc := @blk_alloc
theorem Fi : type_of% @blk_drewN := @blk_drewN

/-! ### impl_TitlesOk: function 19 -/
def impl_TitlesOk.l0 : Nat → List (S40) → List (S40) → Int → Int → Option (Bool)
 | 0, _, _, _, _ => none
 | k + 1, x0, x5, x6, x7 => if x7 < x6 then (if 0 ≤ x7 then (if x7 < (x5.length : Int) then ((impl_Title_timesOk.f ((rd_T40 x5 x7).f0) ((rd_T40 x5 x7).f1) ((rd_T40 x5 x7).f2)).bind fun t152 => (if t152 = true then ((impl_textOk.f k ((rd_T40 x5 x7).f2)).bind fun t153 => (if t153 = true then (if x7 > 0 then (if 0 ≤ (wrap64 (x7 - 1)) then (if (wrap64 (x7 - 1)) < (x0.length : Int) then (if ((rd_T40 x5 x7).f0) < ((rd_T40 x0 (wrap64 (x7 - 1))).f1) then (some false) else (impl_TitlesOk.l0 k x0 x5 x6 (wrap64 (x7 + 1)))) else (none)) else (none)) else (impl_TitlesOk.l0 k x0 x5 x6 (wrap64 (x7 + 1)))) else (some false))) else (some false))) else (none)) else (none)) else (some (decide ((x0.length : Int) ≤ 200)))
def impl_TitlesOk.f (k : Nat) (l0 : List (S40)) : Option (Bool) := impl_TitlesOk.l0 k l0 l0 (l0.length : Int) 0
theorem impl_TitlesOk.mono_l : ∀ k, (∀ y0 y1 y2 y3, LeO (impl_TitlesOk.l0 k y0 y1 y2 y3) (impl_TitlesOk.l0 (k + 1) y0 y1 y2 y3))
 | 0 => fun _ _ _ _ r h => by simp [impl_TitlesOk.l0] at h
 | k + 1 => by
  have ih0:=impl_TitlesOk.mono_l k
  ·intro y0 y1 y2 y3
   unfold impl_TitlesOk.l0
   repeat' first
   | (with_reducible exact ih0 _ _ _ _)
   | (with_reducible exact impl_textOk.mono _ _)
   | (with_reducible exact LeO.refl _)
   | (with_reducible exact LeO.none _)
   | (with_reducible refine LeO.ite ?_ ?_)
   | (with_reducible refine LeO.bind ?_ (fun _ => ?_))
   | exact ih0 _ _ _ _
   | exact impl_textOk.mono _ _
   | exact LeO.none _
   | refine LeO.ite ?_ ?_
   | refine LeO.bind ?_ (fun _ => ?_)
theorem impl_TitlesOk.mono : ∀ a0 k, LeO (impl_TitlesOk.f k a0) (impl_TitlesOk.f (k + 1) a0) := by
 intro a0 k
 have ih0:=impl_TitlesOk.mono_l k
 unfold impl_TitlesOk.f
 repeat' first
   | (with_reducible exact ih0 _ _ _ _)
   | (with_reducible exact impl_textOk.mono _ _)
   | (with_reducible exact LeO.refl _)
   | (with_reducible exact LeO.none _)
   | (with_reducible refine LeO.ite ?_ ?_)
   | (with_reducible refine LeO.bind ?_ (fun _ => ?_))
   | exact ih0 _ _ _ _
   | exact impl_textOk.mono _ _
   | exact LeO.none _
   | refine LeO.ite ?_ ?_
   | refine LeO.bind ?_ (fun _ => ?_)
def impl_TitlesOk.T4 : Bool × List (List Nat × List Nat) := (true, [([], []), ([0], [0]), ([1], [1]), ([2, 1], [2]), ([3], [3]), ([4, 3], [3, 4]), ([5, 3, 3], [3, 5]), ([6, 3], [3, 6]), ([3, 7], [3, 7]), ([8, 6], [8]), ([9], [9]), ([10, 9], [9, 10]), ([11, 9, 9], [9, 11]), ([12], [12]), ([13, 12], [12, 13]), ([12], [12]), ([12], [12]), ([16, 12], [12, 16]), ([15, 17, 12], [12, 15, 17]), ([18, 12], [12, 18]), ([19, 12], [12, 19]), ([14, 20, 12], [12, 14, 20]), ([12, 21, 9], [9, 12, 21]), ([9, 22], [9, 22])])
def impl_TitlesOk.B4 : List Nat := [0, 1, 3, 7, 15, 31, 63, 127, 255, 511, 1023, 2047, 4095, 8191, 16383, 8191, 8191, 73727, 237567, 499711, 1023999, 2097151, 4194303, 8388607]
theorem impl_TitlesOk.tab4 : rtab .any (opsOf Tryd.f19 4) = impl_TitlesOk.T4 := by kernel_rfl
theorem impl_TitlesOk.bits4 : waitsOk impl_TitlesOk.T4.2 impl_TitlesOk.B4 = true := by kernel_rfl
set_option maxHeartbeats 8000000 in
set_option maxRecDepth 100000 in
theorem impl_TitlesOk.calls (k : Nat) (A0 : Option Addr) (c0 : Nat) (l0 : List (S40)) (r : Bool) (w : World) (hgl : Glob w) (hr0 : Kd.C k40 w A0 l0.length l0) (hc0 : l0.length ≤ c0) (h : impl_TitlesOk.f k l0 = some r) :
  Calls Tryd.prog 19 #[.slice A0 l0.length c0] w fun e w'=>e=.returned (.bool r)∧Below w.heap.size w w':=by
 have HGL:=Fa hgl
 clear hgl
 have hu40:=Tryd.underlying40
 have HR0:=Fa hr0
 have HC0:=Fa hc0
 clear hr0 hc0
 have HB:=Fa (Below.refl w.heap.size w)
 have H:(impl_TitlesOk.l0 k l0 l0 (l0.length:Int) 0)=some r:=h
 clear h
 have H':=Fa H
 clear H
 go_enter Tryd.func19,Tryd.ntmps19
 go_wp2
 go_loopg [7] k (fun kq v7 w'=>∃ (qa:Int),v7=.int .i64 qa∧Aside0 (impl_TitlesOk.l0 kq l0 l0 (l0.length:Int) qa=some r)∧Aside0 (kq≤k)∧Aside0 (Below w.heap.size w w'))
 case atStart=>exact⟨(0),(by first|rfl|(simp;done)|(simp [*];done)),H',⟨Nat.le_refl _⟩,⟨by repeat(first|(with_reducible first|exact HB.out|apply Fg|apply Fc|apply Fe)|exact HB.out)⟩⟩
 case round=>
  clear H'
  try clear c1
  obtain⟨qa,rfl,HA,HK1,HB⟩:=hrel
  cases gk with
  | zero => exact absurd HA.out (by simp [impl_TitlesOk.l0])
  | succ k1 =>
   have H:=HA.out
   clear HA
   simp only [impl_TitlesOk.l0] at H
   by_cases c2:qa < (l0.length:Int)
   ·rw [if_pos c2] at H
    have c2b0:decide (qa < (l0.length:Int))=true:=decide_eq_true c2
    clear c2
    by_cases c3:0≤qa
    ·rw [if_pos c3] at H
     have c3b0:decide (0≤qa)=true:=decide_eq_true c3
     clear c3
     by_cases c4:qa < (l0.length:Int)
     ·rw [if_pos c4] at H
      have c4b0:decide (qa < (l0.length:Int))=true:=decide_eq_true c4
      clear c4
      replace H:=Option.bind_eq_some_iff.mp H
      obtain⟨t152,A50,H⟩:=H
      replace H:(if t152=true then ((impl_textOk.f k1 ((rd_T40 l0 qa).f2)).bind fun t153=>(if t153=true then (if qa > 0 then (if 0≤(wrap64 (qa - 1)) then (if (wrap64 (qa - 1)) < (l0.length:Int) then (if ((rd_T40 l0 qa).f0) < ((rd_T40 l0 (wrap64 (qa - 1))).f1) then (some false) else (impl_TitlesOk.l0 k1 l0 l0 (l0.length:Int) (wrap64 (qa+1)))) else (none)) else (none)) else (impl_TitlesOk.l0 k1 l0 l0 (l0.length:Int) (wrap64 (qa+1)))) else (some false))) else (some false))=some r:=H
      have A5:=Fa A50
      clear A50
      by_cases c6:t152=true
      ·subst c6
       have H1:((impl_textOk.f k1 ((rd_T40 l0 qa).f2)).bind fun t153=>(if t153=true then (if qa > 0 then (if 0≤(wrap64 (qa - 1)) then (if (wrap64 (qa - 1)) < (l0.length:Int) then (if ((rd_T40 l0 qa).f0) < ((rd_T40 l0 (wrap64 (qa - 1))).f1) then (some false) else (impl_TitlesOk.l0 k1 l0 l0 (l0.length:Int) (wrap64 (qa+1)))) else (none)) else (none)) else (impl_TitlesOk.l0 k1 l0 l0 (l0.length:Int) (wrap64 (qa+1)))) else (some false)))=some r:=by rw [if_pos rfl] at H;exact H
       clear H
       have H:=H1
       clear H1
       replace H:=Option.bind_eq_some_iff.mp H
       obtain⟨t153,A70,H⟩:=H
       replace H:(if t153=true then (if qa > 0 then (if 0≤(wrap64 (qa - 1)) then (if (wrap64 (qa - 1)) < (l0.length:Int) then (if ((rd_T40 l0 qa).f0) < ((rd_T40 l0 (wrap64 (qa - 1))).f1) then (some false) else (impl_TitlesOk.l0 k1 l0 l0 (l0.length:Int) (wrap64 (qa+1)))) else (none)) else (none)) else (impl_TitlesOk.l0 k1 l0 l0 (l0.length:Int) (wrap64 (qa+1)))) else (some false))=some r:=H
       have A7:=Fa A70
       clear A70
       by_cases c8:t153=true
       ·subst c8
        have H1:(if qa > 0 then (if 0≤(wrap64 (qa - 1)) then (if (wrap64 (qa - 1)) < (l0.length:Int) then (if ((rd_T40 l0 qa).f0) < ((rd_T40 l0 (wrap64 (qa - 1))).f1) then (some false) else (impl_TitlesOk.l0 k1 l0 l0 (l0.length:Int) (wrap64 (qa+1)))) else (none)) else (none)) else (impl_TitlesOk.l0 k1 l0 l0 (l0.length:Int) (wrap64 (qa+1))))=some r:=by rw [if_pos rfl] at H;exact H
        clear H
        have H:=H1
        clear H1
        by_cases c9:qa > 0
        ·rw [if_pos c9] at H
         have c9b0:decide (0 < qa)=true:=decide_eq_true c9
         clear c9
         obtain⟨qk,qt⟩:∃ j_:Int,(wrap64 (qa - 1))=j_:=⟨_,rfl⟩
         replace H:(if 0≤(qk) then (if (qk) < (l0.length:Int) then (if ((rd_T40 l0 qa).f0) < ((rd_T40 l0 (qk)).f1) then (some false) else (impl_TitlesOk.l0 k1 l0 l0 (l0.length:Int) (wrap64 (qa+1)))) else (none)) else (none))=some r:=by first|(rw [qt] at H;exact H)|(simp only [qt] at H ⊢;exact H)
         (try rw [qt] at A5)
         (try rw [qt] at A7)
         have hji10w:(IntKind.i64.wrap (qa - 1))=qk:=(i64_w _).trans qt
         by_cases c11:0≤(qk)
         ·rw [if_pos c11] at H
          have c11b0:decide (0≤(qk))=true:=decide_eq_true c11
          clear c11
          by_cases c12:(qk) < (l0.length:Int)
          ·rw [if_pos c12] at H
           have c12b0:decide ((qk) < (l0.length:Int))=true:=decide_eq_true c12
           clear c12
           by_cases c13:((rd_T40 l0 qa).f0) < ((rd_T40 l0 (qk)).f1)
           ·rw [if_pos c13] at H
            have c13b0:decide (((rd_T40 l0 qa).f0) < ((rd_T40 l0 (qk)).f1))=true:=decide_eq_true c13
            clear c13
            obtain rfl:=Option.some.inj H
            have qr:0≤(qa:Int):=of_decide_eq_true (by first|(with_reducible assumption)|assumption)
            have qs:qa < (l0.length:Int):=of_decide_eq_true (by first|(with_reducible assumption)|assumption)
            obtain⟨qq,e150,qd,qe,qf⟩:=at_T40 HR0.out qa qr qs
            cases e150
            replace qd:=(HB.out.cell (World.block_lt_of_cell? w _ qd)).trans qd
            replace qe:=(HB.out.cell (World.block_lt_of_cell? w _ qe)).trans qe
            replace qf:=(HB.out.cell (World.block_lt_of_cell? w _ qf)).trans qf
            replace qr:=eq_true qr
            replace qs:=eq_true qs
            try go_wp2_with (first|((with_reducible refine gate_dst (N:=4) rfl ?_);refine box_event ?hg (N:=4) ?hd (cs:=#[.int .i64 0,.int .i64 0,.string (⟨#[]⟩:ByteArray)]) (t:=40) ?hr ?_;(case hd=>rfl);(case hg=>rfl);(case hr=>first|(go_simp;done)|(go_simp;rfl));intro qc hg w14 hbox hb;have ql:=Fa (below_step (by repeat(first|(with_reducible first|exact HB.out|apply Fg|apply Fc|apply Fe)|exact HB.out)) hb);have qm:=Fa (hbox);have n2_:=Fa ((by rw [hg];exact(below_size (by repeat(first|(with_reducible first|exact HB.out|apply Fg|apply Fc|apply Fe)|exact HB.out))):w.heap.size≤qc));have n3_:=Fa ((by rw [hg];exact(below_size (by repeat(first|(with_reducible first|exact HB.out|apply Fg|apply Fc|apply Fe)|exact HB.out))):w.heap.size≤qc));clear HB;have HB:=ql;have qb:=qm;have GW151:=n2_;have qg:=n3_;clear ql qm n2_ n3_;clear hb hbox hg;have hcz15_0:w14.cell? ⟨qc,0,none⟩=some (.int .i64 0):=(Fd qb.out 0).trans rfl;have hcz15_1:w14.cell? ⟨qc,1,none⟩=some (.int .i64 0):=(Fd qb.out 1).trans rfl;have hcz15_2:w14.cell? ⟨qc,2,none⟩=some (.string (⟨#[]⟩:ByteArray)):=(Fd qb.out 2).trans rfl;have hfz15_0:=blk_frozen qb.out 0;have hfz15_1:=blk_frozen qb.out 1;have hfz15_2:=blk_frozen qb.out 2))
            have ql:Aside0 ((((w14.setCell ⟨qc,0,none⟩ (.int .i64 ((rd_T40 l0 qa).f0))).setCell ⟨qc,1,none⟩ (.int .i64 ((rd_T40 l0 qa).f1))).setCell ⟨qc,2,none⟩ (.string ((rd_T40 l0 qa).f2))).heap[qc]? = some (.cells #[.int .i64 ((rd_T40 l0 qa).f0),.int .i64 ((rd_T40 l0 qa).f1),.string ((rd_T40 l0 qa).f2)] 40 (0,0))):=⟨by(with_reducible repeat(first|refine Fi ?_ _|refine Ff ?_|refine Fh ?_ _));refine blk_put (cs:=#[.int .i64 ((rd_T40 l0 qa).f0),.int .i64 ((rd_T40 l0 qa).f1),.string (⟨#[]⟩:ByteArray)]) ?_ 2 _ rfl;(with_reducible repeat(first|refine Fi ?_ _|refine Ff ?_|refine Fh ?_ _));refine blk_put (cs:=#[.int .i64 ((rd_T40 l0 qa).f0),.int .i64 0,.string (⟨#[]⟩:ByteArray)]) ?_ 1 _ rfl;(with_reducible repeat(first|refine Fi ?_ _|refine Ff ?_|refine Fh ?_ _));refine blk_put (cs:=#[.int .i64 0,.int .i64 0,.string (⟨#[]⟩:ByteArray)]) ?_ 0 _ rfl;(with_reducible repeat(first|refine Fi ?_ _|refine Ff ?_|refine Fh ?_ _));exact qb.out⟩
            have qm:Aside0 (Below w.heap.size w (((w14.setCell ⟨qc,0,none⟩ (.int .i64 ((rd_T40 l0 qa).f0))).setCell ⟨qc,1,none⟩ (.int .i64 ((rd_T40 l0 qa).f1))).setCell ⟨qc,2,none⟩ (.string ((rd_T40 l0 qa).f2)))):=⟨by repeat(first|(with_reducible first|exact HB.out|apply Fg|apply Fc|apply Fe|refine below_set ?_ qg.out)|exact HB.out)⟩
            (try clear qb)
            (try clear HB)
            generalize (((w14.setCell ⟨qc,0,none⟩ (.int .i64 ((rd_T40 l0 qa).f0))).setCell ⟨qc,1,none⟩ (.int .i64 ((rd_T40 l0 qa).f1))).setCell ⟨qc,2,none⟩ (.string ((rd_T40 l0 qa).f2)))=w16 at ql qm ⊢
            have qb:=ql
            have HB:=qm
            clear ql qm
            have ql:=Fa (Ff qb.out)
            have qm:=Fa (Fe HB.out)
            clear qb
            clear HB
            have qb:=ql
            have HB:=qm
            clear ql qm
            have p154:0≤((qk):Int):=of_decide_eq_true (by first|(with_reducible assumption)|assumption)
            have q154:(qk) < (l0.length:Int):=of_decide_eq_true (by first|(with_reducible assumption)|assumption)
            obtain⟨ad154,e154,qn,qo,qp⟩:=at_T40 HR0.out (qk) p154 q154
            have qj:=qp
            have qi:=qo
            have qh:=qn
            obtain rfl:qq=ad154:=(by injection e154)
            replace qn:=(HB.out.cell (World.block_lt_of_cell? w _ qn)).trans qn
            replace qo:=(HB.out.cell (World.block_lt_of_cell? w _ qo)).trans qo
            replace qp:=(HB.out.cell (World.block_lt_of_cell? w _ qp)).trans qp
            replace p154:=eq_true p154
            replace q154:=eq_true q154
            refine start_ (n:=24) (S:=fun w'=>w'.cell? ⟨qc,0,none⟩=some (.int .i64 ((rd_T40 l0 qa).f0))∧w'.cell? ⟨qc,1,none⟩=some (.int .i64 ((rd_T40 l0 qa).f1))∧w'.cell? ⟨qc,2,none⟩=some (.string ((rd_T40 l0 qa).f2))∧w'.cell? (qq.add (((qk)).toNat*3))=some (.int .i64 ((rd_T40 l0 (qk)).f0))∧w'.cell? ⟨(qq.add (((qk)).toNat*3)).block,(qq.add (((qk)).toNat*3)).off+1,none⟩=some (.int .i64 ((rd_T40 l0 (qk)).f1))∧w'.cell? ⟨(qq.add (((qk)).toNat*3)).block,(qq.add (((qk)).toNat*3)).off+2,none⟩=some (.string ((rd_T40 l0 (qk)).f2))) (ds:=[]) #[false,false,false,false,false,false,false,false,false,false,false,false,false,false,false,false,false,false,false,false,false,false,false,false] (by kernel_rfl) rfl rfl ⟨(Fd qb.out 0).trans rfl,(Fd qb.out 1).trans rfl,(Fd qb.out 2).trans rfl,((HB.out.cell (World.block_lt_of_cell? w _ qh)).trans qh),((HB.out.cell (World.block_lt_of_cell? w _ qi)).trans qi),((HB.out.cell (World.block_lt_of_cell? w _ qj)).trans qj)⟩ (fun hHeld=>?_);refine with_tabW impl_TitlesOk.tab4 impl_TitlesOk.bits4 (fun HT_ HW_=>?_)
            generalize w16.drew=w17 at qb HB qn qo qp hHeld ⊢
            refine take_ (i:=0) (N:=some 12) (v:=?_) (a':=?_) #[true,false,false,false,false,false,false,false,false,false,false,false,false,false,false,false,false,false,false,false,false,false,false,false] rfl rfl (take_ofW HT_.out HW_.out (by kernel_rfl)) (fun _ _ _ h=>h) (Or.inl ⟨by rfl,?_⟩) hHeld ?_ ?_
            rotate_left
            ·rintro w' ⟨s0,s1,s2,s3,s4,s5⟩
             go_simp
             with_reducible rfl
            rotate_left
            ·simp only [Act.put,List.setIfInBounds_toArray,List.set_cons_zero,List.set_cons_succ,i64_w,i32_w]
             rfl
            refine one_ (i:=1) (N:=some 13) #[true,true,false,false,false,false,false,false,false,false,false,false,false,false,false,false,false,false,false,false,false,false,false,false] rfl rfl (one_of HT_.out (by kernel_rfl)) (by decide) (fun K hK=>?_)
            refine goes_ Tryd.func39 (by kernel_rfl) rfl #[.agg #[.int .i64 ((rd_T40 l0 qa).f0),.int .i64 ((rd_T40 l0 qa).f1),.string ((rd_T40 l0 qa).f2)]] (by rfl) rfl rfl (by(try simp only [List.map_toArray,List.map_cons,List.map_nil]);first|done|rfl|(simp only [List.length_drop,List.length_take];rfl)) ?_
            with_reducible refine(impl_Title_timesOk.calls ((rd_T40 l0 qa).f0) ((rd_T40 l0 qa).f1) ((rd_T40 l0 qa).f2) true _ A5.out).mono ?_
            rintro e w18 ⟨rfl,hb⟩
            refine⟨_,rfl,?_⟩
            have ql:=Fa (blk_below (g:=qc) (o:=.cells #[.int .i64 ((rd_T40 l0 qa).f0),.int .i64 ((rd_T40 l0 qa).f1),.string ((rd_T40 l0 qa).f2)] 40 (0,0)) (by(with_reducible repeat(first|refine Fi ?_ _|refine Ff ?_|refine Fh ?_ _));exact qb.out) hb)
            have qm:=Fa (below_step (by repeat(first|(with_reducible first|exact HB.out|apply Fg|apply Fc|apply Fe|refine below_set ?_ qg.out)|exact HB.out)) hb)
            clear qb
            clear HB
            have qb:=ql
            have HB:=qm
            clear ql qm
            (try clear hb)
            (try clear hb2)
            (try clear hk)
            (try clear hi)
            refine hK.out _ _ ⟨(Fd qb.out 0).trans rfl,(Fd qb.out 1).trans rfl,(Fd qb.out 2).trans rfl,((HB.out.cell (World.block_lt_of_cell? w _ qh)).trans qh),((HB.out.cell (World.block_lt_of_cell? w _ qi)).trans qi),((HB.out.cell (World.block_lt_of_cell? w _ qj)).trans qj)⟩ (fun hHeld=>?_)
            clear hK K
            refine norm_ (a':=?_) ?_ ?_
            rotate_left
            ·show Act.put _ (some 13) _=_
             simp only [Act.put,List.setIfInBounds_toArray,List.set_cons_zero,List.set_cons_succ,i64_w,i32_w]
             rfl
            refine pure_ (i:=2) (N:=some 14) (v:=?_) (a':=?_) #[true,true,true,false,false,false,false,false,false,false,false,false,false,false,false,false,false,false,false,false,false,false,false,false] rfl rfl (Fb HT_.out (by kernel_rfl)) (fun _ _ _ h=>h) (Or.inl ⟨by rfl,?_⟩) ?_ ?_
            rotate_left
            ·intro w'
             go_simp
             with_reducible rfl
            rotate_left
            ·simp only [Act.put,List.setIfInBounds_toArray,List.set_cons_zero,List.set_cons_succ,i64_w,i32_w]
             rfl
            refine pure_ (i:=3) (N:=some 15) (v:=?_) (a':=?_) #[true,true,true,true,false,false,false,false,false,false,false,false,false,false,false,false,false,false,false,false,false,false,false,false] rfl rfl (Fb HT_.out (by kernel_rfl)) (fun _ _ _ h=>h) (Or.inl ⟨by rfl,?_⟩) ?_ ?_
            rotate_left
            ·intro w'
             go_simp
             with_reducible rfl
            rotate_left
            ·simp only [Act.put,List.setIfInBounds_toArray,List.set_cons_zero,List.set_cons_succ,i64_w,i32_w]
             rfl
            refine pure_ (i:=4) (N:=some 16) (v:=?_) (a':=?_) #[true,true,true,true,true,false,false,false,false,false,false,false,false,false,false,false,false,false,false,false,false,false,false,false] rfl rfl (Fb HT_.out (by kernel_rfl)) (fun _ _ _ h=>h) (Or.inl ⟨by rfl,?_⟩) ?_ ?_
            rotate_left
            ·intro w'
             go_simp
             with_reducible rfl
            rotate_left
            ·simp only [Act.put,List.setIfInBounds_toArray,List.set_cons_zero,List.set_cons_succ,i64_w,i32_w]
             rfl
            refine take_ (i:=5) (N:=some 17) (v:=?_) (a':=?_) #[true,true,true,true,true,true,false,false,false,false,false,false,false,false,false,false,false,false,false,false,false,false,false,false] rfl rfl (take_ofW HT_.out HW_.out (by kernel_rfl)) (fun _ _ _ h=>h) (Or.inl ⟨by rfl,?_⟩) hHeld ?_ ?_
            rotate_left
            ·rintro w' ⟨s0,s1,s2,s3,s4,s5⟩
             go_simp
             with_reducible rfl
            rotate_left
            ·simp only [Act.put,List.setIfInBounds_toArray,List.set_cons_zero,List.set_cons_succ,i64_w,i32_w]
             rfl
            refine one_ (i:=6) (N:=some 18) #[true,true,true,true,true,true,true,false,false,false,false,false,false,false,false,false,false,false,false,false,false,false,false,false] rfl rfl (one_of HT_.out (by kernel_rfl)) (by decide) (fun K hK=>?_)
            refine goes_ Tryd.func40 (by kernel_rfl) rfl #[.string ((rd_T40 l0 qa).f2)] (by rfl) rfl rfl (by(try simp only [List.map_toArray,List.map_cons,List.map_nil]);first|done|rfl|(simp only [List.length_drop,List.length_take];rfl)) ?_
            with_reducible refine(impl_textOk.calls k1 ((rd_T40 l0 qa).f2) true _ (by first|exact HGL.out|((repeat(with_reducible refine Glob.drewN ?_));exact HGL.out)|exact Glob.below HGL.out (by repeat(first|(with_reducible first|exact HB.out|apply Fg|apply Fc|apply Fe|refine below_set ?_ qg.out)|exact HB.out))) A7.out).mono ?_
            rintro e w' ⟨rfl,⟨nd,rfl⟩⟩
            refine⟨_,rfl,?_⟩
            refine hK.out _ _ ⟨(Fd qb.out 0).trans rfl,(Fd qb.out 1).trans rfl,(Fd qb.out 2).trans rfl,((HB.out.cell (World.block_lt_of_cell? w _ qh)).trans qh),((HB.out.cell (World.block_lt_of_cell? w _ qi)).trans qi),((HB.out.cell (World.block_lt_of_cell? w _ qj)).trans qj)⟩ (fun hHeld=>?_)
            clear hK K
            refine norm_ (a':=?_) ?_ ?_
            rotate_left
            ·show Act.put _ (some 18) _=_
             simp only [Act.put,List.setIfInBounds_toArray,List.set_cons_zero,List.set_cons_succ,i64_w,i32_w]
             rfl
            refine pure_ (i:=7) (N:=some 19) (v:=?_) (a':=?_) #[true,true,true,true,true,true,true,true,false,false,false,false,false,false,false,false,false,false,false,false,false,false,false,false] rfl rfl (Fb HT_.out (by kernel_rfl)) (fun _ _ _ h=>h) (Or.inl ⟨by rfl,?_⟩) ?_ ?_
            rotate_left
            ·intro w'
             go_simp
             with_reducible rfl
            rotate_left
            ·simp only [Act.put,List.setIfInBounds_toArray,List.set_cons_zero,List.set_cons_succ,i64_w,i32_w]
             rfl
            refine pure_ (i:=8) (N:=some 20) (v:=?_) (a':=?_) #[true,true,true,true,true,true,true,true,true,false,false,false,false,false,false,false,false,false,false,false,false,false,false,false] rfl rfl (Fb HT_.out (by kernel_rfl)) (fun _ _ _ h=>h) (Or.inl ⟨by rfl,?_⟩) ?_ ?_
            rotate_left
            ·intro w'
             go_simp
             with_reducible rfl
            rotate_left
            ·simp only [Act.put,List.setIfInBounds_toArray,List.set_cons_zero,List.set_cons_succ,i64_w,i32_w]
             rfl
            refine pure_ (i:=9) (N:=some 21) (v:=?_) (a':=?_) #[true,true,true,true,true,true,true,true,true,true,false,false,false,false,false,false,false,false,false,false,false,false,false,false] rfl rfl (Fb HT_.out (by kernel_rfl)) (fun _ _ _ h=>h) (Or.inl ⟨by rfl,?_⟩) ?_ ?_
            rotate_left
            ·intro w'
             go_simp
             with_reducible rfl
            rotate_left
            ·simp only [Act.put,List.setIfInBounds_toArray,List.set_cons_zero,List.set_cons_succ,i64_w,i32_w]
             rfl
            refine pure_ (i:=10) (N:=some 22) (v:=?_) (a':=?_) #[true,true,true,true,true,true,true,true,true,true,true,false,false,false,false,false,false,false,false,false,false,false,false,false] rfl rfl (Fb HT_.out (by kernel_rfl)) (fun _ _ _ h=>h) (Or.inl ⟨by rfl,?_⟩) ?_ ?_
            rotate_left
            ·intro w'
             go_simp
             with_reducible rfl
            rotate_left
            ·simp only [Act.put,List.setIfInBounds_toArray,List.set_cons_zero,List.set_cons_succ,i64_w,i32_w]
             rfl
            refine pure_ (i:=11) (N:=some 23) (v:=?_) (a':=?_) #[true,true,true,true,true,true,true,true,true,true,true,true,false,false,false,false,false,false,false,false,false,false,false,false] rfl rfl (Fb HT_.out (by kernel_rfl)) (fun _ _ _ h=>h) (Or.inl ⟨by rfl,?_⟩) ?_ ?_
            rotate_left
            ·intro w'
             go_simp
             with_reducible rfl
            rotate_left
            ·simp only [Act.put,List.setIfInBounds_toArray,List.set_cons_zero,List.set_cons_succ,i64_w,i32_w]
             rfl
            refine pure_ (i:=12) (N:=some 24) (v:=?_) (a':=?_) #[true,true,true,true,true,true,true,true,true,true,true,true,true,false,false,false,false,false,false,false,false,false,false,false] rfl rfl (Fb HT_.out (by kernel_rfl)) (fun _ _ _ h=>h) (Or.inl ⟨by rfl,?_⟩) ?_ ?_
            rotate_left
            ·intro w'
             go_simp
             with_reducible rfl
            rotate_left
            ·simp only [Act.put,List.setIfInBounds_toArray,List.set_cons_zero,List.set_cons_succ,i64_w,i32_w]
             rfl
            refine pure_ (i:=13) (N:=some 25) (v:=?_) (a':=?_) #[true,true,true,true,true,true,true,true,true,true,true,true,true,true,false,false,false,false,false,false,false,false,false,false] rfl rfl (Fb HT_.out (by kernel_rfl)) (fun _ _ _ h=>h) (Or.inl ⟨by rfl,?_⟩) ?_ ?_
            rotate_left
            ·intro w'
             go_simp
             with_reducible rfl
            rotate_left
            ·simp only [Act.put,List.setIfInBounds_toArray,List.set_cons_zero,List.set_cons_succ,i64_w,i32_w]
             rfl
            refine pure_ (i:=15) (N:=some 27) (v:=?_) (a':=?_) #[true,true,true,true,true,true,true,true,true,true,true,true,true,true,false,true,false,false,false,false,false,false,false,false] rfl rfl (Fb HT_.out (by kernel_rfl)) (fun _ _ _ h=>h) (Or.inl ⟨by rfl,?_⟩) ?_ ?_
            rotate_left
            ·intro w'
             go_simp
             with_reducible rfl
            rotate_left
            ·simp only [Act.put,List.setIfInBounds_toArray,List.set_cons_zero,List.set_cons_succ,i64_w,i32_w]
             rfl
            refine pure_ (i:=16) (N:=some 28) (v:=?_) (a':=?_) #[true,true,true,true,true,true,true,true,true,true,true,true,true,true,false,true,true,false,false,false,false,false,false,false] rfl rfl (Fb HT_.out (by kernel_rfl)) (fun _ _ _ h=>h) (Or.inl ⟨by rfl,?_⟩) ?_ ?_
            rotate_left
            ·intro w'
             go_simp
             with_reducible rfl
            rotate_left
            ·simp only [Act.put,List.setIfInBounds_toArray,List.set_cons_zero,List.set_cons_succ,i64_w,i32_w]
             rfl
            refine pure_ (i:=17) (N:=some 29) (v:=?_) (a':=?_) #[true,true,true,true,true,true,true,true,true,true,true,true,true,true,false,true,true,true,false,false,false,false,false,false] rfl rfl (Fb HT_.out (by kernel_rfl)) (fun _ _ _ h=>h) (Or.inl ⟨by rfl,?_⟩) ?_ ?_
            rotate_left
            ·intro w'
             go_simp
             with_reducible rfl
            rotate_left
            ·simp only [Act.put,List.setIfInBounds_toArray,List.set_cons_zero,List.set_cons_succ,i64_w,i32_w]
             rfl
            refine pure_ (i:=18) (N:=some 30) (v:=?_) (a':=?_) #[true,true,true,true,true,true,true,true,true,true,true,true,true,true,false,true,true,true,true,false,false,false,false,false] rfl rfl (Fb HT_.out (by kernel_rfl)) (fun _ _ _ h=>h) (Or.inl ⟨by rfl,?_⟩) ?_ ?_
            rotate_left
            ·intro w'
             go_simp
             with_reducible rfl
            rotate_left
            ·simp only [Act.put,List.setIfInBounds_toArray,List.set_cons_zero,List.set_cons_succ,i64_w,i32_w]
             rfl
            refine pure_ (i:=19) (N:=some 31) (v:=?_) (a':=?_) #[true,true,true,true,true,true,true,true,true,true,true,true,true,true,false,true,true,true,true,true,false,false,false,false] rfl rfl (Fb HT_.out (by kernel_rfl)) (fun _ _ _ h=>h) (Or.inl ⟨by rfl,?_⟩) ?_ ?_
            rotate_left
            ·intro w'
             go_simp
             with_reducible rfl
            rotate_left
            ·simp only [Act.put,List.setIfInBounds_toArray,List.set_cons_zero,List.set_cons_succ,i64_w,i32_w]
             rfl
            refine take_ (i:=14) (N:=some 26) (v:=?_) (a':=?_) #[true,true,true,true,true,true,true,true,true,true,true,true,true,true,true,true,true,true,true,true,false,false,false,false] rfl rfl (take_ofW HT_.out HW_.out (by kernel_rfl)) (fun _ _ _ h=>h) (Or.inl ⟨by rfl,?_⟩) hHeld ?_ ?_
            rotate_left
            ·rintro w' ⟨s0,s1,s2,s3,s4,s5⟩
             go_simp
             with_reducible rfl
            rotate_left
            ·simp only [Act.put,List.setIfInBounds_toArray,List.set_cons_zero,List.set_cons_succ,i64_w,i32_w]
             rfl
            refine take_ (i:=20) (N:=some 32) (v:=?_) (a':=?_) #[true,true,true,true,true,true,true,true,true,true,true,true,true,true,true,true,true,true,true,true,true,false,false,false] rfl rfl (take_ofW HT_.out HW_.out (by kernel_rfl)) (fun _ _ _ h=>h) (Or.inl ⟨by rfl,?_⟩) hHeld ?_ ?_
            rotate_left
            ·rintro w' ⟨s0,s1,s2,s3,s4,s5⟩
             go_simp
             with_reducible rfl
            rotate_left
            ·simp only [Act.put,List.setIfInBounds_toArray,List.set_cons_zero,List.set_cons_succ,i64_w,i32_w]
             rfl
            refine pure_ (i:=21) (N:=some 33) (v:=?_) (a':=?_) #[true,true,true,true,true,true,true,true,true,true,true,true,true,true,true,true,true,true,true,true,true,true,false,false] rfl rfl (Fb HT_.out (by kernel_rfl)) (fun _ _ _ h=>h) (Or.inl ⟨by rfl,?_⟩) ?_ ?_
            rotate_left
            ·intro w'
             go_simp
             with_reducible rfl
            rotate_left
            ·simp only [Act.put,List.setIfInBounds_toArray,List.set_cons_zero,List.set_cons_succ,i64_w,i32_w]
             rfl
            refine pure_ (i:=22) (N:=some 34) (v:=?_) (a':=?_) #[true,true,true,true,true,true,true,true,true,true,true,true,true,true,true,true,true,true,true,true,true,true,true,false] rfl rfl (Fb HT_.out (by kernel_rfl)) (fun _ _ _ h=>h) (Or.inl ⟨by rfl,?_⟩) ?_ ?_
            rotate_left
            ·intro w'
             go_simp
             with_reducible rfl
            rotate_left
            ·simp only [Act.put,List.setIfInBounds_toArray,List.set_cons_zero,List.set_cons_succ,i64_w,i32_w]
             rfl
            refine pure_ (i:=23) (N:=some 35) (v:=?_) (a':=?_) #[true,true,true,true,true,true,true,true,true,true,true,true,true,true,true,true,true,true,true,true,true,true,true,true] rfl rfl (Fb HT_.out (by kernel_rfl)) (fun _ _ _ h=>h) (Or.inl ⟨by rfl,?_⟩) ?_ ?_
            rotate_left
            ·intro w'
             go_simp
             with_reducible rfl
            rotate_left
            ·simp only [Act.put,List.setIfInBounds_toArray,List.set_cons_zero,List.set_cons_succ,i64_w,i32_w]
             rfl
            refine done_ (done_of HT_.out (by kernel_rfl)) ?_
            try go_wp2
            go_ret
            exact⟨by first|rfl|(simp [errW_none,errW_some] <;> rfl)|(simp only [← qt];first|rfl|(simp [errW_none,errW_some] <;> rfl))|(simp [*,errW_none,errW_some] <;> rfl),by repeat(first|(with_reducible first|exact HB.out|apply Fg|apply Fc|apply Fe|refine below_set ?_ qg.out)|exact HB.out)⟩
           ·rw [if_neg c13] at H
            have c13b0:decide (((rd_T40 l0 qa).f0) < ((rd_T40 l0 (qk)).f1))=false:=decide_eq_false c13
            clear c13
            have H':=Fa H
            clear H
            have qr:0≤(qa:Int):=of_decide_eq_true (by first|(with_reducible assumption)|assumption)
            have qs:qa < (l0.length:Int):=of_decide_eq_true (by first|(with_reducible assumption)|assumption)
            obtain⟨qq,e150,qd,qe,qf⟩:=at_T40 HR0.out qa qr qs
            cases e150
            replace qd:=(HB.out.cell (World.block_lt_of_cell? w _ qd)).trans qd
            replace qe:=(HB.out.cell (World.block_lt_of_cell? w _ qe)).trans qe
            replace qf:=(HB.out.cell (World.block_lt_of_cell? w _ qf)).trans qf
            replace qr:=eq_true qr
            replace qs:=eq_true qs
            try go_wp2_with (first|((with_reducible refine gate_dst (N:=4) rfl ?_);refine box_event ?hg (N:=4) ?hd (cs:=#[.int .i64 0,.int .i64 0,.string (⟨#[]⟩:ByteArray)]) (t:=40) ?hr ?_;(case hd=>rfl);(case hg=>rfl);(case hr=>first|(go_simp;done)|(go_simp;rfl));intro qc hg w19 hbox hb;have ql:=Fa (below_step (by repeat(first|(with_reducible first|exact HB.out|apply Fg|apply Fc|apply Fe)|exact HB.out)) hb);have qm:=Fa (hbox);have n2_:=Fa ((by rw [hg];exact(below_size (by repeat(first|(with_reducible first|exact HB.out|apply Fg|apply Fc|apply Fe)|exact HB.out))):w.heap.size≤qc));have n3_:=Fa ((by rw [hg];exact(below_size (by repeat(first|(with_reducible first|exact HB.out|apply Fg|apply Fc|apply Fe)|exact HB.out))):w.heap.size≤qc));clear HB;have HB:=ql;have qb:=qm;have GW151:=n2_;have qg:=n3_;clear ql qm n2_ n3_;clear hb hbox hg;have hcz20_0:w19.cell? ⟨qc,0,none⟩=some (.int .i64 0):=(Fd qb.out 0).trans rfl;have hcz20_1:w19.cell? ⟨qc,1,none⟩=some (.int .i64 0):=(Fd qb.out 1).trans rfl;have hcz20_2:w19.cell? ⟨qc,2,none⟩=some (.string (⟨#[]⟩:ByteArray)):=(Fd qb.out 2).trans rfl;have hfz20_0:=blk_frozen qb.out 0;have hfz20_1:=blk_frozen qb.out 1;have hfz20_2:=blk_frozen qb.out 2))
            have ql:Aside0 ((((w19.setCell ⟨qc,0,none⟩ (.int .i64 ((rd_T40 l0 qa).f0))).setCell ⟨qc,1,none⟩ (.int .i64 ((rd_T40 l0 qa).f1))).setCell ⟨qc,2,none⟩ (.string ((rd_T40 l0 qa).f2))).heap[qc]? = some (.cells #[.int .i64 ((rd_T40 l0 qa).f0),.int .i64 ((rd_T40 l0 qa).f1),.string ((rd_T40 l0 qa).f2)] 40 (0,0))):=⟨by(with_reducible repeat(first|refine Fi ?_ _|refine Ff ?_|refine Fh ?_ _));refine blk_put (cs:=#[.int .i64 ((rd_T40 l0 qa).f0),.int .i64 ((rd_T40 l0 qa).f1),.string (⟨#[]⟩:ByteArray)]) ?_ 2 _ rfl;(with_reducible repeat(first|refine Fi ?_ _|refine Ff ?_|refine Fh ?_ _));refine blk_put (cs:=#[.int .i64 ((rd_T40 l0 qa).f0),.int .i64 0,.string (⟨#[]⟩:ByteArray)]) ?_ 1 _ rfl;(with_reducible repeat(first|refine Fi ?_ _|refine Ff ?_|refine Fh ?_ _));refine blk_put (cs:=#[.int .i64 0,.int .i64 0,.string (⟨#[]⟩:ByteArray)]) ?_ 0 _ rfl;(with_reducible repeat(first|refine Fi ?_ _|refine Ff ?_|refine Fh ?_ _));exact qb.out⟩
            have qm:Aside0 (Below w.heap.size w (((w19.setCell ⟨qc,0,none⟩ (.int .i64 ((rd_T40 l0 qa).f0))).setCell ⟨qc,1,none⟩ (.int .i64 ((rd_T40 l0 qa).f1))).setCell ⟨qc,2,none⟩ (.string ((rd_T40 l0 qa).f2)))):=⟨by repeat(first|(with_reducible first|exact HB.out|apply Fg|apply Fc|apply Fe|refine below_set ?_ qg.out)|exact HB.out)⟩
            (try clear qb)
            (try clear HB)
            generalize (((w19.setCell ⟨qc,0,none⟩ (.int .i64 ((rd_T40 l0 qa).f0))).setCell ⟨qc,1,none⟩ (.int .i64 ((rd_T40 l0 qa).f1))).setCell ⟨qc,2,none⟩ (.string ((rd_T40 l0 qa).f2)))=w21 at ql qm ⊢
            have qb:=ql
            have HB:=qm
            clear ql qm
            have ql:=Fa (Ff qb.out)
            have qm:=Fa (Fe HB.out)
            clear qb
            clear HB
            have qb:=ql
            have HB:=qm
            clear ql qm
            have p154:0≤((qk):Int):=of_decide_eq_true (by first|(with_reducible assumption)|assumption)
            have q154:(qk) < (l0.length:Int):=of_decide_eq_true (by first|(with_reducible assumption)|assumption)
            obtain⟨ad154,e154,qn,qo,qp⟩:=at_T40 HR0.out (qk) p154 q154
            have qj:=qp
            have qi:=qo
            have qh:=qn
            obtain rfl:qq=ad154:=(by injection e154)
            replace qn:=(HB.out.cell (World.block_lt_of_cell? w _ qn)).trans qn
            replace qo:=(HB.out.cell (World.block_lt_of_cell? w _ qo)).trans qo
            replace qp:=(HB.out.cell (World.block_lt_of_cell? w _ qp)).trans qp
            replace p154:=eq_true p154
            replace q154:=eq_true q154
            refine start_ (n:=24) (S:=fun w'=>w'.cell? ⟨qc,0,none⟩=some (.int .i64 ((rd_T40 l0 qa).f0))∧w'.cell? ⟨qc,1,none⟩=some (.int .i64 ((rd_T40 l0 qa).f1))∧w'.cell? ⟨qc,2,none⟩=some (.string ((rd_T40 l0 qa).f2))∧w'.cell? (qq.add (((qk)).toNat*3))=some (.int .i64 ((rd_T40 l0 (qk)).f0))∧w'.cell? ⟨(qq.add (((qk)).toNat*3)).block,(qq.add (((qk)).toNat*3)).off+1,none⟩=some (.int .i64 ((rd_T40 l0 (qk)).f1))∧w'.cell? ⟨(qq.add (((qk)).toNat*3)).block,(qq.add (((qk)).toNat*3)).off+2,none⟩=some (.string ((rd_T40 l0 (qk)).f2))) (ds:=[]) #[false,false,false,false,false,false,false,false,false,false,false,false,false,false,false,false,false,false,false,false,false,false,false,false] (by kernel_rfl) rfl rfl ⟨(Fd qb.out 0).trans rfl,(Fd qb.out 1).trans rfl,(Fd qb.out 2).trans rfl,((HB.out.cell (World.block_lt_of_cell? w _ qh)).trans qh),((HB.out.cell (World.block_lt_of_cell? w _ qi)).trans qi),((HB.out.cell (World.block_lt_of_cell? w _ qj)).trans qj)⟩ (fun hHeld=>?_);refine with_tabW impl_TitlesOk.tab4 impl_TitlesOk.bits4 (fun HT_ HW_=>?_)
            generalize w21.drew=w22 at qb HB qn qo qp hHeld ⊢
            refine take_ (i:=0) (N:=some 12) (v:=?_) (a':=?_) #[true,false,false,false,false,false,false,false,false,false,false,false,false,false,false,false,false,false,false,false,false,false,false,false] rfl rfl (take_ofW HT_.out HW_.out (by kernel_rfl)) (fun _ _ _ h=>h) (Or.inl ⟨by rfl,?_⟩) hHeld ?_ ?_
            rotate_left
            ·rintro w' ⟨s0,s1,s2,s3,s4,s5⟩
             go_simp
             with_reducible rfl
            rotate_left
            ·simp only [Act.put,List.setIfInBounds_toArray,List.set_cons_zero,List.set_cons_succ,i64_w,i32_w]
             rfl
            refine one_ (i:=1) (N:=some 13) #[true,true,false,false,false,false,false,false,false,false,false,false,false,false,false,false,false,false,false,false,false,false,false,false] rfl rfl (one_of HT_.out (by kernel_rfl)) (by decide) (fun K hK=>?_)
            refine goes_ Tryd.func39 (by kernel_rfl) rfl #[.agg #[.int .i64 ((rd_T40 l0 qa).f0),.int .i64 ((rd_T40 l0 qa).f1),.string ((rd_T40 l0 qa).f2)]] (by rfl) rfl rfl (by(try simp only [List.map_toArray,List.map_cons,List.map_nil]);first|done|rfl|(simp only [List.length_drop,List.length_take];rfl)) ?_
            with_reducible refine(impl_Title_timesOk.calls ((rd_T40 l0 qa).f0) ((rd_T40 l0 qa).f1) ((rd_T40 l0 qa).f2) true _ A5.out).mono ?_
            rintro e w23 ⟨rfl,hb⟩
            refine⟨_,rfl,?_⟩
            have ql:=Fa (blk_below (g:=qc) (o:=.cells #[.int .i64 ((rd_T40 l0 qa).f0),.int .i64 ((rd_T40 l0 qa).f1),.string ((rd_T40 l0 qa).f2)] 40 (0,0)) (by(with_reducible repeat(first|refine Fi ?_ _|refine Ff ?_|refine Fh ?_ _));exact qb.out) hb)
            have qm:=Fa (below_step (by repeat(first|(with_reducible first|exact HB.out|apply Fg|apply Fc|apply Fe|refine below_set ?_ qg.out)|exact HB.out)) hb)
            clear qb
            clear HB
            have qb:=ql
            have HB:=qm
            clear ql qm
            (try clear hb)
            (try clear hb2)
            (try clear hk)
            (try clear hi)
            refine hK.out _ _ ⟨(Fd qb.out 0).trans rfl,(Fd qb.out 1).trans rfl,(Fd qb.out 2).trans rfl,((HB.out.cell (World.block_lt_of_cell? w _ qh)).trans qh),((HB.out.cell (World.block_lt_of_cell? w _ qi)).trans qi),((HB.out.cell (World.block_lt_of_cell? w _ qj)).trans qj)⟩ (fun hHeld=>?_)
            clear hK K
            refine norm_ (a':=?_) ?_ ?_
            rotate_left
            ·show Act.put _ (some 13) _=_
             simp only [Act.put,List.setIfInBounds_toArray,List.set_cons_zero,List.set_cons_succ,i64_w,i32_w]
             rfl
            refine pure_ (i:=2) (N:=some 14) (v:=?_) (a':=?_) #[true,true,true,false,false,false,false,false,false,false,false,false,false,false,false,false,false,false,false,false,false,false,false,false] rfl rfl (Fb HT_.out (by kernel_rfl)) (fun _ _ _ h=>h) (Or.inl ⟨by rfl,?_⟩) ?_ ?_
            rotate_left
            ·intro w'
             go_simp
             with_reducible rfl
            rotate_left
            ·simp only [Act.put,List.setIfInBounds_toArray,List.set_cons_zero,List.set_cons_succ,i64_w,i32_w]
             rfl
            refine pure_ (i:=3) (N:=some 15) (v:=?_) (a':=?_) #[true,true,true,true,false,false,false,false,false,false,false,false,false,false,false,false,false,false,false,false,false,false,false,false] rfl rfl (Fb HT_.out (by kernel_rfl)) (fun _ _ _ h=>h) (Or.inl ⟨by rfl,?_⟩) ?_ ?_
            rotate_left
            ·intro w'
             go_simp
             with_reducible rfl
            rotate_left
            ·simp only [Act.put,List.setIfInBounds_toArray,List.set_cons_zero,List.set_cons_succ,i64_w,i32_w]
             rfl
            refine pure_ (i:=4) (N:=some 16) (v:=?_) (a':=?_) #[true,true,true,true,true,false,false,false,false,false,false,false,false,false,false,false,false,false,false,false,false,false,false,false] rfl rfl (Fb HT_.out (by kernel_rfl)) (fun _ _ _ h=>h) (Or.inl ⟨by rfl,?_⟩) ?_ ?_
            rotate_left
            ·intro w'
             go_simp
             with_reducible rfl
            rotate_left
            ·simp only [Act.put,List.setIfInBounds_toArray,List.set_cons_zero,List.set_cons_succ,i64_w,i32_w]
             rfl
            refine take_ (i:=5) (N:=some 17) (v:=?_) (a':=?_) #[true,true,true,true,true,true,false,false,false,false,false,false,false,false,false,false,false,false,false,false,false,false,false,false] rfl rfl (take_ofW HT_.out HW_.out (by kernel_rfl)) (fun _ _ _ h=>h) (Or.inl ⟨by rfl,?_⟩) hHeld ?_ ?_
            rotate_left
            ·rintro w' ⟨s0,s1,s2,s3,s4,s5⟩
             go_simp
             with_reducible rfl
            rotate_left
            ·simp only [Act.put,List.setIfInBounds_toArray,List.set_cons_zero,List.set_cons_succ,i64_w,i32_w]
             rfl
            refine one_ (i:=6) (N:=some 18) #[true,true,true,true,true,true,true,false,false,false,false,false,false,false,false,false,false,false,false,false,false,false,false,false] rfl rfl (one_of HT_.out (by kernel_rfl)) (by decide) (fun K hK=>?_)
            refine goes_ Tryd.func40 (by kernel_rfl) rfl #[.string ((rd_T40 l0 qa).f2)] (by rfl) rfl rfl (by(try simp only [List.map_toArray,List.map_cons,List.map_nil]);first|done|rfl|(simp only [List.length_drop,List.length_take];rfl)) ?_
            with_reducible refine(impl_textOk.calls k1 ((rd_T40 l0 qa).f2) true _ (by first|exact HGL.out|((repeat(with_reducible refine Glob.drewN ?_));exact HGL.out)|exact Glob.below HGL.out (by repeat(first|(with_reducible first|exact HB.out|apply Fg|apply Fc|apply Fe|refine below_set ?_ qg.out)|exact HB.out))) A7.out).mono ?_
            rintro e w' ⟨rfl,⟨nd,rfl⟩⟩
            refine⟨_,rfl,?_⟩
            refine hK.out _ _ ⟨(Fd qb.out 0).trans rfl,(Fd qb.out 1).trans rfl,(Fd qb.out 2).trans rfl,((HB.out.cell (World.block_lt_of_cell? w _ qh)).trans qh),((HB.out.cell (World.block_lt_of_cell? w _ qi)).trans qi),((HB.out.cell (World.block_lt_of_cell? w _ qj)).trans qj)⟩ (fun hHeld=>?_)
            clear hK K
            refine norm_ (a':=?_) ?_ ?_
            rotate_left
            ·show Act.put _ (some 18) _=_
             simp only [Act.put,List.setIfInBounds_toArray,List.set_cons_zero,List.set_cons_succ,i64_w,i32_w]
             rfl
            refine pure_ (i:=7) (N:=some 19) (v:=?_) (a':=?_) #[true,true,true,true,true,true,true,true,false,false,false,false,false,false,false,false,false,false,false,false,false,false,false,false] rfl rfl (Fb HT_.out (by kernel_rfl)) (fun _ _ _ h=>h) (Or.inl ⟨by rfl,?_⟩) ?_ ?_
            rotate_left
            ·intro w'
             go_simp
             with_reducible rfl
            rotate_left
            ·simp only [Act.put,List.setIfInBounds_toArray,List.set_cons_zero,List.set_cons_succ,i64_w,i32_w]
             rfl
            refine pure_ (i:=8) (N:=some 20) (v:=?_) (a':=?_) #[true,true,true,true,true,true,true,true,true,false,false,false,false,false,false,false,false,false,false,false,false,false,false,false] rfl rfl (Fb HT_.out (by kernel_rfl)) (fun _ _ _ h=>h) (Or.inl ⟨by rfl,?_⟩) ?_ ?_
            rotate_left
            ·intro w'
             go_simp
             with_reducible rfl
            rotate_left
            ·simp only [Act.put,List.setIfInBounds_toArray,List.set_cons_zero,List.set_cons_succ,i64_w,i32_w]
             rfl
            refine pure_ (i:=9) (N:=some 21) (v:=?_) (a':=?_) #[true,true,true,true,true,true,true,true,true,true,false,false,false,false,false,false,false,false,false,false,false,false,false,false] rfl rfl (Fb HT_.out (by kernel_rfl)) (fun _ _ _ h=>h) (Or.inl ⟨by rfl,?_⟩) ?_ ?_
            rotate_left
            ·intro w'
             go_simp
             with_reducible rfl
            rotate_left
            ·simp only [Act.put,List.setIfInBounds_toArray,List.set_cons_zero,List.set_cons_succ,i64_w,i32_w]
             rfl
            refine pure_ (i:=10) (N:=some 22) (v:=?_) (a':=?_) #[true,true,true,true,true,true,true,true,true,true,true,false,false,false,false,false,false,false,false,false,false,false,false,false] rfl rfl (Fb HT_.out (by kernel_rfl)) (fun _ _ _ h=>h) (Or.inl ⟨by rfl,?_⟩) ?_ ?_
            rotate_left
            ·intro w'
             go_simp
             with_reducible rfl
            rotate_left
            ·simp only [Act.put,List.setIfInBounds_toArray,List.set_cons_zero,List.set_cons_succ,i64_w,i32_w]
             rfl
            refine pure_ (i:=11) (N:=some 23) (v:=?_) (a':=?_) #[true,true,true,true,true,true,true,true,true,true,true,true,false,false,false,false,false,false,false,false,false,false,false,false] rfl rfl (Fb HT_.out (by kernel_rfl)) (fun _ _ _ h=>h) (Or.inl ⟨by rfl,?_⟩) ?_ ?_
            rotate_left
            ·intro w'
             go_simp
             with_reducible rfl
            rotate_left
            ·simp only [Act.put,List.setIfInBounds_toArray,List.set_cons_zero,List.set_cons_succ,i64_w,i32_w]
             rfl
            refine pure_ (i:=12) (N:=some 24) (v:=?_) (a':=?_) #[true,true,true,true,true,true,true,true,true,true,true,true,true,false,false,false,false,false,false,false,false,false,false,false] rfl rfl (Fb HT_.out (by kernel_rfl)) (fun _ _ _ h=>h) (Or.inl ⟨by rfl,?_⟩) ?_ ?_
            rotate_left
            ·intro w'
             go_simp
             with_reducible rfl
            rotate_left
            ·simp only [Act.put,List.setIfInBounds_toArray,List.set_cons_zero,List.set_cons_succ,i64_w,i32_w]
             rfl
            refine pure_ (i:=13) (N:=some 25) (v:=?_) (a':=?_) #[true,true,true,true,true,true,true,true,true,true,true,true,true,true,false,false,false,false,false,false,false,false,false,false] rfl rfl (Fb HT_.out (by kernel_rfl)) (fun _ _ _ h=>h) (Or.inl ⟨by rfl,?_⟩) ?_ ?_
            rotate_left
            ·intro w'
             go_simp
             with_reducible rfl
            rotate_left
            ·simp only [Act.put,List.setIfInBounds_toArray,List.set_cons_zero,List.set_cons_succ,i64_w,i32_w]
             rfl
            refine pure_ (i:=15) (N:=some 27) (v:=?_) (a':=?_) #[true,true,true,true,true,true,true,true,true,true,true,true,true,true,false,true,false,false,false,false,false,false,false,false] rfl rfl (Fb HT_.out (by kernel_rfl)) (fun _ _ _ h=>h) (Or.inl ⟨by rfl,?_⟩) ?_ ?_
            rotate_left
            ·intro w'
             go_simp
             with_reducible rfl
            rotate_left
            ·simp only [Act.put,List.setIfInBounds_toArray,List.set_cons_zero,List.set_cons_succ,i64_w,i32_w]
             rfl
            refine pure_ (i:=16) (N:=some 28) (v:=?_) (a':=?_) #[true,true,true,true,true,true,true,true,true,true,true,true,true,true,false,true,true,false,false,false,false,false,false,false] rfl rfl (Fb HT_.out (by kernel_rfl)) (fun _ _ _ h=>h) (Or.inl ⟨by rfl,?_⟩) ?_ ?_
            rotate_left
            ·intro w'
             go_simp
             with_reducible rfl
            rotate_left
            ·simp only [Act.put,List.setIfInBounds_toArray,List.set_cons_zero,List.set_cons_succ,i64_w,i32_w]
             rfl
            refine pure_ (i:=17) (N:=some 29) (v:=?_) (a':=?_) #[true,true,true,true,true,true,true,true,true,true,true,true,true,true,false,true,true,true,false,false,false,false,false,false] rfl rfl (Fb HT_.out (by kernel_rfl)) (fun _ _ _ h=>h) (Or.inl ⟨by rfl,?_⟩) ?_ ?_
            rotate_left
            ·intro w'
             go_simp
             with_reducible rfl
            rotate_left
            ·simp only [Act.put,List.setIfInBounds_toArray,List.set_cons_zero,List.set_cons_succ,i64_w,i32_w]
             rfl
            refine pure_ (i:=18) (N:=some 30) (v:=?_) (a':=?_) #[true,true,true,true,true,true,true,true,true,true,true,true,true,true,false,true,true,true,true,false,false,false,false,false] rfl rfl (Fb HT_.out (by kernel_rfl)) (fun _ _ _ h=>h) (Or.inl ⟨by rfl,?_⟩) ?_ ?_
            rotate_left
            ·intro w'
             go_simp
             with_reducible rfl
            rotate_left
            ·simp only [Act.put,List.setIfInBounds_toArray,List.set_cons_zero,List.set_cons_succ,i64_w,i32_w]
             rfl
            refine pure_ (i:=19) (N:=some 31) (v:=?_) (a':=?_) #[true,true,true,true,true,true,true,true,true,true,true,true,true,true,false,true,true,true,true,true,false,false,false,false] rfl rfl (Fb HT_.out (by kernel_rfl)) (fun _ _ _ h=>h) (Or.inl ⟨by rfl,?_⟩) ?_ ?_
            rotate_left
            ·intro w'
             go_simp
             with_reducible rfl
            rotate_left
            ·simp only [Act.put,List.setIfInBounds_toArray,List.set_cons_zero,List.set_cons_succ,i64_w,i32_w]
             rfl
            refine take_ (i:=14) (N:=some 26) (v:=?_) (a':=?_) #[true,true,true,true,true,true,true,true,true,true,true,true,true,true,true,true,true,true,true,true,false,false,false,false] rfl rfl (take_ofW HT_.out HW_.out (by kernel_rfl)) (fun _ _ _ h=>h) (Or.inl ⟨by rfl,?_⟩) hHeld ?_ ?_
            rotate_left
            ·rintro w' ⟨s0,s1,s2,s3,s4,s5⟩
             go_simp
             with_reducible rfl
            rotate_left
            ·simp only [Act.put,List.setIfInBounds_toArray,List.set_cons_zero,List.set_cons_succ,i64_w,i32_w]
             rfl
            refine take_ (i:=20) (N:=some 32) (v:=?_) (a':=?_) #[true,true,true,true,true,true,true,true,true,true,true,true,true,true,true,true,true,true,true,true,true,false,false,false] rfl rfl (take_ofW HT_.out HW_.out (by kernel_rfl)) (fun _ _ _ h=>h) (Or.inl ⟨by rfl,?_⟩) hHeld ?_ ?_
            rotate_left
            ·rintro w' ⟨s0,s1,s2,s3,s4,s5⟩
             go_simp
             with_reducible rfl
            rotate_left
            ·simp only [Act.put,List.setIfInBounds_toArray,List.set_cons_zero,List.set_cons_succ,i64_w,i32_w]
             rfl
            refine pure_ (i:=21) (N:=some 33) (v:=?_) (a':=?_) #[true,true,true,true,true,true,true,true,true,true,true,true,true,true,true,true,true,true,true,true,true,true,false,false] rfl rfl (Fb HT_.out (by kernel_rfl)) (fun _ _ _ h=>h) (Or.inl ⟨by rfl,?_⟩) ?_ ?_
            rotate_left
            ·intro w'
             go_simp
             with_reducible rfl
            rotate_left
            ·simp only [Act.put,List.setIfInBounds_toArray,List.set_cons_zero,List.set_cons_succ,i64_w,i32_w]
             rfl
            refine pure_ (i:=22) (N:=some 34) (v:=?_) (a':=?_) #[true,true,true,true,true,true,true,true,true,true,true,true,true,true,true,true,true,true,true,true,true,true,true,false] rfl rfl (Fb HT_.out (by kernel_rfl)) (fun _ _ _ h=>h) (Or.inl ⟨by rfl,?_⟩) ?_ ?_
            rotate_left
            ·intro w'
             go_simp
             with_reducible rfl
            rotate_left
            ·simp only [Act.put,List.setIfInBounds_toArray,List.set_cons_zero,List.set_cons_succ,i64_w,i32_w]
             rfl
            refine pure_ (i:=23) (N:=some 35) (v:=?_) (a':=?_) #[true,true,true,true,true,true,true,true,true,true,true,true,true,true,true,true,true,true,true,true,true,true,true,true] rfl rfl (Fb HT_.out (by kernel_rfl)) (fun _ _ _ h=>h) (Or.inl ⟨by rfl,?_⟩) ?_ ?_
            rotate_left
            ·intro w'
             go_simp
             with_reducible rfl
            rotate_left
            ·simp only [Act.put,List.setIfInBounds_toArray,List.set_cons_zero,List.set_cons_succ,i64_w,i32_w]
             rfl
            refine done_ (done_of HT_.out (by kernel_rfl)) ?_
            try go_wp2
            go_roundg k1
            case measure=>have:=HK1.out;omega
            case rel=>exact⟨(wrap64 (qa+1)),(by first|rfl|(simp;done)|(simp [*];done)),H',⟨by have:=HK1.out;omega⟩,⟨by repeat(first|(with_reducible first|exact HB.out|apply Fg|apply Fc|apply Fe|refine below_set ?_ qg.out)|exact HB.out)⟩⟩
          ·rw [if_neg c12] at H
           exact absurd H (by simp)
         ·rw [if_neg c11] at H
          exact absurd H (by simp)
        ·rw [if_neg c9] at H
         have c9b0:decide (0 < qa)=false:=decide_eq_false c9
         clear c9
         have H':=Fa H
         clear H
         have qr:0≤(qa:Int):=of_decide_eq_true (by first|(with_reducible assumption)|assumption)
         have qs:qa < (l0.length:Int):=of_decide_eq_true (by first|(with_reducible assumption)|assumption)
         obtain⟨qq,e150,qd,qe,qf⟩:=at_T40 HR0.out qa qr qs
         cases e150
         replace qd:=(HB.out.cell (World.block_lt_of_cell? w _ qd)).trans qd
         replace qe:=(HB.out.cell (World.block_lt_of_cell? w _ qe)).trans qe
         replace qf:=(HB.out.cell (World.block_lt_of_cell? w _ qf)).trans qf
         replace qr:=eq_true qr
         replace qs:=eq_true qs
         try go_wp2_with (first|((with_reducible refine gate_dst (N:=4) rfl ?_);refine box_event ?hg (N:=4) ?hd (cs:=#[.int .i64 0,.int .i64 0,.string (⟨#[]⟩:ByteArray)]) (t:=40) ?hr ?_;(case hd=>rfl);(case hg=>rfl);(case hr=>first|(go_simp;done)|(go_simp;rfl));intro qc hg w24 hbox hb;have ql:=Fa (below_step (by repeat(first|(with_reducible first|exact HB.out|apply Fg|apply Fc|apply Fe)|exact HB.out)) hb);have qm:=Fa (hbox);have n2_:=Fa ((by rw [hg];exact(below_size (by repeat(first|(with_reducible first|exact HB.out|apply Fg|apply Fc|apply Fe)|exact HB.out))):w.heap.size≤qc));have n3_:=Fa ((by rw [hg];exact(below_size (by repeat(first|(with_reducible first|exact HB.out|apply Fg|apply Fc|apply Fe)|exact HB.out))):w.heap.size≤qc));clear HB;have HB:=ql;have qb:=qm;have GW151:=n2_;have qg:=n3_;clear ql qm n2_ n3_;clear hb hbox hg;have hcz25_0:w24.cell? ⟨qc,0,none⟩=some (.int .i64 0):=(Fd qb.out 0).trans rfl;have hcz25_1:w24.cell? ⟨qc,1,none⟩=some (.int .i64 0):=(Fd qb.out 1).trans rfl;have hcz25_2:w24.cell? ⟨qc,2,none⟩=some (.string (⟨#[]⟩:ByteArray)):=(Fd qb.out 2).trans rfl;have hfz25_0:=blk_frozen qb.out 0;have hfz25_1:=blk_frozen qb.out 1;have hfz25_2:=blk_frozen qb.out 2))
         have ql:Aside0 ((((w24.setCell ⟨qc,0,none⟩ (.int .i64 ((rd_T40 l0 qa).f0))).setCell ⟨qc,1,none⟩ (.int .i64 ((rd_T40 l0 qa).f1))).setCell ⟨qc,2,none⟩ (.string ((rd_T40 l0 qa).f2))).heap[qc]? = some (.cells #[.int .i64 ((rd_T40 l0 qa).f0),.int .i64 ((rd_T40 l0 qa).f1),.string ((rd_T40 l0 qa).f2)] 40 (0,0))):=⟨by(with_reducible repeat(first|refine Fi ?_ _|refine Ff ?_|refine Fh ?_ _));refine blk_put (cs:=#[.int .i64 ((rd_T40 l0 qa).f0),.int .i64 ((rd_T40 l0 qa).f1),.string (⟨#[]⟩:ByteArray)]) ?_ 2 _ rfl;(with_reducible repeat(first|refine Fi ?_ _|refine Ff ?_|refine Fh ?_ _));refine blk_put (cs:=#[.int .i64 ((rd_T40 l0 qa).f0),.int .i64 0,.string (⟨#[]⟩:ByteArray)]) ?_ 1 _ rfl;(with_reducible repeat(first|refine Fi ?_ _|refine Ff ?_|refine Fh ?_ _));refine blk_put (cs:=#[.int .i64 0,.int .i64 0,.string (⟨#[]⟩:ByteArray)]) ?_ 0 _ rfl;(with_reducible repeat(first|refine Fi ?_ _|refine Ff ?_|refine Fh ?_ _));exact qb.out⟩
         have qm:Aside0 (Below w.heap.size w (((w24.setCell ⟨qc,0,none⟩ (.int .i64 ((rd_T40 l0 qa).f0))).setCell ⟨qc,1,none⟩ (.int .i64 ((rd_T40 l0 qa).f1))).setCell ⟨qc,2,none⟩ (.string ((rd_T40 l0 qa).f2)))):=⟨by repeat(first|(with_reducible first|exact HB.out|apply Fg|apply Fc|apply Fe|refine below_set ?_ qg.out)|exact HB.out)⟩
         (try clear qb)
         (try clear HB)
         generalize (((w24.setCell ⟨qc,0,none⟩ (.int .i64 ((rd_T40 l0 qa).f0))).setCell ⟨qc,1,none⟩ (.int .i64 ((rd_T40 l0 qa).f1))).setCell ⟨qc,2,none⟩ (.string ((rd_T40 l0 qa).f2)))=w26 at ql qm ⊢
         have qb:=ql
         have HB:=qm
         clear ql qm
         have ql:=Fa (Ff qb.out)
         have qm:=Fa (Fe HB.out)
         clear qb
         clear HB
         have qb:=ql
         have HB:=qm
         clear ql qm
         refine start_ (n:=24) (S:=fun w'=>w'.cell? ⟨qc,0,none⟩=some (.int .i64 ((rd_T40 l0 qa).f0))∧w'.cell? ⟨qc,1,none⟩=some (.int .i64 ((rd_T40 l0 qa).f1))∧w'.cell? ⟨qc,2,none⟩=some (.string ((rd_T40 l0 qa).f2))) (ds:=[]) #[false,false,false,false,false,false,false,false,false,false,false,false,false,false,false,false,false,false,false,false,false,false,false,false] (by kernel_rfl) rfl rfl ⟨(Fd qb.out 0).trans rfl,(Fd qb.out 1).trans rfl,(Fd qb.out 2).trans rfl⟩ (fun hHeld=>?_);refine with_tabW impl_TitlesOk.tab4 impl_TitlesOk.bits4 (fun HT_ HW_=>?_)
         generalize w26.drew=w27 at qb HB hHeld ⊢
         refine take_ (i:=0) (N:=some 12) (v:=?_) (a':=?_) #[true,false,false,false,false,false,false,false,false,false,false,false,false,false,false,false,false,false,false,false,false,false,false,false] rfl rfl (take_ofW HT_.out HW_.out (by kernel_rfl)) (fun _ _ _ h=>h) (Or.inl ⟨by rfl,?_⟩) hHeld ?_ ?_
         rotate_left
         ·rintro w' ⟨s0,s1,s2⟩
          go_simp
          with_reducible rfl
         rotate_left
         ·simp only [Act.put,List.setIfInBounds_toArray,List.set_cons_zero,List.set_cons_succ,i64_w,i32_w]
          rfl
         refine one_ (i:=1) (N:=some 13) #[true,true,false,false,false,false,false,false,false,false,false,false,false,false,false,false,false,false,false,false,false,false,false,false] rfl rfl (one_of HT_.out (by kernel_rfl)) (by decide) (fun K hK=>?_)
         refine goes_ Tryd.func39 (by kernel_rfl) rfl #[.agg #[.int .i64 ((rd_T40 l0 qa).f0),.int .i64 ((rd_T40 l0 qa).f1),.string ((rd_T40 l0 qa).f2)]] (by rfl) rfl rfl (by(try simp only [List.map_toArray,List.map_cons,List.map_nil]);first|done|rfl|(simp only [List.length_drop,List.length_take];rfl)) ?_
         with_reducible refine(impl_Title_timesOk.calls ((rd_T40 l0 qa).f0) ((rd_T40 l0 qa).f1) ((rd_T40 l0 qa).f2) true _ A5.out).mono ?_
         rintro e w28 ⟨rfl,hb⟩
         refine⟨_,rfl,?_⟩
         have ql:=Fa (blk_below (g:=qc) (o:=.cells #[.int .i64 ((rd_T40 l0 qa).f0),.int .i64 ((rd_T40 l0 qa).f1),.string ((rd_T40 l0 qa).f2)] 40 (0,0)) (by(with_reducible repeat(first|refine Fi ?_ _|refine Ff ?_|refine Fh ?_ _));exact qb.out) hb)
         have qm:=Fa (below_step (by repeat(first|(with_reducible first|exact HB.out|apply Fg|apply Fc|apply Fe|refine below_set ?_ qg.out)|exact HB.out)) hb)
         clear qb
         clear HB
         have qb:=ql
         have HB:=qm
         clear ql qm
         (try clear hb)
         (try clear hb2)
         (try clear hk)
         (try clear hi)
         refine hK.out _ _ ⟨(Fd qb.out 0).trans rfl,(Fd qb.out 1).trans rfl,(Fd qb.out 2).trans rfl⟩ (fun hHeld=>?_)
         clear hK K
         refine norm_ (a':=?_) ?_ ?_
         rotate_left
         ·show Act.put _ (some 13) _=_
          simp only [Act.put,List.setIfInBounds_toArray,List.set_cons_zero,List.set_cons_succ,i64_w,i32_w]
          rfl
         refine pure_ (i:=2) (N:=some 14) (v:=?_) (a':=?_) #[true,true,true,false,false,false,false,false,false,false,false,false,false,false,false,false,false,false,false,false,false,false,false,false] rfl rfl (Fb HT_.out (by kernel_rfl)) (fun _ _ _ h=>h) (Or.inl ⟨by rfl,?_⟩) ?_ ?_
         rotate_left
         ·intro w'
          go_simp
          with_reducible rfl
         rotate_left
         ·simp only [Act.put,List.setIfInBounds_toArray,List.set_cons_zero,List.set_cons_succ,i64_w,i32_w]
          rfl
         refine pure_ (i:=3) (N:=some 15) (v:=?_) (a':=?_) #[true,true,true,true,false,false,false,false,false,false,false,false,false,false,false,false,false,false,false,false,false,false,false,false] rfl rfl (Fb HT_.out (by kernel_rfl)) (fun _ _ _ h=>h) (Or.inl ⟨by rfl,?_⟩) ?_ ?_
         rotate_left
         ·intro w'
          go_simp
          with_reducible rfl
         rotate_left
         ·simp only [Act.put,List.setIfInBounds_toArray,List.set_cons_zero,List.set_cons_succ,i64_w,i32_w]
          rfl
         refine pure_ (i:=4) (N:=some 16) (v:=?_) (a':=?_) #[true,true,true,true,true,false,false,false,false,false,false,false,false,false,false,false,false,false,false,false,false,false,false,false] rfl rfl (Fb HT_.out (by kernel_rfl)) (fun _ _ _ h=>h) (Or.inl ⟨by rfl,?_⟩) ?_ ?_
         rotate_left
         ·intro w'
          go_simp
          with_reducible rfl
         rotate_left
         ·simp only [Act.put,List.setIfInBounds_toArray,List.set_cons_zero,List.set_cons_succ,i64_w,i32_w]
          rfl
         refine take_ (i:=5) (N:=some 17) (v:=?_) (a':=?_) #[true,true,true,true,true,true,false,false,false,false,false,false,false,false,false,false,false,false,false,false,false,false,false,false] rfl rfl (take_ofW HT_.out HW_.out (by kernel_rfl)) (fun _ _ _ h=>h) (Or.inl ⟨by rfl,?_⟩) hHeld ?_ ?_
         rotate_left
         ·rintro w' ⟨s0,s1,s2⟩
          go_simp
          with_reducible rfl
         rotate_left
         ·simp only [Act.put,List.setIfInBounds_toArray,List.set_cons_zero,List.set_cons_succ,i64_w,i32_w]
          rfl
         refine one_ (i:=6) (N:=some 18) #[true,true,true,true,true,true,true,false,false,false,false,false,false,false,false,false,false,false,false,false,false,false,false,false] rfl rfl (one_of HT_.out (by kernel_rfl)) (by decide) (fun K hK=>?_)
         refine goes_ Tryd.func40 (by kernel_rfl) rfl #[.string ((rd_T40 l0 qa).f2)] (by rfl) rfl rfl (by(try simp only [List.map_toArray,List.map_cons,List.map_nil]);first|done|rfl|(simp only [List.length_drop,List.length_take];rfl)) ?_
         with_reducible refine(impl_textOk.calls k1 ((rd_T40 l0 qa).f2) true _ (by first|exact HGL.out|((repeat(with_reducible refine Glob.drewN ?_));exact HGL.out)|exact Glob.below HGL.out (by repeat(first|(with_reducible first|exact HB.out|apply Fg|apply Fc|apply Fe|refine below_set ?_ qg.out)|exact HB.out))) A7.out).mono ?_
         rintro e w' ⟨rfl,⟨nd,rfl⟩⟩
         refine⟨_,rfl,?_⟩
         refine hK.out _ _ ⟨(Fd qb.out 0).trans rfl,(Fd qb.out 1).trans rfl,(Fd qb.out 2).trans rfl⟩ (fun hHeld=>?_)
         clear hK K
         refine norm_ (a':=?_) ?_ ?_
         rotate_left
         ·show Act.put _ (some 18) _=_
          simp only [Act.put,List.setIfInBounds_toArray,List.set_cons_zero,List.set_cons_succ,i64_w,i32_w]
          rfl
         refine pure_ (i:=7) (N:=some 19) (v:=?_) (a':=?_) #[true,true,true,true,true,true,true,true,false,false,false,false,false,false,false,false,false,false,false,false,false,false,false,false] rfl rfl (Fb HT_.out (by kernel_rfl)) (fun _ _ _ h=>h) (Or.inl ⟨by rfl,?_⟩) ?_ ?_
         rotate_left
         ·intro w'
          go_simp
          with_reducible rfl
         rotate_left
         ·simp only [Act.put,List.setIfInBounds_toArray,List.set_cons_zero,List.set_cons_succ,i64_w,i32_w]
          rfl
         refine pure_ (i:=8) (N:=some 20) (v:=?_) (a':=?_) #[true,true,true,true,true,true,true,true,true,false,false,false,false,false,false,false,false,false,false,false,false,false,false,false] rfl rfl (Fb HT_.out (by kernel_rfl)) (fun _ _ _ h=>h) (Or.inl ⟨by rfl,?_⟩) ?_ ?_
         rotate_left
         ·intro w'
          go_simp
          with_reducible rfl
         rotate_left
         ·simp only [Act.put,List.setIfInBounds_toArray,List.set_cons_zero,List.set_cons_succ,i64_w,i32_w]
          rfl
         refine pure_ (i:=9) (N:=some 21) (v:=?_) (a':=?_) #[true,true,true,true,true,true,true,true,true,true,false,false,false,false,false,false,false,false,false,false,false,false,false,false] rfl rfl (Fb HT_.out (by kernel_rfl)) (fun _ _ _ h=>h) (Or.inl ⟨by rfl,?_⟩) ?_ ?_
         rotate_left
         ·intro w'
          go_simp
          with_reducible rfl
         rotate_left
         ·simp only [Act.put,List.setIfInBounds_toArray,List.set_cons_zero,List.set_cons_succ,i64_w,i32_w]
          rfl
         refine pure_ (i:=10) (N:=some 22) (v:=?_) (a':=?_) #[true,true,true,true,true,true,true,true,true,true,true,false,false,false,false,false,false,false,false,false,false,false,false,false] rfl rfl (Fb HT_.out (by kernel_rfl)) (fun _ _ _ h=>h) (Or.inl ⟨by rfl,?_⟩) ?_ ?_
         rotate_left
         ·intro w'
          go_simp
          with_reducible rfl
         rotate_left
         ·simp only [Act.put,List.setIfInBounds_toArray,List.set_cons_zero,List.set_cons_succ,i64_w,i32_w]
          rfl
         refine pure_ (i:=11) (N:=some 23) (v:=?_) (a':=?_) #[true,true,true,true,true,true,true,true,true,true,true,true,false,false,false,false,false,false,false,false,false,false,false,false] rfl rfl (Fb HT_.out (by kernel_rfl)) (fun _ _ _ h=>h) (Or.inl ⟨by rfl,?_⟩) ?_ ?_
         rotate_left
         ·intro w'
          go_simp
          with_reducible rfl
         rotate_left
         ·simp only [Act.put,List.setIfInBounds_toArray,List.set_cons_zero,List.set_cons_succ,i64_w,i32_w]
          rfl
         refine pure_ (i:=12) (N:=some 24) (v:=?_) (a':=?_) #[true,true,true,true,true,true,true,true,true,true,true,true,true,false,false,false,false,false,false,false,false,false,false,false] rfl rfl (Fb HT_.out (by kernel_rfl)) (fun _ _ _ h=>h) (Or.inl ⟨by rfl,?_⟩) ?_ ?_
         rotate_left
         ·intro w'
          go_simp
          with_reducible rfl
         rotate_left
         ·simp only [Act.put,List.setIfInBounds_toArray,List.set_cons_zero,List.set_cons_succ,i64_w,i32_w]
          rfl
         refine pure_ (i:=13) (N:=some 25) (v:=undef) (a':=?_) #[true,true,true,true,true,true,true,true,true,true,true,true,true,true,false,false,false,false,false,false,false,false,false,false] rfl rfl (Fb HT_.out (by kernel_rfl)) (fun _ _ _ h=>h) (Or.inr ⟨by rfl,rfl⟩) ?_ ?_
         rotate_left
         ·simp only [Act.put,List.setIfInBounds_toArray,List.set_cons_zero,List.set_cons_succ,i64_w,i32_w]
          rfl
         refine pure_ (i:=14) (N:=some 26) (v:=undef) (a':=?_) #[true,true,true,true,true,true,true,true,true,true,true,true,true,true,true,false,false,false,false,false,false,false,false,false] rfl rfl (Fb HT_.out (by kernel_rfl)) (fun _ _ _ h=>h) (Or.inr ⟨by rfl,rfl⟩) ?_ ?_
         rotate_left
         ·simp only [Act.put,List.setIfInBounds_toArray,List.set_cons_zero,List.set_cons_succ,i64_w,i32_w]
          rfl
         refine pure_ (i:=15) (N:=some 27) (v:=undef) (a':=?_) #[true,true,true,true,true,true,true,true,true,true,true,true,true,true,true,true,false,false,false,false,false,false,false,false] rfl rfl (Fb HT_.out (by kernel_rfl)) (fun _ _ _ h=>h) (Or.inr ⟨by rfl,rfl⟩) ?_ ?_
         rotate_left
         ·simp only [Act.put,List.setIfInBounds_toArray,List.set_cons_zero,List.set_cons_succ,i64_w,i32_w]
          rfl
         refine pure_ (i:=16) (N:=some 28) (v:=undef) (a':=?_) #[true,true,true,true,true,true,true,true,true,true,true,true,true,true,true,true,true,false,false,false,false,false,false,false] rfl rfl (Fb HT_.out (by kernel_rfl)) (fun _ _ _ h=>h) (Or.inr ⟨by rfl,rfl⟩) ?_ ?_
         rotate_left
         ·simp only [Act.put,List.setIfInBounds_toArray,List.set_cons_zero,List.set_cons_succ,i64_w,i32_w]
          rfl
         refine pure_ (i:=17) (N:=some 29) (v:=undef) (a':=?_) #[true,true,true,true,true,true,true,true,true,true,true,true,true,true,true,true,true,true,false,false,false,false,false,false] rfl rfl (Fb HT_.out (by kernel_rfl)) (fun _ _ _ h=>h) (Or.inr ⟨by rfl,rfl⟩) ?_ ?_
         rotate_left
         ·simp only [Act.put,List.setIfInBounds_toArray,List.set_cons_zero,List.set_cons_succ,i64_w,i32_w]
          rfl
         refine pure_ (i:=18) (N:=some 30) (v:=undef) (a':=?_) #[true,true,true,true,true,true,true,true,true,true,true,true,true,true,true,true,true,true,true,false,false,false,false,false] rfl rfl (Fb HT_.out (by kernel_rfl)) (fun _ _ _ h=>h) (Or.inr ⟨by rfl,rfl⟩) ?_ ?_
         rotate_left
         ·simp only [Act.put,List.setIfInBounds_toArray,List.set_cons_zero,List.set_cons_succ,i64_w,i32_w]
          rfl
         refine pure_ (i:=19) (N:=some 31) (v:=undef) (a':=?_) #[true,true,true,true,true,true,true,true,true,true,true,true,true,true,true,true,true,true,true,true,false,false,false,false] rfl rfl (Fb HT_.out (by kernel_rfl)) (fun _ _ _ h=>h) (Or.inr ⟨by rfl,rfl⟩) ?_ ?_
         rotate_left
         ·simp only [Act.put,List.setIfInBounds_toArray,List.set_cons_zero,List.set_cons_succ,i64_w,i32_w]
          rfl
         refine pure_ (i:=20) (N:=some 32) (v:=undef) (a':=?_) #[true,true,true,true,true,true,true,true,true,true,true,true,true,true,true,true,true,true,true,true,true,false,false,false] rfl rfl (Fb HT_.out (by kernel_rfl)) (fun _ _ _ h=>h) (Or.inr ⟨by rfl,rfl⟩) ?_ ?_
         rotate_left
         ·simp only [Act.put,List.setIfInBounds_toArray,List.set_cons_zero,List.set_cons_succ,i64_w,i32_w]
          rfl
         refine pure_ (i:=21) (N:=some 33) (v:=undef) (a':=?_) #[true,true,true,true,true,true,true,true,true,true,true,true,true,true,true,true,true,true,true,true,true,true,false,false] rfl rfl (Fb HT_.out (by kernel_rfl)) (fun _ _ _ h=>h) (Or.inr ⟨by rfl,rfl⟩) ?_ ?_
         rotate_left
         ·simp only [Act.put,List.setIfInBounds_toArray,List.set_cons_zero,List.set_cons_succ,i64_w,i32_w]
          rfl
         refine pure_ (i:=22) (N:=some 34) (v:=?_) (a':=?_) #[true,true,true,true,true,true,true,true,true,true,true,true,true,true,true,true,true,true,true,true,true,true,true,false] rfl rfl (Fb HT_.out (by kernel_rfl)) (fun _ _ _ h=>h) (Or.inl ⟨by rfl,?_⟩) ?_ ?_
         rotate_left
         ·intro w'
          go_simp
          with_reducible rfl
         rotate_left
         ·simp only [Act.put,List.setIfInBounds_toArray,List.set_cons_zero,List.set_cons_succ,i64_w,i32_w]
          rfl
         refine pure_ (i:=23) (N:=some 35) (v:=?_) (a':=?_) #[true,true,true,true,true,true,true,true,true,true,true,true,true,true,true,true,true,true,true,true,true,true,true,true] rfl rfl (Fb HT_.out (by kernel_rfl)) (fun _ _ _ h=>h) (Or.inl ⟨by rfl,?_⟩) ?_ ?_
         rotate_left
         ·intro w'
          go_simp
          with_reducible rfl
         rotate_left
         ·simp only [Act.put,List.setIfInBounds_toArray,List.set_cons_zero,List.set_cons_succ,i64_w,i32_w]
          rfl
         refine done_ (done_of HT_.out (by kernel_rfl)) ?_
         try go_wp2
         go_roundg k1
         case measure=>have:=HK1.out;omega
         case rel=>exact⟨(wrap64 (qa+1)),(by first|rfl|(simp;done)|(simp [*];done)),H',⟨by have:=HK1.out;omega⟩,⟨by repeat(first|(with_reducible first|exact HB.out|apply Fg|apply Fc|apply Fe|refine below_set ?_ qg.out)|exact HB.out)⟩⟩
       ·replace c8:=Bool.eq_false_iff.mpr c8
        subst c8
        have H1:(some false)=some r:=by rw [if_neg (show ¬ (false=true) by decide)] at H;exact H
        clear H
        have H:=H1
        clear H1
        obtain rfl:=Option.some.inj H
        have qr:0≤(qa:Int):=of_decide_eq_true (by first|(with_reducible assumption)|assumption)
        have qs:qa < (l0.length:Int):=of_decide_eq_true (by first|(with_reducible assumption)|assumption)
        obtain⟨qq,e150,qd,qe,qf⟩:=at_T40 HR0.out qa qr qs
        cases e150
        replace qd:=(HB.out.cell (World.block_lt_of_cell? w _ qd)).trans qd
        replace qe:=(HB.out.cell (World.block_lt_of_cell? w _ qe)).trans qe
        replace qf:=(HB.out.cell (World.block_lt_of_cell? w _ qf)).trans qf
        replace qr:=eq_true qr
        replace qs:=eq_true qs
        try go_wp2_with (first|((with_reducible refine gate_dst (N:=4) rfl ?_);refine box_event ?hg (N:=4) ?hd (cs:=#[.int .i64 0,.int .i64 0,.string (⟨#[]⟩:ByteArray)]) (t:=40) ?hr ?_;(case hd=>rfl);(case hg=>rfl);(case hr=>first|(go_simp;done)|(go_simp;rfl));intro qc hg w29 hbox hb;have ql:=Fa (below_step (by repeat(first|(with_reducible first|exact HB.out|apply Fg|apply Fc|apply Fe)|exact HB.out)) hb);have qm:=Fa (hbox);have n2_:=Fa ((by rw [hg];exact(below_size (by repeat(first|(with_reducible first|exact HB.out|apply Fg|apply Fc|apply Fe)|exact HB.out))):w.heap.size≤qc));have n3_:=Fa ((by rw [hg];exact(below_size (by repeat(first|(with_reducible first|exact HB.out|apply Fg|apply Fc|apply Fe)|exact HB.out))):w.heap.size≤qc));clear HB;have HB:=ql;have qb:=qm;have GW151:=n2_;have qg:=n3_;clear ql qm n2_ n3_;clear hb hbox hg;have hcz30_0:w29.cell? ⟨qc,0,none⟩=some (.int .i64 0):=(Fd qb.out 0).trans rfl;have hcz30_1:w29.cell? ⟨qc,1,none⟩=some (.int .i64 0):=(Fd qb.out 1).trans rfl;have hcz30_2:w29.cell? ⟨qc,2,none⟩=some (.string (⟨#[]⟩:ByteArray)):=(Fd qb.out 2).trans rfl;have hfz30_0:=blk_frozen qb.out 0;have hfz30_1:=blk_frozen qb.out 1;have hfz30_2:=blk_frozen qb.out 2))
        have ql:Aside0 ((((w29.setCell ⟨qc,0,none⟩ (.int .i64 ((rd_T40 l0 qa).f0))).setCell ⟨qc,1,none⟩ (.int .i64 ((rd_T40 l0 qa).f1))).setCell ⟨qc,2,none⟩ (.string ((rd_T40 l0 qa).f2))).heap[qc]? = some (.cells #[.int .i64 ((rd_T40 l0 qa).f0),.int .i64 ((rd_T40 l0 qa).f1),.string ((rd_T40 l0 qa).f2)] 40 (0,0))):=⟨by(with_reducible repeat(first|refine Fi ?_ _|refine Ff ?_|refine Fh ?_ _));refine blk_put (cs:=#[.int .i64 ((rd_T40 l0 qa).f0),.int .i64 ((rd_T40 l0 qa).f1),.string (⟨#[]⟩:ByteArray)]) ?_ 2 _ rfl;(with_reducible repeat(first|refine Fi ?_ _|refine Ff ?_|refine Fh ?_ _));refine blk_put (cs:=#[.int .i64 ((rd_T40 l0 qa).f0),.int .i64 0,.string (⟨#[]⟩:ByteArray)]) ?_ 1 _ rfl;(with_reducible repeat(first|refine Fi ?_ _|refine Ff ?_|refine Fh ?_ _));refine blk_put (cs:=#[.int .i64 0,.int .i64 0,.string (⟨#[]⟩:ByteArray)]) ?_ 0 _ rfl;(with_reducible repeat(first|refine Fi ?_ _|refine Ff ?_|refine Fh ?_ _));exact qb.out⟩
        have qm:Aside0 (Below w.heap.size w (((w29.setCell ⟨qc,0,none⟩ (.int .i64 ((rd_T40 l0 qa).f0))).setCell ⟨qc,1,none⟩ (.int .i64 ((rd_T40 l0 qa).f1))).setCell ⟨qc,2,none⟩ (.string ((rd_T40 l0 qa).f2)))):=⟨by repeat(first|(with_reducible first|exact HB.out|apply Fg|apply Fc|apply Fe|refine below_set ?_ qg.out)|exact HB.out)⟩
        (try clear qb)
        (try clear HB)
        generalize (((w29.setCell ⟨qc,0,none⟩ (.int .i64 ((rd_T40 l0 qa).f0))).setCell ⟨qc,1,none⟩ (.int .i64 ((rd_T40 l0 qa).f1))).setCell ⟨qc,2,none⟩ (.string ((rd_T40 l0 qa).f2)))=w31 at ql qm ⊢
        have qb:=ql
        have HB:=qm
        clear ql qm
        have ql:=Fa (Ff qb.out)
        have qm:=Fa (Fe HB.out)
        clear qb
        clear HB
        have qb:=ql
        have HB:=qm
        clear ql qm
        refine start_ (n:=24) (S:=fun w'=>w'.cell? ⟨qc,0,none⟩=some (.int .i64 ((rd_T40 l0 qa).f0))∧w'.cell? ⟨qc,1,none⟩=some (.int .i64 ((rd_T40 l0 qa).f1))∧w'.cell? ⟨qc,2,none⟩=some (.string ((rd_T40 l0 qa).f2))) (ds:=[]) #[false,false,false,false,false,false,false,false,false,false,false,false,false,false,false,false,false,false,false,false,false,false,false,false] (by kernel_rfl) rfl rfl ⟨(Fd qb.out 0).trans rfl,(Fd qb.out 1).trans rfl,(Fd qb.out 2).trans rfl⟩ (fun hHeld=>?_);refine with_tabW impl_TitlesOk.tab4 impl_TitlesOk.bits4 (fun HT_ HW_=>?_)
        generalize w31.drew=w32 at qb HB hHeld ⊢
        refine take_ (i:=0) (N:=some 12) (v:=?_) (a':=?_) #[true,false,false,false,false,false,false,false,false,false,false,false,false,false,false,false,false,false,false,false,false,false,false,false] rfl rfl (take_ofW HT_.out HW_.out (by kernel_rfl)) (fun _ _ _ h=>h) (Or.inl ⟨by rfl,?_⟩) hHeld ?_ ?_
        rotate_left
        ·rintro w' ⟨s0,s1,s2⟩
         go_simp
         with_reducible rfl
        rotate_left
        ·simp only [Act.put,List.setIfInBounds_toArray,List.set_cons_zero,List.set_cons_succ,i64_w,i32_w]
         rfl
        refine one_ (i:=1) (N:=some 13) #[true,true,false,false,false,false,false,false,false,false,false,false,false,false,false,false,false,false,false,false,false,false,false,false] rfl rfl (one_of HT_.out (by kernel_rfl)) (by decide) (fun K hK=>?_)
        refine goes_ Tryd.func39 (by kernel_rfl) rfl #[.agg #[.int .i64 ((rd_T40 l0 qa).f0),.int .i64 ((rd_T40 l0 qa).f1),.string ((rd_T40 l0 qa).f2)]] (by rfl) rfl rfl (by(try simp only [List.map_toArray,List.map_cons,List.map_nil]);first|done|rfl|(simp only [List.length_drop,List.length_take];rfl)) ?_
        with_reducible refine(impl_Title_timesOk.calls ((rd_T40 l0 qa).f0) ((rd_T40 l0 qa).f1) ((rd_T40 l0 qa).f2) true _ A5.out).mono ?_
        rintro e w33 ⟨rfl,hb⟩
        refine⟨_,rfl,?_⟩
        have ql:=Fa (blk_below (g:=qc) (o:=.cells #[.int .i64 ((rd_T40 l0 qa).f0),.int .i64 ((rd_T40 l0 qa).f1),.string ((rd_T40 l0 qa).f2)] 40 (0,0)) (by(with_reducible repeat(first|refine Fi ?_ _|refine Ff ?_|refine Fh ?_ _));exact qb.out) hb)
        have qm:=Fa (below_step (by repeat(first|(with_reducible first|exact HB.out|apply Fg|apply Fc|apply Fe|refine below_set ?_ qg.out)|exact HB.out)) hb)
        clear qb
        clear HB
        have qb:=ql
        have HB:=qm
        clear ql qm
        (try clear hb)
        (try clear hb2)
        (try clear hk)
        (try clear hi)
        refine hK.out _ _ ⟨(Fd qb.out 0).trans rfl,(Fd qb.out 1).trans rfl,(Fd qb.out 2).trans rfl⟩ (fun hHeld=>?_)
        clear hK K
        refine norm_ (a':=?_) ?_ ?_
        rotate_left
        ·show Act.put _ (some 13) _=_
         simp only [Act.put,List.setIfInBounds_toArray,List.set_cons_zero,List.set_cons_succ,i64_w,i32_w]
         rfl
        refine pure_ (i:=2) (N:=some 14) (v:=?_) (a':=?_) #[true,true,true,false,false,false,false,false,false,false,false,false,false,false,false,false,false,false,false,false,false,false,false,false] rfl rfl (Fb HT_.out (by kernel_rfl)) (fun _ _ _ h=>h) (Or.inl ⟨by rfl,?_⟩) ?_ ?_
        rotate_left
        ·intro w'
         go_simp
         with_reducible rfl
        rotate_left
        ·simp only [Act.put,List.setIfInBounds_toArray,List.set_cons_zero,List.set_cons_succ,i64_w,i32_w]
         rfl
        refine pure_ (i:=3) (N:=some 15) (v:=?_) (a':=?_) #[true,true,true,true,false,false,false,false,false,false,false,false,false,false,false,false,false,false,false,false,false,false,false,false] rfl rfl (Fb HT_.out (by kernel_rfl)) (fun _ _ _ h=>h) (Or.inl ⟨by rfl,?_⟩) ?_ ?_
        rotate_left
        ·intro w'
         go_simp
         with_reducible rfl
        rotate_left
        ·simp only [Act.put,List.setIfInBounds_toArray,List.set_cons_zero,List.set_cons_succ,i64_w,i32_w]
         rfl
        refine pure_ (i:=4) (N:=some 16) (v:=?_) (a':=?_) #[true,true,true,true,true,false,false,false,false,false,false,false,false,false,false,false,false,false,false,false,false,false,false,false] rfl rfl (Fb HT_.out (by kernel_rfl)) (fun _ _ _ h=>h) (Or.inl ⟨by rfl,?_⟩) ?_ ?_
        rotate_left
        ·intro w'
         go_simp
         with_reducible rfl
        rotate_left
        ·simp only [Act.put,List.setIfInBounds_toArray,List.set_cons_zero,List.set_cons_succ,i64_w,i32_w]
         rfl
        refine take_ (i:=5) (N:=some 17) (v:=?_) (a':=?_) #[true,true,true,true,true,true,false,false,false,false,false,false,false,false,false,false,false,false,false,false,false,false,false,false] rfl rfl (take_ofW HT_.out HW_.out (by kernel_rfl)) (fun _ _ _ h=>h) (Or.inl ⟨by rfl,?_⟩) hHeld ?_ ?_
        rotate_left
        ·rintro w' ⟨s0,s1,s2⟩
         go_simp
         with_reducible rfl
        rotate_left
        ·simp only [Act.put,List.setIfInBounds_toArray,List.set_cons_zero,List.set_cons_succ,i64_w,i32_w]
         rfl
        refine one_ (i:=6) (N:=some 18) #[true,true,true,true,true,true,true,false,false,false,false,false,false,false,false,false,false,false,false,false,false,false,false,false] rfl rfl (one_of HT_.out (by kernel_rfl)) (by decide) (fun K hK=>?_)
        refine goes_ Tryd.func40 (by kernel_rfl) rfl #[.string ((rd_T40 l0 qa).f2)] (by rfl) rfl rfl (by(try simp only [List.map_toArray,List.map_cons,List.map_nil]);first|done|rfl|(simp only [List.length_drop,List.length_take];rfl)) ?_
        with_reducible refine(impl_textOk.calls k1 ((rd_T40 l0 qa).f2) false _ (by first|exact HGL.out|((repeat(with_reducible refine Glob.drewN ?_));exact HGL.out)|exact Glob.below HGL.out (by repeat(first|(with_reducible first|exact HB.out|apply Fg|apply Fc|apply Fe|refine below_set ?_ qg.out)|exact HB.out))) A7.out).mono ?_
        rintro e w' ⟨rfl,⟨nd,rfl⟩⟩
        refine⟨_,rfl,?_⟩
        refine hK.out _ _ ⟨(Fd qb.out 0).trans rfl,(Fd qb.out 1).trans rfl,(Fd qb.out 2).trans rfl⟩ (fun hHeld=>?_)
        clear hK K
        refine norm_ (a':=?_) ?_ ?_
        rotate_left
        ·show Act.put _ (some 18) _=_
         simp only [Act.put,List.setIfInBounds_toArray,List.set_cons_zero,List.set_cons_succ,i64_w,i32_w]
         rfl
        refine pure_ (i:=7) (N:=some 19) (v:=?_) (a':=?_) #[true,true,true,true,true,true,true,true,false,false,false,false,false,false,false,false,false,false,false,false,false,false,false,false] rfl rfl (Fb HT_.out (by kernel_rfl)) (fun _ _ _ h=>h) (Or.inl ⟨by rfl,?_⟩) ?_ ?_
        rotate_left
        ·intro w'
         go_simp
         with_reducible rfl
        rotate_left
        ·simp only [Act.put,List.setIfInBounds_toArray,List.set_cons_zero,List.set_cons_succ,i64_w,i32_w]
         rfl
        refine pure_ (i:=8) (N:=some 20) (v:=?_) (a':=?_) #[true,true,true,true,true,true,true,true,true,false,false,false,false,false,false,false,false,false,false,false,false,false,false,false] rfl rfl (Fb HT_.out (by kernel_rfl)) (fun _ _ _ h=>h) (Or.inl ⟨by rfl,?_⟩) ?_ ?_
        rotate_left
        ·intro w'
         go_simp
         with_reducible rfl
        rotate_left
        ·simp only [Act.put,List.setIfInBounds_toArray,List.set_cons_zero,List.set_cons_succ,i64_w,i32_w]
         rfl
        refine pure_ (i:=9) (N:=some 21) (v:=?_) (a':=?_) #[true,true,true,true,true,true,true,true,true,true,false,false,false,false,false,false,false,false,false,false,false,false,false,false] rfl rfl (Fb HT_.out (by kernel_rfl)) (fun _ _ _ h=>h) (Or.inl ⟨by rfl,?_⟩) ?_ ?_
        rotate_left
        ·intro w'
         go_simp
         with_reducible rfl
        rotate_left
        ·simp only [Act.put,List.setIfInBounds_toArray,List.set_cons_zero,List.set_cons_succ,i64_w,i32_w]
         rfl
        refine pure_ (i:=10) (N:=some 22) (v:=undef) (a':=?_) #[true,true,true,true,true,true,true,true,true,true,true,false,false,false,false,false,false,false,false,false,false,false,false,false] rfl rfl (Fb HT_.out (by kernel_rfl)) (fun _ _ _ h=>h) (Or.inr ⟨by rfl,rfl⟩) ?_ ?_
        rotate_left
        ·simp only [Act.put,List.setIfInBounds_toArray,List.set_cons_zero,List.set_cons_succ,i64_w,i32_w]
         rfl
        refine pure_ (i:=11) (N:=some 23) (v:=undef) (a':=?_) #[true,true,true,true,true,true,true,true,true,true,true,true,false,false,false,false,false,false,false,false,false,false,false,false] rfl rfl (Fb HT_.out (by kernel_rfl)) (fun _ _ _ h=>h) (Or.inr ⟨by rfl,rfl⟩) ?_ ?_
        rotate_left
        ·simp only [Act.put,List.setIfInBounds_toArray,List.set_cons_zero,List.set_cons_succ,i64_w,i32_w]
         rfl
        refine pure_ (i:=12) (N:=some 24) (v:=undef) (a':=?_) #[true,true,true,true,true,true,true,true,true,true,true,true,true,false,false,false,false,false,false,false,false,false,false,false] rfl rfl (Fb HT_.out (by kernel_rfl)) (fun _ _ _ h=>h) (Or.inr ⟨by rfl,rfl⟩) ?_ ?_
        rotate_left
        ·simp only [Act.put,List.setIfInBounds_toArray,List.set_cons_zero,List.set_cons_succ,i64_w,i32_w]
         rfl
        refine pure_ (i:=13) (N:=some 25) (v:=undef) (a':=?_) #[true,true,true,true,true,true,true,true,true,true,true,true,true,true,false,false,false,false,false,false,false,false,false,false] rfl rfl (Fb HT_.out (by kernel_rfl)) (fun _ _ _ h=>h) (Or.inr ⟨by rfl,rfl⟩) ?_ ?_
        rotate_left
        ·simp only [Act.put,List.setIfInBounds_toArray,List.set_cons_zero,List.set_cons_succ,i64_w,i32_w]
         rfl
        refine pure_ (i:=14) (N:=some 26) (v:=undef) (a':=?_) #[true,true,true,true,true,true,true,true,true,true,true,true,true,true,true,false,false,false,false,false,false,false,false,false] rfl rfl (Fb HT_.out (by kernel_rfl)) (fun _ _ _ h=>h) (Or.inr ⟨by rfl,rfl⟩) ?_ ?_
        rotate_left
        ·simp only [Act.put,List.setIfInBounds_toArray,List.set_cons_zero,List.set_cons_succ,i64_w,i32_w]
         rfl
        refine pure_ (i:=15) (N:=some 27) (v:=undef) (a':=?_) #[true,true,true,true,true,true,true,true,true,true,true,true,true,true,true,true,false,false,false,false,false,false,false,false] rfl rfl (Fb HT_.out (by kernel_rfl)) (fun _ _ _ h=>h) (Or.inr ⟨by rfl,rfl⟩) ?_ ?_
        rotate_left
        ·simp only [Act.put,List.setIfInBounds_toArray,List.set_cons_zero,List.set_cons_succ,i64_w,i32_w]
         rfl
        refine pure_ (i:=16) (N:=some 28) (v:=undef) (a':=?_) #[true,true,true,true,true,true,true,true,true,true,true,true,true,true,true,true,true,false,false,false,false,false,false,false] rfl rfl (Fb HT_.out (by kernel_rfl)) (fun _ _ _ h=>h) (Or.inr ⟨by rfl,rfl⟩) ?_ ?_
        rotate_left
        ·simp only [Act.put,List.setIfInBounds_toArray,List.set_cons_zero,List.set_cons_succ,i64_w,i32_w]
         rfl
        refine pure_ (i:=17) (N:=some 29) (v:=undef) (a':=?_) #[true,true,true,true,true,true,true,true,true,true,true,true,true,true,true,true,true,true,false,false,false,false,false,false] rfl rfl (Fb HT_.out (by kernel_rfl)) (fun _ _ _ h=>h) (Or.inr ⟨by rfl,rfl⟩) ?_ ?_
        rotate_left
        ·simp only [Act.put,List.setIfInBounds_toArray,List.set_cons_zero,List.set_cons_succ,i64_w,i32_w]
         rfl
        refine pure_ (i:=18) (N:=some 30) (v:=undef) (a':=?_) #[true,true,true,true,true,true,true,true,true,true,true,true,true,true,true,true,true,true,true,false,false,false,false,false] rfl rfl (Fb HT_.out (by kernel_rfl)) (fun _ _ _ h=>h) (Or.inr ⟨by rfl,rfl⟩) ?_ ?_
        rotate_left
        ·simp only [Act.put,List.setIfInBounds_toArray,List.set_cons_zero,List.set_cons_succ,i64_w,i32_w]
         rfl
        refine pure_ (i:=19) (N:=some 31) (v:=undef) (a':=?_) #[true,true,true,true,true,true,true,true,true,true,true,true,true,true,true,true,true,true,true,true,false,false,false,false] rfl rfl (Fb HT_.out (by kernel_rfl)) (fun _ _ _ h=>h) (Or.inr ⟨by rfl,rfl⟩) ?_ ?_
        rotate_left
        ·simp only [Act.put,List.setIfInBounds_toArray,List.set_cons_zero,List.set_cons_succ,i64_w,i32_w]
         rfl
        refine pure_ (i:=20) (N:=some 32) (v:=undef) (a':=?_) #[true,true,true,true,true,true,true,true,true,true,true,true,true,true,true,true,true,true,true,true,true,false,false,false] rfl rfl (Fb HT_.out (by kernel_rfl)) (fun _ _ _ h=>h) (Or.inr ⟨by rfl,rfl⟩) ?_ ?_
        rotate_left
        ·simp only [Act.put,List.setIfInBounds_toArray,List.set_cons_zero,List.set_cons_succ,i64_w,i32_w]
         rfl
        refine pure_ (i:=21) (N:=some 33) (v:=undef) (a':=?_) #[true,true,true,true,true,true,true,true,true,true,true,true,true,true,true,true,true,true,true,true,true,true,false,false] rfl rfl (Fb HT_.out (by kernel_rfl)) (fun _ _ _ h=>h) (Or.inr ⟨by rfl,rfl⟩) ?_ ?_
        rotate_left
        ·simp only [Act.put,List.setIfInBounds_toArray,List.set_cons_zero,List.set_cons_succ,i64_w,i32_w]
         rfl
        refine pure_ (i:=22) (N:=some 34) (v:=undef) (a':=?_) #[true,true,true,true,true,true,true,true,true,true,true,true,true,true,true,true,true,true,true,true,true,true,true,false] rfl rfl (Fb HT_.out (by kernel_rfl)) (fun _ _ _ h=>h) (Or.inr ⟨by rfl,rfl⟩) ?_ ?_
        rotate_left
        ·simp only [Act.put,List.setIfInBounds_toArray,List.set_cons_zero,List.set_cons_succ,i64_w,i32_w]
         rfl
        refine pure_ (i:=23) (N:=some 35) (v:=?_) (a':=?_) #[true,true,true,true,true,true,true,true,true,true,true,true,true,true,true,true,true,true,true,true,true,true,true,true] rfl rfl (Fb HT_.out (by kernel_rfl)) (fun _ _ _ h=>h) (Or.inl ⟨by rfl,?_⟩) ?_ ?_
        rotate_left
        ·intro w'
         go_simp
         with_reducible rfl
        rotate_left
        ·simp only [Act.put,List.setIfInBounds_toArray,List.set_cons_zero,List.set_cons_succ,i64_w,i32_w]
         rfl
        refine done_ (done_of HT_.out (by kernel_rfl)) ?_
        try go_wp2
        go_ret
        exact⟨by first|rfl|(simp [errW_none,errW_some] <;> rfl)|(simp [*,errW_none,errW_some] <;> rfl),by repeat(first|(with_reducible first|exact HB.out|apply Fg|apply Fc|apply Fe|refine below_set ?_ qg.out)|exact HB.out)⟩
      ·replace c6:=Bool.eq_false_iff.mpr c6
       subst c6
       have H1:(some false)=some r:=by rw [if_neg (show ¬ (false=true) by decide)] at H;exact H
       clear H
       have H:=H1
       clear H1
       obtain rfl:=Option.some.inj H
       have qr:0≤(qa:Int):=of_decide_eq_true (by first|(with_reducible assumption)|assumption)
       have qs:qa < (l0.length:Int):=of_decide_eq_true (by first|(with_reducible assumption)|assumption)
       obtain⟨qq,e150,qd,qe,qf⟩:=at_T40 HR0.out qa qr qs
       cases e150
       replace qd:=(HB.out.cell (World.block_lt_of_cell? w _ qd)).trans qd
       replace qe:=(HB.out.cell (World.block_lt_of_cell? w _ qe)).trans qe
       replace qf:=(HB.out.cell (World.block_lt_of_cell? w _ qf)).trans qf
       replace qr:=eq_true qr
       replace qs:=eq_true qs
       try go_wp2_with (first|((with_reducible refine gate_dst (N:=4) rfl ?_);refine box_event ?hg (N:=4) ?hd (cs:=#[.int .i64 0,.int .i64 0,.string (⟨#[]⟩:ByteArray)]) (t:=40) ?hr ?_;(case hd=>rfl);(case hg=>rfl);(case hr=>first|(go_simp;done)|(go_simp;rfl));intro qc hg w34 hbox hb;have ql:=Fa (below_step (by repeat(first|(with_reducible first|exact HB.out|apply Fg|apply Fc|apply Fe)|exact HB.out)) hb);have qm:=Fa (hbox);have n2_:=Fa ((by rw [hg];exact(below_size (by repeat(first|(with_reducible first|exact HB.out|apply Fg|apply Fc|apply Fe)|exact HB.out))):w.heap.size≤qc));have n3_:=Fa ((by rw [hg];exact(below_size (by repeat(first|(with_reducible first|exact HB.out|apply Fg|apply Fc|apply Fe)|exact HB.out))):w.heap.size≤qc));clear HB;have HB:=ql;have qb:=qm;have GW151:=n2_;have qg:=n3_;clear ql qm n2_ n3_;clear hb hbox hg;have hcz35_0:w34.cell? ⟨qc,0,none⟩=some (.int .i64 0):=(Fd qb.out 0).trans rfl;have hcz35_1:w34.cell? ⟨qc,1,none⟩=some (.int .i64 0):=(Fd qb.out 1).trans rfl;have hcz35_2:w34.cell? ⟨qc,2,none⟩=some (.string (⟨#[]⟩:ByteArray)):=(Fd qb.out 2).trans rfl;have hfz35_0:=blk_frozen qb.out 0;have hfz35_1:=blk_frozen qb.out 1;have hfz35_2:=blk_frozen qb.out 2))
       have ql:Aside0 ((((w34.setCell ⟨qc,0,none⟩ (.int .i64 ((rd_T40 l0 qa).f0))).setCell ⟨qc,1,none⟩ (.int .i64 ((rd_T40 l0 qa).f1))).setCell ⟨qc,2,none⟩ (.string ((rd_T40 l0 qa).f2))).heap[qc]? = some (.cells #[.int .i64 ((rd_T40 l0 qa).f0),.int .i64 ((rd_T40 l0 qa).f1),.string ((rd_T40 l0 qa).f2)] 40 (0,0))):=⟨by(with_reducible repeat(first|refine Fi ?_ _|refine Ff ?_|refine Fh ?_ _));refine blk_put (cs:=#[.int .i64 ((rd_T40 l0 qa).f0),.int .i64 ((rd_T40 l0 qa).f1),.string (⟨#[]⟩:ByteArray)]) ?_ 2 _ rfl;(with_reducible repeat(first|refine Fi ?_ _|refine Ff ?_|refine Fh ?_ _));refine blk_put (cs:=#[.int .i64 ((rd_T40 l0 qa).f0),.int .i64 0,.string (⟨#[]⟩:ByteArray)]) ?_ 1 _ rfl;(with_reducible repeat(first|refine Fi ?_ _|refine Ff ?_|refine Fh ?_ _));refine blk_put (cs:=#[.int .i64 0,.int .i64 0,.string (⟨#[]⟩:ByteArray)]) ?_ 0 _ rfl;(with_reducible repeat(first|refine Fi ?_ _|refine Ff ?_|refine Fh ?_ _));exact qb.out⟩
       have qm:Aside0 (Below w.heap.size w (((w34.setCell ⟨qc,0,none⟩ (.int .i64 ((rd_T40 l0 qa).f0))).setCell ⟨qc,1,none⟩ (.int .i64 ((rd_T40 l0 qa).f1))).setCell ⟨qc,2,none⟩ (.string ((rd_T40 l0 qa).f2)))):=⟨by repeat(first|(with_reducible first|exact HB.out|apply Fg|apply Fc|apply Fe|refine below_set ?_ qg.out)|exact HB.out)⟩
       (try clear qb)
       (try clear HB)
       generalize (((w34.setCell ⟨qc,0,none⟩ (.int .i64 ((rd_T40 l0 qa).f0))).setCell ⟨qc,1,none⟩ (.int .i64 ((rd_T40 l0 qa).f1))).setCell ⟨qc,2,none⟩ (.string ((rd_T40 l0 qa).f2)))=w36 at ql qm ⊢
       have qb:=ql
       have HB:=qm
       clear ql qm
       have ql:=Fa (Ff qb.out)
       have qm:=Fa (Fe HB.out)
       clear qb
       clear HB
       have qb:=ql
       have HB:=qm
       clear ql qm
       refine start_ (n:=24) (S:=fun w'=>w'.cell? ⟨qc,0,none⟩=some (.int .i64 ((rd_T40 l0 qa).f0))∧w'.cell? ⟨qc,1,none⟩=some (.int .i64 ((rd_T40 l0 qa).f1))∧w'.cell? ⟨qc,2,none⟩=some (.string ((rd_T40 l0 qa).f2))) (ds:=[]) #[false,false,false,false,false,false,false,false,false,false,false,false,false,false,false,false,false,false,false,false,false,false,false,false] (by kernel_rfl) rfl rfl ⟨(Fd qb.out 0).trans rfl,(Fd qb.out 1).trans rfl,(Fd qb.out 2).trans rfl⟩ (fun hHeld=>?_);refine with_tabW impl_TitlesOk.tab4 impl_TitlesOk.bits4 (fun HT_ HW_=>?_)
       generalize w36.drew=w37 at qb HB hHeld ⊢
       refine take_ (i:=0) (N:=some 12) (v:=?_) (a':=?_) #[true,false,false,false,false,false,false,false,false,false,false,false,false,false,false,false,false,false,false,false,false,false,false,false] rfl rfl (take_ofW HT_.out HW_.out (by kernel_rfl)) (fun _ _ _ h=>h) (Or.inl ⟨by rfl,?_⟩) hHeld ?_ ?_
       rotate_left
       ·rintro w' ⟨s0,s1,s2⟩
        go_simp
        with_reducible rfl
       rotate_left
       ·simp only [Act.put,List.setIfInBounds_toArray,List.set_cons_zero,List.set_cons_succ,i64_w,i32_w]
        rfl
       refine one_ (i:=1) (N:=some 13) #[true,true,false,false,false,false,false,false,false,false,false,false,false,false,false,false,false,false,false,false,false,false,false,false] rfl rfl (one_of HT_.out (by kernel_rfl)) (by decide) (fun K hK=>?_)
       refine goes_ Tryd.func39 (by kernel_rfl) rfl #[.agg #[.int .i64 ((rd_T40 l0 qa).f0),.int .i64 ((rd_T40 l0 qa).f1),.string ((rd_T40 l0 qa).f2)]] (by rfl) rfl rfl (by(try simp only [List.map_toArray,List.map_cons,List.map_nil]);first|done|rfl|(simp only [List.length_drop,List.length_take];rfl)) ?_
       with_reducible refine(impl_Title_timesOk.calls ((rd_T40 l0 qa).f0) ((rd_T40 l0 qa).f1) ((rd_T40 l0 qa).f2) false _ A5.out).mono ?_
       rintro e w38 ⟨rfl,hb⟩
       refine⟨_,rfl,?_⟩
       have ql:=Fa (blk_below (g:=qc) (o:=.cells #[.int .i64 ((rd_T40 l0 qa).f0),.int .i64 ((rd_T40 l0 qa).f1),.string ((rd_T40 l0 qa).f2)] 40 (0,0)) (by(with_reducible repeat(first|refine Fi ?_ _|refine Ff ?_|refine Fh ?_ _));exact qb.out) hb)
       have qm:=Fa (below_step (by repeat(first|(with_reducible first|exact HB.out|apply Fg|apply Fc|apply Fe|refine below_set ?_ qg.out)|exact HB.out)) hb)
       clear qb
       clear HB
       have qb:=ql
       have HB:=qm
       clear ql qm
       (try clear hb)
       (try clear hb2)
       (try clear hk)
       (try clear hi)
       refine hK.out _ _ ⟨(Fd qb.out 0).trans rfl,(Fd qb.out 1).trans rfl,(Fd qb.out 2).trans rfl⟩ (fun hHeld=>?_)
       clear hK K
       refine norm_ (a':=?_) ?_ ?_
       rotate_left
       ·show Act.put _ (some 13) _=_
        simp only [Act.put,List.setIfInBounds_toArray,List.set_cons_zero,List.set_cons_succ,i64_w,i32_w]
        rfl
       refine pure_ (i:=2) (N:=some 14) (v:=?_) (a':=?_) #[true,true,true,false,false,false,false,false,false,false,false,false,false,false,false,false,false,false,false,false,false,false,false,false] rfl rfl (Fb HT_.out (by kernel_rfl)) (fun _ _ _ h=>h) (Or.inl ⟨by rfl,?_⟩) ?_ ?_
       rotate_left
       ·intro w'
        go_simp
        with_reducible rfl
       rotate_left
       ·simp only [Act.put,List.setIfInBounds_toArray,List.set_cons_zero,List.set_cons_succ,i64_w,i32_w]
        rfl
       refine pure_ (i:=3) (N:=some 15) (v:=?_) (a':=?_) #[true,true,true,true,false,false,false,false,false,false,false,false,false,false,false,false,false,false,false,false,false,false,false,false] rfl rfl (Fb HT_.out (by kernel_rfl)) (fun _ _ _ h=>h) (Or.inl ⟨by rfl,?_⟩) ?_ ?_
       rotate_left
       ·intro w'
        go_simp
        with_reducible rfl
       rotate_left
       ·simp only [Act.put,List.setIfInBounds_toArray,List.set_cons_zero,List.set_cons_succ,i64_w,i32_w]
        rfl
       refine pure_ (i:=4) (N:=some 16) (v:=undef) (a':=?_) #[true,true,true,true,true,false,false,false,false,false,false,false,false,false,false,false,false,false,false,false,false,false,false,false] rfl rfl (Fb HT_.out (by kernel_rfl)) (fun _ _ _ h=>h) (Or.inr ⟨by rfl,rfl⟩) ?_ ?_
       rotate_left
       ·simp only [Act.put,List.setIfInBounds_toArray,List.set_cons_zero,List.set_cons_succ,i64_w,i32_w]
        rfl
       refine pure_ (i:=5) (N:=some 17) (v:=undef) (a':=?_) #[true,true,true,true,true,true,false,false,false,false,false,false,false,false,false,false,false,false,false,false,false,false,false,false] rfl rfl (Fb HT_.out (by kernel_rfl)) (fun _ _ _ h=>h) (Or.inr ⟨by rfl,rfl⟩) ?_ ?_
       rotate_left
       ·simp only [Act.put,List.setIfInBounds_toArray,List.set_cons_zero,List.set_cons_succ,i64_w,i32_w]
        rfl
       refine pure_ (i:=6) (N:=some 18) (v:=undef) (a':=?_) #[true,true,true,true,true,true,true,false,false,false,false,false,false,false,false,false,false,false,false,false,false,false,false,false] rfl rfl (Fb HT_.out (by kernel_rfl)) (fun _ _ _ h=>h) (Or.inr ⟨by rfl,rfl⟩) ?_ ?_
       rotate_left
       ·simp only [Act.put,List.setIfInBounds_toArray,List.set_cons_zero,List.set_cons_succ,i64_w,i32_w]
        rfl
       refine pure_ (i:=7) (N:=some 19) (v:=undef) (a':=?_) #[true,true,true,true,true,true,true,true,false,false,false,false,false,false,false,false,false,false,false,false,false,false,false,false] rfl rfl (Fb HT_.out (by kernel_rfl)) (fun _ _ _ h=>h) (Or.inr ⟨by rfl,rfl⟩) ?_ ?_
       rotate_left
       ·simp only [Act.put,List.setIfInBounds_toArray,List.set_cons_zero,List.set_cons_succ,i64_w,i32_w]
        rfl
       refine pure_ (i:=8) (N:=some 20) (v:=?_) (a':=?_) #[true,true,true,true,true,true,true,true,true,false,false,false,false,false,false,false,false,false,false,false,false,false,false,false] rfl rfl (Fb HT_.out (by kernel_rfl)) (fun _ _ _ h=>h) (Or.inl ⟨by rfl,?_⟩) ?_ ?_
       rotate_left
       ·intro w'
        go_simp
        with_reducible rfl
       rotate_left
       ·simp only [Act.put,List.setIfInBounds_toArray,List.set_cons_zero,List.set_cons_succ,i64_w,i32_w]
        rfl
       refine pure_ (i:=9) (N:=some 21) (v:=?_) (a':=?_) #[true,true,true,true,true,true,true,true,true,true,false,false,false,false,false,false,false,false,false,false,false,false,false,false] rfl rfl (Fb HT_.out (by kernel_rfl)) (fun _ _ _ h=>h) (Or.inl ⟨by rfl,?_⟩) ?_ ?_
       rotate_left
       ·intro w'
        go_simp
        with_reducible rfl
       rotate_left
       ·simp only [Act.put,List.setIfInBounds_toArray,List.set_cons_zero,List.set_cons_succ,i64_w,i32_w]
        rfl
       refine pure_ (i:=10) (N:=some 22) (v:=undef) (a':=?_) #[true,true,true,true,true,true,true,true,true,true,true,false,false,false,false,false,false,false,false,false,false,false,false,false] rfl rfl (Fb HT_.out (by kernel_rfl)) (fun _ _ _ h=>h) (Or.inr ⟨by rfl,rfl⟩) ?_ ?_
       rotate_left
       ·simp only [Act.put,List.setIfInBounds_toArray,List.set_cons_zero,List.set_cons_succ,i64_w,i32_w]
        rfl
       refine pure_ (i:=11) (N:=some 23) (v:=undef) (a':=?_) #[true,true,true,true,true,true,true,true,true,true,true,true,false,false,false,false,false,false,false,false,false,false,false,false] rfl rfl (Fb HT_.out (by kernel_rfl)) (fun _ _ _ h=>h) (Or.inr ⟨by rfl,rfl⟩) ?_ ?_
       rotate_left
       ·simp only [Act.put,List.setIfInBounds_toArray,List.set_cons_zero,List.set_cons_succ,i64_w,i32_w]
        rfl
       refine pure_ (i:=12) (N:=some 24) (v:=undef) (a':=?_) #[true,true,true,true,true,true,true,true,true,true,true,true,true,false,false,false,false,false,false,false,false,false,false,false] rfl rfl (Fb HT_.out (by kernel_rfl)) (fun _ _ _ h=>h) (Or.inr ⟨by rfl,rfl⟩) ?_ ?_
       rotate_left
       ·simp only [Act.put,List.setIfInBounds_toArray,List.set_cons_zero,List.set_cons_succ,i64_w,i32_w]
        rfl
       refine pure_ (i:=13) (N:=some 25) (v:=undef) (a':=?_) #[true,true,true,true,true,true,true,true,true,true,true,true,true,true,false,false,false,false,false,false,false,false,false,false] rfl rfl (Fb HT_.out (by kernel_rfl)) (fun _ _ _ h=>h) (Or.inr ⟨by rfl,rfl⟩) ?_ ?_
       rotate_left
       ·simp only [Act.put,List.setIfInBounds_toArray,List.set_cons_zero,List.set_cons_succ,i64_w,i32_w]
        rfl
       refine pure_ (i:=14) (N:=some 26) (v:=undef) (a':=?_) #[true,true,true,true,true,true,true,true,true,true,true,true,true,true,true,false,false,false,false,false,false,false,false,false] rfl rfl (Fb HT_.out (by kernel_rfl)) (fun _ _ _ h=>h) (Or.inr ⟨by rfl,rfl⟩) ?_ ?_
       rotate_left
       ·simp only [Act.put,List.setIfInBounds_toArray,List.set_cons_zero,List.set_cons_succ,i64_w,i32_w]
        rfl
       refine pure_ (i:=15) (N:=some 27) (v:=undef) (a':=?_) #[true,true,true,true,true,true,true,true,true,true,true,true,true,true,true,true,false,false,false,false,false,false,false,false] rfl rfl (Fb HT_.out (by kernel_rfl)) (fun _ _ _ h=>h) (Or.inr ⟨by rfl,rfl⟩) ?_ ?_
       rotate_left
       ·simp only [Act.put,List.setIfInBounds_toArray,List.set_cons_zero,List.set_cons_succ,i64_w,i32_w]
        rfl
       refine pure_ (i:=16) (N:=some 28) (v:=undef) (a':=?_) #[true,true,true,true,true,true,true,true,true,true,true,true,true,true,true,true,true,false,false,false,false,false,false,false] rfl rfl (Fb HT_.out (by kernel_rfl)) (fun _ _ _ h=>h) (Or.inr ⟨by rfl,rfl⟩) ?_ ?_
       rotate_left
       ·simp only [Act.put,List.setIfInBounds_toArray,List.set_cons_zero,List.set_cons_succ,i64_w,i32_w]
        rfl
       refine pure_ (i:=17) (N:=some 29) (v:=undef) (a':=?_) #[true,true,true,true,true,true,true,true,true,true,true,true,true,true,true,true,true,true,false,false,false,false,false,false] rfl rfl (Fb HT_.out (by kernel_rfl)) (fun _ _ _ h=>h) (Or.inr ⟨by rfl,rfl⟩) ?_ ?_
       rotate_left
       ·simp only [Act.put,List.setIfInBounds_toArray,List.set_cons_zero,List.set_cons_succ,i64_w,i32_w]
        rfl
       refine pure_ (i:=18) (N:=some 30) (v:=undef) (a':=?_) #[true,true,true,true,true,true,true,true,true,true,true,true,true,true,true,true,true,true,true,false,false,false,false,false] rfl rfl (Fb HT_.out (by kernel_rfl)) (fun _ _ _ h=>h) (Or.inr ⟨by rfl,rfl⟩) ?_ ?_
       rotate_left
       ·simp only [Act.put,List.setIfInBounds_toArray,List.set_cons_zero,List.set_cons_succ,i64_w,i32_w]
        rfl
       refine pure_ (i:=19) (N:=some 31) (v:=undef) (a':=?_) #[true,true,true,true,true,true,true,true,true,true,true,true,true,true,true,true,true,true,true,true,false,false,false,false] rfl rfl (Fb HT_.out (by kernel_rfl)) (fun _ _ _ h=>h) (Or.inr ⟨by rfl,rfl⟩) ?_ ?_
       rotate_left
       ·simp only [Act.put,List.setIfInBounds_toArray,List.set_cons_zero,List.set_cons_succ,i64_w,i32_w]
        rfl
       refine pure_ (i:=20) (N:=some 32) (v:=undef) (a':=?_) #[true,true,true,true,true,true,true,true,true,true,true,true,true,true,true,true,true,true,true,true,true,false,false,false] rfl rfl (Fb HT_.out (by kernel_rfl)) (fun _ _ _ h=>h) (Or.inr ⟨by rfl,rfl⟩) ?_ ?_
       rotate_left
       ·simp only [Act.put,List.setIfInBounds_toArray,List.set_cons_zero,List.set_cons_succ,i64_w,i32_w]
        rfl
       refine pure_ (i:=21) (N:=some 33) (v:=undef) (a':=?_) #[true,true,true,true,true,true,true,true,true,true,true,true,true,true,true,true,true,true,true,true,true,true,false,false] rfl rfl (Fb HT_.out (by kernel_rfl)) (fun _ _ _ h=>h) (Or.inr ⟨by rfl,rfl⟩) ?_ ?_
       rotate_left
       ·simp only [Act.put,List.setIfInBounds_toArray,List.set_cons_zero,List.set_cons_succ,i64_w,i32_w]
        rfl
       refine pure_ (i:=22) (N:=some 34) (v:=undef) (a':=?_) #[true,true,true,true,true,true,true,true,true,true,true,true,true,true,true,true,true,true,true,true,true,true,true,false] rfl rfl (Fb HT_.out (by kernel_rfl)) (fun _ _ _ h=>h) (Or.inr ⟨by rfl,rfl⟩) ?_ ?_
       rotate_left
       ·simp only [Act.put,List.setIfInBounds_toArray,List.set_cons_zero,List.set_cons_succ,i64_w,i32_w]
        rfl
       refine pure_ (i:=23) (N:=some 35) (v:=?_) (a':=?_) #[true,true,true,true,true,true,true,true,true,true,true,true,true,true,true,true,true,true,true,true,true,true,true,true] rfl rfl (Fb HT_.out (by kernel_rfl)) (fun _ _ _ h=>h) (Or.inl ⟨by rfl,?_⟩) ?_ ?_
       rotate_left
       ·intro w'
        go_simp
        with_reducible rfl
       rotate_left
       ·simp only [Act.put,List.setIfInBounds_toArray,List.set_cons_zero,List.set_cons_succ,i64_w,i32_w]
        rfl
       refine done_ (done_of HT_.out (by kernel_rfl)) ?_
       try go_wp2
       go_ret
       exact⟨by first|rfl|(simp [errW_none,errW_some] <;> rfl)|(simp [*,errW_none,errW_some] <;> rfl),by repeat(first|(with_reducible first|exact HB.out|apply Fg|apply Fc|apply Fe|refine below_set ?_ qg.out)|exact HB.out)⟩
     ·rw [if_neg c4] at H
      exact absurd H (by simp)
    ·rw [if_neg c3] at H
     exact absurd H (by simp)
   ·rw [if_neg c2] at H
    have c2b0:decide (qa < (l0.length:Int))=false:=decide_eq_false c2
    clear c2
    obtain rfl:=Option.some.inj H
    go_wp2
    go_ret
    exact⟨by first|rfl|(simp [errW_none,errW_some] <;> rfl)|(simp [*,errW_none,errW_some] <;> rfl),by repeat(first|(with_reducible first|exact HB.out|apply Fg|apply Fc|apply Fe)|exact HB.out)⟩

end Go.Proofs.YtidogkjhjmcliaaDoor.HFnExactShowTitles
