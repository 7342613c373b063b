-- Laid by myprint.py, a program of this repo, out of the kit's printer and this repo's own texts (wip/hand).
import Derived.Test.YtbdnpfjjaokdbaaHFnDecodedx0
import Derived.Test.YtbdnpfjjaokdbaaHFnDecodedx5
namespace Go.Proofs.Ytbdnpfjjaokdbaa.HFnDecoded
open Go.RowKit Go.Proofs.YtbdnpfjjaokdbaaW.PrintWords Go.Proofs.YtbdnpfjjaokdbaaW.PrintLast Go.Proofs.YtbdnpfjjaokdbaaW.PrintMore
attribute [local go_sem] max2_int min2_int max_two min_two max_three min_three max_four min_four   -- for this text's walks alone
set_option linter.unusedVariables false
set_option linter.unusedSimpArgs false
theorem Ga : type_of% @Aside0.mk := @Aside0.mk

/-! ### impl_Picture_at: function 78 -/
def impl_Picture_at.l0 : Nat → Int → Int → Int → Int → List Int → Int → Int → Int → List Int → Option (List Int)
 | 0, _, _, _, _, _, _, _, _, _ => none
 | k + 1, x2, x3, x9, x10, x11, x22, x195000, x195001, x195002 => if x22 < 16 then (if 0 ≤ (wrap64 ((wrap64 ((mn (mx (wrap64 ((wrap64 (x10 + (wrap64 (Int.tdiv x22 4)))) + x3)) 0) (wrap64 (x195001 - 1))) * x195000)) + (mn (mx (wrap64 ((wrap64 (x9 + (Int.tmod x22 4))) + x2)) 0) (wrap64 (x195000 - 1))))) then (if (wrap64 ((wrap64 ((mn (mx (wrap64 ((wrap64 (x10 + (wrap64 (Int.tdiv x22 4)))) + x3)) 0) (wrap64 (x195001 - 1))) * x195000)) + (mn (mx (wrap64 ((wrap64 (x9 + (Int.tmod x22 4))) + x2)) 0) (wrap64 (x195000 - 1))))) < (x195002.length : Int) then (if x11.length < 17592186044416 then (impl_Picture_at.l0 k x2 x3 x9 x10 (x11 ++ [rd x195002 (wrap64 ((wrap64 ((mn (mx (wrap64 ((wrap64 (x10 + (wrap64 (Int.tdiv x22 4)))) + x3)) 0) (wrap64 (x195001 - 1))) * x195000)) + (mn (mx (wrap64 ((wrap64 (x9 + (Int.tmod x22 4))) + x2)) 0) (wrap64 (x195000 - 1)))))]) (wrap64 (x22 + 1)) x195000 x195001 x195002) else (none)) else (none)) else (none)) else (some x11)
def impl_Picture_at.f (k : Nat) (a0_0 : Int) (a0_1 : Int) (l0_2 : List Int) (a1 : Int) (a2 : Int) (a3 : Int) : Option (List Int) := (impl_Picture_corner.f a0_0 a0_1 l0_2 a1).bind fun bt195 => (impl_Picture_at.l0 k a2 a3 bt195.1 bt195.2 (([] : List Int)) 0 a0_0 a0_1 l0_2)
theorem impl_Picture_at.mono_l : ∀ k, (∀ y0 y1 y2 y3 y4 y5 y6 y7 y8, LeO (impl_Picture_at.l0 k y0 y1 y2 y3 y4 y5 y6 y7 y8) (impl_Picture_at.l0 (k + 1) y0 y1 y2 y3 y4 y5 y6 y7 y8))
 | 0 => fun _ _ _ _ _ _ _ _ _ r h => by simp [impl_Picture_at.l0] at h
 | k + 1 => by
  have ih0:=impl_Picture_at.mono_l k
  ·intro y0 y1 y2 y3 y4 y5 y6 y7 y8
   unfold impl_Picture_at.l0
   repeat' first
   | (with_reducible exact ih0 _ _ _ _ _ _ _ _ _)
   | (with_reducible exact LeO.refl _)
   | (with_reducible exact LeO.none _)
   | (with_reducible refine LeO.ite ?_ ?_)
   | (with_reducible refine LeO.bind ?_ (fun _ => ?_))
   | exact ih0 _ _ _ _ _ _ _ _ _
   | exact LeO.none _
   | refine LeO.ite ?_ ?_
   | refine LeO.bind ?_ (fun _ => ?_)
theorem impl_Picture_at.mono : ∀ a0 a1 a2 a3 a4 a5 k, LeO (impl_Picture_at.f k a0 a1 a2 a3 a4 a5) (impl_Picture_at.f (k + 1) a0 a1 a2 a3 a4 a5) := by
 intro a0 a1 a2 a3 a4 a5 k
 have ih0:=impl_Picture_at.mono_l k
 unfold impl_Picture_at.f
 repeat' first
   | (with_reducible exact ih0 _ _ _ _ _ _ _ _ _)
   | (with_reducible exact LeO.refl _)
   | (with_reducible exact LeO.none _)
   | (with_reducible refine LeO.ite ?_ ?_)
   | (with_reducible refine LeO.bind ?_ (fun _ => ?_))
   | exact ih0 _ _ _ _ _ _ _ _ _
   | exact LeO.none _
   | refine LeO.ite ?_ ?_
   | refine LeO.bind ?_ (fun _ => ?_)
set_option maxHeartbeats 8000000 in
set_option maxRecDepth 100000 in
theorem impl_Picture_at.calls (k : Nat) (a0_0 : Int) (a0_1 : Int) (A0_2 : Option Addr) (c0_2 : Nat) (l0_2 : List Int) (a1 : Int) (a2 : Int) (a3 : Int) (r : List Int) (w : World) (hr0_2 : Kd.C (Kd.int .i64) w A0_2 l0_2.length l0_2) (hc0_2 : l0_2.length ≤ c0_2) (h : impl_Picture_at.f k a0_0 a0_1 l0_2 a1 a2 a3 = some r) :
  Calls Try.prog 78 #[.agg #[.int .i64 a0_0,.int .i64 a0_1,.slice A0_2 l0_2.length c0_2],.int .i64 a1,.int .i64 a2,.int .i64 a3] w fun e w'=>∃ v0_:Value,e=.returned (v0_)∧Kd.R (Kd.int .i64) 2 w' w.heap.size (fun _=>True) v0_ r∧Below w.heap.size w w':=by
 have hu27:=Try.underlying27
 have HR0_2:=Ga hr0_2
 have HC0_2:=Ga hc0_2
 clear hr0_2 hc0_2
 have HB:=Ga (Below.refl w.heap.size w)
 have H:((impl_Picture_corner.f a0_0 a0_1 l0_2 a1).bind fun bt195=>(impl_Picture_at.l0 k a2 a3 bt195.1 bt195.2 (([]:List Int)) 0 a0_0 a0_1 l0_2))=some r:=h
 clear h
 replace H:=Option.bind_eq_some_iff.mp H
 obtain⟨⟨qg,qd⟩,A50,H⟩:=H
 replace H:(impl_Picture_at.l0 k a2 a3 qg qd (([]:List Int)) 0 a0_0 a0_1 l0_2)=some r:=H
 have A5:=Ga A50
 clear A50
 obtain⟨y197,hy197⟩:∃ y_:List Int,y_=(([]:List Int)):=⟨_,rfl⟩
 replace H:(impl_Picture_at.l0 k a2 a3 qg qd y197 0 a0_0 a0_1 l0_2)=some r:=by first|(rw [hy197];with_reducible exact H)|(have H2_:=(Option.bind_some _ _).symm.trans H;rw [hy197];with_reducible exact H2_)|(have H2_:=(Option.bind_some _ _).symm.trans H;with_reducible exact H2_)|with_reducible exact H|(rw [hy197];exact H)|exact H
 have Ny197:=Ga hy197
 clear hy197
 have H':=Ga H
 clear H
 go_enter Try.func78,Try.ntmps78
 go_wp2_with (first|((with_reducible refine gate_dst (N:=4) rfl ?_);refine box_event ?hg (N:=4) ?hd (cs:=#[.int .i64 a0_0,.int .i64 a0_1,.slice A0_2 l0_2.length c0_2]) (t:=27) ?hr ?_;(case hd=>rfl);(case hg=>rfl);(case hr=>first|(go_simp;done)|(go_simp;rfl));intro qe hg w6 hbox hb;have n0_:=Ga (below_step (by repeat(first|(with_reducible first|exact HB.out|apply below_alloc|apply pw_below_drewN|apply below_drew1)|exact HB.out)) hb);have n1_:=Ga (hbox);have n2_:=Ga ((by rw [hg];exact(below_size (by repeat(first|(with_reducible first|exact HB.out|apply below_alloc|apply pw_below_drewN|apply below_drew1)|exact HB.out))):w.heap.size≤qe));have n3_:=Ga ((by rw [hg];exact(below_size (by repeat(first|(with_reducible first|exact HB.out|apply below_alloc|apply pw_below_drewN|apply below_drew1)|exact HB.out))):w.heap.size≤qe));clear HB;have HB:=n0_;have qa:=n1_;have GW194:=n2_;have qh:=n3_;clear n0_ n1_ n2_ n3_;clear hb hbox hg;have hcz7_0:w6.cell? ⟨qe,0,none⟩=some (.int .i64 a0_0):=(blk_cell qa.out 0).trans rfl;have hcz7_1:w6.cell? ⟨qe,1,none⟩=some (.int .i64 a0_1):=(blk_cell qa.out 1).trans rfl;have hcz7_2:w6.cell? ⟨qe,2,none⟩=some (.slice A0_2 l0_2.length c0_2):=(blk_cell qa.out 2).trans rfl;have hfz7_0:=blk_frozen qa.out 0;have hfz7_1:=blk_frozen qa.out 1;have hfz7_2:=blk_frozen qa.out 2)|((with_reducible refine gate_callee (f:=76) rfl ?_);refine goesL_ (some 18) rfl rfl Try.func76 (by kernel_rfl) rfl #[.agg #[.int .i64 a0_0,.int .i64 a0_1,.slice A0_2 l0_2.length c0_2],.int .i64 a1] rfl (by(try simp only [List.map_toArray,List.map_cons,List.map_nil]);first|done|rfl|(simp only [List.length_drop,List.length_take];rfl)) ?_;(with_reducible refine(impl_Picture_corner.calls a0_0 a0_1 _ _ l0_2 a1 qg qd _ ?side1 ?side2 A5.out).mono ?_);(case side1=>repeat(first|exact(Kd.C_below HR0_2.out HB.out)|(with_reducible refine Kd.C_alloc ?_ _)|(with_reducible refine Kd.C_drewN ?_ _)|(with_reducible refine Kd.C_drew ?_)));(case side2=>exact HC0_2.out);rintro e w8 ⟨rfl,hb⟩;refine⟨_,rfl,?_⟩;have n0_:=Ga (blk_below (g:=qe) (o:=.cells #[.int .i64 a0_0,.int .i64 a0_1,.slice A0_2 l0_2.length c0_2] 27 (0,0)) (by(with_reducible repeat(first|refine blk_drewN ?_ _|refine blk_drew ?_|refine blk_alloc ?_ _));exact qa.out) hb);have n1_:=Ga (below_step (by repeat(first|(with_reducible first|exact HB.out|apply below_alloc|apply pw_below_drewN|apply below_drew1|refine below_set ?_ qh.out)|exact HB.out)) hb);clear qa;clear HB;have qa:=n0_;have HB:=n1_;clear n0_ n1_;(try clear hb);(try clear hb2);(try clear hk);(try clear hi))|((with_reducible refine gate_dst (N:=21) rfl ?_);refine Kd.R_lit (Kd.int .i64) _ 2 ?hg (N:=21) ?hd (xs:=([]:List Int)) (inner:=[]) (ok:=fun _=>True) (okp:=fun _=>True) ?hr ?hp (fun _ hk=>hk) trivial (Below.refl _ _) (Nat.le_refl _) (by simp) ?_;(case hd=>rfl);(case hg=>rfl);(case hr=>first|(go_simp;done)|(go_simp;rfl));(case hp=>exact(Reps.none _ _));intro v198 w9 ho10 hb hg_ hnew_;clear hg_ hnew_;(first|rw [← Ny197.out] at ho10|(simp only [Int.reduceToNat] at ho10;rw [← Ny197.out] at ho10));have n0_:=Ga (Kd.R_lower ho10 (below_size (by repeat(first|(with_reducible first|exact HB.out|apply below_alloc|apply pw_below_drewN|apply below_drew1|refine below_set ?_ qh.out)|exact HB.out))));have n1_:=Ga (blk_below (g:=qe) (o:=.cells #[.int .i64 a0_0,.int .i64 a0_1,.slice A0_2 l0_2.length c0_2] 27 (0,0)) (by(with_reducible repeat(first|refine blk_drewN ?_ _|refine blk_drew ?_|refine blk_alloc ?_ _));exact qa.out) hb);have n2_:=Ga (below_step (by repeat(first|(with_reducible first|exact HB.out|apply below_alloc|apply pw_below_drewN|apply below_drew1|refine below_set ?_ qh.out)|exact HB.out)) hb);clear qa;clear HB;have HO199:=n0_;have qa:=n1_;have HB:=n2_;clear n0_ n1_ n2_;clear hb ho10))
 go_loopg [11,22] k (fun kq v11 v22 w'=>∃ (qc:List Int) (qb:Int),v22=.int .i64 qb∧Aside0 (impl_Picture_at.l0 kq a2 a3 qg qd qc qb a0_0 a0_1 l0_2=some r)∧Aside0 (kq≤k)∧Aside0 (Kd.R (Kd.int .i64) 2 w' w.heap.size (fun _=>True) v11 qc)∧Aside0 (w'.heap[qe]? = some (.cells #[.int .i64 a0_0,.int .i64 a0_1,(.slice A0_2 l0_2.length c0_2)] 27 (0,0)))∧Aside0 (Below w.heap.size w w'))
 case atStart=>exact⟨(y197),(0),(by first|rfl|(simp;done)|(simp [*];done)),H',⟨Nat.le_refl _⟩,⟨by(with_reducible repeat(first|apply Kd.R_alloc|apply Kd.R_drewN|apply Kd.R_drew));exact HO199.out⟩,⟨by(with_reducible repeat(first|refine blk_drewN ?_ _|refine blk_drew ?_|refine blk_alloc ?_ _));exact qa.out⟩,⟨by repeat(first|(with_reducible first|exact HB.out|apply below_alloc|apply pw_below_drewN|apply below_drew1|refine below_set ?_ qh.out)|exact HB.out)⟩⟩
 case round=>
  clear H'
  try clear p2
  try clear c7
  try clear hcz7_0
  try clear hcz7_1
  try clear hcz7_2
  try clear hfz7_0
  try clear hfz7_1
  try clear hfz7_2
  obtain⟨qc,qb,rfl,HA,HK1,HO_11,qa,HB⟩:=hrel
  cases gk with
  | zero => exact absurd HA.out (by simp [impl_Picture_at.l0])
  | succ k1 =>
   have H:=HA.out
   clear HA
   simp only [impl_Picture_at.l0] at H
   by_cases c11:qb < 16
   ·rw [if_pos c11] at H
    have c11b0:decide (qb < 16)=true:=decide_eq_true c11
    clear c11
    obtain⟨ji12,hji12⟩:∃ j_:Int,(mx (wrap64 ((wrap64 (qg+(Int.tmod qb 4)))+a2)) 0)=j_:=⟨_,rfl⟩
    replace H:(if 0≤(wrap64 ((wrap64 ((mn (mx (wrap64 ((wrap64 (qd+(wrap64 (Int.tdiv qb 4))))+a3)) 0) (wrap64 (a0_1 - 1)))*a0_0))+(mn (ji12) (wrap64 (a0_0 - 1))))) then (if (wrap64 ((wrap64 ((mn (mx (wrap64 ((wrap64 (qd+(wrap64 (Int.tdiv qb 4))))+a3)) 0) (wrap64 (a0_1 - 1)))*a0_0))+(mn (ji12) (wrap64 (a0_0 - 1))))) < (l0_2.length:Int) then (if qc.length < 17592186044416 then (impl_Picture_at.l0 k1 a2 a3 qg qd (qc ++ [rd l0_2 (wrap64 ((wrap64 ((mn (mx (wrap64 ((wrap64 (qd+(wrap64 (Int.tdiv qb 4))))+a3)) 0) (wrap64 (a0_1 - 1)))*a0_0))+(mn (ji12) (wrap64 (a0_0 - 1)))))]) (wrap64 (qb+1)) a0_0 a0_1 l0_2) else (none)) else (none)) else (none))=some r:=by first|(rw [hji12] at H;exact H)|(simp only [hji12] at H ⊢;exact H)
    have hji12_:(if (wrap64 ((wrap64 (qg+(Int.tmod qb 4)))+a2)) < 0 then 0 else (wrap64 ((wrap64 (qg+(Int.tmod qb 4)))+a2)))=ji12:=hji12
    obtain⟨qi,hji13⟩:∃ j_:Int,(mn (ji12) (wrap64 (a0_0 - 1)))=j_:=⟨_,rfl⟩
    replace H:(if 0≤(wrap64 ((wrap64 ((mn (mx (wrap64 ((wrap64 (qd+(wrap64 (Int.tdiv qb 4))))+a3)) 0) (wrap64 (a0_1 - 1)))*a0_0))+(qi))) then (if (wrap64 ((wrap64 ((mn (mx (wrap64 ((wrap64 (qd+(wrap64 (Int.tdiv qb 4))))+a3)) 0) (wrap64 (a0_1 - 1)))*a0_0))+(qi))) < (l0_2.length:Int) then (if qc.length < 17592186044416 then (impl_Picture_at.l0 k1 a2 a3 qg qd (qc ++ [rd l0_2 (wrap64 ((wrap64 ((mn (mx (wrap64 ((wrap64 (qd+(wrap64 (Int.tdiv qb 4))))+a3)) 0) (wrap64 (a0_1 - 1)))*a0_0))+(qi)))]) (wrap64 (qb+1)) a0_0 a0_1 l0_2) else (none)) else (none)) else (none))=some r:=by first|(rw [hji13] at H;exact H)|(simp only [hji13] at H ⊢;exact H)
    have hji13_:(if (wrap64 (a0_0 - 1)) < (ji12) then (wrap64 (a0_0 - 1)) else (ji12))=qi:=hji13
    obtain⟨ji14,hji14⟩:∃ j_:Int,(mx (wrap64 ((wrap64 (qd+(wrap64 (Int.tdiv qb 4))))+a3)) 0)=j_:=⟨_,rfl⟩
    replace H:(if 0≤(wrap64 ((wrap64 ((mn (ji14) (wrap64 (a0_1 - 1)))*a0_0))+(qi))) then (if (wrap64 ((wrap64 ((mn (ji14) (wrap64 (a0_1 - 1)))*a0_0))+(qi))) < (l0_2.length:Int) then (if qc.length < 17592186044416 then (impl_Picture_at.l0 k1 a2 a3 qg qd (qc ++ [rd l0_2 (wrap64 ((wrap64 ((mn (ji14) (wrap64 (a0_1 - 1)))*a0_0))+(qi)))]) (wrap64 (qb+1)) a0_0 a0_1 l0_2) else (none)) else (none)) else (none))=some r:=by first|(rw [hji14] at H;exact H)|(simp only [hji14] at H ⊢;exact H)
    have hji14_:(if (wrap64 ((wrap64 (qd+(wrap64 (Int.tdiv qb 4))))+a3)) < 0 then 0 else (wrap64 ((wrap64 (qd+(wrap64 (Int.tdiv qb 4))))+a3)))=ji14:=hji14
    obtain⟨ji15,hji15⟩:∃ j_:Int,(mn (ji14) (wrap64 (a0_1 - 1)))=j_:=⟨_,rfl⟩
    replace H:(if 0≤(wrap64 ((wrap64 ((ji15)*a0_0))+(qi))) then (if (wrap64 ((wrap64 ((ji15)*a0_0))+(qi))) < (l0_2.length:Int) then (if qc.length < 17592186044416 then (impl_Picture_at.l0 k1 a2 a3 qg qd (qc ++ [rd l0_2 (wrap64 ((wrap64 ((ji15)*a0_0))+(qi)))]) (wrap64 (qb+1)) a0_0 a0_1 l0_2) else (none)) else (none)) else (none))=some r:=by first|(rw [hji15] at H;exact H)|(simp only [hji15] at H ⊢;exact H)
    have hji15_:(if (wrap64 (a0_1 - 1)) < (ji14) then (wrap64 (a0_1 - 1)) else (ji14))=ji15:=hji15
    obtain⟨qf,hji16⟩:∃ j_:Int,(wrap64 ((wrap64 ((ji15)*a0_0))+(qi)))=j_:=⟨_,rfl⟩
    replace H:(if 0≤(qf) then (if (qf) < (l0_2.length:Int) then (if qc.length < 17592186044416 then (impl_Picture_at.l0 k1 a2 a3 qg qd (qc ++ [rd l0_2 (qf)]) (wrap64 (qb+1)) a0_0 a0_1 l0_2) else (none)) else (none)) else (none))=some r:=by first|(rw [hji16] at H;exact H)|(simp only [hji16] at H ⊢;exact H)
    have hji16w:(IntKind.i64.wrap ((wrap64 ((ji15)*a0_0))+(qi)))=qf:=(i64_w _).trans hji16
    by_cases c17:0≤(qf)
    ·rw [if_pos c17] at H
     have c17b0:decide (0≤(qf))=true:=decide_eq_true c17
     clear c17
     by_cases c18:(qf) < (l0_2.length:Int)
     ·rw [if_pos c18] at H
      have c18b0:decide ((qf) < (l0_2.length:Int))=true:=decide_eq_true c18
      clear c18
      by_cases c19:qc.length < 17592186044416
      ·rw [if_pos c19] at H
       have LMc19:=Ga c19
       clear c19
       obtain⟨y201,hy201⟩:∃ y_:List Int,y_=(qc ++ [rd l0_2 (qf)]):=⟨_,rfl⟩
       replace H:(impl_Picture_at.l0 k1 a2 a3 qg qd y201 (wrap64 (qb+1)) a0_0 a0_1 l0_2)=some r:=by first|(rw [hy201];with_reducible exact H)|(have H2_:=(Option.bind_some _ _).symm.trans H;rw [hy201];with_reducible exact H2_)|(have H2_:=(Option.bind_some _ _).symm.trans H;with_reducible exact H2_)|with_reducible exact H|(rw [hy201];exact H)|exact H
       have Ny201:=Ga hy201
       clear hy201
       have H':=Ga H
       clear H
       have hcz20_0:wr.cell? ⟨qe,0,none⟩=some (.int .i64 a0_0):=(blk_cell qa.out 0).trans rfl
       have hcz20_1:wr.cell? ⟨qe,1,none⟩=some (.int .i64 a0_1):=(blk_cell qa.out 1).trans rfl
       have hcz20_2:wr.cell? ⟨qe,2,none⟩=some (.slice A0_2 l0_2.length c0_2):=(blk_cell qa.out 2).trans rfl
       have hfz20_0:=blk_frozen qa.out 0
       have hfz20_1:=blk_frozen qa.out 1
       have hfz20_2:=blk_frozen qa.out 2
       have p200:0≤((qf):Int):=of_decide_eq_true (by first|(with_reducible assumption)|assumption)
       have q200:(qf) < (l0_2.length:Int):=of_decide_eq_true (by first|(with_reducible assumption)|assumption)
       obtain⟨ad200,e200,hx200_0⟩:=Kd.at_int HR0_2.out (qf) p200 q200
       cases e200
       replace hx200_0:=(HB.out.cell (World.block_lt_of_cell? w _ hx200_0)).trans hx200_0
       replace p200:=eq_true p200
       replace q200:=eq_true q200
       go_wp2_with (first|((with_reducible refine gate_builtin (b:=.append) (xs:=#[.tmp 47,.tmp 58]) rfl ?_);at_builtin;refine Kd.R_append (Kd.int .i64) (w0:=w) w.heap.size rfl (.tmp 47) (.tmp 58) 22 2 (.int .i64 0) 8 rfl Try.underlying22 info2 rfl (by decide) (by omega) u11 qc (rd l0_2 (qf)) [.int .i64 (rd l0_2 (qf))] (fun _=>True) (fun _=>False) rfl rfl ?aP (fun _ hk=>hk.elim) ?aF ?aO ?aB ?aS ?aL ?_;(case aP=>exact rfl);(case aB=>exact(by repeat(first|(with_reducible first|exact HB.out|apply below_alloc|apply pw_below_drewN|apply below_drew1|refine below_set ?_ qh.out)|exact HB.out)));(case aF=>exact(fun _ _=>trivial));(case aO=>exact(by(with_reducible repeat(first|apply Kd.R_alloc|apply Kd.R_drewN|apply Kd.R_drew));exact HO_11.out));(case aS=>exact(below_size (by repeat(first|(with_reducible first|exact HB.out|apply below_alloc|apply pw_below_drewN|apply below_drew1|refine below_set ?_ qh.out)|exact HB.out))));(case aL=>have:=LMc19.out;omega);intro v202 w21 ho hb hg hat;rw [← Ny201.out] at ho;have n0_:=Ga (blk_grown (g:=qe) (o:=.cells #[.int .i64 a0_0,.int .i64 a0_1,.slice (some ad200) l0_2.length c0_2] 27 (0,0)) (by(with_reducible repeat(first|refine blk_drewN ?_ _|refine blk_drew ?_|refine blk_alloc ?_ _));exact qa.out) hg (Kd.R_ne HO_11.out qa.out (by decide)));have n1_:=Ga (hb);have n2_:=Ga (ho);clear qa;clear HB;clear HO_11;have qa:=n0_;have HB:=n1_;have HO203:=n2_;clear n0_ n1_ n2_;clear ho hb hg hat))
       go_roundg k1
       case measure=>have:=HK1.out;omega
       case rel=>exact⟨(y201),(wrap64 (qb+1)),(by first|rfl|(simp;done)|(simp [*];done)),H',⟨by have:=HK1.out;omega⟩,⟨by(with_reducible repeat(first|apply Kd.R_alloc|apply Kd.R_drewN|apply Kd.R_drew));exact HO203.out⟩,⟨by(with_reducible repeat(first|refine blk_drewN ?_ _|refine blk_drew ?_|refine blk_alloc ?_ _));exact qa.out⟩,⟨by repeat(first|(with_reducible first|exact HB.out|apply below_alloc|apply pw_below_drewN|apply below_drew1|refine below_set ?_ qh.out)|exact HB.out)⟩⟩
      ·rw [if_neg c19] at H
       exact absurd H (by simp)
     ·rw [if_neg c18] at H
      exact absurd H (by simp)
    ·rw [if_neg c17] at H
     exact absurd H (by simp)
   ·rw [if_neg c11] at H
    have c11b0:decide (qb < 16)=false:=decide_eq_false c11
    clear c11
    obtain rfl:=Option.some.inj H
    go_wp2
    go_ret
    exact⟨_,by first|rfl|(simp [errW_none,errW_some] <;> rfl)|(simp [*,errW_none,errW_some] <;> rfl),by(with_reducible repeat(first|apply Kd.R_alloc|apply Kd.R_drewN|apply Kd.R_drew));exact HO_11.out,by repeat(first|(with_reducible first|exact HB.out|apply below_alloc|apply pw_below_drewN|apply below_drew1|refine below_set ?_ qh.out)|exact HB.out)⟩

end Go.Proofs.Ytbdnpfjjaokdbaa.HFnDecoded
