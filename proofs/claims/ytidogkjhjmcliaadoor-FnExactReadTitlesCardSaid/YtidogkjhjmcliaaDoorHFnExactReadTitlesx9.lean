-- Laid by myprint.py, a program of this repo, out of the kit's printer and this repo's own texts (wip/hand).
import Derived.Test.YtidogkjhjmcliaaDoorHFnExactReadTitlesx0
import Derived.Test.YtidogkjhjmcliaaDoorHFnExactReadTitlesx8
namespace Go.Proofs.YtidogkjhjmcliaaDoor.HFnExactReadTitles
open Go.RowKit Go.Proofs.YtidogkjhjmcliaaDoorW.PrintWords Go.Proofs.YtidogkjhjmcliaaDoorW.PrintLast Go.Proofs.YtidogkjhjmcliaaDoorW.PrintMore
attribute [local go_sem] max2_int min2_int max_two min_two max_three min_three max_four min_four   -- for this text's walks alone
set_option linter.unusedVariables false
set_option linter.unusedSimpArgs false
theorem Ja : type_of% @Aside0.mk := @Aside0.mk
theorem Jb : type_of% @pw_below_drewN := @pw_below_drewN
theorem Jc : type_of% @below_drew1 := @below_drew1
theorem Jd : type_of% @below_alloc := @below_alloc
theorem Je : type_of% @blk_drew := @blk_drew
theorem Jf : type_of% @blk_alloc := @blk_alloc
theorem Jg : type_of% @blk_drewN := @blk_drewN
theorem Jh : type_of% @below_set := @below_set
theorem Ji : type_of% @blk_frozen := @blk_frozen
theorem Jj : type_of% @below_size := @below_size
theorem Jk : type_of% @blk_cell := @blk_cell
theorem Jl : type_of% @below_step := @below_step

/-! ### impl_ReadTitles: function 12 -/
def impl_ReadTitles.l0 : Nat → ByteArray → List (S40) → Option ((List (S40)) × Int × Int)
 | 0, _, _ => none
 | k + 1, x0, x4 => if x0.toList = ([] : List UInt8) then (some (x4, 0, 0)) else ((impl_readTitle.f k x4 x0).bind fun bt230 => (if bt230.2.2.2.2 = 0 then (if x4.length < 4398046511104 then (impl_ReadTitles.l0 k bt230.2.2.2.1 (x4 ++ [(⟨bt230.1, bt230.2.1, bt230.2.2.1⟩ : S40)])) else (none)) else (some (([] : List (S40)), bt230.2.2.2.2, (x4.length : Int)))))
def impl_ReadTitles.f (k : Nat) (a0 : ByteArray) : Option ((List (S40)) × Int × Int) := if (a0.size : Int) > 40000 then (some (([] : List (S40)), 1, 0)) else (impl_ReadTitles.l0 k a0 (([] : List (S40))))
theorem impl_ReadTitles.mono_l : ∀ k, (∀ y0 y1, LeO (impl_ReadTitles.l0 k y0 y1) (impl_ReadTitles.l0 (k + 1) y0 y1))
 | 0 => fun _ _ r h => by simp [impl_ReadTitles.l0] at h
 | k + 1 => by
  have ih0:=impl_ReadTitles.mono_l k
  ·intro y0 y1
   unfold impl_ReadTitles.l0
   repeat' first
   | (with_reducible exact ih0 _ _)
   | (with_reducible exact impl_readTitle.mono _ _ _)
   | (with_reducible exact LeO.refl _)
   | (with_reducible exact LeO.none _)
   | (with_reducible refine LeO.ite ?_ ?_)
   | (with_reducible refine LeO.bind ?_ (fun _ => ?_))
   | exact ih0 _ _
   | exact impl_readTitle.mono _ _ _
   | exact LeO.none _
   | refine LeO.ite ?_ ?_
   | refine LeO.bind ?_ (fun _ => ?_)
theorem impl_ReadTitles.mono : ∀ a0 k, LeO (impl_ReadTitles.f k a0) (impl_ReadTitles.f (k + 1) a0) := by
 intro a0 k
 have ih0:=impl_ReadTitles.mono_l k
 unfold impl_ReadTitles.f
 repeat' first
   | (with_reducible exact ih0 _ _)
   | (with_reducible exact impl_readTitle.mono _ _ _)
   | (with_reducible exact LeO.refl _)
   | (with_reducible exact LeO.none _)
   | (with_reducible refine LeO.ite ?_ ?_)
   | (with_reducible refine LeO.bind ?_ (fun _ => ?_))
   | exact ih0 _ _
   | exact impl_readTitle.mono _ _ _
   | exact LeO.none _
   | refine LeO.ite ?_ ?_
   | refine LeO.bind ?_ (fun _ => ?_)
set_option maxHeartbeats 8000000 in
set_option maxRecDepth 100000 in
theorem impl_ReadTitles.calls (k : Nat) (a0 : ByteArray) (r1 : List (S40)) (r2 : Int) (r3 : Int) (w : World) (hgl : Glob w) (h : impl_ReadTitles.f k a0 = some (r1, r2, r3)) :
  Calls Tryd.prog 12 #[.string a0] w fun e w'=>∃ v0_:Value,e=.returned (.tuple #[v0_,.agg #[.int .i64 r2,.int .i64 r3]])∧Kd.R k40 40 w' w.heap.size (fun _=>True) v0_ r1∧Below w.heap.size w w':=by
 have HGL:=Ja hgl
 clear hgl
 have hu30:=Tryd.underlying30
 have hu40:=Tryd.underlying40
 have HB:=Ja (Below.refl w.heap.size w)
 have H:(if (a0.size:Int) > 40000 then (some (([]:List (S40)),1,0)) else (impl_ReadTitles.l0 k a0 (([]:List (S40)))))=some (r1,r2,r3):=h
 clear h
 by_cases c2:(a0.size:Int) > 40000
 ·rw [if_pos c2] at H
  have c2b0:decide (40000 < (a0.size:Int))=true:=decide_eq_true c2
  have c2b1:decide (40000 < a0.size)=true:=decide_eq_true (by omega)
  clear c2
  simp only [Option.some.injEq,Prod.mk.injEq] at H
  obtain⟨rfl,rfl,rfl⟩:=H
  go_enter Tryd.func12,Tryd.ntmps12
  go_wp2_with (first|((with_reducible refine gate_dst (N:=3) rfl ?_);refine box_event ?hg (N:=3) ?hd (cs:=#[.int .i64 0,.int .i64 0]) (t:=30) ?hr ?_;(case hd=>rfl);(case hg=>rfl);(case hr=>first|(go_simp;done)|(go_simp;rfl));intro gb226 hg w3 hbox hb;have n0_:=Ja (Jl (by repeat(first|(with_reducible first|exact HB.out|apply Jd|apply Jb|apply Jc)|exact HB.out)) hb);have n1_:=Ja (hbox);have n2_:=Ja ((by rw [hg];exact(Jj (by repeat(first|(with_reducible first|exact HB.out|apply Jd|apply Jb|apply Jc)|exact HB.out))):w.heap.size≤gb226));have n3_:=Ja ((by rw [hg];exact(Jj (by repeat(first|(with_reducible first|exact HB.out|apply Jd|apply Jb|apply Jc)|exact HB.out))):w.heap.size≤gb226));clear HB;have HB:=n0_;have BK226:=n1_;have GW226:=n2_;have GE226:=n3_;clear n0_ n1_ n2_ n3_;clear hb hbox hg;have hcz4_0:w3.cell? ⟨gb226,0,none⟩=some (.int .i64 0):=(Jk BK226.out 0).trans rfl;have hcz4_1:w3.cell? ⟨gb226,1,none⟩=some (.int .i64 0):=(Jk BK226.out 1).trans rfl;have hfz4_0:=Ji BK226.out 0;have hfz4_1:=Ji BK226.out 1))
  refine bodyPost_ret (results_tc rfl _ _ gb226 30 #[.int .i64 1,.int .i64 0] (0,0) _ rfl (by(with_reducible repeat(first|refine Jg ?_ _|refine Je ?_|refine Jf ?_ _));refine blk_put (cs:=#[.int .i64 1,.int .i64 0]) ?_ 1 _ rfl;(with_reducible repeat(first|refine Jg ?_ _|refine Je ?_|refine Jf ?_ _));refine blk_put (cs:=#[.int .i64 0,.int .i64 0]) ?_ 0 _ rfl;(with_reducible repeat(first|refine Jg ?_ _|refine Je ?_|refine Jf ?_ _));exact BK226.out) Tryd.underlying30 rfl (by kernel_rfl)) rfl ?_
  exact⟨_,by first|rfl|(simp [errW_none,errW_some] <;> rfl)|(simp [*,errW_none,errW_some] <;> rfl),by first|exact Kd.R_nil _ _ _ _ _|exact Kd.N_nil _ _ _ _ _|exact Kd.V_nil _ _ _ _ _|exact Kd.Q_nil _ _ _ _ _|exact Kd.S_nil _ _ _ _ _,by repeat(first|(with_reducible first|exact HB.out|apply Jd|apply Jb|apply Jc|refine Jh ?_ GE226.out)|exact HB.out)⟩
 ·rw [if_neg c2] at H
  have c2b0:decide (40000 < (a0.size:Int))=false:=decide_eq_false c2
  have c2b1:decide (40000 < a0.size)=false:=decide_eq_false (by omega)
  clear c2
  obtain⟨y227,hy227⟩:∃ y_:List (S40),y_=(([]:List (S40))):=⟨_,rfl⟩
  replace H:(impl_ReadTitles.l0 k a0 y227)=some (r1,r2,r3):=by first|(rw [hy227];with_reducible exact H)|(have H2_:=(Option.bind_some _ _).symm.trans H;rw [hy227];with_reducible exact H2_)|(have H2_:=(Option.bind_some _ _).symm.trans H;with_reducible exact H2_)|with_reducible exact H|(rw [hy227];exact H)|exact H
  have Ny227:=Ja hy227
  clear hy227
  have H':=Ja H
  clear H
  go_enter Tryd.func12,Tryd.ntmps12
  go_wp2_with (first|((with_reducible refine gate_dst (N:=3) rfl ?_);refine box_event ?hg (N:=3) ?hd (cs:=#[.int .i64 0,.int .i64 0]) (t:=30) ?hr ?_;(case hd=>rfl);(case hg=>rfl);(case hr=>first|(go_simp;done)|(go_simp;rfl));intro gb226 hg w5 hbox hb;have n0_:=Ja (Jl (by repeat(first|(with_reducible first|exact HB.out|apply Jd|apply Jb|apply Jc)|exact HB.out)) hb);have n1_:=Ja (hbox);have n2_:=Ja ((by rw [hg];exact(Jj (by repeat(first|(with_reducible first|exact HB.out|apply Jd|apply Jb|apply Jc)|exact HB.out))):w.heap.size≤gb226));have n3_:=Ja ((by rw [hg];exact(Jj (by repeat(first|(with_reducible first|exact HB.out|apply Jd|apply Jb|apply Jc)|exact HB.out))):w.heap.size≤gb226));clear HB;have HB:=n0_;have BK226:=n1_;have GW226:=n2_;have GE226:=n3_;clear n0_ n1_ n2_ n3_;clear hb hbox hg)|((with_reducible refine gate_dst (N:=12) rfl ?_);refine Kd.R_lit k40 _ 40 ?hg (N:=12) ?hd (xs:=([]:List (S40))) (inner:=[]) (ok:=fun _=>True) (okp:=fun _=>True) ?hr ?hp (fun _ hk=>hk) trivial (Below.refl _ _) (Nat.le_refl _) (by simp) ?_;(case hd=>rfl);(case hg=>rfl);(case hr=>first|(go_simp;done)|(go_simp;rfl));(case hp=>exact(Reps.none _ _));intro v228 w6 ho7 hb hg_ hnew_;clear hg_ hnew_;(first|rw [← Ny227.out] at ho7|(simp only [Int.reduceToNat] at ho7;rw [← Ny227.out] at ho7));have n0_:=Ja (Kd.R_lower ho7 (Jj (by repeat(first|(with_reducible first|exact HB.out|apply Jd|apply Jb|apply Jc|refine Jh ?_ GE226.out)|exact HB.out))));have n1_:=Ja (blk_below (g:=gb226) (o:=.cells #[.int .i64 0,.int .i64 0] 30 (0,0)) (by(with_reducible repeat(first|refine Jg ?_ _|refine Je ?_|refine Jf ?_ _));exact BK226.out) hb);have n2_:=Ja (Jl (by repeat(first|(with_reducible first|exact HB.out|apply Jd|apply Jb|apply Jc|refine Jh ?_ GE226.out)|exact HB.out)) hb);clear BK226;clear HB;have HO229:=n0_;have BK226:=n1_;have HB:=n2_;clear n0_ n1_ n2_;clear hb ho7))
  go_loopg [0,4] k (fun kq v0 v4 w'=>∃ (x0_1:ByteArray) (x4_1:List (S40)) (x227000_1:Int) (x227001_1:Int),v0=.string x0_1∧Aside0 (impl_ReadTitles.l0 kq x0_1 x4_1=some (r1,r2,r3))∧Aside0 (kq≤k)∧Aside0 (Kd.R k40 40 w' w.heap.size (fun _=>True) v4 x4_1)∧Aside0 (w'.heap[gb226]? = some (.cells #[.int .i64 x227000_1,.int .i64 x227001_1] 30 (0,0)))∧Aside0 (Below w.heap.size w w'))
  case atStart=>exact⟨(a0),(y227),(0),(0),(by first|rfl|(simp;done)|(simp [*];done)),H',⟨Nat.le_refl _⟩,⟨by(with_reducible repeat(first|apply Kd.R_alloc|apply Kd.R_drewN|apply Kd.R_drew));exact HO229.out⟩,⟨by(with_reducible repeat(first|refine Jg ?_ _|refine Je ?_|refine Jf ?_ _));exact BK226.out⟩,⟨by repeat(first|(with_reducible first|exact HB.out|apply Jd|apply Jb|apply Jc|refine Jh ?_ GE226.out)|exact HB.out)⟩⟩
  case round=>
   clear H'
   try clear c1
   try clear c2
   try clear c2b0
   try clear c2b1
   try clear p2
   try clear hcz4_0
   try clear hcz4_1
   try clear hfz4_0
   try clear hfz4_1
   obtain⟨x0_1,x4_1,x227000_1,x227001_1,rfl,HA,HK1,HO_4,BK226,HB⟩:=hrel
   cases gk with
   | zero => exact absurd HA.out (by simp [impl_ReadTitles.l0])
   | succ k1 =>
    have H:=HA.out
    clear HA
    simp only [impl_ReadTitles.l0] at H
    by_cases c8:x0_1.toList=([]:List UInt8)
    ·rw [if_pos c8] at H
     have c8b0:(x0_1.toList == ([]:List UInt8))=true:=beq_iff_eq.mpr c8
     have c8b1:(x0_1.toList != ([]:List UInt8))=false:=bne_eq_false_iff_eq.mpr c8
     clear c8
     simp only [Option.some.injEq,Prod.mk.injEq] at H
     obtain⟨rfl,rfl,rfl⟩:=H
     have hcz9_0:wr.cell? ⟨gb226,0,none⟩=some (.int .i64 x227000_1):=(Jk BK226.out 0).trans rfl
     have hcz9_1:wr.cell? ⟨gb226,1,none⟩=some (.int .i64 x227001_1):=(Jk BK226.out 1).trans rfl
     have hfz9_0:=Ji BK226.out 0
     have hfz9_1:=Ji BK226.out 1
     go_wp2
     refine bodyPost_ret (results_tc rfl _ _ gb226 30 #[.int .i64 0,.int .i64 0] (0,0) _ rfl (by(with_reducible repeat(first|refine Jg ?_ _|refine Je ?_|refine Jf ?_ _));refine blk_put (cs:=#[.int .i64 0,.int .i64 x227001_1]) ?_ 1 _ rfl;(with_reducible repeat(first|refine Jg ?_ _|refine Je ?_|refine Jf ?_ _));refine blk_put (cs:=#[.int .i64 x227000_1,.int .i64 x227001_1]) ?_ 0 _ rfl;(with_reducible repeat(first|refine Jg ?_ _|refine Je ?_|refine Jf ?_ _));exact BK226.out) Tryd.underlying30 rfl (by kernel_rfl)) rfl ?_
     exact⟨_,by first|rfl|(simp [errW_none,errW_some] <;> rfl)|(simp [*,errW_none,errW_some] <;> rfl),by(with_reducible repeat(first|apply Kd.R_alloc|apply Kd.R_drewN|apply Kd.R_drew));exact Kd.R_mono (Kd.R_far (p:=⟨gb226,1,none⟩) (Kd.R_far (p:=⟨gb226,0,none⟩) (Kd.R_types HO_4.out BK226.out (by decide)) (fun _ hk=>hk.2) (.int .i64 0)) (fun _ hk=>hk.2) (.int .i64 0)) (fun _ hk=>trivial),by repeat(first|(with_reducible first|exact HB.out|apply Jd|apply Jb|apply Jc|refine Jh ?_ GE226.out)|exact HB.out)⟩
    ·rw [if_neg c8] at H
     have c8b0:(x0_1.toList == ([]:List UInt8))=false:=beq_eq_false_iff_ne.mpr c8
     have c8b1:(x0_1.toList != ([]:List UInt8))=true:=bne_iff_ne.mpr c8
     replace H:=Option.bind_eq_some_iff.mp H
     obtain⟨⟨t230,t231,t232,t233,t234⟩,A100,H⟩:=H
     replace H:(if t234=0 then (if x4_1.length < 4398046511104 then (impl_ReadTitles.l0 k1 t233 (x4_1 ++ [(⟨t230,t231,t232⟩:S40)])) else (none)) else (some (([]:List (S40)),t234,(x4_1.length:Int))))=some (r1,r2,r3):=H
     have A10:=Ja A100
     clear A100
     by_cases c11:t234=0
     ·rw [if_pos c11] at H
      have c11b0:(t234 == 0)=true:=beq_iff_eq.mpr c11
      have c11b1:(t234 != 0)=false:=bne_eq_false_iff_eq.mpr c11
      clear c11
      by_cases c12:x4_1.length < 4398046511104
      ·rw [if_pos c12] at H
       have LMc12:=Ja c12
       clear c12
       obtain⟨y236,hy236⟩:∃ y_:List (S40),y_=(x4_1 ++ [(⟨t230,t231,t232⟩:S40)]):=⟨_,rfl⟩
       replace H:(impl_ReadTitles.l0 k1 t233 y236)=some (r1,r2,r3):=by first|(rw [hy236];with_reducible exact H)|(have H2_:=(Option.bind_some _ _).symm.trans H;rw [hy236];with_reducible exact H2_)|(have H2_:=(Option.bind_some _ _).symm.trans H;with_reducible exact H2_)|with_reducible exact H|(rw [hy236];exact H)|exact H
       have Ny236:=Ja hy236
       clear hy236
       have H':=Ja H
       clear H
       obtain⟨Ao13,co13,eo13⟩:=Kd.R_slice HO_4.out
       subst eo13
       go_wp2_with (first|((with_reducible refine gate_callee (f:=33) rfl ?_);refine goesL_ (some 18) rfl rfl Tryd.func33 (by kernel_rfl) rfl #[.slice Ao13 x4_1.length co13,.string x0_1] rfl (by(try simp only [List.map_toArray,List.map_cons,List.map_nil]);first|done|rfl|(simp only [List.length_drop,List.length_take];rfl)) ?_;(with_reducible refine(impl_readTitle.calls k1 _ _ x4_1 x0_1 t230 t231 t232 t233 t234 _ (by first|exact HGL.out|((repeat(with_reducible refine Glob.drewN ?_));exact HGL.out)|exact Glob.below HGL.out (by repeat(first|(with_reducible first|exact HB.out|apply Jd|apply Jb|apply Jc|refine Jh ?_ GE226.out|refine Jh ?_ GE235.out)|exact HB.out))) ?side1 ?side2 A10.out).mono ?_);(case side1=>repeat(first|exact(Kd.R_reads' HO_4.out).2.2|(with_reducible refine Kd.C_alloc ?_ _)|(with_reducible refine Kd.C_drewN ?_ _)|(with_reducible refine Kd.C_drew ?_)));(case side2=>exact(Kd.R_reads' HO_4.out).2.1);rintro e w14 ⟨rfl,hb⟩;refine⟨_,rfl,?_⟩;have n0_:=Ja (Kd.R_below (by(with_reducible repeat(first|apply Kd.R_alloc|apply Kd.R_drewN|apply Kd.R_drew));exact HO_4.out) hb);have n1_:=Ja (blk_below (g:=gb226) (o:=.cells #[.int .i64 x227000_1,.int .i64 x227001_1] 30 (0,0)) (by(with_reducible repeat(first|refine Jg ?_ _|refine Je ?_|refine Jf ?_ _));exact BK226.out) hb);have n2_:=Ja (Jl (by repeat(first|(with_reducible first|exact HB.out|apply Jd|apply Jb|apply Jc|refine Jh ?_ GE226.out)|exact HB.out)) hb);clear HO_4;clear BK226;clear HB;have HO_4:=n0_;have BK226:=n1_;have HB:=n2_;clear n0_ n1_ n2_;(try clear hb);(try clear hb2);(try clear hk);(try clear hi))|((with_reducible refine gate_dst (N:=5) rfl ?_);refine box_event ?hg (N:=5) ?hd (cs:=#[.int .i64 0,.int .i64 0,.string (⟨#[]⟩:ByteArray)]) (t:=40) ?hr ?_;(case hd=>rfl);(case hg=>rfl);(case hr=>first|(go_simp;done)|(go_simp;rfl));intro gb235 hg w15 hbox hb;have n0_:=Ja (Kd.R_below (Kd.R_elderB (by(with_reducible repeat(first|apply Kd.R_alloc|apply Kd.R_drewN|apply Kd.R_drew));exact HO_4.out) gb235 (Nat.le_of_eq hg.symm)) hb);have n1_:=Ja (blk_below (g:=gb226) (o:=.cells #[.int .i64 x227000_1,.int .i64 x227001_1] 30 (0,0)) (by(with_reducible repeat(first|refine Jg ?_ _|refine Je ?_|refine Jf ?_ _));exact BK226.out) hb);have n2_:=Ja (Jl (by repeat(first|(with_reducible first|exact HB.out|apply Jd|apply Jb|apply Jc|refine Jh ?_ GE226.out)|exact HB.out)) hb);have n3_:=Ja (hbox);have n4_:=Ja ((by rw [hg];exact(Jj (by repeat(first|(with_reducible first|exact HB.out|apply Jd|apply Jb|apply Jc|refine Jh ?_ GE226.out)|exact HB.out))):w.heap.size≤gb235));have n5_:=Ja ((by rw [hg];exact(Jj (by repeat(first|(with_reducible first|exact HB.out|apply Jd|apply Jb|apply Jc|refine Jh ?_ GE226.out)|exact HB.out))):w.heap.size≤gb235));have n6_:=Ja ((by rw [hg];exact Nat.ne_of_lt (blk_lt (g:=gb226) (o:=.cells #[.int .i64 x227000_1,.int .i64 x227001_1] 30 (0,0)) (by(with_reducible repeat(first|refine Jg ?_ _|refine Je ?_|refine Jf ?_ _));exact BK226.out)):gb226≠gb235));have n7_:=Ja ((by rw [hg];exact Nat.ne_of_gt (blk_lt (g:=gb226) (o:=.cells #[.int .i64 x227000_1,.int .i64 x227001_1] 30 (0,0)) (by(with_reducible repeat(first|refine Jg ?_ _|refine Je ?_|refine Jf ?_ _));exact BK226.out)):gb235≠gb226));clear HO_4;clear BK226;clear HB;have HO_4:=n0_;have BK226:=n1_;have HB:=n2_;have BK235:=n3_;have GW235:=n4_;have GE235:=n5_;have NB226_235:=n6_;have NB235_226:=n7_;clear n0_ n1_ n2_ n3_ n4_ n5_ n6_ n7_;clear hb hbox hg;have hnb16:=NB235_226.out;have hnc16:=NB226_235.out;have hcz17_0:w15.cell? ⟨gb235,0,none⟩=some (.int .i64 0):=(Jk BK235.out 0).trans rfl;have hcz17_1:w15.cell? ⟨gb235,1,none⟩=some (.int .i64 0):=(Jk BK235.out 1).trans rfl;have hcz17_2:w15.cell? ⟨gb235,2,none⟩=some (.string (⟨#[]⟩:ByteArray)):=(Jk BK235.out 2).trans rfl;have hfz17_0:=Ji BK235.out 0;have hfz17_1:=Ji BK235.out 1;have hfz17_2:=Ji BK235.out 2)|((with_reducible refine gate_builtin (b:=.append) (xs:=#[.tmp 28,.tmp 30]) rfl ?_);at_builtin;refine Kd.R_append k40 (w0:=w) w.heap.size rfl (.tmp 28) (.tmp 30) 25 40 (.agg #[(.int .i64 0),(.int .i64 0),(.string ⟨#[]⟩)]) 32 rfl Tryd.underlying25 info40 rfl (by decide) (by omega) (.slice Ao13 x4_1.length co13) x4_1 (⟨t230,t231,t232⟩:S40) [.int .i64 t230,.int .i64 t231,.string t232] (fun k_=>k_≠gb235) (fun _=>False) rfl (by first|(go_simp;done)|(go_simp;rfl)) ?aP (fun _ hk=>hk.elim) ?aF ?aO ?aB ?aS ?aL ?_;(case aP=>exact k40_mkM _ _ _ (⟨t230,t231,t232⟩:S40));(case aB=>exact(by repeat(first|(with_reducible first|exact HB.out|apply Jd|apply Jb|apply Jc|refine Jh ?_ GE226.out|refine Jh ?_ GE235.out)|exact HB.out)));(case aF=>exact(fun k_ hk=>Kd.freshB (g:=gb235) (o:=.cells #[.int .i64 t230,.int .i64 t231,.string t232] 40 (0,0)) (by(with_reducible repeat(first|refine Jg ?_ _|refine Je ?_|refine Jf ?_ _));refine blk_put (cs:=#[.int .i64 t230,.int .i64 t231,.string (⟨#[]⟩:ByteArray)]) ?_ 2 _ rfl;(with_reducible repeat(first|refine Jg ?_ _|refine Je ?_|refine Jf ?_ _));refine blk_put (cs:=#[.int .i64 t230,.int .i64 0,.string (⟨#[]⟩:ByteArray)]) ?_ 1 _ rfl;(with_reducible repeat(first|refine Jg ?_ _|refine Je ?_|refine Jf ?_ _));refine blk_put (cs:=#[.int .i64 0,.int .i64 0,.string (⟨#[]⟩:ByteArray)]) ?_ 0 _ rfl;(with_reducible repeat(first|refine Jg ?_ _|refine Je ?_|refine Jf ?_ _));exact BK235.out) k_ hk));(case aO=>exact(by(with_reducible repeat(first|apply Kd.R_alloc|apply Kd.R_drewN|apply Kd.R_drew));exact Kd.R_mono (Kd.R_far (p:=⟨gb235,2,none⟩) (Kd.R_far (p:=⟨gb235,1,none⟩) (Kd.R_far (p:=⟨gb235,0,none⟩) (Kd.R_mono HO_4.out (fun k_ hk=>(⟨hk,hk.2⟩:_∧k_≠gb235))) (fun _ hk=>hk.2) (.int .i64 t230)) (fun _ hk=>hk.2) (.int .i64 t231)) (fun _ hk=>hk.2) (.string t232)) (fun _ hk=>hk.1.2)));(case aS=>exact(Jj (by repeat(first|(with_reducible first|exact HB.out|apply Jd|apply Jb|apply Jc|refine Jh ?_ GE226.out|refine Jh ?_ GE235.out)|exact HB.out))));(case aL=>have:=LMc12.out;omega);intro v237 w18 ho hb hg hat;rw [← Ny236.out] at ho;have n0_:=Ja (blk_grown (g:=gb226) (o:=.cells #[.int .i64 x227000_1,.int .i64 x227001_1] 30 (0,0)) (by(with_reducible repeat(first|refine Jg ?_ _|refine Je ?_|refine Jf ?_ _));refine blk_far ?_ NB226_235.out _;(with_reducible repeat(first|refine Jg ?_ _|refine Je ?_|refine Jf ?_ _));refine blk_far ?_ NB226_235.out _;(with_reducible repeat(first|refine Jg ?_ _|refine Je ?_|refine Jf ?_ _));refine blk_far ?_ NB226_235.out _;(with_reducible repeat(first|refine Jg ?_ _|refine Je ?_|refine Jf ?_ _));exact BK226.out) hg (Kd.R_ne HO_4.out BK226.out (by decide)));have n1_:=Ja (blk_grown (g:=gb235) (o:=.cells #[.int .i64 t230,.int .i64 t231,.string t232] 40 (0,0)) (by(with_reducible repeat(first|refine Jg ?_ _|refine Je ?_|refine Jf ?_ _));refine blk_put (cs:=#[.int .i64 t230,.int .i64 t231,.string (⟨#[]⟩:ByteArray)]) ?_ 2 _ rfl;(with_reducible repeat(first|refine Jg ?_ _|refine Je ?_|refine Jf ?_ _));refine blk_put (cs:=#[.int .i64 t230,.int .i64 0,.string (⟨#[]⟩:ByteArray)]) ?_ 1 _ rfl;(with_reducible repeat(first|refine Jg ?_ _|refine Je ?_|refine Jf ?_ _));refine blk_put (cs:=#[.int .i64 0,.int .i64 0,.string (⟨#[]⟩:ByteArray)]) ?_ 0 _ rfl;(with_reducible repeat(first|refine Jg ?_ _|refine Je ?_|refine Jf ?_ _));exact BK235.out) hg (Kd.R_away HO_4.out (fun _ hk=>hk.2)));have n2_:=Ja (hb);have n3_:=Ja (ho);clear BK226;clear BK235;clear HB;clear HO_4;have BK226:=n0_;have BK235:=n1_;have HB:=n2_;have HO238:=n3_;clear n0_ n1_ n2_ n3_;clear ho hb hg hat))
       go_roundg k1
       case measure=>have:=HK1.out;omega
       case rel=>exact⟨(t233),(y236),(x227000_1),(x227001_1),(by first|rfl|(simp;done)|(simp [*];done)),H',⟨by have:=HK1.out;omega⟩,⟨by(with_reducible repeat(first|apply Kd.R_alloc|apply Kd.R_drewN|apply Kd.R_drew));exact Kd.R_mono HO238.out (fun _ hk=>trivial)⟩,⟨by(with_reducible repeat(first|refine Jg ?_ _|refine Je ?_|refine Jf ?_ _));exact BK226.out⟩,⟨by repeat(first|(with_reducible first|exact HB.out|apply Jd|apply Jb|apply Jc|refine Jh ?_ GE226.out|refine Jh ?_ GE235.out)|exact HB.out)⟩⟩
      ·rw [if_neg c12] at H
       exact absurd H (by simp)
     ·rw [if_neg c11] at H
      have c11b0:(t234 == 0)=false:=beq_eq_false_iff_ne.mpr c11
      have c11b1:(t234 != 0)=true:=bne_iff_ne.mpr c11
      simp only [Option.some.injEq,Prod.mk.injEq] at H
      obtain⟨rfl,rfl,rfl⟩:=H
      obtain⟨Ao19,co19,eo19⟩:=Kd.R_slice HO_4.out
      subst eo19
      go_wp2_with (first|((with_reducible refine gate_callee (f:=33) rfl ?_);refine goesL_ (some 18) rfl rfl Tryd.func33 (by kernel_rfl) rfl #[.slice Ao19 x4_1.length co19,.string x0_1] rfl (by(try simp only [List.map_toArray,List.map_cons,List.map_nil]);first|done|rfl|(simp only [List.length_drop,List.length_take];rfl)) ?_;(with_reducible refine(impl_readTitle.calls k1 _ _ x4_1 x0_1 t230 t231 t232 t233 t234 _ (by first|exact HGL.out|((repeat(with_reducible refine Glob.drewN ?_));exact HGL.out)|exact Glob.below HGL.out (by repeat(first|(with_reducible first|exact HB.out|apply Jd|apply Jb|apply Jc|refine Jh ?_ GE226.out|refine Jh ?_ GE235.out)|exact HB.out))) ?side1 ?side2 A10.out).mono ?_);(case side1=>repeat(first|exact(Kd.R_reads' HO_4.out).2.2|(with_reducible refine Kd.C_alloc ?_ _)|(with_reducible refine Kd.C_drewN ?_ _)|(with_reducible refine Kd.C_drew ?_)));(case side2=>exact(Kd.R_reads' HO_4.out).2.1);rintro e w20 ⟨rfl,hb⟩;refine⟨_,rfl,?_⟩;have n0_:=Ja (Kd.R_below (by(with_reducible repeat(first|apply Kd.R_alloc|apply Kd.R_drewN|apply Kd.R_drew));exact HO_4.out) hb);have n1_:=Ja (blk_below (g:=gb226) (o:=.cells #[.int .i64 x227000_1,.int .i64 x227001_1] 30 (0,0)) (by(with_reducible repeat(first|refine Jg ?_ _|refine Je ?_|refine Jf ?_ _));exact BK226.out) hb);have n2_:=Ja (Jl (by repeat(first|(with_reducible first|exact HB.out|apply Jd|apply Jb|apply Jc|refine Jh ?_ GE226.out)|exact HB.out)) hb);clear HO_4;clear BK226;clear HB;have HO_4:=n0_;have BK226:=n1_;have HB:=n2_;clear n0_ n1_ n2_;(try clear hb);(try clear hb2);(try clear hk);(try clear hi))|((with_reducible refine gate_dst (N:=5) rfl ?_);refine box_event ?hg (N:=5) ?hd (cs:=#[.int .i64 0,.int .i64 0,.string (⟨#[]⟩:ByteArray)]) (t:=40) ?hr ?_;(case hd=>rfl);(case hg=>rfl);(case hr=>first|(go_simp;done)|(go_simp;rfl));intro gb235 hg w21 hbox hb;have n0_:=Ja (Kd.R_below (Kd.R_elderB (by(with_reducible repeat(first|apply Kd.R_alloc|apply Kd.R_drewN|apply Kd.R_drew));exact HO_4.out) gb235 (Nat.le_of_eq hg.symm)) hb);have n1_:=Ja (blk_below (g:=gb226) (o:=.cells #[.int .i64 x227000_1,.int .i64 x227001_1] 30 (0,0)) (by(with_reducible repeat(first|refine Jg ?_ _|refine Je ?_|refine Jf ?_ _));exact BK226.out) hb);have n2_:=Ja (Jl (by repeat(first|(with_reducible first|exact HB.out|apply Jd|apply Jb|apply Jc|refine Jh ?_ GE226.out)|exact HB.out)) hb);have n3_:=Ja (hbox);have n4_:=Ja ((by rw [hg];exact(Jj (by repeat(first|(with_reducible first|exact HB.out|apply Jd|apply Jb|apply Jc|refine Jh ?_ GE226.out)|exact HB.out))):w.heap.size≤gb235));have n5_:=Ja ((by rw [hg];exact(Jj (by repeat(first|(with_reducible first|exact HB.out|apply Jd|apply Jb|apply Jc|refine Jh ?_ GE226.out)|exact HB.out))):w.heap.size≤gb235));have n6_:=Ja ((by rw [hg];exact Nat.ne_of_lt (blk_lt (g:=gb226) (o:=.cells #[.int .i64 x227000_1,.int .i64 x227001_1] 30 (0,0)) (by(with_reducible repeat(first|refine Jg ?_ _|refine Je ?_|refine Jf ?_ _));exact BK226.out)):gb226≠gb235));have n7_:=Ja ((by rw [hg];exact Nat.ne_of_gt (blk_lt (g:=gb226) (o:=.cells #[.int .i64 x227000_1,.int .i64 x227001_1] 30 (0,0)) (by(with_reducible repeat(first|refine Jg ?_ _|refine Je ?_|refine Jf ?_ _));exact BK226.out)):gb235≠gb226));clear HO_4;clear BK226;clear HB;have HO_4:=n0_;have BK226:=n1_;have HB:=n2_;have BK235:=n3_;have GW235:=n4_;have GE235:=n5_;have NB226_235:=n6_;have NB235_226:=n7_;clear n0_ n1_ n2_ n3_ n4_ n5_ n6_ n7_;clear hb hbox hg;have hnb22:=NB235_226.out;have hnc22:=NB226_235.out;have hcz23_0:w21.cell? ⟨gb235,0,none⟩=some (.int .i64 0):=(Jk BK235.out 0).trans rfl;have hcz23_1:w21.cell? ⟨gb235,1,none⟩=some (.int .i64 0):=(Jk BK235.out 1).trans rfl;have hcz23_2:w21.cell? ⟨gb235,2,none⟩=some (.string (⟨#[]⟩:ByteArray)):=(Jk BK235.out 2).trans rfl;have hfz23_0:=Ji BK235.out 0;have hfz23_1:=Ji BK235.out 1;have hfz23_2:=Ji BK235.out 2;have hcz24_0:w21.cell? ⟨gb226,0,none⟩=some (.int .i64 x227000_1):=(Jk BK226.out 0).trans rfl;have hcz24_1:w21.cell? ⟨gb226,1,none⟩=some (.int .i64 x227001_1):=(Jk BK226.out 1).trans rfl;have hfz24_0:=Ji BK226.out 0;have hfz24_1:=Ji BK226.out 1))
      refine bodyPost_ret (results_tc rfl _ _ gb226 30 #[.int .i64 t234,.int .i64 (x4_1.length:Int)] (0,0) _ rfl (by(with_reducible repeat(first|refine Jg ?_ _|refine Je ?_|refine Jf ?_ _));refine blk_put (cs:=#[.int .i64 t234,.int .i64 x227001_1]) ?_ 1 _ rfl;(with_reducible repeat(first|refine Jg ?_ _|refine Je ?_|refine Jf ?_ _));refine blk_put (cs:=#[.int .i64 x227000_1,.int .i64 x227001_1]) ?_ 0 _ rfl;(with_reducible repeat(first|refine Jg ?_ _|refine Je ?_|refine Jf ?_ _));refine blk_far ?_ NB226_235.out _;(with_reducible repeat(first|refine Jg ?_ _|refine Je ?_|refine Jf ?_ _));refine blk_far ?_ NB226_235.out _;(with_reducible repeat(first|refine Jg ?_ _|refine Je ?_|refine Jf ?_ _));refine blk_far ?_ NB226_235.out _;(with_reducible repeat(first|refine Jg ?_ _|refine Je ?_|refine Jf ?_ _));exact BK226.out) Tryd.underlying30 rfl (by kernel_rfl)) rfl ?_
      exact⟨_,by first|rfl|(simp [errW_none,errW_some] <;> rfl)|(simp [*,errW_none,errW_some] <;> rfl),by first|exact Kd.R_nil _ _ _ _ _|exact Kd.N_nil _ _ _ _ _|exact Kd.V_nil _ _ _ _ _|exact Kd.Q_nil _ _ _ _ _|exact Kd.S_nil _ _ _ _ _,by repeat(first|(with_reducible first|exact HB.out|apply Jd|apply Jb|apply Jc|refine Jh ?_ GE226.out|refine Jh ?_ GE235.out)|exact HB.out)⟩

/-! ### laws_eqTitleFault: function 13 -/
def laws_eqTitleFault.f (a0_0 : Int) (a0_1 : Int) (a1_0 : Int) (a1_1 : Int) : Option (Bool) := if a0_0 = a1_0 then (if a0_1 = a1_1 then (some true) else (some false)) else (some false)
set_option maxHeartbeats 8000000 in
set_option maxRecDepth 100000 in
theorem laws_eqTitleFault.calls (a0_0 : Int) (a0_1 : Int) (a1_0 : Int) (a1_1 : Int) (r : Bool) (w : World) (h : laws_eqTitleFault.f a0_0 a0_1 a1_0 a1_1 = some r) :
  Calls Tryd.prog 13 #[.agg #[.int .i64 a0_0,.int .i64 a0_1],.agg #[.int .i64 a1_0,.int .i64 a1_1]] w fun e w'=>e=.returned (.bool r)∧Below w.heap.size w w':=by
 have hu30:=Tryd.underlying30
 have HB:=Ja (Below.refl w.heap.size w)
 have H:(if a0_0=a1_0 then (if a0_1=a1_1 then (some true) else (some false)) else (some false))=some r:=h
 clear h
 by_cases c3:a0_0=a1_0
 ·rw [if_pos c3] at H
  have c3b0:(a0_0 == a1_0)=true:=beq_iff_eq.mpr c3
  have c3b1:(a0_0 != a1_0)=false:=bne_eq_false_iff_eq.mpr c3
  clear c3
  by_cases c4:a0_1=a1_1
  ·rw [if_pos c4] at H
   have c4b0:(a0_1 == a1_1)=true:=beq_iff_eq.mpr c4
   have c4b1:(a0_1 != a1_1)=false:=bne_eq_false_iff_eq.mpr c4
   clear c4
   obtain rfl:=Option.some.inj H
   go_enter Tryd.func13,Tryd.ntmps13
   go_wp2_with (first|((with_reducible refine gate_dst (N:=2) rfl ?_);refine box_event ?hg (N:=2) ?hd (cs:=#[.int .i64 a0_0,.int .i64 a0_1]) (t:=30) ?hr ?_;(case hd=>rfl);(case hg=>rfl);(case hr=>first|(go_simp;done)|(go_simp;rfl));intro gb239 hg w5 hbox hb;have n0_:=Ja (Jl (by repeat(first|(with_reducible first|exact HB.out|apply Jd|apply Jb|apply Jc)|exact HB.out)) hb);have n1_:=Ja (hbox);have n2_:=Ja ((by rw [hg];exact(Jj (by repeat(first|(with_reducible first|exact HB.out|apply Jd|apply Jb|apply Jc)|exact HB.out))):w.heap.size≤gb239));have n3_:=Ja ((by rw [hg];exact(Jj (by repeat(first|(with_reducible first|exact HB.out|apply Jd|apply Jb|apply Jc)|exact HB.out))):w.heap.size≤gb239));clear HB;have HB:=n0_;have BK239:=n1_;have GW239:=n2_;have GE239:=n3_;clear n0_ n1_ n2_ n3_;clear hb hbox hg)|((with_reducible refine gate_dst (N:=3) rfl ?_);refine box_event ?hg (N:=3) ?hd (cs:=#[.int .i64 a1_0,.int .i64 a1_1]) (t:=30) ?hr ?_;(case hd=>rfl);(case hg=>rfl);(case hr=>first|(go_simp;done)|(go_simp;rfl));intro gb240 hg w6 hbox hb;have n0_:=Ja (blk_below (g:=gb239) (o:=.cells #[.int .i64 a0_0,.int .i64 a0_1] 30 (0,0)) (by(with_reducible repeat(first|refine Jg ?_ _|refine Je ?_|refine Jf ?_ _));exact BK239.out) hb);have n1_:=Ja (Jl (by repeat(first|(with_reducible first|exact HB.out|apply Jd|apply Jb|apply Jc|refine Jh ?_ GE239.out)|exact HB.out)) hb);have n2_:=Ja (hbox);have n3_:=Ja ((by rw [hg];exact(Jj (by repeat(first|(with_reducible first|exact HB.out|apply Jd|apply Jb|apply Jc|refine Jh ?_ GE239.out)|exact HB.out))):w.heap.size≤gb240));have n4_:=Ja ((by rw [hg];exact(Jj (by repeat(first|(with_reducible first|exact HB.out|apply Jd|apply Jb|apply Jc|refine Jh ?_ GE239.out)|exact HB.out))):w.heap.size≤gb240));have n5_:=Ja ((by rw [hg];exact Nat.ne_of_lt (blk_lt (g:=gb239) (o:=.cells #[.int .i64 a0_0,.int .i64 a0_1] 30 (0,0)) (by(with_reducible repeat(first|refine Jg ?_ _|refine Je ?_|refine Jf ?_ _));exact BK239.out)):gb239≠gb240));have n6_:=Ja ((by rw [hg];exact Nat.ne_of_gt (blk_lt (g:=gb239) (o:=.cells #[.int .i64 a0_0,.int .i64 a0_1] 30 (0,0)) (by(with_reducible repeat(first|refine Jg ?_ _|refine Je ?_|refine Jf ?_ _));exact BK239.out)):gb240≠gb239));clear BK239;clear HB;have BK239:=n0_;have HB:=n1_;have BK240:=n2_;have GW240:=n3_;have GE240:=n4_;have NB239_240:=n5_;have NB240_239:=n6_;clear n0_ n1_ n2_ n3_ n4_ n5_ n6_;clear hb hbox hg;have hnb7:=NB239_240.out;have hnc7:=NB240_239.out;have hcz8_0:w6.cell? ⟨gb239,0,none⟩=some (.int .i64 a0_0):=(Jk BK239.out 0).trans rfl;have hcz8_1:w6.cell? ⟨gb239,1,none⟩=some (.int .i64 a0_1):=(Jk BK239.out 1).trans rfl;have hfz8_0:=Ji BK239.out 0;have hfz8_1:=Ji BK239.out 1;have hcz9_0:w6.cell? ⟨gb240,0,none⟩=some (.int .i64 a1_0):=(Jk BK240.out 0).trans rfl;have hcz9_1:w6.cell? ⟨gb240,1,none⟩=some (.int .i64 a1_1):=(Jk BK240.out 1).trans rfl;have hfz9_0:=Ji BK240.out 0;have hfz9_1:=Ji BK240.out 1))
   go_ret
   exact⟨by first|rfl|(simp [errW_none,errW_some] <;> rfl)|(simp [*,errW_none,errW_some] <;> rfl),by repeat(first|(with_reducible first|exact HB.out|apply Jd|apply Jb|apply Jc|refine Jh ?_ GE239.out|refine Jh ?_ GE240.out)|exact HB.out)⟩
  ·rw [if_neg c4] at H
   have c4b0:(a0_1 == a1_1)=false:=beq_eq_false_iff_ne.mpr c4
   have c4b1:(a0_1 != a1_1)=true:=bne_iff_ne.mpr c4
   obtain rfl:=Option.some.inj H
   go_enter Tryd.func13,Tryd.ntmps13
   go_wp2_with (first|((with_reducible refine gate_dst (N:=2) rfl ?_);refine box_event ?hg (N:=2) ?hd (cs:=#[.int .i64 a0_0,.int .i64 a0_1]) (t:=30) ?hr ?_;(case hd=>rfl);(case hg=>rfl);(case hr=>first|(go_simp;done)|(go_simp;rfl));intro gb239 hg w10 hbox hb;have n0_:=Ja (Jl (by repeat(first|(with_reducible first|exact HB.out|apply Jd|apply Jb|apply Jc)|exact HB.out)) hb);have n1_:=Ja (hbox);have n2_:=Ja ((by rw [hg];exact(Jj (by repeat(first|(with_reducible first|exact HB.out|apply Jd|apply Jb|apply Jc)|exact HB.out))):w.heap.size≤gb239));have n3_:=Ja ((by rw [hg];exact(Jj (by repeat(first|(with_reducible first|exact HB.out|apply Jd|apply Jb|apply Jc)|exact HB.out))):w.heap.size≤gb239));clear HB;have HB:=n0_;have BK239:=n1_;have GW239:=n2_;have GE239:=n3_;clear n0_ n1_ n2_ n3_;clear hb hbox hg)|((with_reducible refine gate_dst (N:=3) rfl ?_);refine box_event ?hg (N:=3) ?hd (cs:=#[.int .i64 a1_0,.int .i64 a1_1]) (t:=30) ?hr ?_;(case hd=>rfl);(case hg=>rfl);(case hr=>first|(go_simp;done)|(go_simp;rfl));intro gb240 hg w11 hbox hb;have n0_:=Ja (blk_below (g:=gb239) (o:=.cells #[.int .i64 a0_0,.int .i64 a0_1] 30 (0,0)) (by(with_reducible repeat(first|refine Jg ?_ _|refine Je ?_|refine Jf ?_ _));exact BK239.out) hb);have n1_:=Ja (Jl (by repeat(first|(with_reducible first|exact HB.out|apply Jd|apply Jb|apply Jc|refine Jh ?_ GE239.out)|exact HB.out)) hb);have n2_:=Ja (hbox);have n3_:=Ja ((by rw [hg];exact(Jj (by repeat(first|(with_reducible first|exact HB.out|apply Jd|apply Jb|apply Jc|refine Jh ?_ GE239.out)|exact HB.out))):w.heap.size≤gb240));have n4_:=Ja ((by rw [hg];exact(Jj (by repeat(first|(with_reducible first|exact HB.out|apply Jd|apply Jb|apply Jc|refine Jh ?_ GE239.out)|exact HB.out))):w.heap.size≤gb240));have n5_:=Ja ((by rw [hg];exact Nat.ne_of_lt (blk_lt (g:=gb239) (o:=.cells #[.int .i64 a0_0,.int .i64 a0_1] 30 (0,0)) (by(with_reducible repeat(first|refine Jg ?_ _|refine Je ?_|refine Jf ?_ _));exact BK239.out)):gb239≠gb240));have n6_:=Ja ((by rw [hg];exact Nat.ne_of_gt (blk_lt (g:=gb239) (o:=.cells #[.int .i64 a0_0,.int .i64 a0_1] 30 (0,0)) (by(with_reducible repeat(first|refine Jg ?_ _|refine Je ?_|refine Jf ?_ _));exact BK239.out)):gb240≠gb239));clear BK239;clear HB;have BK239:=n0_;have HB:=n1_;have BK240:=n2_;have GW240:=n3_;have GE240:=n4_;have NB239_240:=n5_;have NB240_239:=n6_;clear n0_ n1_ n2_ n3_ n4_ n5_ n6_;clear hb hbox hg;have hnb12:=NB239_240.out;have hnc12:=NB240_239.out;have hcz13_0:w11.cell? ⟨gb239,0,none⟩=some (.int .i64 a0_0):=(Jk BK239.out 0).trans rfl;have hcz13_1:w11.cell? ⟨gb239,1,none⟩=some (.int .i64 a0_1):=(Jk BK239.out 1).trans rfl;have hfz13_0:=Ji BK239.out 0;have hfz13_1:=Ji BK239.out 1;have hcz14_0:w11.cell? ⟨gb240,0,none⟩=some (.int .i64 a1_0):=(Jk BK240.out 0).trans rfl;have hcz14_1:w11.cell? ⟨gb240,1,none⟩=some (.int .i64 a1_1):=(Jk BK240.out 1).trans rfl;have hfz14_0:=Ji BK240.out 0;have hfz14_1:=Ji BK240.out 1))
   go_ret
   exact⟨by first|rfl|(simp [errW_none,errW_some] <;> rfl)|(simp [*,errW_none,errW_some] <;> rfl),by repeat(first|(with_reducible first|exact HB.out|apply Jd|apply Jb|apply Jc|refine Jh ?_ GE239.out|refine Jh ?_ GE240.out)|exact HB.out)⟩
 ·rw [if_neg c3] at H
  have c3b0:(a0_0 == a1_0)=false:=beq_eq_false_iff_ne.mpr c3
  have c3b1:(a0_0 != a1_0)=true:=bne_iff_ne.mpr c3
  obtain rfl:=Option.some.inj H
  go_enter Tryd.func13,Tryd.ntmps13
  go_wp2_with (first|((with_reducible refine gate_dst (N:=2) rfl ?_);refine box_event ?hg (N:=2) ?hd (cs:=#[.int .i64 a0_0,.int .i64 a0_1]) (t:=30) ?hr ?_;(case hd=>rfl);(case hg=>rfl);(case hr=>first|(go_simp;done)|(go_simp;rfl));intro gb239 hg w15 hbox hb;have n0_:=Ja (Jl (by repeat(first|(with_reducible first|exact HB.out|apply Jd|apply Jb|apply Jc)|exact HB.out)) hb);have n1_:=Ja (hbox);have n2_:=Ja ((by rw [hg];exact(Jj (by repeat(first|(with_reducible first|exact HB.out|apply Jd|apply Jb|apply Jc)|exact HB.out))):w.heap.size≤gb239));have n3_:=Ja ((by rw [hg];exact(Jj (by repeat(first|(with_reducible first|exact HB.out|apply Jd|apply Jb|apply Jc)|exact HB.out))):w.heap.size≤gb239));clear HB;have HB:=n0_;have BK239:=n1_;have GW239:=n2_;have GE239:=n3_;clear n0_ n1_ n2_ n3_;clear hb hbox hg)|((with_reducible refine gate_dst (N:=3) rfl ?_);refine box_event ?hg (N:=3) ?hd (cs:=#[.int .i64 a1_0,.int .i64 a1_1]) (t:=30) ?hr ?_;(case hd=>rfl);(case hg=>rfl);(case hr=>first|(go_simp;done)|(go_simp;rfl));intro gb240 hg w16 hbox hb;have n0_:=Ja (blk_below (g:=gb239) (o:=.cells #[.int .i64 a0_0,.int .i64 a0_1] 30 (0,0)) (by(with_reducible repeat(first|refine Jg ?_ _|refine Je ?_|refine Jf ?_ _));exact BK239.out) hb);have n1_:=Ja (Jl (by repeat(first|(with_reducible first|exact HB.out|apply Jd|apply Jb|apply Jc|refine Jh ?_ GE239.out)|exact HB.out)) hb);have n2_:=Ja (hbox);have n3_:=Ja ((by rw [hg];exact(Jj (by repeat(first|(with_reducible first|exact HB.out|apply Jd|apply Jb|apply Jc|refine Jh ?_ GE239.out)|exact HB.out))):w.heap.size≤gb240));have n4_:=Ja ((by rw [hg];exact(Jj (by repeat(first|(with_reducible first|exact HB.out|apply Jd|apply Jb|apply Jc|refine Jh ?_ GE239.out)|exact HB.out))):w.heap.size≤gb240));have n5_:=Ja ((by rw [hg];exact Nat.ne_of_lt (blk_lt (g:=gb239) (o:=.cells #[.int .i64 a0_0,.int .i64 a0_1] 30 (0,0)) (by(with_reducible repeat(first|refine Jg ?_ _|refine Je ?_|refine Jf ?_ _));exact BK239.out)):gb239≠gb240));have n6_:=Ja ((by rw [hg];exact Nat.ne_of_gt (blk_lt (g:=gb239) (o:=.cells #[.int .i64 a0_0,.int .i64 a0_1] 30 (0,0)) (by(with_reducible repeat(first|refine Jg ?_ _|refine Je ?_|refine Jf ?_ _));exact BK239.out)):gb240≠gb239));clear BK239;clear HB;have BK239:=n0_;have HB:=n1_;have BK240:=n2_;have GW240:=n3_;have GE240:=n4_;have NB239_240:=n5_;have NB240_239:=n6_;clear n0_ n1_ n2_ n3_ n4_ n5_ n6_;clear hb hbox hg;have hnb17:=NB239_240.out;have hnc17:=NB240_239.out;have hcz18_0:w16.cell? ⟨gb239,0,none⟩=some (.int .i64 a0_0):=(Jk BK239.out 0).trans rfl;have hcz18_1:w16.cell? ⟨gb239,1,none⟩=some (.int .i64 a0_1):=(Jk BK239.out 1).trans rfl;have hfz18_0:=Ji BK239.out 0;have hfz18_1:=Ji BK239.out 1;have hcz19_0:w16.cell? ⟨gb240,0,none⟩=some (.int .i64 a1_0):=(Jk BK240.out 0).trans rfl;have hcz19_1:w16.cell? ⟨gb240,1,none⟩=some (.int .i64 a1_1):=(Jk BK240.out 1).trans rfl;have hfz19_0:=Ji BK240.out 0;have hfz19_1:=Ji BK240.out 1))
  go_ret
  exact⟨by first|rfl|(simp [errW_none,errW_some] <;> rfl)|(simp [*,errW_none,errW_some] <;> rfl),by repeat(first|(with_reducible first|exact HB.out|apply Jd|apply Jb|apply Jc|refine Jh ?_ GE239.out|refine Jh ?_ GE240.out)|exact HB.out)⟩

/-! ### laws_markText: function 34 -/
def laws_markText.l0 : Nat → Int → ByteArray → Option (ByteArray)
 | 0, _, _ => none
 | k + 1, x0, x3 => if x0 > 0 then ((some (([(wrap64 (48 + (Int.tmod x0 10))) % 256] : List Int) : List Int)).bind fun y241 => (if (strOfNums y241).size + x3.size ≤ 9223372036854775807 then (laws_markText.l0 k (wrap64 (Int.tdiv x0 10)) ((strOfNums y241) ++ x3)) else (none))) else (if 1 + x3.size ≤ 9223372036854775807 then (some ((⟨#[109]⟩ : ByteArray) ++ x3)) else (none))
def laws_markText.f (k : Nat) (a0 : Int) : Option (ByteArray) := if a0 ≤ 0 then (some (⟨#[109, 48]⟩ : ByteArray)) else (laws_markText.l0 k a0 (⟨#[]⟩ : ByteArray))
theorem laws_markText.mono_l : ∀ k, (∀ y0 y1, LeO (laws_markText.l0 k y0 y1) (laws_markText.l0 (k + 1) y0 y1))
 | 0 => fun _ _ r h => by simp [laws_markText.l0] at h
 | k + 1 => by
  have ih0:=laws_markText.mono_l k
  ·intro y0 y1
   unfold laws_markText.l0
   repeat' first
   | (with_reducible exact ih0 _ _)
   | (with_reducible exact LeO.refl _)
   | (with_reducible exact LeO.none _)
   | (with_reducible refine LeO.ite ?_ ?_)
   | (with_reducible refine LeO.bind ?_ (fun _ => ?_))
   | exact ih0 _ _
   | exact LeO.none _
   | refine LeO.ite ?_ ?_
   | refine LeO.bind ?_ (fun _ => ?_)
theorem laws_markText.mono : ∀ a0 k, LeO (laws_markText.f k a0) (laws_markText.f (k + 1) a0) := by
 intro a0 k
 have ih0:=laws_markText.mono_l k
 unfold laws_markText.f
 repeat' first
   | (with_reducible exact ih0 _ _)
   | (with_reducible exact LeO.refl _)
   | (with_reducible exact LeO.none _)
   | (with_reducible refine LeO.ite ?_ ?_)
   | (with_reducible refine LeO.bind ?_ (fun _ => ?_))
   | exact ih0 _ _
   | exact LeO.none _
   | refine LeO.ite ?_ ?_
   | refine LeO.bind ?_ (fun _ => ?_)
set_option maxHeartbeats 8000000 in
set_option maxRecDepth 100000 in
theorem laws_markText.calls (k : Nat) (a0 : Int) (r : ByteArray) (w : World) (h : laws_markText.f k a0 = some r) :
  Calls Tryd.prog 34 #[.int .i64 a0] w fun e w'=>e=.returned (.string r)∧Below w.heap.size w w':=by
 have HB:=Ja (Below.refl w.heap.size w)
 have H:(if a0≤0 then (some (⟨#[109,48]⟩:ByteArray)) else (laws_markText.l0 k a0 (⟨#[]⟩:ByteArray)))=some r:=h
 clear h
 by_cases c2:a0≤0
 ·rw [if_pos c2] at H
  have c2b0:decide (a0≤0)=true:=decide_eq_true c2
  clear c2
  obtain rfl:=Option.some.inj H
  go_enter Tryd.func34,Tryd.ntmps34
  go_wp2
  go_ret
  exact⟨by first|rfl|(simp [errW_none,errW_some] <;> rfl)|(simp [*,errW_none,errW_some] <;> rfl),by repeat(first|(with_reducible first|exact HB.out|apply Jd|apply Jb|apply Jc)|exact HB.out)⟩
 ·rw [if_neg c2] at H
  have c2b0:decide (a0≤0)=false:=decide_eq_false c2
  clear c2
  have H':=Ja H
  clear H
  go_enter Tryd.func34,Tryd.ntmps34
  go_wp2
  go_loopg [0,3] k (fun kq v0 v3 w'=>∃ (x0_1:Int) (x3_1:ByteArray),v0=.int .i64 x0_1∧v3=.string x3_1∧Aside0 (laws_markText.l0 kq x0_1 x3_1=some r)∧Aside0 (kq≤k)∧Aside0 (Below w.heap.size w w'))
  case atStart=>exact⟨(a0),((⟨#[]⟩:ByteArray)),(by first|rfl|(simp;done)|(simp [*];done)),(by first|rfl|(simp;done)|(simp [*];done)),H',⟨Nat.le_refl _⟩,⟨by repeat(first|(with_reducible first|exact HB.out|apply Jd|apply Jb|apply Jc)|exact HB.out)⟩⟩
  case round=>
   clear H'
   try clear c2
   try clear c2b0
   try clear p2
   obtain⟨x0_1,x3_1,rfl,rfl,HA,HK1,HB⟩:=hrel
   cases gk with
   | zero => exact absurd HA.out (by simp [laws_markText.l0])
   | succ k1 =>
    have H:=HA.out
    clear HA
    simp only [laws_markText.l0] at H
    by_cases c3:x0_1 > 0
    ·rw [if_pos c3] at H
     have c3b0:decide (0 < x0_1)=true:=decide_eq_true c3
     clear c3
     obtain⟨y241,hy241⟩:∃ y_:List Int,y_=(([(wrap64 (48+(Int.tmod x0_1 10))) % 256]:List Int)):=⟨_,rfl⟩
     replace H:(if (strOfNums y241).size+x3_1.size≤9223372036854775807 then (laws_markText.l0 k1 (wrap64 (Int.tdiv x0_1 10)) ((strOfNums y241) ++ x3_1)) else (none))=some r:=by first|(rw [hy241];with_reducible exact H)|(have H2_:=(Option.bind_some _ _).symm.trans H;rw [hy241];with_reducible exact H2_)|(have H2_:=(Option.bind_some _ _).symm.trans H;with_reducible exact H2_)|with_reducible exact H|(rw [hy241];exact H)|exact H
     have Ny241:=Ja hy241
     clear hy241
     by_cases c4:(strOfNums y241).size+x3_1.size≤9223372036854775807
     ·rw [if_pos c4] at H
      have c4b0:=eq_true c4
      have c4b1:decide ((strOfNums y241).size+x3_1.size≤9223372036854775807)=true:=decide_eq_true c4
      try have c4b2:(9223372036854775807 < (strOfNums y241).size+x3_1.size)=False:=eq_false (Nat.not_lt.2 c4)
      have H':=Ja H
      clear H
      go_wp2_with (first|((with_reducible refine gate_dst (N:=12) rfl ?_);refine Kd.R_lit (Kd.int .u8) _ 5 ?hg (N:=12) ?hd (xs:=([(wrap64 (48+(Int.tmod x0_1 10))) % 256]:List Int)) (inner:=[.int .u8 ((wrap64 (48+(Int.tmod x0_1 10))) % 256)]) (ok:=fun _=>True) (okp:=fun _=>True) ?hr ?hp (fun _ hk=>hk) trivial (Below.refl _ _) (Nat.le_refl _) (by simp) ?_;(case hd=>rfl);(case hg=>rfl);(case hr=>first|(go_simp;done)|(go_simp;rfl));(case hp=>exact(Reps.one (show Kd.M (Kd.int .u8) _ _ _ ((wrap64 (48+(Int.tmod x0_1 10))) % 256) [.int .u8 ((wrap64 (48+(Int.tmod x0_1 10))) % 256)] from rfl) (Reps.none _ _)));intro v242 w5 ho6 hb hg_ hnew_;clear hg_ hnew_;(first|rw [← Ny241.out] at ho6|(simp only [Int.reduceToNat] at ho6;rw [← Ny241.out] at ho6));have n0_:=Ja (Kd.R_lower ho6 (Jj (by repeat(first|(with_reducible first|exact HB.out|apply Jd|apply Jb|apply Jc)|exact HB.out))));have n1_:=Ja (Jl (by repeat(first|(with_reducible first|exact HB.out|apply Jd|apply Jb|apply Jc)|exact HB.out)) hb);clear HB;have HO243:=n0_;have HB:=n1_;clear n0_ n1_;clear hb ho6;have hcv7:=own_string (P:=Tryd.prog) Tryd.underlying36 Tryd.underlying5 Tryd.underlying9 (Kd.own_of_R HO243.out)))
      go_roundg k1
      case measure=>have:=HK1.out;omega
      case rel=>exact⟨(wrap64 (Int.tdiv x0_1 10)),((strOfNums y241) ++ x3_1),(by first|rfl|(simp;done)|(simp [*];done)),(by first|rfl|(simp;done)|(simp [*];done)),H',⟨by have:=HK1.out;omega⟩,⟨by repeat(first|(with_reducible first|exact HB.out|apply Jd|apply Jb|apply Jc)|exact HB.out)⟩⟩
     ·rw [if_neg c4] at H
      exact absurd H (by simp)
    ·rw [if_neg c3] at H
     have c3b0:decide (0 < x0_1)=false:=decide_eq_false c3
     clear c3
     by_cases c8:1+x3_1.size≤9223372036854775807
     ·rw [if_pos c8] at H
      have c8b0:=eq_true c8
      have c8b1:decide (1+x3_1.size≤9223372036854775807)=true:=decide_eq_true c8
      try have c8b2:(9223372036854775807 < 1+x3_1.size)=False:=eq_false (Nat.not_lt.2 c8)
      obtain rfl:=Option.some.inj H
      go_wp2
      go_ret
      exact⟨by first|rfl|(simp [errW_none,errW_some] <;> rfl)|(simp [*,errW_none,errW_some] <;> rfl),by repeat(first|(with_reducible first|exact HB.out|apply Jd|apply Jb|apply Jc)|exact HB.out)⟩
     ·rw [if_neg c8] at H
      exact absurd H (by simp)

/-! ### laws_markTitleS: function 14 -/
def laws_markTitleS.l0 : Nat → List (S40) → Int → Int → Option (Int × (List (S40)))
 | 0, _, _, _ => none
 | k + 1, x0, x1, x5 => if x5 < (x0.length : Int) then (if 0 ≤ x5 then ((some (x0.set (x5 : Int).toNat (⟨x1, (rd_T40 x0 x5).f1, (rd_T40 x0 x5).f2⟩ : S40) : List (S40))).bind fun y244 => ((some (y244.set (x5 : Int).toNat (⟨(rd_T40 y244 x5).f0, wrap64 (x1 + 1), (rd_T40 y244 x5).f2⟩ : S40) : List (S40))).bind fun y245 => ((laws_markText.f k (wrap64 ((wrap64 (x1 + 1)) + 1))).bind fun t246 => (laws_markTitleS.l0 k (y245.set (x5 : Int).toNat (⟨(rd_T40 y245 x5).f0, (rd_T40 y245 x5).f1, t246⟩ : S40)) (wrap64 ((wrap64 ((wrap64 (x1 + 1)) + 1)) + 1)) (wrap64 (x5 + 1)))))) else (none)) else (some (x1, x0))
def laws_markTitleS.f (k : Nat) (l0 : List (S40)) (a1 : Int) : Option (Int × (List (S40))) := laws_markTitleS.l0 k l0 a1 0
theorem laws_markTitleS.mono_l : ∀ k, (∀ y0 y1 y2, LeO (laws_markTitleS.l0 k y0 y1 y2) (laws_markTitleS.l0 (k + 1) y0 y1 y2))
 | 0 => fun _ _ _ r h => by simp [laws_markTitleS.l0] at h
 | k + 1 => by
  have ih0:=laws_markTitleS.mono_l k
  ·intro y0 y1 y2
   unfold laws_markTitleS.l0
   repeat' first
   | (with_reducible exact ih0 _ _ _)
   | (with_reducible exact laws_markText.mono _ _)
   | (with_reducible exact LeO.refl _)
   | (with_reducible exact LeO.none _)
   | (with_reducible refine LeO.ite ?_ ?_)
   | (with_reducible refine LeO.bind ?_ (fun _ => ?_))
   | exact ih0 _ _ _
   | exact laws_markText.mono _ _
   | exact LeO.none _
   | refine LeO.ite ?_ ?_
   | refine LeO.bind ?_ (fun _ => ?_)
theorem laws_markTitleS.mono : ∀ a0 a1 k, LeO (laws_markTitleS.f k a0 a1) (laws_markTitleS.f (k + 1) a0 a1) := by
 intro a0 a1 k
 have ih0:=laws_markTitleS.mono_l k
 unfold laws_markTitleS.f
 repeat' first
   | (with_reducible exact ih0 _ _ _)
   | (with_reducible exact laws_markText.mono _ _)
   | (with_reducible exact LeO.refl _)
   | (with_reducible exact LeO.none _)
   | (with_reducible refine LeO.ite ?_ ?_)
   | (with_reducible refine LeO.bind ?_ (fun _ => ?_))
   | exact ih0 _ _ _
   | exact laws_markText.mono _ _
   | exact LeO.none _
   | refine LeO.ite ?_ ?_
   | refine LeO.bind ?_ (fun _ => ?_)
set_option maxHeartbeats 8000000 in
set_option maxRecDepth 100000 in
theorem laws_markTitleS.calls (k : Nat) (P0_ : Nat → Prop) (u9000_ : Value) (l0 : List (S40)) (a1 : Int) (r1 : Int) (r2 : List (S40)) (w0 w : World) (hB : Below w0.heap.size w0 w) (ho0 : Kd.R k40 40 w w0.heap.size P0_ u9000_ l0) (h : laws_markTitleS.f k l0 a1 = some (r1, r2)) :
  Calls Tryd.prog 14 #[u9000_,.int .i64 a1] w fun e w'=>e=.returned (.int .i64 r1)∧Kd.R k40 40 w' w0.heap.size (fun k_=>(P0_ k_∨w.heap.size≤k_)) u9000_ r2∧Below w0.heap.size w0 w'∧Kept w w' (fun k_=>P0_ k_):=by
 have HO0:=Ja (show Kd.R k40 40 w w0.heap.size (fun k_=>(P0_ k_∨w.heap.size≤k_)) u9000_ l0 from Kd.R_mono ho0 (fun k_ hk=>(.inl hk)))
 have HK:=Ja (Kept.refl w (fun k_=>P0_ k_))
 have HW0:=Ja hB.size
 have HB:=Ja hB
 clear hB
 have H:(laws_markTitleS.l0 k l0 a1 0)=some (r1,r2):=h
 clear h
 have H':=Ja H
 clear H
 go_enter Tryd.func14,Tryd.ntmps14
 go_wp2
 go_loopg [1,5] k (fun kq v1 v5 w'=>∃ (x0_1:List (S40)) (x1_1:Int) (x5_1:Int),v1=.int .i64 x1_1∧v5=.int .i64 x5_1∧Aside0 (laws_markTitleS.l0 kq x0_1 x1_1 x5_1=some (r1,r2))∧Aside0 (kq≤k)∧Aside0 (Kd.R k40 40 w' w0.heap.size (fun k_=>(P0_ k_∨w.heap.size≤k_)) u9000_ x0_1)∧Aside0 (Kept w w' (fun k_=>P0_ k_))∧Aside0 (Below w0.heap.size w0 w'))
 case atStart=>exact⟨(l0),(a1),(0),(by first|rfl|(simp;done)|(simp [*];done)),(by first|rfl|(simp;done)|(simp [*];done)),H',⟨Nat.le_refl _⟩,⟨by(with_reducible repeat(first|apply Kd.R_alloc|apply Kd.R_drewN|apply Kd.R_drew));exact HO0.out⟩,⟨by repeat(first|(with_reducible first|exact HK.out|apply Kept.alloc|apply Kept.drewN|apply Kept.drew)|exact HK.out)⟩,⟨by repeat(first|(with_reducible first|exact HB.out|apply Jd|apply Jb|apply Jc)|exact HB.out)⟩⟩
 case round=>
  clear H'
  try clear c1
  try clear p2
  obtain⟨x0_1,x1_1,x5_1,rfl,rfl,HA,HK1,HO_0,HK,HB⟩:=hrel
  cases gk with
  | zero => exact absurd HA.out (by simp [laws_markTitleS.l0])
  | succ k1 =>
   have H:=HA.out
   clear HA
   simp only [laws_markTitleS.l0] at H
   by_cases c3:x5_1 < (x0_1.length:Int)
   ·rw [if_pos c3] at H
    have c3b0:decide (x5_1 < (x0_1.length:Int))=true:=decide_eq_true c3
    clear c3
    by_cases c4:0≤x5_1
    ·rw [if_pos c4] at H
     have c4b0:decide (0≤x5_1)=true:=decide_eq_true c4
     clear c4
     obtain⟨y244,hy244⟩:∃ y_:List (S40),y_=(x0_1.set (x5_1:Int).toNat (⟨x1_1,(rd_T40 x0_1 x5_1).f1,(rd_T40 x0_1 x5_1).f2⟩:S40)):=⟨_,rfl⟩
     replace H:((some (y244.set (x5_1:Int).toNat (⟨(rd_T40 y244 x5_1).f0,wrap64 (x1_1+1),(rd_T40 y244 x5_1).f2⟩:S40):List (S40))).bind fun y245=>((laws_markText.f k1 (wrap64 ((wrap64 (x1_1+1))+1))).bind fun t246=>(laws_markTitleS.l0 k1 (y245.set (x5_1:Int).toNat (⟨(rd_T40 y245 x5_1).f0,(rd_T40 y245 x5_1).f1,t246⟩:S40)) (wrap64 ((wrap64 ((wrap64 (x1_1+1))+1))+1)) (wrap64 (x5_1+1)))))=some (r1,r2):=by first|(rw [hy244];with_reducible exact H)|(have H2_:=(Option.bind_some _ _).symm.trans H;rw [hy244];with_reducible exact H2_)|(have H2_:=(Option.bind_some _ _).symm.trans H;with_reducible exact H2_)|with_reducible exact H|(rw [hy244];exact H)|exact H
     have Ny244:=Ja hy244
     clear hy244
     obtain⟨y245,hy245⟩:∃ y_:List (S40),y_=(y244.set (x5_1:Int).toNat (⟨(rd_T40 y244 x5_1).f0,wrap64 (x1_1+1),(rd_T40 y244 x5_1).f2⟩:S40)):=⟨_,rfl⟩
     replace H:((laws_markText.f k1 (wrap64 ((wrap64 (x1_1+1))+1))).bind fun t246=>(laws_markTitleS.l0 k1 (y245.set (x5_1:Int).toNat (⟨(rd_T40 y245 x5_1).f0,(rd_T40 y245 x5_1).f1,t246⟩:S40)) (wrap64 ((wrap64 ((wrap64 (x1_1+1))+1))+1)) (wrap64 (x5_1+1))))=some (r1,r2):=by first|(rw [hy245];with_reducible exact H)|(have H2_:=(Option.bind_some _ _).symm.trans H;rw [hy245];with_reducible exact H2_)|(have H2_:=(Option.bind_some _ _).symm.trans H;with_reducible exact H2_)|with_reducible exact H|(rw [hy245];exact H)|exact H
     have Ny245:=Ja hy245
     clear hy245
     replace H:=Option.bind_eq_some_iff.mp H
     obtain⟨t246,A70,H⟩:=H
     replace H:(laws_markTitleS.l0 k1 (y245.set (x5_1:Int).toNat (⟨(rd_T40 y245 x5_1).f0,(rd_T40 y245 x5_1).f1,t246⟩:S40)) (wrap64 ((wrap64 ((wrap64 (x1_1+1))+1))+1)) (wrap64 (x5_1+1)))=some (r1,r2):=H
     have A7:=Ja A70
     clear A70
     obtain⟨y247,hy247⟩:∃ y_:List (S40),y_=(y245.set (x5_1:Int).toNat (⟨(rd_T40 y245 x5_1).f0,(rd_T40 y245 x5_1).f1,t246⟩:S40)):=⟨_,rfl⟩
     replace H:(laws_markTitleS.l0 k1 y247 (wrap64 ((wrap64 ((wrap64 (x1_1+1))+1))+1)) (wrap64 (x5_1+1)))=some (r1,r2):=by first|(rw [hy247];with_reducible exact H)|(have H2_:=(Option.bind_some _ _).symm.trans H;rw [hy247];with_reducible exact H2_)|(have H2_:=(Option.bind_some _ _).symm.trans H;with_reducible exact H2_)|with_reducible exact H|(rw [hy247];exact H)|exact H
     have Ny247:=Ja hy247
     clear hy247
     have H':=Ja H
     clear H
     obtain⟨Ao9,co9,eo9⟩:=Kd.R_slice HO_0.out
     subst eo9
     have p5:0≤(x5_1:Int):=of_decide_eq_true (by first|(with_reducible assumption)|assumption)
     have q5:(x5_1:Int) < ((x0_1.length:Int):Int):=of_decide_eq_true (by first|(with_reducible assumption)|assumption)
     obtain⟨go5,co5,eo5,gb5,gl5,cl5,HG5⟩:=Kd.R_form HO_0.out (by omega)
     (first|cases eo5|(injection eo5 with ea_ en_ ec_;(first|subst ea_|(injection ea_ with ea_;subst ea_));subst ec_;clear en_))
     have GB5:=Ja gb5
     have GG5:=Ja HG5
     clear gb5 gl5 HG5
     have HMgo5:=Ja (show(P0_ go5∨w.heap.size≤go5) from(HO_0.out.1 _ rfl))
     obtain⟨ce5,hcl5,hM5,hcc5,hfr5⟩:=Kd.R_elem HO_0.out z40 (x5_1:Int) p5 q5
     obtain rfl:=k40_openM hM5
     have hx5_0:wr.cell? ⟨go5,(x5_1:Int).toNat*3,none⟩=some (.int .i64 ((rd_T40 x0_1 x5_1).f0)):=hcc5 0 _ rfl
     have hx5_1:wr.cell? ⟨go5,(x5_1:Int).toNat*3+1,none⟩=some (.int .i64 ((rd_T40 x0_1 x5_1).f1)):=hcc5 1 _ rfl
     have hx5_2:wr.cell? ⟨go5,(x5_1:Int).toNat*3+2,none⟩=some (.string ((rd_T40 x0_1 x5_1).f2)):=hcc5 2 _ rfl
     have hf5_0:wr.frozen? ⟨go5,(x5_1:Int).toNat*3,none⟩=false:=hfr5 0
     have hf5_1:wr.frozen? ⟨go5,(x5_1:Int).toNat*3+1,none⟩=false:=hfr5 1
     have hf5_2:wr.frozen? ⟨go5,(x5_1:Int).toNat*3+2,none⟩=false:=hfr5 2
     clear hcl5 hcc5 hfr5 hM5
     replace p5:=eq_true p5
     replace q5:=eq_true q5
     have HX10:=Ja (show Kd.R k40 40 wr w0.heap.size (fun k_=>(P0_ k_∨w.heap.size≤k_)) (.slice (some ⟨go5,0,none⟩) x0_1.length co9) x0_1 from(by(with_reducible repeat(first|apply Kd.R_alloc|apply Kd.R_drewN|apply Kd.R_drew));exact HO_0.out))
     obtain⟨ce10,hcl10,hM10,hcc10,hfr10⟩:=Kd.R_elem HX10.out z40 (x5_1:Int) (of_decide_eq_true (by first|(with_reducible assumption)|assumption)) (by have h_:(x5_1:Int) < ((x0_1.length:Int):Int):=of_decide_eq_true (by first|(with_reducible assumption)|assumption);first|exact h_|(have e_:=(Kd.R_reads' HO_0.out).1;omega)|simpa using h_)
     obtain rfl:=k40_openM hM10
     have HP10:=Kd.R_seg HX10.out (x5_1:Int) (of_decide_eq_true (by first|(with_reducible assumption)|assumption)) (by have h_:(x5_1:Int) < ((x0_1.length:Int):Int):=of_decide_eq_true (by first|(with_reducible assumption)|assumption);first|exact h_|(have e_:=(Kd.R_reads' HO_0.out).1;omega)|simpa using h_) (seg:=[.int .i64 x1_1]) (j:=0) hcl10 hcc10 (show 1≤3 from by decide) (x':=(⟨x1_1,(rd_T40 x0_1 x5_1).f1,(rd_T40 x0_1 x5_1).f2⟩:S40)) (k40_mkM _ _ _ (⟨x1_1,(rd_T40 x0_1 x5_1).f1,(rd_T40 x0_1 x5_1).f2⟩:S40) ) (fun _ hk=>hk)
     have hx10_0:=hcc10 0 _ rfl
     (try simp only [show(k40).sz=3 from rfl,Nat.mul_one,Nat.add_zero] at hx10_0)
     have hf10_0:=hfr10 0
     (try simp only [show(k40).sz=3 from rfl,Nat.mul_one,Nat.add_zero] at hf10_0)
     clear hcl10 hcc10 hfr10 hM10
     go_wp2_with (first|((with_reducible refine gate_store (t:=2) (p:=16) rfl ?_);refine store_event (t:=2) (p:=16) (v:=?vo_w11) (w1:=(wr.setCell ⟨go5,(x5_1:Int).toNat*3,none⟩ (.int .i64 x1_1))) ?hg ?ho ?hn ?hr ?_;(case ho=>rfl);(case hg=>rfl);(case hn=>rfl);(case hr=>first|(go_simp;done)|(go_simp;rfl));intro w11 hw;have hg:wr.grownBy w11 (some go5):=(by rw [hw];exact HP10.2);have hp_:Kd.R k40 40 w11 w0.heap.size (fun k_=>(P0_ k_∨w.heap.size≤k_)) (.slice (some ⟨go5,0,none⟩) x0_1.length co9) y244:=(by rw [hw,Ny244.out];exact HP10.1);clear HP10;have n0_:=Ja (hp_);have n1_:=Ja ((by rw [hw];exact Jh (HB.out) GB5.out:Below w0.heap.size w0 w11));have n2_:=Ja (Kept.of_grown (S:=(fun k_=>P0_ k_)) hg (by repeat(first|(with_reducible first|exact HK.out|apply Kept.alloc|apply Kept.drewN|apply Kept.drew)|exact HK.out)) (fun k_ e_=>(HO_0.out.1 k_ e_)));clear HO_0;clear HB;clear HK;have HO_0:=n0_;have HB:=n1_;have HK:=n2_;clear n0_ n1_ n2_;clear hg hw hp_;have p6:0≤(x5_1:Int):=of_decide_eq_true (by first|(with_reducible assumption)|assumption);have q6:(x5_1:Int) < ((x0_1.length:Int):Int):=of_decide_eq_true (by first|(with_reducible assumption)|assumption);obtain⟨ce6,hcl6,hM6,hcc6,hfr6⟩:=Kd.R_elem HO_0.out z40 (x5_1:Int) p6 q6;obtain rfl:=k40_openM hM6;have hx6_0:w11.cell? ⟨go5,(x5_1:Int).toNat*3,none⟩=some (.int .i64 ((rd_T40 y244 x5_1).f0)):=hcc6 0 _ rfl;have hx6_1:w11.cell? ⟨go5,(x5_1:Int).toNat*3+1,none⟩=some (.int .i64 ((rd_T40 y244 x5_1).f1)):=hcc6 1 _ rfl;have hx6_2:w11.cell? ⟨go5,(x5_1:Int).toNat*3+2,none⟩=some (.string ((rd_T40 y244 x5_1).f2)):=hcc6 2 _ rfl;have hf6_0:w11.frozen? ⟨go5,(x5_1:Int).toNat*3,none⟩=false:=hfr6 0;have hf6_1:w11.frozen? ⟨go5,(x5_1:Int).toNat*3+1,none⟩=false:=hfr6 1;have hf6_2:w11.frozen? ⟨go5,(x5_1:Int).toNat*3+2,none⟩=false:=hfr6 2;clear hcl6 hcc6 hfr6 hM6;replace p6:=eq_true p6;replace q6:=eq_true q6;have HX12:=Ja (show Kd.R k40 40 w11 w0.heap.size (fun k_=>(P0_ k_∨w.heap.size≤k_)) (.slice (some ⟨go5,0,none⟩) x0_1.length co9) y244 from(by(with_reducible repeat(first|apply Kd.R_alloc|apply Kd.R_drewN|apply Kd.R_drew));exact HO_0.out));obtain⟨ce12,hcl12,hM12,hcc12,hfr12⟩:=Kd.R_elem HX12.out z40 (x5_1:Int) (of_decide_eq_true (by first|(with_reducible assumption)|assumption)) (by have h_:(x5_1:Int) < ((x0_1.length:Int):Int):=of_decide_eq_true (by first|(with_reducible assumption)|assumption);first|exact h_|(have e_:=(Kd.R_reads' HO_0.out).1;omega)|simpa using h_);obtain rfl:=k40_openM hM12;have HP12:=Kd.R_seg HX12.out (x5_1:Int) (of_decide_eq_true (by first|(with_reducible assumption)|assumption)) (by have h_:(x5_1:Int) < ((x0_1.length:Int):Int):=of_decide_eq_true (by first|(with_reducible assumption)|assumption);first|exact h_|(have e_:=(Kd.R_reads' HO_0.out).1;omega)|simpa using h_) (seg:=[.int .i64 (wrap64 (x1_1+1))]) (j:=1) hcl12 hcc12 (show 2≤3 from by decide) (x':=(⟨(rd_T40 y244 x5_1).f0,wrap64 (x1_1+1),(rd_T40 y244 x5_1).f2⟩:S40)) (k40_mkM _ _ _ (⟨(rd_T40 y244 x5_1).f0,wrap64 (x1_1+1),(rd_T40 y244 x5_1).f2⟩:S40) ) (fun _ hk=>hk);have hx12_1:=hcc12 1 _ rfl;(try simp only [show(k40).sz=3 from rfl,Nat.mul_one,Nat.add_zero] at hx12_1);have hf12_1:=hfr12 1;(try simp only [show(k40).sz=3 from rfl,Nat.mul_one,Nat.add_zero] at hf12_1);clear hcl12 hcc12 hfr12 hM12)|((with_reducible refine gate_store (t:=2) (p:=23) rfl ?_);refine store_event (t:=2) (p:=23) (v:=?vo_w13) (w1:=(w11.setCell ⟨go5,(x5_1:Int).toNat*3+1,none⟩ (.int .i64 (wrap64 (x1_1+1))))) ?hg ?ho ?hn ?hr ?_;(case ho=>rfl);(case hg=>rfl);(case hn=>rfl);(case hr=>first|(go_simp;done)|(go_simp;rfl));intro w13 hw;have hg:w11.grownBy w13 (some go5):=(by rw [hw];exact HP12.2);have hp_:Kd.R k40 40 w13 w0.heap.size (fun k_=>(P0_ k_∨w.heap.size≤k_)) (.slice (some ⟨go5,0,none⟩) x0_1.length co9) y245:=(by rw [hw,Ny245.out];exact HP12.1);clear HP12;have n0_:=Ja (hp_);have n1_:=Ja ((by rw [hw];exact Jh (HB.out) GB5.out:Below w0.heap.size w0 w13));have n2_:=Ja (Kept.of_grown (S:=(fun k_=>P0_ k_)) hg (by repeat(first|(with_reducible first|exact HK.out|apply Kept.alloc|apply Kept.drewN|apply Kept.drew)|exact HK.out)) (fun k_ e_=>(HO_0.out.1 k_ e_)));clear HO_0;clear HB;clear HK;have HO_0:=n0_;have HB:=n1_;have HK:=n2_;clear n0_ n1_ n2_;clear hg hw hp_)|((with_reducible refine gate_callee (f:=34) rfl ?_);refine goesL_ (some 29) rfl rfl Tryd.func34 (by kernel_rfl) rfl #[.int .i64 (wrap64 ((wrap64 (x1_1+1))+1))] rfl (by(try simp only [List.map_toArray,List.map_cons,List.map_nil]);first|done|rfl|(simp only [List.length_drop,List.length_take];rfl)) ?_;(with_reducible refine(laws_markText.calls k1 (wrap64 ((wrap64 (x1_1+1))+1)) t246 _ A7.out).mono ?_);rintro e w14 ⟨rfl,hb⟩;refine⟨_,rfl,?_⟩;have n0_:=Ja (Kd.R_below (by(with_reducible repeat(first|apply Kd.R_alloc|apply Kd.R_drewN|apply Kd.R_drew));exact HO_0.out) hb);have n1_:=Ja (Kept.below (S:=(fun k_=>P0_ k_)) (by repeat(first|(with_reducible first|exact HK.out|apply Kept.alloc|apply Kept.drewN|apply Kept.drew)|exact HK.out)) hb);have n2_:=Ja (Jl (by repeat(first|(with_reducible first|exact HB.out|apply Jd|apply Jb|apply Jc)|exact HB.out)) hb);clear HO_0;clear HK;clear HB;have HO_0:=n0_;have HK:=n1_;have HB:=n2_;clear n0_ n1_ n2_;(try clear hb);(try clear hb2);(try clear hk);(try clear hi);have p8:0≤(x5_1:Int):=of_decide_eq_true (by first|(with_reducible assumption)|assumption);have q8:(x5_1:Int) < ((x0_1.length:Int):Int):=of_decide_eq_true (by first|(with_reducible assumption)|assumption);obtain⟨ce8,hcl8,hM8,hcc8,hfr8⟩:=Kd.R_elem HO_0.out z40 (x5_1:Int) p8 q8;obtain rfl:=k40_openM hM8;have hx8_0:w14.cell? ⟨go5,(x5_1:Int).toNat*3,none⟩=some (.int .i64 ((rd_T40 y245 x5_1).f0)):=hcc8 0 _ rfl;have hx8_1:w14.cell? ⟨go5,(x5_1:Int).toNat*3+1,none⟩=some (.int .i64 ((rd_T40 y245 x5_1).f1)):=hcc8 1 _ rfl;have hx8_2:w14.cell? ⟨go5,(x5_1:Int).toNat*3+2,none⟩=some (.string ((rd_T40 y245 x5_1).f2)):=hcc8 2 _ rfl;have hf8_0:w14.frozen? ⟨go5,(x5_1:Int).toNat*3,none⟩=false:=hfr8 0;have hf8_1:w14.frozen? ⟨go5,(x5_1:Int).toNat*3+1,none⟩=false:=hfr8 1;have hf8_2:w14.frozen? ⟨go5,(x5_1:Int).toNat*3+2,none⟩=false:=hfr8 2;clear hcl8 hcc8 hfr8 hM8;replace p8:=eq_true p8;replace q8:=eq_true q8;have HX15:=Ja (show Kd.R k40 40 w14 w0.heap.size (fun k_=>(P0_ k_∨w.heap.size≤k_)) (.slice (some ⟨go5,0,none⟩) x0_1.length co9) y245 from(by(with_reducible repeat(first|apply Kd.R_alloc|apply Kd.R_drewN|apply Kd.R_drew));exact HO_0.out));obtain⟨ce15,hcl15,hM15,hcc15,hfr15⟩:=Kd.R_elem HX15.out z40 (x5_1:Int) (of_decide_eq_true (by first|(with_reducible assumption)|assumption)) (by have h_:(x5_1:Int) < ((x0_1.length:Int):Int):=of_decide_eq_true (by first|(with_reducible assumption)|assumption);first|exact h_|(have e_:=(Kd.R_reads' HO_0.out).1;omega)|simpa using h_);obtain rfl:=k40_openM hM15;have HP15:=Kd.R_seg HX15.out (x5_1:Int) (of_decide_eq_true (by first|(with_reducible assumption)|assumption)) (by have h_:(x5_1:Int) < ((x0_1.length:Int):Int):=of_decide_eq_true (by first|(with_reducible assumption)|assumption);first|exact h_|(have e_:=(Kd.R_reads' HO_0.out).1;omega)|simpa using h_) (seg:=[.string t246]) (j:=2) hcl15 hcc15 (show 3≤3 from by decide) (x':=(⟨(rd_T40 y245 x5_1).f0,(rd_T40 y245 x5_1).f1,t246⟩:S40)) (k40_mkM _ _ _ (⟨(rd_T40 y245 x5_1).f0,(rd_T40 y245 x5_1).f1,t246⟩:S40) ) (fun _ hk=>hk);have hx15_2:=hcc15 2 _ rfl;(try simp only [show(k40).sz=3 from rfl,Nat.mul_one,Nat.add_zero] at hx15_2);have hf15_2:=hfr15 2;(try simp only [show(k40).sz=3 from rfl,Nat.mul_one,Nat.add_zero] at hf15_2);clear hcl15 hcc15 hfr15 hM15)|((with_reducible refine gate_store (t:=9) (p:=31) rfl ?_);refine store_event (t:=9) (p:=31) (v:=?vo_w16) (w1:=(w14.setCell ⟨go5,(x5_1:Int).toNat*3+2,none⟩ (.string t246))) ?hg ?ho ?hn ?hr ?_;(case ho=>rfl);(case hg=>rfl);(case hn=>rfl);(case hr=>first|(go_simp;done)|(go_simp;rfl));intro w16 hw;have hg:w14.grownBy w16 (some go5):=(by rw [hw];exact HP15.2);have hp_:Kd.R k40 40 w16 w0.heap.size (fun k_=>(P0_ k_∨w.heap.size≤k_)) (.slice (some ⟨go5,0,none⟩) x0_1.length co9) y247:=(by rw [hw,Ny247.out];exact HP15.1);clear HP15;have n0_:=Ja (hp_);have n1_:=Ja ((by rw [hw];exact Jh (HB.out) GB5.out:Below w0.heap.size w0 w16));have n2_:=Ja (Kept.of_grown (S:=(fun k_=>P0_ k_)) hg (by repeat(first|(with_reducible first|exact HK.out|apply Kept.alloc|apply Kept.drewN|apply Kept.drew)|exact HK.out)) (fun k_ e_=>(HO_0.out.1 k_ e_)));clear HO_0;clear HB;clear HK;have HO_0:=n0_;have HB:=n1_;have HK:=n2_;clear n0_ n1_ n2_;clear hg hw hp_))
     go_roundg k1
     case measure=>have:=HK1.out;omega
     case rel=>exact⟨(y247),(wrap64 ((wrap64 ((wrap64 (x1_1+1))+1))+1)),(wrap64 (x5_1+1)),(by first|rfl|(simp;done)|(simp [*];done)),(by first|rfl|(simp;done)|(simp [*];done)),H',⟨by have:=HK1.out;omega⟩,⟨by(with_reducible repeat(first|apply Kd.R_alloc|apply Kd.R_drewN|apply Kd.R_drew));exact HO_0.out⟩,⟨by repeat(first|(with_reducible first|exact HK.out|apply Kept.alloc|apply Kept.drewN|apply Kept.drew)|exact HK.out)⟩,⟨by repeat(first|(with_reducible first|exact HB.out|apply Jd|apply Jb|apply Jc)|exact HB.out)⟩⟩
    ·rw [if_neg c4] at H
     exact absurd H (by simp)
   ·rw [if_neg c3] at H
    have c3b0:decide (x5_1 < (x0_1.length:Int))=false:=decide_eq_false c3
    clear c3
    simp only [Option.some.injEq,Prod.mk.injEq] at H
    obtain⟨rfl,rfl⟩:=H
    obtain⟨Ao17,co17,eo17⟩:=Kd.R_slice HO_0.out
    subst eo17
    go_wp2
    go_ret
    exact⟨by first|rfl|(simp [errW_none,errW_some] <;> rfl)|(simp [*,errW_none,errW_some] <;> rfl),by(with_reducible repeat(first|apply Kd.R_alloc|apply Kd.R_drewN|apply Kd.R_drew));exact HO_0.out,by repeat(first|(with_reducible first|exact HB.out|apply Jd|apply Jb|apply Jc)|exact HB.out),by repeat(first|(with_reducible first|exact HK.out|apply Kept.alloc|apply Kept.drewN|apply Kept.drew)|exact HK.out)⟩

/-! ### laws_heldTitleS: function 15 -/
def laws_heldTitleS.l0 : Nat → List (S40) → Int → Int → Option (Int)
 | 0, _, _, _ => none
 | k + 1, x0, x1, x5 => if x5 < (x0.length : Int) then (if 0 ≤ x5 then (if ((rd_T40 x0 x5).f0) = x1 then (if ((rd_T40 x0 x5).f1) = (wrap64 (x1 + 1)) then ((laws_markText.f k (wrap64 ((wrap64 (x1 + 1)) + 1))).bind fun t251 => (if ((rd_T40 x0 x5).f2).toList = t251.toList then (laws_heldTitleS.l0 k x0 (wrap64 ((wrap64 ((wrap64 (x1 + 1)) + 1)) + 1)) (wrap64 (x5 + 1))) else (some (-1)))) else (some (-1))) else (some (-1))) else (none)) else (some x1)
def laws_heldTitleS.f (k : Nat) (l0 : List (S40)) (a1 : Int) : Option (Int) := laws_heldTitleS.l0 k l0 a1 0
theorem laws_heldTitleS.mono_l : ∀ k, (∀ y0 y1 y2, LeO (laws_heldTitleS.l0 k y0 y1 y2) (laws_heldTitleS.l0 (k + 1) y0 y1 y2))
 | 0 => fun _ _ _ r h => by simp [laws_heldTitleS.l0] at h
 | k + 1 => by
  have ih0:=laws_heldTitleS.mono_l k
  ·intro y0 y1 y2
   unfold laws_heldTitleS.l0
   repeat' first
   | (with_reducible exact ih0 _ _ _)
   | (with_reducible exact laws_markText.mono _ _)
   | (with_reducible exact LeO.refl _)
   | (with_reducible exact LeO.none _)
   | (with_reducible refine LeO.ite ?_ ?_)
   | (with_reducible refine LeO.bind ?_ (fun _ => ?_))
   | exact ih0 _ _ _
   | exact laws_markText.mono _ _
   | exact LeO.none _
   | refine LeO.ite ?_ ?_
   | refine LeO.bind ?_ (fun _ => ?_)
theorem laws_heldTitleS.mono : ∀ a0 a1 k, LeO (laws_heldTitleS.f k a0 a1) (laws_heldTitleS.f (k + 1) a0 a1) := by
 intro a0 a1 k
 have ih0:=laws_heldTitleS.mono_l k
 unfold laws_heldTitleS.f
 repeat' first
   | (with_reducible exact ih0 _ _ _)
   | (with_reducible exact laws_markText.mono _ _)
   | (with_reducible exact LeO.refl _)
   | (with_reducible exact LeO.none _)
   | (with_reducible refine LeO.ite ?_ ?_)
   | (with_reducible refine LeO.bind ?_ (fun _ => ?_))
   | exact ih0 _ _ _
   | exact laws_markText.mono _ _
   | exact LeO.none _
   | refine LeO.ite ?_ ?_
   | refine LeO.bind ?_ (fun _ => ?_)
def laws_heldTitleS.T10 : Bool × List (List Nat × List Nat) := (true, [([], []), ([], []), ([0, 1], [0, 1]), ([2], [2]), ([3], [3]), ([], []), ([5], [5]), ([4, 6], [4, 6])])
def laws_heldTitleS.B10 : List Nat := [0, 0, 3, 7, 15, 0, 32, 127]
theorem laws_heldTitleS.tab10 : rtab .any (opsOf Tryd.f15 10) = laws_heldTitleS.T10 := by kernel_rfl
theorem laws_heldTitleS.bits10 : waitsOk laws_heldTitleS.T10.2 laws_heldTitleS.B10 = true := by kernel_rfl
set_option maxHeartbeats 8000000 in
set_option maxRecDepth 100000 in
theorem laws_heldTitleS.calls (k : Nat) (A0 : Option Addr) (c0 : Nat) (l0 : List (S40)) (a1 : Int) (r : Int) (w : World) (hr0 : Kd.C k40 w A0 l0.length l0) (hc0 : l0.length ≤ c0) (h : laws_heldTitleS.f k l0 a1 = some r) :
  Calls Tryd.prog 15 #[.slice A0 l0.length c0,.int .i64 a1] w fun e w'=>e=.returned (.int .i64 r)∧Below w.heap.size w w':=by
 have HR0:=Ja hr0
 have HC0:=Ja hc0
 clear hr0 hc0
 have HB:=Ja (Below.refl w.heap.size w)
 have H:(laws_heldTitleS.l0 k l0 a1 0)=some r:=h
 clear h
 have H':=Ja H
 clear H
 go_enter Tryd.func15,Tryd.ntmps15
 go_wp2
 go_loopg [1,5] k (fun kq v1 v5 w'=>∃ (x1_1:Int) (x5_1:Int),v1=.int .i64 x1_1∧v5=.int .i64 x5_1∧Aside0 (laws_heldTitleS.l0 kq l0 x1_1 x5_1=some r)∧Aside0 (kq≤k)∧Aside0 (Below w.heap.size w w'))
 case atStart=>exact⟨(a1),(0),(by first|rfl|(simp;done)|(simp [*];done)),(by first|rfl|(simp;done)|(simp [*];done)),H',⟨Nat.le_refl _⟩,⟨by repeat(first|(with_reducible first|exact HB.out|apply Jd|apply Jb|apply Jc)|exact HB.out)⟩⟩
 case round=>
  clear H'
  try clear c1
  try clear p2
  obtain⟨x1_1,x5_1,rfl,rfl,HA,HK1,HB⟩:=hrel
  cases gk with
  | zero => exact absurd HA.out (by simp [laws_heldTitleS.l0])
  | succ k1 =>
   have H:=HA.out
   clear HA
   simp only [laws_heldTitleS.l0] at H
   by_cases c3:x5_1 < (l0.length:Int)
   ·rw [if_pos c3] at H
    have c3b0:decide (x5_1 < (l0.length:Int))=true:=decide_eq_true c3
    clear c3
    by_cases c4:0≤x5_1
    ·rw [if_pos c4] at H
     have c4b0:decide (0≤x5_1)=true:=decide_eq_true c4
     clear c4
     by_cases c5:((rd_T40 l0 x5_1).f0)=x1_1
     ·rw [if_pos c5] at H
      have c5b0:(((rd_T40 l0 x5_1).f0) == x1_1)=true:=beq_iff_eq.mpr c5
      have c5b1:(((rd_T40 l0 x5_1).f0) != x1_1)=false:=bne_eq_false_iff_eq.mpr c5
      clear c5
      by_cases c6:((rd_T40 l0 x5_1).f1)=(wrap64 (x1_1+1))
      ·rw [if_pos c6] at H
       have c6b0:(((rd_T40 l0 x5_1).f1) == (wrap64 (x1_1+1)))=true:=beq_iff_eq.mpr c6
       have c6b1:(((rd_T40 l0 x5_1).f1) != (wrap64 (x1_1+1)))=false:=bne_eq_false_iff_eq.mpr c6
       clear c6
       replace H:=Option.bind_eq_some_iff.mp H
       obtain⟨t251,A70,H⟩:=H
       replace H:(if ((rd_T40 l0 x5_1).f2).toList=t251.toList then (laws_heldTitleS.l0 k1 l0 (wrap64 ((wrap64 ((wrap64 (x1_1+1))+1))+1)) (wrap64 (x5_1+1))) else (some (-1)))=some r:=H
       have A7:=Ja A70
       clear A70
       by_cases c8:((rd_T40 l0 x5_1).f2).toList=t251.toList
       ·rw [if_pos c8] at H
        have c8b0:(((rd_T40 l0 x5_1).f2).toList == t251.toList)=true:=beq_iff_eq.mpr c8
        have c8b1:(((rd_T40 l0 x5_1).f2).toList != t251.toList)=false:=bne_eq_false_iff_eq.mpr c8
        clear c8
        have H':=Ja H
        clear H
        have qn:0≤(x5_1:Int):=of_decide_eq_true (by first|(with_reducible assumption)|assumption)
        have qo:x5_1 < (l0.length:Int):=of_decide_eq_true (by first|(with_reducible assumption)|assumption)
        obtain⟨qj,e248,qa,qb,qc⟩:=at_T40 HR0.out x5_1 qn qo
        cases e248
        replace qa:=(HB.out.cell (World.block_lt_of_cell? w _ qa)).trans qa
        replace qb:=(HB.out.cell (World.block_lt_of_cell? w _ qb)).trans qb
        replace qc:=(HB.out.cell (World.block_lt_of_cell? w _ qc)).trans qc
        replace qn:=eq_true qn
        replace qo:=eq_true qo
        have qp:0≤(x5_1:Int):=of_decide_eq_true (by first|(with_reducible assumption)|assumption)
        have qq:x5_1 < (l0.length:Int):=of_decide_eq_true (by first|(with_reducible assumption)|assumption)
        obtain⟨ad249,e249,qd,qe,qf⟩:=at_T40 HR0.out x5_1 qp qq
        obtain rfl:qj=ad249:=(by injection e249)
        replace qd:=(HB.out.cell (World.block_lt_of_cell? w _ qd)).trans qd
        replace qe:=(HB.out.cell (World.block_lt_of_cell? w _ qe)).trans qe
        replace qf:=(HB.out.cell (World.block_lt_of_cell? w _ qf)).trans qf
        replace qp:=eq_true qp
        replace qq:=eq_true qq
        try go_wp2
        have n0_:=Ja (Jc HB.out)
        clear HB
        have HB:=n0_
        clear n0_
        have p250:0≤(x5_1:Int):=of_decide_eq_true (by first|(with_reducible assumption)|assumption)
        have q250:x5_1 < (l0.length:Int):=of_decide_eq_true (by first|(with_reducible assumption)|assumption)
        obtain⟨ad250,e250,qg,qh,qi⟩:=at_T40 HR0.out x5_1 p250 q250
        have qm:=qi
        have ql:=qh
        have qk:=qg
        obtain rfl:qj=ad250:=(by injection e250)
        replace qg:=(HB.out.cell (World.block_lt_of_cell? w _ qg)).trans qg
        replace qh:=(HB.out.cell (World.block_lt_of_cell? w _ qh)).trans qh
        replace qi:=(HB.out.cell (World.block_lt_of_cell? w _ qi)).trans qi
        replace p250:=eq_true p250
        replace q250:=eq_true q250
        refine start_ (n:=8) (S:=fun w'=>w'.cell? (qj.add ((x5_1).toNat*3))=some (.int .i64 ((rd_T40 l0 x5_1).f0))∧w'.cell? ⟨(qj.add ((x5_1).toNat*3)).block,(qj.add ((x5_1).toNat*3)).off+1,none⟩=some (.int .i64 ((rd_T40 l0 x5_1).f1))∧w'.cell? ⟨(qj.add ((x5_1).toNat*3)).block,(qj.add ((x5_1).toNat*3)).off+2,none⟩=some (.string ((rd_T40 l0 x5_1).f2))) (ds:=[]) #[false,false,false,false,false,false,false,false] (by kernel_rfl) rfl rfl ⟨((HB.out.cell (World.block_lt_of_cell? w _ qk)).trans qk),((HB.out.cell (World.block_lt_of_cell? w _ ql)).trans ql),((HB.out.cell (World.block_lt_of_cell? w _ qm)).trans qm)⟩ (fun hHeld=>?_);refine with_tabW laws_heldTitleS.tab10 laws_heldTitleS.bits10 (fun HT_ HW_=>?_)
        generalize wr.drew=w9 at HB qg qh qi hHeld ⊢
        refine pure_ (i:=0) (N:=some 30) (v:=?_) (a':=?_) #[true,false,false,false,false,false,false,false] rfl rfl (any_of HT_.out (by kernel_rfl)) (fun _ _ _ h=>h) (Or.inl ⟨by rfl,?_⟩) ?_ ?_
        rotate_left
        ·intro w'
         go_simp
         with_reducible rfl
        rotate_left
        ·simp only [Act.put,List.setIfInBounds_toArray,List.set_cons_zero,List.set_cons_succ,i64_w,i32_w]
         rfl
        refine pure_ (i:=1) (N:=some 31) (v:=?_) (a':=?_) #[true,true,false,false,false,false,false,false] rfl rfl (any_of HT_.out (by kernel_rfl)) (fun _ _ _ h=>h) (Or.inl ⟨by rfl,?_⟩) ?_ ?_
        rotate_left
        ·intro w'
         go_simp
         with_reducible rfl
        rotate_left
        ·simp only [Act.put,List.setIfInBounds_toArray,List.set_cons_zero,List.set_cons_succ,i64_w,i32_w]
         rfl
        refine pure_ (i:=2) (N:=some 32) (v:=?_) (a':=?_) #[true,true,true,false,false,false,false,false] rfl rfl (any_of HT_.out (by kernel_rfl)) (fun _ _ _ h=>h) (Or.inl ⟨by rfl,?_⟩) ?_ ?_
        rotate_left
        ·intro w'
         go_simp
         with_reducible rfl
        rotate_left
        ·simp only [Act.put,List.setIfInBounds_toArray,List.set_cons_zero,List.set_cons_succ,i64_w,i32_w]
         rfl
        refine pure_ (i:=3) (N:=some 33) (v:=?_) (a':=?_) #[true,true,true,true,false,false,false,false] rfl rfl (any_of HT_.out (by kernel_rfl)) (fun _ _ _ h=>h) (Or.inl ⟨by rfl,?_⟩) ?_ ?_
        rotate_left
        ·intro w'
         go_simp
         with_reducible rfl
        rotate_left
        ·simp only [Act.put,List.setIfInBounds_toArray,List.set_cons_zero,List.set_cons_succ,i64_w,i32_w]
         rfl
        refine pure_ (i:=5) (N:=some 35) (v:=?_) (a':=?_) #[true,true,true,true,false,true,false,false] rfl rfl (any_of HT_.out (by kernel_rfl)) (fun _ _ _ h=>h) (Or.inl ⟨by rfl,?_⟩) ?_ ?_
        rotate_left
        ·intro w'
         go_simp
         with_reducible rfl
        rotate_left
        ·simp only [Act.put,List.setIfInBounds_toArray,List.set_cons_zero,List.set_cons_succ,i64_w,i32_w]
         rfl
        refine take_ (i:=4) (N:=some 34) (v:=?_) (a':=?_) #[true,true,true,true,true,true,false,false] rfl rfl (take_ofW HT_.out HW_.out (by kernel_rfl)) (fun _ _ _ h=>h) (Or.inl ⟨by rfl,?_⟩) hHeld ?_ ?_
        rotate_left
        ·rintro w' ⟨s0,s1,s2⟩
         go_simp
         with_reducible rfl
        rotate_left
        ·simp only [Act.put,List.setIfInBounds_toArray,List.set_cons_zero,List.set_cons_succ,i64_w,i32_w]
         rfl
        refine one_ (i:=6) (N:=some 36) #[true,true,true,true,true,true,true,false] rfl rfl (one_of HT_.out (by kernel_rfl)) (by decide) (fun K hK=>?_)
        refine goes_ Tryd.func34 (by kernel_rfl) rfl #[.int .i64 (wrap64 ((wrap64 (x1_1+1))+1))] (by rfl) rfl rfl (by(try simp only [List.map_toArray,List.map_cons,List.map_nil]);first|done|rfl|(simp only [List.length_drop,List.length_take];rfl)) ?_
        with_reducible refine(laws_markText.calls k1 (wrap64 ((wrap64 (x1_1+1))+1)) t251 _ A7.out).mono ?_
        rintro e w10 ⟨rfl,hb⟩
        refine⟨_,rfl,?_⟩
        have n0_:=Ja (Jl (by repeat(first|(with_reducible first|exact HB.out|apply Jd|apply Jb|apply Jc)|exact HB.out)) hb)
        clear HB
        have HB:=n0_
        clear n0_
        (try clear hb)
        (try clear hb2)
        (try clear hk)
        (try clear hi)
        refine hK.out _ _ ⟨((HB.out.cell (World.block_lt_of_cell? w _ qk)).trans qk),((HB.out.cell (World.block_lt_of_cell? w _ ql)).trans ql),((HB.out.cell (World.block_lt_of_cell? w _ qm)).trans qm)⟩ (fun hHeld=>?_)
        clear hK K
        refine norm_ (a':=?_) ?_ ?_
        rotate_left
        ·show Act.put _ (some 36) _=_
         simp only [Act.put,List.setIfInBounds_toArray,List.set_cons_zero,List.set_cons_succ,i64_w,i32_w]
         rfl
        refine pure_ (i:=7) (N:=some 37) (v:=?_) (a':=?_) #[true,true,true,true,true,true,true,true] rfl rfl (any_of HT_.out (by kernel_rfl)) (fun _ _ _ h=>h) (Or.inl ⟨by rfl,?_⟩) ?_ ?_
        rotate_left
        ·intro w'
         go_simp
         with_reducible rfl
        rotate_left
        ·simp only [Act.put,List.setIfInBounds_toArray,List.set_cons_zero,List.set_cons_succ,i64_w,i32_w]
         rfl
        refine done_ (done_of HT_.out (by kernel_rfl)) ?_
        try go_wp2
        go_roundg k1
        case measure=>have:=HK1.out;omega
        case rel=>exact⟨(wrap64 ((wrap64 ((wrap64 (x1_1+1))+1))+1)),(wrap64 (x5_1+1)),(by first|rfl|(simp;done)|(simp [*];done)),(by first|rfl|(simp;done)|(simp [*];done)),H',⟨by have:=HK1.out;omega⟩,⟨by repeat(first|(with_reducible first|exact HB.out|apply Jd|apply Jb|apply Jc)|exact HB.out)⟩⟩
       ·rw [if_neg c8] at H
        have c8b0:(((rd_T40 l0 x5_1).f2).toList == t251.toList)=false:=beq_eq_false_iff_ne.mpr c8
        have c8b1:(((rd_T40 l0 x5_1).f2).toList != t251.toList)=true:=bne_iff_ne.mpr c8
        obtain rfl:=Option.some.inj H
        have qn:0≤(x5_1:Int):=of_decide_eq_true (by first|(with_reducible assumption)|assumption)
        have qo:x5_1 < (l0.length:Int):=of_decide_eq_true (by first|(with_reducible assumption)|assumption)
        obtain⟨qj,e248,qa,qb,qc⟩:=at_T40 HR0.out x5_1 qn qo
        cases e248
        replace qa:=(HB.out.cell (World.block_lt_of_cell? w _ qa)).trans qa
        replace qb:=(HB.out.cell (World.block_lt_of_cell? w _ qb)).trans qb
        replace qc:=(HB.out.cell (World.block_lt_of_cell? w _ qc)).trans qc
        replace qn:=eq_true qn
        replace qo:=eq_true qo
        have qp:0≤(x5_1:Int):=of_decide_eq_true (by first|(with_reducible assumption)|assumption)
        have qq:x5_1 < (l0.length:Int):=of_decide_eq_true (by first|(with_reducible assumption)|assumption)
        obtain⟨ad249,e249,qd,qe,qf⟩:=at_T40 HR0.out x5_1 qp qq
        obtain rfl:qj=ad249:=(by injection e249)
        replace qd:=(HB.out.cell (World.block_lt_of_cell? w _ qd)).trans qd
        replace qe:=(HB.out.cell (World.block_lt_of_cell? w _ qe)).trans qe
        replace qf:=(HB.out.cell (World.block_lt_of_cell? w _ qf)).trans qf
        replace qp:=eq_true qp
        replace qq:=eq_true qq
        try go_wp2
        have n0_:=Ja (Jc HB.out)
        clear HB
        have HB:=n0_
        clear n0_
        have p250:0≤(x5_1:Int):=of_decide_eq_true (by first|(with_reducible assumption)|assumption)
        have q250:x5_1 < (l0.length:Int):=of_decide_eq_true (by first|(with_reducible assumption)|assumption)
        obtain⟨ad250,e250,qg,qh,qi⟩:=at_T40 HR0.out x5_1 p250 q250
        have qm:=qi
        have ql:=qh
        have qk:=qg
        obtain rfl:qj=ad250:=(by injection e250)
        replace qg:=(HB.out.cell (World.block_lt_of_cell? w _ qg)).trans qg
        replace qh:=(HB.out.cell (World.block_lt_of_cell? w _ qh)).trans qh
        replace qi:=(HB.out.cell (World.block_lt_of_cell? w _ qi)).trans qi
        replace p250:=eq_true p250
        replace q250:=eq_true q250
        refine start_ (n:=8) (S:=fun w'=>w'.cell? (qj.add ((x5_1).toNat*3))=some (.int .i64 ((rd_T40 l0 x5_1).f0))∧w'.cell? ⟨(qj.add ((x5_1).toNat*3)).block,(qj.add ((x5_1).toNat*3)).off+1,none⟩=some (.int .i64 ((rd_T40 l0 x5_1).f1))∧w'.cell? ⟨(qj.add ((x5_1).toNat*3)).block,(qj.add ((x5_1).toNat*3)).off+2,none⟩=some (.string ((rd_T40 l0 x5_1).f2))) (ds:=[]) #[false,false,false,false,false,false,false,false] (by kernel_rfl) rfl rfl ⟨((HB.out.cell (World.block_lt_of_cell? w _ qk)).trans qk),((HB.out.cell (World.block_lt_of_cell? w _ ql)).trans ql),((HB.out.cell (World.block_lt_of_cell? w _ qm)).trans qm)⟩ (fun hHeld=>?_);refine with_tabW laws_heldTitleS.tab10 laws_heldTitleS.bits10 (fun HT_ HW_=>?_)
        generalize wr.drew=w11 at HB qg qh qi hHeld ⊢
        refine pure_ (i:=0) (N:=some 30) (v:=?_) (a':=?_) #[true,false,false,false,false,false,false,false] rfl rfl (any_of HT_.out (by kernel_rfl)) (fun _ _ _ h=>h) (Or.inl ⟨by rfl,?_⟩) ?_ ?_
        rotate_left
        ·intro w'
         go_simp
         with_reducible rfl
        rotate_left
        ·simp only [Act.put,List.setIfInBounds_toArray,List.set_cons_zero,List.set_cons_succ,i64_w,i32_w]
         rfl
        refine pure_ (i:=1) (N:=some 31) (v:=?_) (a':=?_) #[true,true,false,false,false,false,false,false] rfl rfl (any_of HT_.out (by kernel_rfl)) (fun _ _ _ h=>h) (Or.inl ⟨by rfl,?_⟩) ?_ ?_
        rotate_left
        ·intro w'
         go_simp
         with_reducible rfl
        rotate_left
        ·simp only [Act.put,List.setIfInBounds_toArray,List.set_cons_zero,List.set_cons_succ,i64_w,i32_w]
         rfl
        refine pure_ (i:=2) (N:=some 32) (v:=?_) (a':=?_) #[true,true,true,false,false,false,false,false] rfl rfl (any_of HT_.out (by kernel_rfl)) (fun _ _ _ h=>h) (Or.inl ⟨by rfl,?_⟩) ?_ ?_
        rotate_left
        ·intro w'
         go_simp
         with_reducible rfl
        rotate_left
        ·simp only [Act.put,List.setIfInBounds_toArray,List.set_cons_zero,List.set_cons_succ,i64_w,i32_w]
         rfl
        refine pure_ (i:=3) (N:=some 33) (v:=?_) (a':=?_) #[true,true,true,true,false,false,false,false] rfl rfl (any_of HT_.out (by kernel_rfl)) (fun _ _ _ h=>h) (Or.inl ⟨by rfl,?_⟩) ?_ ?_
        rotate_left
        ·intro w'
         go_simp
         with_reducible rfl
        rotate_left
        ·simp only [Act.put,List.setIfInBounds_toArray,List.set_cons_zero,List.set_cons_succ,i64_w,i32_w]
         rfl
        refine pure_ (i:=5) (N:=some 35) (v:=?_) (a':=?_) #[true,true,true,true,false,true,false,false] rfl rfl (any_of HT_.out (by kernel_rfl)) (fun _ _ _ h=>h) (Or.inl ⟨by rfl,?_⟩) ?_ ?_
        rotate_left
        ·intro w'
         go_simp
         with_reducible rfl
        rotate_left
        ·simp only [Act.put,List.setIfInBounds_toArray,List.set_cons_zero,List.set_cons_succ,i64_w,i32_w]
         rfl
        refine take_ (i:=4) (N:=some 34) (v:=?_) (a':=?_) #[true,true,true,true,true,true,false,false] rfl rfl (take_ofW HT_.out HW_.out (by kernel_rfl)) (fun _ _ _ h=>h) (Or.inl ⟨by rfl,?_⟩) hHeld ?_ ?_
        rotate_left
        ·rintro w' ⟨s0,s1,s2⟩
         go_simp
         with_reducible rfl
        rotate_left
        ·simp only [Act.put,List.setIfInBounds_toArray,List.set_cons_zero,List.set_cons_succ,i64_w,i32_w]
         rfl
        refine one_ (i:=6) (N:=some 36) #[true,true,true,true,true,true,true,false] rfl rfl (one_of HT_.out (by kernel_rfl)) (by decide) (fun K hK=>?_)
        refine goes_ Tryd.func34 (by kernel_rfl) rfl #[.int .i64 (wrap64 ((wrap64 (x1_1+1))+1))] (by rfl) rfl rfl (by(try simp only [List.map_toArray,List.map_cons,List.map_nil]);first|done|rfl|(simp only [List.length_drop,List.length_take];rfl)) ?_
        with_reducible refine(laws_markText.calls k1 (wrap64 ((wrap64 (x1_1+1))+1)) t251 _ A7.out).mono ?_
        rintro e w12 ⟨rfl,hb⟩
        refine⟨_,rfl,?_⟩
        have n0_:=Ja (Jl (by repeat(first|(with_reducible first|exact HB.out|apply Jd|apply Jb|apply Jc)|exact HB.out)) hb)
        clear HB
        have HB:=n0_
        clear n0_
        (try clear hb)
        (try clear hb2)
        (try clear hk)
        (try clear hi)
        refine hK.out _ _ ⟨((HB.out.cell (World.block_lt_of_cell? w _ qk)).trans qk),((HB.out.cell (World.block_lt_of_cell? w _ ql)).trans ql),((HB.out.cell (World.block_lt_of_cell? w _ qm)).trans qm)⟩ (fun hHeld=>?_)
        clear hK K
        refine norm_ (a':=?_) ?_ ?_
        rotate_left
        ·show Act.put _ (some 36) _=_
         simp only [Act.put,List.setIfInBounds_toArray,List.set_cons_zero,List.set_cons_succ,i64_w,i32_w]
         rfl
        refine pure_ (i:=7) (N:=some 37) (v:=?_) (a':=?_) #[true,true,true,true,true,true,true,true] rfl rfl (any_of HT_.out (by kernel_rfl)) (fun _ _ _ h=>h) (Or.inl ⟨by rfl,?_⟩) ?_ ?_
        rotate_left
        ·intro w'
         go_simp
         with_reducible rfl
        rotate_left
        ·simp only [Act.put,List.setIfInBounds_toArray,List.set_cons_zero,List.set_cons_succ,i64_w,i32_w]
         rfl
        refine done_ (done_of HT_.out (by kernel_rfl)) ?_
        try go_wp2
        go_ret
        exact⟨by first|rfl|(simp [errW_none,errW_some] <;> rfl)|(simp [*,errW_none,errW_some] <;> rfl),by repeat(first|(with_reducible first|exact HB.out|apply Jd|apply Jb|apply Jc)|exact HB.out)⟩
      ·rw [if_neg c6] at H
       have c6b0:(((rd_T40 l0 x5_1).f1) == (wrap64 (x1_1+1)))=false:=beq_eq_false_iff_ne.mpr c6
       have c6b1:(((rd_T40 l0 x5_1).f1) != (wrap64 (x1_1+1)))=true:=bne_iff_ne.mpr c6
       obtain rfl:=Option.some.inj H
       have qn:0≤(x5_1:Int):=of_decide_eq_true (by first|(with_reducible assumption)|assumption)
       have qo:x5_1 < (l0.length:Int):=of_decide_eq_true (by first|(with_reducible assumption)|assumption)
       obtain⟨qj,e248,qa,qb,qc⟩:=at_T40 HR0.out x5_1 qn qo
       cases e248
       replace qa:=(HB.out.cell (World.block_lt_of_cell? w _ qa)).trans qa
       replace qb:=(HB.out.cell (World.block_lt_of_cell? w _ qb)).trans qb
       replace qc:=(HB.out.cell (World.block_lt_of_cell? w _ qc)).trans qc
       replace qn:=eq_true qn
       replace qo:=eq_true qo
       have qp:0≤(x5_1:Int):=of_decide_eq_true (by first|(with_reducible assumption)|assumption)
       have qq:x5_1 < (l0.length:Int):=of_decide_eq_true (by first|(with_reducible assumption)|assumption)
       obtain⟨ad249,e249,qd,qe,qf⟩:=at_T40 HR0.out x5_1 qp qq
       obtain rfl:qj=ad249:=(by injection e249)
       replace qd:=(HB.out.cell (World.block_lt_of_cell? w _ qd)).trans qd
       replace qe:=(HB.out.cell (World.block_lt_of_cell? w _ qe)).trans qe
       replace qf:=(HB.out.cell (World.block_lt_of_cell? w _ qf)).trans qf
       replace qp:=eq_true qp
       replace qq:=eq_true qq
       go_wp2
       go_ret
       exact⟨by first|rfl|(simp [errW_none,errW_some] <;> rfl)|(simp [*,errW_none,errW_some] <;> rfl),by repeat(first|(with_reducible first|exact HB.out|apply Jd|apply Jb|apply Jc)|exact HB.out)⟩
     ·rw [if_neg c5] at H
      have c5b0:(((rd_T40 l0 x5_1).f0) == x1_1)=false:=beq_eq_false_iff_ne.mpr c5
      have c5b1:(((rd_T40 l0 x5_1).f0) != x1_1)=true:=bne_iff_ne.mpr c5
      obtain rfl:=Option.some.inj H
      have qn:0≤(x5_1:Int):=of_decide_eq_true (by first|(with_reducible assumption)|assumption)
      have qo:x5_1 < (l0.length:Int):=of_decide_eq_true (by first|(with_reducible assumption)|assumption)
      obtain⟨qj,e248,qa,qb,qc⟩:=at_T40 HR0.out x5_1 qn qo
      cases e248
      replace qa:=(HB.out.cell (World.block_lt_of_cell? w _ qa)).trans qa
      replace qb:=(HB.out.cell (World.block_lt_of_cell? w _ qb)).trans qb
      replace qc:=(HB.out.cell (World.block_lt_of_cell? w _ qc)).trans qc
      replace qn:=eq_true qn
      replace qo:=eq_true qo
      go_wp2
      go_ret
      exact⟨by first|rfl|(simp [errW_none,errW_some] <;> rfl)|(simp [*,errW_none,errW_some] <;> rfl),by repeat(first|(with_reducible first|exact HB.out|apply Jd|apply Jb|apply Jc)|exact HB.out)⟩
    ·rw [if_neg c4] at H
     exact absurd H (by simp)
   ·rw [if_neg c3] at H
    have c3b0:decide (x5_1 < (l0.length:Int))=false:=decide_eq_false c3
    clear c3
    obtain rfl:=Option.some.inj H
    go_wp2
    go_ret
    exact⟨by first|rfl|(simp [errW_none,errW_some] <;> rfl)|(simp [*,errW_none,errW_some] <;> rfl),by repeat(first|(with_reducible first|exact HB.out|apply Jd|apply Jb|apply Jc)|exact HB.out)⟩

end Go.Proofs.YtidogkjhjmcliaaDoor.HFnExactReadTitles
