-- Laid by myprint.py, a program of this repo, out of the kit's printer and this repo's own texts (wip/hand).
import Derived.Test.YtbdnpfjjaokdbaaHFnExactEncodex0
import Derived.Test.YtbdnpfjjaokdbaaHFnExactEncodex8
namespace Go.Proofs.Ytbdnpfjjaokdbaa.HFnExactEncode
open Go.RowKit Go.Proofs.YtbdnpfjjaokdbaaW.PrintWords Go.Proofs.YtbdnpfjjaokdbaaW.PrintLast Go.Proofs.YtbdnpfjjaokdbaaW.PrintMore
attribute [local go_sem] max2_int min2_int max_two min_two max_three min_three max_four min_four   -- for this text's walks alone
set_option linter.unusedVariables false
set_option linter.unusedSimpArgs false
theorem Ja : type_of% @Aside0.mk := @Aside0.mk
theorem Jb : type_of% @blk_drew := @blk_drew
theorem Jc : type_of% @below_set := @below_set
theorem Jd : type_of% @Kd.R_drew := @Kd.R_drew
theorem Je : type_of% @pw_below_drewN := @pw_below_drewN
theorem Jf : type_of% @below_alloc := @below_alloc
theorem Jg : type_of% @below_drew1 := @below_drew1
theorem Jh : type_of% @blk_alloc := @blk_alloc
theorem Ji : type_of% @blk_drewN := @blk_drewN
theorem Jj : type_of% @blk_cell := @blk_cell
theorem Jk : type_of% @Kd.R_alloc := @Kd.R_alloc
theorem Jl : type_of% @Kd.R_drewN := @Kd.R_drewN
theorem Jm : type_of% @blk_below := @blk_below
theorem Jn : type_of% @below_size := @below_size
theorem Jo : type_of% @below_step := @below_step
theorem Jp : type_of% @Kd.R_below := @Kd.R_below
theorem Jq : type_of% @blk_frozen := @blk_frozen
theorem Jr : type_of% @Kd.R_reads' := @Kd.R_reads'

/-! ### impl_motion_1: function 89 -/
def impl_motion_1.f (k : Nat) (a0_0 : Int) (a0_1 : Int) (a0_2 : Int) (a1_0 : Int) (a1_1 : Int) (a1_2 : Int) : Option (Int) := (cmp_Compare_int64.f a0_0 a1_0).bind fun t275 => ((cmp_Compare_int64.f (wrap64 ((wrap64 (a0_1 * a0_1)) + (wrap64 (a0_2 * a0_2)))) (wrap64 ((wrap64 (a1_1 * a1_1)) + (wrap64 (a1_2 * a1_2))))).bind fun t276 => ((cmp_Compare_int64.f a0_2 a1_2).bind fun t277 => ((cmp_Compare_int64.f a0_1 a1_1).bind fun t278 => ((cmp_Or_int.f k (([t275, t276, t277, t278] : List Int))).bind fun t282 => (some t282)))))
theorem impl_motion_1.mono : ∀ a0 a1 a2 a3 a4 a5 k, LeO (impl_motion_1.f k a0 a1 a2 a3 a4 a5) (impl_motion_1.f (k + 1) a0 a1 a2 a3 a4 a5) := by
 intro a0 a1 a2 a3 a4 a5 k
 unfold impl_motion_1.f
 repeat' first
   | (with_reducible exact cmp_Or_int.mono _ _)
   | (with_reducible exact LeO.refl _)
   | (with_reducible exact LeO.none _)
   | (with_reducible refine LeO.ite ?_ ?_)
   | (with_reducible refine LeO.bind ?_ (fun _ => ?_))
   | exact cmp_Or_int.mono _ _
   | exact LeO.none _
   | refine LeO.ite ?_ ?_
   | refine LeO.bind ?_ (fun _ => ?_)
def impl_motion_1.T1 : Bool × List (List Nat × List Nat) := (true, [([], []), ([0], [0]), ([], []), ([2], [2]), ([1, 3], [1, 3]), ([], []), ([5], [5]), ([], []), ([7], [7]), ([6, 8], [6, 8]), ([], []), ([10], [10]), ([], []), ([12], [12]), ([11, 13], [11, 13]), ([9, 14], [9, 14]), ([], []), ([16], [16]), ([], []), ([18], [18]), ([17, 19], [17, 19]), ([], []), ([21], [21]), ([], []), ([23], [23]), ([22, 24], [22, 24]), ([20, 25], [20, 25]), ([15, 26, 4], [15, 26]), ([], []), ([28], [28]), ([], []), ([30], [30]), ([29, 31, 27], [29, 31]), ([], []), ([33], [33]), ([], []), ([35], [35]), ([34, 36, 32], [34, 36]), ([4, 27, 32, 37], [4, 27, 32, 37]), ([38, 37], [38]), ([39, 39, 0, 1, 2, 3, 4, 5, 6, 7, 8, 9, 10, 11, 12, 13, 14, 15, 16, 17, 18, 19, 20, 21, 22, 23, 24, 25, 26, 27, 28, 29, 30, 31, 32, 33, 34, 35, 36, 37, 38, 39], [39])])
def impl_motion_1.B1 : List Nat := [0, 1, 0, 4, 15, 0, 32, 0, 128, 480, 0, 1024, 0, 4096, 15360, 32736, 0, 65536, 0, 262144, 983040, 0, 2097152, 0, 8388608, 31457280, 67043328, 134217727, 0, 268435456, 0, 1073741824, 4294967295, 0, 8589934592, 0, 34359738368, 137438953471, 274877906943, 549755813887, 1099511627775]
theorem impl_motion_1.tab1 : rtab .any (opsOf Try.f89 1) = impl_motion_1.T1 := by kernel_rfl
theorem impl_motion_1.bits1 : waitsOk impl_motion_1.T1.2 impl_motion_1.B1 = true := by kernel_rfl
set_option maxHeartbeats 8000000 in
set_option maxRecDepth 100000 in
theorem impl_motion_1.calls (k : Nat) (a0_0 : Int) (a0_1 : Int) (a0_2 : Int) (a1_0 : Int) (a1_1 : Int) (a1_2 : Int) (r : Int) (w : World) (h : impl_motion_1.f k a0_0 a0_1 a0_2 a1_0 a1_1 a1_2 = some r) :
  Calls Try.prog 89 #[.agg #[.int .i64 a0_0,.int .i64 a0_1,.int .i64 a0_2],.agg #[.int .i64 a1_0,.int .i64 a1_1,.int .i64 a1_2]] w fun e w'=>e=.returned (.int .i64 r)∧Below w.heap.size w w':=by
 have hu89:=Try.underlying89
 have HB:=Ja (Below.refl w.heap.size w)
 have H:((cmp_Compare_int64.f a0_0 a1_0).bind fun t275=>((cmp_Compare_int64.f (wrap64 ((wrap64 (a0_1*a0_1))+(wrap64 (a0_2*a0_2)))) (wrap64 ((wrap64 (a1_1*a1_1))+(wrap64 (a1_2*a1_2))))).bind fun t276=>((cmp_Compare_int64.f a0_2 a1_2).bind fun t277=>((cmp_Compare_int64.f a0_1 a1_1).bind fun t278=>((cmp_Or_int.f k (([t275,t276,t277,t278]:List Int))).bind fun t282=>(some t282))))))=some r:=h
 clear h
 replace H:=Option.bind_eq_some_iff.mp H
 obtain⟨t275,A30,H⟩:=H
 replace H:((cmp_Compare_int64.f (wrap64 ((wrap64 (a0_1*a0_1))+(wrap64 (a0_2*a0_2)))) (wrap64 ((wrap64 (a1_1*a1_1))+(wrap64 (a1_2*a1_2))))).bind fun t276=>((cmp_Compare_int64.f a0_2 a1_2).bind fun t277=>((cmp_Compare_int64.f a0_1 a1_1).bind fun t278=>((cmp_Or_int.f k (([t275,t276,t277,t278]:List Int))).bind fun t282=>(some t282)))))=some r:=H
 have A3:=Ja A30
 clear A30
 replace H:=Option.bind_eq_some_iff.mp H
 obtain⟨t276,A40,H⟩:=H
 replace H:((cmp_Compare_int64.f a0_2 a1_2).bind fun t277=>((cmp_Compare_int64.f a0_1 a1_1).bind fun t278=>((cmp_Or_int.f k (([t275,t276,t277,t278]:List Int))).bind fun t282=>(some t282))))=some r:=H
 have A4:=Ja A40
 clear A40
 replace H:=Option.bind_eq_some_iff.mp H
 obtain⟨t277,A50,H⟩:=H
 replace H:((cmp_Compare_int64.f a0_1 a1_1).bind fun t278=>((cmp_Or_int.f k (([t275,t276,t277,t278]:List Int))).bind fun t282=>(some t282)))=some r:=H
 have A5:=Ja A50
 clear A50
 replace H:=Option.bind_eq_some_iff.mp H
 obtain⟨t278,A60,H⟩:=H
 replace H:((cmp_Or_int.f k (([t275,t276,t277,t278]:List Int))).bind fun t282=>(some t282))=some r:=H
 have A6:=Ja A60
 clear A60
 obtain⟨y279,hy279⟩:∃ y_:List Int,y_=(([t275,t276,t277,t278]:List Int)):=⟨_,rfl⟩
 replace H:((cmp_Or_int.f k y279).bind fun t282=>(some t282))=some r:=by first|(rw [hy279];with_reducible exact H)|(have H2_:=(Option.bind_some _ _).symm.trans H;rw [hy279];with_reducible exact H2_)|(have H2_:=(Option.bind_some _ _).symm.trans H;with_reducible exact H2_)|with_reducible exact H|(rw [hy279];exact H)|exact H
 have Ny279:=Ja hy279
 clear hy279
 replace H:=Option.bind_eq_some_iff.mp H
 obtain⟨t282,A70,H⟩:=H
 replace H:(some t282)=some r:=H
 have A7:=Ja A70
 clear A70
 obtain rfl:=Option.some.inj H
 go_enter Try.func89,Try.ntmps89
 try go_wp2_with (first|((with_reducible refine gate_dst (N:=2) rfl ?_);refine box_event ?hg (N:=2) ?hd (cs:=#[.int .i64 a0_0,.int .i64 a0_1,.int .i64 a0_2]) (t:=89) ?hr ?_;(case hd=>rfl);(case hg=>rfl);(case hr=>first|(go_simp;done)|(go_simp;rfl));intro gb273 hg w8 hbox hb;have n0_:=Ja (Jo (by repeat(first|(with_reducible first|exact HB.out|apply Jf|apply Je|apply Jg)|exact HB.out)) hb);have n1_:=Ja (hbox);have n2_:=Ja ((by rw [hg];exact(Jn (by repeat(first|(with_reducible first|exact HB.out|apply Jf|apply Je|apply Jg)|exact HB.out))):w.heap.size≤gb273));have n3_:=Ja ((by rw [hg];exact(Jn (by repeat(first|(with_reducible first|exact HB.out|apply Jf|apply Je|apply Jg)|exact HB.out))):w.heap.size≤gb273));clear HB;have HB:=n0_;have BK273:=n1_;have GW273:=n2_;have GE273:=n3_;clear n0_ n1_ n2_ n3_;clear hb hbox hg)|((with_reducible refine gate_dst (N:=3) rfl ?_);refine box_event ?hg (N:=3) ?hd (cs:=#[.int .i64 a1_0,.int .i64 a1_1,.int .i64 a1_2]) (t:=89) ?hr ?_;(case hd=>rfl);(case hg=>rfl);(case hr=>first|(go_simp;done)|(go_simp;rfl));intro gb274 hg w9 hbox hb;have n0_:=Ja (Jm (g:=gb273) (o:=.cells #[.int .i64 a0_0,.int .i64 a0_1,.int .i64 a0_2] 89 (0,0)) (by(with_reducible repeat(first|refine Ji ?_ _|refine Jb ?_|refine Jh ?_ _));exact BK273.out) hb);have n1_:=Ja (Jo (by repeat(first|(with_reducible first|exact HB.out|apply Jf|apply Je|apply Jg|refine Jc ?_ GE273.out)|exact HB.out)) hb);have n2_:=Ja (hbox);have n3_:=Ja ((by rw [hg];exact(Jn (by repeat(first|(with_reducible first|exact HB.out|apply Jf|apply Je|apply Jg|refine Jc ?_ GE273.out)|exact HB.out))):w.heap.size≤gb274));have n4_:=Ja ((by rw [hg];exact(Jn (by repeat(first|(with_reducible first|exact HB.out|apply Jf|apply Je|apply Jg|refine Jc ?_ GE273.out)|exact HB.out))):w.heap.size≤gb274));have n5_:=Ja ((by rw [hg];exact Nat.ne_of_lt (blk_lt (g:=gb273) (o:=.cells #[.int .i64 a0_0,.int .i64 a0_1,.int .i64 a0_2] 89 (0,0)) (by(with_reducible repeat(first|refine Ji ?_ _|refine Jb ?_|refine Jh ?_ _));exact BK273.out)):gb273≠gb274));have n6_:=Ja ((by rw [hg];exact Nat.ne_of_gt (blk_lt (g:=gb273) (o:=.cells #[.int .i64 a0_0,.int .i64 a0_1,.int .i64 a0_2] 89 (0,0)) (by(with_reducible repeat(first|refine Ji ?_ _|refine Jb ?_|refine Jh ?_ _));exact BK273.out)):gb274≠gb273));clear BK273;clear HB;have BK273:=n0_;have HB:=n1_;have BK274:=n2_;have GW274:=n3_;have GE274:=n4_;have NB273_274:=n5_;have NB274_273:=n6_;clear n0_ n1_ n2_ n3_ n4_ n5_ n6_;clear hb hbox hg))
 have n0_:=Ja (Jb BK273.out)
 have n1_:=Ja (Jb BK274.out)
 have n2_:=Ja (Jg HB.out)
 clear BK273
 clear BK274
 clear HB
 have BK273:=n0_
 have BK274:=n1_
 have HB:=n2_
 clear n0_ n1_ n2_
 refine start_ (n:=41) (S:=fun w'=>w'.cell? ⟨gb273,0,none⟩=some (.int .i64 a0_0)∧w'.cell? ⟨gb273,1,none⟩=some (.int .i64 a0_1)∧w'.cell? ⟨gb273,2,none⟩=some (.int .i64 a0_2)∧w'.cell? ⟨gb274,0,none⟩=some (.int .i64 a1_0)∧w'.cell? ⟨gb274,1,none⟩=some (.int .i64 a1_1)∧w'.cell? ⟨gb274,2,none⟩=some (.int .i64 a1_2)) (ds:=[]) #[false,false,false,false,false,false,false,false,false,false,false,false,false,false,false,false,false,false,false,false,false,false,false,false,false,false,false,false,false,false,false,false,false,false,false,false,false,false,false,false,false] (by kernel_rfl) rfl rfl ⟨(Jj BK273.out 0).trans rfl,(Jj BK273.out 1).trans rfl,(Jj BK273.out 2).trans rfl,(Jj BK274.out 0).trans rfl,(Jj BK274.out 1).trans rfl,(Jj BK274.out 2).trans rfl⟩ (fun hHeld=>?_);refine with_tabW impl_motion_1.tab1 impl_motion_1.bits1 (fun HT_ HW_=>?_)
 generalize w9.drew=w10 at BK273 BK274 HB hHeld ⊢
 refine pure_ (i:=0) (N:=some 5) (v:=?_) (a':=?_) #[true,false,false,false,false,false,false,false,false,false,false,false,false,false,false,false,false,false,false,false,false,false,false,false,false,false,false,false,false,false,false,false,false,false,false,false,false,false,false,false,false] rfl rfl (any_of HT_.out (by kernel_rfl)) (fun _ _ _ h=>h) (Or.inl ⟨by rfl,?_⟩) ?_ ?_
 rotate_left
 ·intro w'
  go_simp
  with_reducible rfl
 rotate_left
 ·simp only [Act.put,List.setIfInBounds_toArray,List.set_cons_zero,List.set_cons_succ,i64_w,i32_w]
  rfl
 refine pure_ (i:=2) (N:=some 7) (v:=?_) (a':=?_) #[true,false,true,false,false,false,false,false,false,false,false,false,false,false,false,false,false,false,false,false,false,false,false,false,false,false,false,false,false,false,false,false,false,false,false,false,false,false,false,false,false] rfl rfl (any_of HT_.out (by kernel_rfl)) (fun _ _ _ h=>h) (Or.inl ⟨by rfl,?_⟩) ?_ ?_
 rotate_left
 ·intro w'
  go_simp
  with_reducible rfl
 rotate_left
 ·simp only [Act.put,List.setIfInBounds_toArray,List.set_cons_zero,List.set_cons_succ,i64_w,i32_w]
  rfl
 refine pure_ (i:=5) (N:=some 10) (v:=?_) (a':=?_) #[true,false,true,false,false,true,false,false,false,false,false,false,false,false,false,false,false,false,false,false,false,false,false,false,false,false,false,false,false,false,false,false,false,false,false,false,false,false,false,false,false] rfl rfl (any_of HT_.out (by kernel_rfl)) (fun _ _ _ h=>h) (Or.inl ⟨by rfl,?_⟩) ?_ ?_
 rotate_left
 ·intro w'
  go_simp
  with_reducible rfl
 rotate_left
 ·simp only [Act.put,List.setIfInBounds_toArray,List.set_cons_zero,List.set_cons_succ,i64_w,i32_w]
  rfl
 refine pure_ (i:=7) (N:=some 12) (v:=?_) (a':=?_) #[true,false,true,false,false,true,false,true,false,false,false,false,false,false,false,false,false,false,false,false,false,false,false,false,false,false,false,false,false,false,false,false,false,false,false,false,false,false,false,false,false] rfl rfl (any_of HT_.out (by kernel_rfl)) (fun _ _ _ h=>h) (Or.inl ⟨by rfl,?_⟩) ?_ ?_
 rotate_left
 ·intro w'
  go_simp
  with_reducible rfl
 rotate_left
 ·simp only [Act.put,List.setIfInBounds_toArray,List.set_cons_zero,List.set_cons_succ,i64_w,i32_w]
  rfl
 refine pure_ (i:=10) (N:=some 15) (v:=?_) (a':=?_) #[true,false,true,false,false,true,false,true,false,false,true,false,false,false,false,false,false,false,false,false,false,false,false,false,false,false,false,false,false,false,false,false,false,false,false,false,false,false,false,false,false] rfl rfl (any_of HT_.out (by kernel_rfl)) (fun _ _ _ h=>h) (Or.inl ⟨by rfl,?_⟩) ?_ ?_
 rotate_left
 ·intro w'
  go_simp
  with_reducible rfl
 rotate_left
 ·simp only [Act.put,List.setIfInBounds_toArray,List.set_cons_zero,List.set_cons_succ,i64_w,i32_w]
  rfl
 refine pure_ (i:=12) (N:=some 17) (v:=?_) (a':=?_) #[true,false,true,false,false,true,false,true,false,false,true,false,true,false,false,false,false,false,false,false,false,false,false,false,false,false,false,false,false,false,false,false,false,false,false,false,false,false,false,false,false] rfl rfl (any_of HT_.out (by kernel_rfl)) (fun _ _ _ h=>h) (Or.inl ⟨by rfl,?_⟩) ?_ ?_
 rotate_left
 ·intro w'
  go_simp
  with_reducible rfl
 rotate_left
 ·simp only [Act.put,List.setIfInBounds_toArray,List.set_cons_zero,List.set_cons_succ,i64_w,i32_w]
  rfl
 refine pure_ (i:=16) (N:=some 21) (v:=?_) (a':=?_) #[true,false,true,false,false,true,false,true,false,false,true,false,true,false,false,false,true,false,false,false,false,false,false,false,false,false,false,false,false,false,false,false,false,false,false,false,false,false,false,false,false] rfl rfl (any_of HT_.out (by kernel_rfl)) (fun _ _ _ h=>h) (Or.inl ⟨by rfl,?_⟩) ?_ ?_
 rotate_left
 ·intro w'
  go_simp
  with_reducible rfl
 rotate_left
 ·simp only [Act.put,List.setIfInBounds_toArray,List.set_cons_zero,List.set_cons_succ,i64_w,i32_w]
  rfl
 refine pure_ (i:=18) (N:=some 23) (v:=?_) (a':=?_) #[true,false,true,false,false,true,false,true,false,false,true,false,true,false,false,false,true,false,true,false,false,false,false,false,false,false,false,false,false,false,false,false,false,false,false,false,false,false,false,false,false] rfl rfl (any_of HT_.out (by kernel_rfl)) (fun _ _ _ h=>h) (Or.inl ⟨by rfl,?_⟩) ?_ ?_
 rotate_left
 ·intro w'
  go_simp
  with_reducible rfl
 rotate_left
 ·simp only [Act.put,List.setIfInBounds_toArray,List.set_cons_zero,List.set_cons_succ,i64_w,i32_w]
  rfl
 refine pure_ (i:=21) (N:=some 26) (v:=?_) (a':=?_) #[true,false,true,false,false,true,false,true,false,false,true,false,true,false,false,false,true,false,true,false,false,true,false,false,false,false,false,false,false,false,false,false,false,false,false,false,false,false,false,false,false] rfl rfl (any_of HT_.out (by kernel_rfl)) (fun _ _ _ h=>h) (Or.inl ⟨by rfl,?_⟩) ?_ ?_
 rotate_left
 ·intro w'
  go_simp
  with_reducible rfl
 rotate_left
 ·simp only [Act.put,List.setIfInBounds_toArray,List.set_cons_zero,List.set_cons_succ,i64_w,i32_w]
  rfl
 refine pure_ (i:=23) (N:=some 28) (v:=?_) (a':=?_) #[true,false,true,false,false,true,false,true,false,false,true,false,true,false,false,false,true,false,true,false,false,true,false,true,false,false,false,false,false,false,false,false,false,false,false,false,false,false,false,false,false] rfl rfl (any_of HT_.out (by kernel_rfl)) (fun _ _ _ h=>h) (Or.inl ⟨by rfl,?_⟩) ?_ ?_
 rotate_left
 ·intro w'
  go_simp
  with_reducible rfl
 rotate_left
 ·simp only [Act.put,List.setIfInBounds_toArray,List.set_cons_zero,List.set_cons_succ,i64_w,i32_w]
  rfl
 refine pure_ (i:=28) (N:=some 33) (v:=?_) (a':=?_) #[true,false,true,false,false,true,false,true,false,false,true,false,true,false,false,false,true,false,true,false,false,true,false,true,false,false,false,false,true,false,false,false,false,false,false,false,false,false,false,false,false] rfl rfl (any_of HT_.out (by kernel_rfl)) (fun _ _ _ h=>h) (Or.inl ⟨by rfl,?_⟩) ?_ ?_
 rotate_left
 ·intro w'
  go_simp
  with_reducible rfl
 rotate_left
 ·simp only [Act.put,List.setIfInBounds_toArray,List.set_cons_zero,List.set_cons_succ,i64_w,i32_w]
  rfl
 refine pure_ (i:=30) (N:=some 35) (v:=?_) (a':=?_) #[true,false,true,false,false,true,false,true,false,false,true,false,true,false,false,false,true,false,true,false,false,true,false,true,false,false,false,false,true,false,true,false,false,false,false,false,false,false,false,false,false] rfl rfl (any_of HT_.out (by kernel_rfl)) (fun _ _ _ h=>h) (Or.inl ⟨by rfl,?_⟩) ?_ ?_
 rotate_left
 ·intro w'
  go_simp
  with_reducible rfl
 rotate_left
 ·simp only [Act.put,List.setIfInBounds_toArray,List.set_cons_zero,List.set_cons_succ,i64_w,i32_w]
  rfl
 refine pure_ (i:=33) (N:=some 38) (v:=?_) (a':=?_) #[true,false,true,false,false,true,false,true,false,false,true,false,true,false,false,false,true,false,true,false,false,true,false,true,false,false,false,false,true,false,true,false,false,true,false,false,false,false,false,false,false] rfl rfl (any_of HT_.out (by kernel_rfl)) (fun _ _ _ h=>h) (Or.inl ⟨by rfl,?_⟩) ?_ ?_
 rotate_left
 ·intro w'
  go_simp
  with_reducible rfl
 rotate_left
 ·simp only [Act.put,List.setIfInBounds_toArray,List.set_cons_zero,List.set_cons_succ,i64_w,i32_w]
  rfl
 refine pure_ (i:=35) (N:=some 40) (v:=?_) (a':=?_) #[true,false,true,false,false,true,false,true,false,false,true,false,true,false,false,false,true,false,true,false,false,true,false,true,false,false,false,false,true,false,true,false,false,true,false,true,false,false,false,false,false] rfl rfl (any_of HT_.out (by kernel_rfl)) (fun _ _ _ h=>h) (Or.inl ⟨by rfl,?_⟩) ?_ ?_
 rotate_left
 ·intro w'
  go_simp
  with_reducible rfl
 rotate_left
 ·simp only [Act.put,List.setIfInBounds_toArray,List.set_cons_zero,List.set_cons_succ,i64_w,i32_w]
  rfl
 refine take_ (i:=1) (N:=some 6) (v:=?_) (a':=?_) #[true,true,true,false,false,true,false,true,false,false,true,false,true,false,false,false,true,false,true,false,false,true,false,true,false,false,false,false,true,false,true,false,false,true,false,true,false,false,false,false,false] rfl rfl (take_ofW HT_.out HW_.out (by kernel_rfl)) (fun _ _ _ h=>h) (Or.inl ⟨by rfl,?_⟩) hHeld ?_ ?_
 rotate_left
 ·rintro w' ⟨s0,s1,s2,s3,s4,s5⟩
  go_simp
  with_reducible rfl
 rotate_left
 ·simp only [Act.put,List.setIfInBounds_toArray,List.set_cons_zero,List.set_cons_succ,i64_w,i32_w]
  rfl
 refine take_ (i:=3) (N:=some 8) (v:=?_) (a':=?_) #[true,true,true,true,false,true,false,true,false,false,true,false,true,false,false,false,true,false,true,false,false,true,false,true,false,false,false,false,true,false,true,false,false,true,false,true,false,false,false,false,false] rfl rfl (take_ofW HT_.out HW_.out (by kernel_rfl)) (fun _ _ _ h=>h) (Or.inl ⟨by rfl,?_⟩) hHeld ?_ ?_
 rotate_left
 ·rintro w' ⟨s0,s1,s2,s3,s4,s5⟩
  go_simp
  with_reducible rfl
 rotate_left
 ·simp only [Act.put,List.setIfInBounds_toArray,List.set_cons_zero,List.set_cons_succ,i64_w,i32_w]
  rfl
 refine take_ (i:=6) (N:=some 11) (v:=?_) (a':=?_) #[true,true,true,true,false,true,true,true,false,false,true,false,true,false,false,false,true,false,true,false,false,true,false,true,false,false,false,false,true,false,true,false,false,true,false,true,false,false,false,false,false] rfl rfl (take_ofW HT_.out HW_.out (by kernel_rfl)) (fun _ _ _ h=>h) (Or.inl ⟨by rfl,?_⟩) hHeld ?_ ?_
 rotate_left
 ·rintro w' ⟨s0,s1,s2,s3,s4,s5⟩
  go_simp
  with_reducible rfl
 rotate_left
 ·simp only [Act.put,List.setIfInBounds_toArray,List.set_cons_zero,List.set_cons_succ,i64_w,i32_w]
  rfl
 refine take_ (i:=8) (N:=some 13) (v:=?_) (a':=?_) #[true,true,true,true,false,true,true,true,true,false,true,false,true,false,false,false,true,false,true,false,false,true,false,true,false,false,false,false,true,false,true,false,false,true,false,true,false,false,false,false,false] rfl rfl (take_ofW HT_.out HW_.out (by kernel_rfl)) (fun _ _ _ h=>h) (Or.inl ⟨by rfl,?_⟩) hHeld ?_ ?_
 rotate_left
 ·rintro w' ⟨s0,s1,s2,s3,s4,s5⟩
  go_simp
  with_reducible rfl
 rotate_left
 ·simp only [Act.put,List.setIfInBounds_toArray,List.set_cons_zero,List.set_cons_succ,i64_w,i32_w]
  rfl
 refine pure_ (i:=9) (N:=some 14) (v:=?_) (a':=?_) #[true,true,true,true,false,true,true,true,true,true,true,false,true,false,false,false,true,false,true,false,false,true,false,true,false,false,false,false,true,false,true,false,false,true,false,true,false,false,false,false,false] rfl rfl (any_of HT_.out (by kernel_rfl)) (fun _ _ _ h=>h) (Or.inl ⟨by rfl,?_⟩) ?_ ?_
 rotate_left
 ·intro w'
  go_simp
  with_reducible rfl
 rotate_left
 ·simp only [Act.put,List.setIfInBounds_toArray,List.set_cons_zero,List.set_cons_succ,i64_w,i32_w]
  rfl
 refine take_ (i:=11) (N:=some 16) (v:=?_) (a':=?_) #[true,true,true,true,false,true,true,true,true,true,true,true,true,false,false,false,true,false,true,false,false,true,false,true,false,false,false,false,true,false,true,false,false,true,false,true,false,false,false,false,false] rfl rfl (take_ofW HT_.out HW_.out (by kernel_rfl)) (fun _ _ _ h=>h) (Or.inl ⟨by rfl,?_⟩) hHeld ?_ ?_
 rotate_left
 ·rintro w' ⟨s0,s1,s2,s3,s4,s5⟩
  go_simp
  with_reducible rfl
 rotate_left
 ·simp only [Act.put,List.setIfInBounds_toArray,List.set_cons_zero,List.set_cons_succ,i64_w,i32_w]
  rfl
 refine take_ (i:=13) (N:=some 18) (v:=?_) (a':=?_) #[true,true,true,true,false,true,true,true,true,true,true,true,true,true,false,false,true,false,true,false,false,true,false,true,false,false,false,false,true,false,true,false,false,true,false,true,false,false,false,false,false] rfl rfl (take_ofW HT_.out HW_.out (by kernel_rfl)) (fun _ _ _ h=>h) (Or.inl ⟨by rfl,?_⟩) hHeld ?_ ?_
 rotate_left
 ·rintro w' ⟨s0,s1,s2,s3,s4,s5⟩
  go_simp
  with_reducible rfl
 rotate_left
 ·simp only [Act.put,List.setIfInBounds_toArray,List.set_cons_zero,List.set_cons_succ,i64_w,i32_w]
  rfl
 refine pure_ (i:=14) (N:=some 19) (v:=?_) (a':=?_) #[true,true,true,true,false,true,true,true,true,true,true,true,true,true,true,false,true,false,true,false,false,true,false,true,false,false,false,false,true,false,true,false,false,true,false,true,false,false,false,false,false] rfl rfl (any_of HT_.out (by kernel_rfl)) (fun _ _ _ h=>h) (Or.inl ⟨by rfl,?_⟩) ?_ ?_
 rotate_left
 ·intro w'
  go_simp
  with_reducible rfl
 rotate_left
 ·simp only [Act.put,List.setIfInBounds_toArray,List.set_cons_zero,List.set_cons_succ,i64_w,i32_w]
  rfl
 refine pure_ (i:=15) (N:=some 20) (v:=?_) (a':=?_) #[true,true,true,true,false,true,true,true,true,true,true,true,true,true,true,true,true,false,true,false,false,true,false,true,false,false,false,false,true,false,true,false,false,true,false,true,false,false,false,false,false] rfl rfl (any_of HT_.out (by kernel_rfl)) (fun _ _ _ h=>h) (Or.inl ⟨by rfl,?_⟩) ?_ ?_
 rotate_left
 ·intro w'
  go_simp
  with_reducible rfl
 rotate_left
 ·simp only [Act.put,List.setIfInBounds_toArray,List.set_cons_zero,List.set_cons_succ,i64_w,i32_w]
  rfl
 refine take_ (i:=17) (N:=some 22) (v:=?_) (a':=?_) #[true,true,true,true,false,true,true,true,true,true,true,true,true,true,true,true,true,true,true,false,false,true,false,true,false,false,false,false,true,false,true,false,false,true,false,true,false,false,false,false,false] rfl rfl (take_ofW HT_.out HW_.out (by kernel_rfl)) (fun _ _ _ h=>h) (Or.inl ⟨by rfl,?_⟩) hHeld ?_ ?_
 rotate_left
 ·rintro w' ⟨s0,s1,s2,s3,s4,s5⟩
  go_simp
  with_reducible rfl
 rotate_left
 ·simp only [Act.put,List.setIfInBounds_toArray,List.set_cons_zero,List.set_cons_succ,i64_w,i32_w]
  rfl
 refine take_ (i:=19) (N:=some 24) (v:=?_) (a':=?_) #[true,true,true,true,false,true,true,true,true,true,true,true,true,true,true,true,true,true,true,true,false,true,false,true,false,false,false,false,true,false,true,false,false,true,false,true,false,false,false,false,false] rfl rfl (take_ofW HT_.out HW_.out (by kernel_rfl)) (fun _ _ _ h=>h) (Or.inl ⟨by rfl,?_⟩) hHeld ?_ ?_
 rotate_left
 ·rintro w' ⟨s0,s1,s2,s3,s4,s5⟩
  go_simp
  with_reducible rfl
 rotate_left
 ·simp only [Act.put,List.setIfInBounds_toArray,List.set_cons_zero,List.set_cons_succ,i64_w,i32_w]
  rfl
 refine pure_ (i:=20) (N:=some 25) (v:=?_) (a':=?_) #[true,true,true,true,false,true,true,true,true,true,true,true,true,true,true,true,true,true,true,true,true,true,false,true,false,false,false,false,true,false,true,false,false,true,false,true,false,false,false,false,false] rfl rfl (any_of HT_.out (by kernel_rfl)) (fun _ _ _ h=>h) (Or.inl ⟨by rfl,?_⟩) ?_ ?_
 rotate_left
 ·intro w'
  go_simp
  with_reducible rfl
 rotate_left
 ·simp only [Act.put,List.setIfInBounds_toArray,List.set_cons_zero,List.set_cons_succ,i64_w,i32_w]
  rfl
 refine take_ (i:=22) (N:=some 27) (v:=?_) (a':=?_) #[true,true,true,true,false,true,true,true,true,true,true,true,true,true,true,true,true,true,true,true,true,true,true,true,false,false,false,false,true,false,true,false,false,true,false,true,false,false,false,false,false] rfl rfl (take_ofW HT_.out HW_.out (by kernel_rfl)) (fun _ _ _ h=>h) (Or.inl ⟨by rfl,?_⟩) hHeld ?_ ?_
 rotate_left
 ·rintro w' ⟨s0,s1,s2,s3,s4,s5⟩
  go_simp
  with_reducible rfl
 rotate_left
 ·simp only [Act.put,List.setIfInBounds_toArray,List.set_cons_zero,List.set_cons_succ,i64_w,i32_w]
  rfl
 refine take_ (i:=24) (N:=some 29) (v:=?_) (a':=?_) #[true,true,true,true,false,true,true,true,true,true,true,true,true,true,true,true,true,true,true,true,true,true,true,true,true,false,false,false,true,false,true,false,false,true,false,true,false,false,false,false,false] rfl rfl (take_ofW HT_.out HW_.out (by kernel_rfl)) (fun _ _ _ h=>h) (Or.inl ⟨by rfl,?_⟩) hHeld ?_ ?_
 rotate_left
 ·rintro w' ⟨s0,s1,s2,s3,s4,s5⟩
  go_simp
  with_reducible rfl
 rotate_left
 ·simp only [Act.put,List.setIfInBounds_toArray,List.set_cons_zero,List.set_cons_succ,i64_w,i32_w]
  rfl
 refine pure_ (i:=25) (N:=some 30) (v:=?_) (a':=?_) #[true,true,true,true,false,true,true,true,true,true,true,true,true,true,true,true,true,true,true,true,true,true,true,true,true,true,false,false,true,false,true,false,false,true,false,true,false,false,false,false,false] rfl rfl (any_of HT_.out (by kernel_rfl)) (fun _ _ _ h=>h) (Or.inl ⟨by rfl,?_⟩) ?_ ?_
 rotate_left
 ·intro w'
  go_simp
  with_reducible rfl
 rotate_left
 ·simp only [Act.put,List.setIfInBounds_toArray,List.set_cons_zero,List.set_cons_succ,i64_w,i32_w]
  rfl
 refine pure_ (i:=26) (N:=some 31) (v:=?_) (a':=?_) #[true,true,true,true,false,true,true,true,true,true,true,true,true,true,true,true,true,true,true,true,true,true,true,true,true,true,true,false,true,false,true,false,false,true,false,true,false,false,false,false,false] rfl rfl (any_of HT_.out (by kernel_rfl)) (fun _ _ _ h=>h) (Or.inl ⟨by rfl,?_⟩) ?_ ?_
 rotate_left
 ·intro w'
  go_simp
  with_reducible rfl
 rotate_left
 ·simp only [Act.put,List.setIfInBounds_toArray,List.set_cons_zero,List.set_cons_succ,i64_w,i32_w]
  rfl
 refine take_ (i:=29) (N:=some 34) (v:=?_) (a':=?_) #[true,true,true,true,false,true,true,true,true,true,true,true,true,true,true,true,true,true,true,true,true,true,true,true,true,true,true,false,true,true,true,false,false,true,false,true,false,false,false,false,false] rfl rfl (take_ofW HT_.out HW_.out (by kernel_rfl)) (fun _ _ _ h=>h) (Or.inl ⟨by rfl,?_⟩) hHeld ?_ ?_
 rotate_left
 ·rintro w' ⟨s0,s1,s2,s3,s4,s5⟩
  go_simp
  with_reducible rfl
 rotate_left
 ·simp only [Act.put,List.setIfInBounds_toArray,List.set_cons_zero,List.set_cons_succ,i64_w,i32_w]
  rfl
 refine take_ (i:=31) (N:=some 36) (v:=?_) (a':=?_) #[true,true,true,true,false,true,true,true,true,true,true,true,true,true,true,true,true,true,true,true,true,true,true,true,true,true,true,false,true,true,true,true,false,true,false,true,false,false,false,false,false] rfl rfl (take_ofW HT_.out HW_.out (by kernel_rfl)) (fun _ _ _ h=>h) (Or.inl ⟨by rfl,?_⟩) hHeld ?_ ?_
 rotate_left
 ·rintro w' ⟨s0,s1,s2,s3,s4,s5⟩
  go_simp
  with_reducible rfl
 rotate_left
 ·simp only [Act.put,List.setIfInBounds_toArray,List.set_cons_zero,List.set_cons_succ,i64_w,i32_w]
  rfl
 refine take_ (i:=34) (N:=some 39) (v:=?_) (a':=?_) #[true,true,true,true,false,true,true,true,true,true,true,true,true,true,true,true,true,true,true,true,true,true,true,true,true,true,true,false,true,true,true,true,false,true,true,true,false,false,false,false,false] rfl rfl (take_ofW HT_.out HW_.out (by kernel_rfl)) (fun _ _ _ h=>h) (Or.inl ⟨by rfl,?_⟩) hHeld ?_ ?_
 rotate_left
 ·rintro w' ⟨s0,s1,s2,s3,s4,s5⟩
  go_simp
  with_reducible rfl
 rotate_left
 ·simp only [Act.put,List.setIfInBounds_toArray,List.set_cons_zero,List.set_cons_succ,i64_w,i32_w]
  rfl
 refine take_ (i:=36) (N:=some 41) (v:=?_) (a':=?_) #[true,true,true,true,false,true,true,true,true,true,true,true,true,true,true,true,true,true,true,true,true,true,true,true,true,true,true,false,true,true,true,true,false,true,true,true,true,false,false,false,false] rfl rfl (take_ofW HT_.out HW_.out (by kernel_rfl)) (fun _ _ _ h=>h) (Or.inl ⟨by rfl,?_⟩) hHeld ?_ ?_
 rotate_left
 ·rintro w' ⟨s0,s1,s2,s3,s4,s5⟩
  go_simp
  with_reducible rfl
 rotate_left
 ·simp only [Act.put,List.setIfInBounds_toArray,List.set_cons_zero,List.set_cons_succ,i64_w,i32_w]
  rfl
 refine one_ (i:=4) (N:=some 9) #[true,true,true,true,true,true,true,true,true,true,true,true,true,true,true,true,true,true,true,true,true,true,true,true,true,true,true,false,true,true,true,true,false,true,true,true,true,false,false,false,false] rfl rfl (one_of HT_.out (by kernel_rfl)) (by decide) (fun K hK=>?_)
 refine goes_ Try.func91 (by kernel_rfl) rfl #[.int .i64 a0_0,.int .i64 a1_0] (by rfl) rfl rfl (by(try simp only [List.map_toArray,List.map_cons,List.map_nil]);first|done|rfl|(simp only [List.length_drop,List.length_take];rfl)) ?_
 with_reducible refine(cmp_Compare_int64.calls a0_0 a1_0 t275 _ A3.out).mono ?_
 rintro e w' ⟨rfl,⟨nd,rfl⟩⟩
 refine⟨_,rfl,?_⟩
 refine hK.out _ _ ⟨(Jj BK273.out 0).trans rfl,(Jj BK273.out 1).trans rfl,(Jj BK273.out 2).trans rfl,(Jj BK274.out 0).trans rfl,(Jj BK274.out 1).trans rfl,(Jj BK274.out 2).trans rfl⟩ (fun hHeld=>?_)
 clear hK K
 refine norm_ (a':=?_) ?_ ?_
 rotate_left
 ·show Act.put _ (some 9) _=_
  simp only [Act.put,List.setIfInBounds_toArray,List.set_cons_zero,List.set_cons_succ,i64_w,i32_w]
  rfl
 refine one_ (i:=27) (N:=some 32) #[true,true,true,true,true,true,true,true,true,true,true,true,true,true,true,true,true,true,true,true,true,true,true,true,true,true,true,true,true,true,true,true,false,true,true,true,true,false,false,false,false] rfl rfl (one_of HT_.out (by kernel_rfl)) (by decide) (fun K hK=>?_)
 refine goes_ Try.func91 (by kernel_rfl) rfl #[.int .i64 (wrap64 ((wrap64 (a0_1*a0_1))+(wrap64 (a0_2*a0_2)))),.int .i64 (wrap64 ((wrap64 (a1_1*a1_1))+(wrap64 (a1_2*a1_2))))] (by rfl) rfl rfl (by(try simp only [List.map_toArray,List.map_cons,List.map_nil]);first|done|rfl|(simp only [List.length_drop,List.length_take];rfl)) ?_
 with_reducible refine(cmp_Compare_int64.calls (wrap64 ((wrap64 (a0_1*a0_1))+(wrap64 (a0_2*a0_2)))) (wrap64 ((wrap64 (a1_1*a1_1))+(wrap64 (a1_2*a1_2)))) t276 _ A4.out).mono ?_
 rintro e w' ⟨rfl,⟨nd,rfl⟩⟩
 refine⟨_,rfl,?_⟩
 refine hK.out _ _ ⟨(Jj BK273.out 0).trans rfl,(Jj BK273.out 1).trans rfl,(Jj BK273.out 2).trans rfl,(Jj BK274.out 0).trans rfl,(Jj BK274.out 1).trans rfl,(Jj BK274.out 2).trans rfl⟩ (fun hHeld=>?_)
 clear hK K
 refine norm_ (a':=?_) ?_ ?_
 rotate_left
 ·show Act.put _ (some 32) _=_
  simp only [Act.put,List.setIfInBounds_toArray,List.set_cons_zero,List.set_cons_succ,i64_w,i32_w]
  rfl
 refine one_ (i:=32) (N:=some 37) #[true,true,true,true,true,true,true,true,true,true,true,true,true,true,true,true,true,true,true,true,true,true,true,true,true,true,true,true,true,true,true,true,true,true,true,true,true,false,false,false,false] rfl rfl (one_of HT_.out (by kernel_rfl)) (by decide) (fun K hK=>?_)
 refine goes_ Try.func91 (by kernel_rfl) rfl #[.int .i64 a0_2,.int .i64 a1_2] (by rfl) rfl rfl (by(try simp only [List.map_toArray,List.map_cons,List.map_nil]);first|done|rfl|(simp only [List.length_drop,List.length_take];rfl)) ?_
 with_reducible refine(cmp_Compare_int64.calls a0_2 a1_2 t277 _ A5.out).mono ?_
 rintro e w' ⟨rfl,⟨nd,rfl⟩⟩
 refine⟨_,rfl,?_⟩
 refine hK.out _ _ ⟨(Jj BK273.out 0).trans rfl,(Jj BK273.out 1).trans rfl,(Jj BK273.out 2).trans rfl,(Jj BK274.out 0).trans rfl,(Jj BK274.out 1).trans rfl,(Jj BK274.out 2).trans rfl⟩ (fun hHeld=>?_)
 clear hK K
 refine norm_ (a':=?_) ?_ ?_
 rotate_left
 ·show Act.put _ (some 37) _=_
  simp only [Act.put,List.setIfInBounds_toArray,List.set_cons_zero,List.set_cons_succ,i64_w,i32_w]
  rfl
 refine one_ (i:=37) (N:=some 42) #[true,true,true,true,true,true,true,true,true,true,true,true,true,true,true,true,true,true,true,true,true,true,true,true,true,true,true,true,true,true,true,true,true,true,true,true,true,true,false,false,false] rfl rfl (one_of HT_.out (by kernel_rfl)) (by decide) (fun K hK=>?_)
 refine goes_ Try.func91 (by kernel_rfl) rfl #[.int .i64 a0_1,.int .i64 a1_1] (by rfl) rfl rfl (by(try simp only [List.map_toArray,List.map_cons,List.map_nil]);first|done|rfl|(simp only [List.length_drop,List.length_take];rfl)) ?_
 with_reducible refine(cmp_Compare_int64.calls a0_1 a1_1 t278 _ A6.out).mono ?_
 rintro e w' ⟨rfl,⟨nd,rfl⟩⟩
 refine⟨_,rfl,?_⟩
 refine hK.out _ _ ⟨(Jj BK273.out 0).trans rfl,(Jj BK273.out 1).trans rfl,(Jj BK273.out 2).trans rfl,(Jj BK274.out 0).trans rfl,(Jj BK274.out 1).trans rfl,(Jj BK274.out 2).trans rfl⟩ (fun hHeld=>?_)
 clear hK K
 refine norm_ (a':=?_) ?_ ?_
 rotate_left
 ·show Act.put _ (some 42) _=_
  simp only [Act.put,List.setIfInBounds_toArray,List.set_cons_zero,List.set_cons_succ,i64_w,i32_w]
  rfl
 refine one_ (i:=38) (N:=some 43) #[true,true,true,true,true,true,true,true,true,true,true,true,true,true,true,true,true,true,true,true,true,true,true,true,true,true,true,true,true,true,true,true,true,true,true,true,true,true,true,false,false] rfl rfl (one_of HT_.out (by kernel_rfl)) (by decide) (fun K hK=>?_)
 refine Kd.R_lit_step (Kd.int .i64) _ 3 ?hg (N:=43) ?hd (xs:=([t275,t276,t277,t278]:List Int)) (inner:=[.int .i64 t275,.int .i64 t276,.int .i64 t277,.int .i64 t278]) (ok:=fun _=>True) (okp:=fun _=>True) ?hr ?hp (fun _ hk=>hk) trivial (Below.refl _ _) (Nat.le_refl _) (by simp) ?_;(case hd=>rfl);(case hg=>rfl);(case hr=>first|(go_simp;done)|(go_simp;rfl));(case hp=>exact(Reps.one (show Kd.M (Kd.int .i64) _ _ _ t275 [.int .i64 t275] from rfl) (Reps.one (show Kd.M (Kd.int .i64) _ _ _ t276 [.int .i64 t276] from rfl) (Reps.one (show Kd.M (Kd.int .i64) _ _ _ t277 [.int .i64 t277] from rfl) (Reps.one (show Kd.M (Kd.int .i64) _ _ _ t278 [.int .i64 t278] from rfl) (Reps.none _ _))))))
 intro v280 w11 ho12 hb hg_ hnew_
 clear hg_ hnew_
 (first|rw [← Ny279.out] at ho12|(simp only [Int.reduceToNat] at ho12;rw [← Ny279.out] at ho12))
 have n0_:=Ja (Kd.R_lower ho12 (Jn (by repeat(first|(with_reducible first|exact HB.out|apply Jf|apply Je|apply Jg|refine Jc ?_ GE273.out|refine Jc ?_ GE274.out)|exact HB.out))))
 have n1_:=Ja (Jm (g:=gb273) (o:=.cells #[.int .i64 a0_0,.int .i64 a0_1,.int .i64 a0_2] 89 (0,0)) (by(with_reducible repeat(first|refine Ji ?_ _|refine Jb ?_|refine Jh ?_ _));exact BK273.out) hb)
 have n2_:=Ja (Jm (g:=gb274) (o:=.cells #[.int .i64 a1_0,.int .i64 a1_1,.int .i64 a1_2] 89 (0,0)) (by(with_reducible repeat(first|refine Ji ?_ _|refine Jb ?_|refine Jh ?_ _));exact BK274.out) hb)
 have n3_:=Ja (Jo (by repeat(first|(with_reducible first|exact HB.out|apply Jf|apply Je|apply Jg|refine Jc ?_ GE273.out|refine Jc ?_ GE274.out)|exact HB.out)) hb)
 clear BK273
 clear BK274
 clear HB
 have HO281:=n0_
 have BK273:=n1_
 have BK274:=n2_
 have HB:=n3_
 clear n0_ n1_ n2_ n3_
 clear hb ho12
 obtain⟨Ao13,co13,eo13⟩:=Kd.R_slice HO281.out
 (first|subst eo13|(injection eo13 with f1_ f2_ f3_;have f4_:=f1_.symm;have f5_:=f3_.symm;clear f1_ f2_ f3_;subst f4_;subst f5_))
 refine hK.out _ _ ⟨(Jj BK273.out 0).trans rfl,(Jj BK273.out 1).trans rfl,(Jj BK273.out 2).trans rfl,(Jj BK274.out 0).trans rfl,(Jj BK274.out 1).trans rfl,(Jj BK274.out 2).trans rfl⟩ (fun hHeld=>?_)
 clear hK K
 refine norm_ (a':=?_) ?_ ?_
 rotate_left
 ·show Act.put _ (some 43) _=_
  simp only [Act.put,List.setIfInBounds_toArray,List.set_cons_zero,List.set_cons_succ,i64_w,i32_w]
  rfl
 refine one_ (i:=39) (N:=some 44) #[true,true,true,true,true,true,true,true,true,true,true,true,true,true,true,true,true,true,true,true,true,true,true,true,true,true,true,true,true,true,true,true,true,true,true,true,true,true,true,true,false] rfl rfl (one_of HT_.out (by kernel_rfl)) (by decide) (fun K hK=>?_)
 refine goes_ Try.func90 (by kernel_rfl) rfl #[.slice Ao13 y279.length co13] (by rfl) rfl rfl (by(try simp only [List.map_toArray,List.map_cons,List.map_nil]);first|done|rfl|(simp only [List.length_drop,List.length_take];rfl)) ?_
 with_reducible refine(cmp_Or_int.calls k _ _ y279 t282 _ ?side1 ?side2 A7.out).mono ?_
 (case side1=>repeat(first|exact(Jr HO281.out).2.2|(with_reducible refine Kd.C_alloc ?_ _)|(with_reducible refine Kd.C_drewN ?_ _)|(with_reducible refine Kd.C_drew ?_)))
 (case side2=>exact(Jr HO281.out).2.1)
 rintro e w' ⟨rfl,⟨nd,rfl⟩⟩
 refine⟨_,rfl,?_⟩
 refine hK.out _ _ ⟨(Jj BK273.out 0).trans rfl,(Jj BK273.out 1).trans rfl,(Jj BK273.out 2).trans rfl,(Jj BK274.out 0).trans rfl,(Jj BK274.out 1).trans rfl,(Jj BK274.out 2).trans rfl⟩ (fun hHeld=>?_)
 clear hK K
 refine norm_ (a':=?_) ?_ ?_
 rotate_left
 ·show Act.put _ (some 44) _=_
  simp only [Act.put,List.setIfInBounds_toArray,List.set_cons_zero,List.set_cons_succ,i64_w,i32_w]
  rfl
 refine pure_ (i:=40) (N:=some 4) (v:=?_) (a':=?_) #[true,true,true,true,true,true,true,true,true,true,true,true,true,true,true,true,true,true,true,true,true,true,true,true,true,true,true,true,true,true,true,true,true,true,true,true,true,true,true,true,true] rfl rfl (any_of HT_.out (by kernel_rfl)) (fun _ _ _ h=>h) (Or.inl ⟨by rfl,?_⟩) ?_ ?_
 rotate_left
 ·intro w'
  go_simp
  with_reducible rfl
 rotate_left
 ·simp only [Act.put,List.setIfInBounds_toArray,List.set_cons_zero,List.set_cons_succ,i64_w,i32_w]
  rfl
 refine done_ (done_of HT_.out (by kernel_rfl)) ?_
 try go_wp2
 go_ret
 exact⟨by first|rfl|(simp [errW_none,errW_some] <;> rfl)|(simp [*,errW_none,errW_some] <;> rfl),by repeat(first|(with_reducible first|exact HB.out|apply Jf|apply Je|apply Jg|refine Jc ?_ GE273.out|refine Jc ?_ GE274.out)|exact HB.out)⟩

def impl_motion_go (k : Nat) : S89 → List S89 → Option (Int × Int × Int)
 | m, [] => some (m.f0, m.f1, m.f2)
 | m, x :: xs => (impl_motion_1.f k x.f0 x.f1 x.f2 m.f0 m.f1 m.f2).bind fun t => if t < 0 then impl_motion_go k x xs else impl_motion_go k m xs
def impl_motion_min.f (k : Nat) (l0 : List S89) : Option (Int × Int × Int) := match l0 with
 | [] => none
 | x :: xs => impl_motion_go k x xs
theorem impl_motion_go_mono (k : Nat) : ∀ (xs : List S89) (m : S89), LeO (impl_motion_go k m xs) (impl_motion_go (k + 1) m xs)
 | [], m => LeO.refl _
 | x :: xs, m => by
  unfold impl_motion_go
  refine LeO.bind (impl_motion_1.mono _ _ _ _ _ _ _) (fun t=>LeO.ite (impl_motion_go_mono k xs x) (impl_motion_go_mono k xs m))
theorem impl_motion_min.mono : ∀ a0 k, LeO (impl_motion_min.f k a0) (impl_motion_min.f (k + 1) a0)
 | [], k => LeO.refl _
 | x :: xs, k => impl_motion_go_mono k xs x
theorem impl_motion_two (w : World) (o1 o2 : Obj) : ((w.alloc o1).alloc o2).heap[w.heap.size + 1]? = some o2 := by
 have h:=Go.Deep.blk_alloc_new (w.alloc o1) o2
 have e:(w.alloc o1).heap.size=w.heap.size+1:=Array.size_push _
 rwa [e] at h
set_option maxHeartbeats 2000000 in
set_option maxRecDepth 100000 in
theorem impl_motion_min.calls (k : Nat) (A0 : Option Addr) (c0 : Nat) (l0 : List S89) (r1 r2 r3 : Int) (w : World) (hr0 : Kd.C k89 w A0 l0.length l0) (hc0 : l0.length ≤ c0) (h : impl_motion_min.f k l0 = some (r1, r2, r3)) :
  Calls Try.prog 88 #[.slice A0 l0.length c0,.func (.func 89) #[] #[]] w fun e w'=>e=.returned (.agg #[.int .i64 r1,.int .i64 r2,.int .i64 r3])∧Below w.heap.size w w':=by
 have huW:=Try.underlying89
 have HR0:=Ja hr0
 have HC0:=Ja hc0
 have HM0:=Ja hr0.2.1
 clear hr0 hc0
 have hpos:0 < l0.length:=by
  cases l0 with
  | nil => exact absurd h (by simp [impl_motion_min.f])
  | cons x xs => simp
 have H:=Ja (show impl_motion_go k (rd_T89 l0 0) (l0.drop 1)=some (r1,r2,r3) by
  cases l0 with
  | nil => exact absurd hpos (by simp)
  | cons x xs => exact h)
 clear h
 obtain⟨ad,e0,m0,m1,m2⟩:=at_T89 HR0.out (0:Int) (by omega) (by omega)
 cases e0
 rw [show ad.add (Int.toNat 0*3)=ad by cases ad;rfl] at m0 m1 m2
 generalize rd_T89 l0 0=x0 at H m0 m1 m2
 have c1:decide ((l0.length:Int) < 1)=false:=decide_eq_false (by omega)
 have q0:((0:Int) < (l0.length:Int))=True:=eq_true (by omega)
 have r0:(0 < l0.length)=True:=eq_true hpos
 have hb0:ad.block < w.heap.size:=World.block_lt_of_cell? _ _ m0
 have n0:=((Jf (Below.refl w.heap.size w) (.cells #[.int .i64 0,.int .i64 0,.int .i64 0] 89 (0,0))).cell (p:=ad) hb0).trans m0
 have n1:=((Jf (Below.refl w.heap.size w) (.cells #[.int .i64 0,.int .i64 0,.int .i64 0] 89 (0,0))).cell (p:=⟨ad.block,ad.off+1,none⟩) hb0).trans m1
 have n2:=((Jf (Below.refl w.heap.size w) (.cells #[.int .i64 0,.int .i64 0,.int .i64 0] 89 (0,0))).cell (p:=⟨ad.block,ad.off+2,none⟩) hb0).trans m2
 have HPOS:=Ja hpos
 clear hpos m0 m1 m2
 go_enter Try.func88,Try.ntmps88
 go_wp2
 clear n0 n1 n2 hb0
 go_loopg [6] l0.length (fun gg v6 w'=>∃ (kk:Nat) (m:S89),Aside0 (1≤kk∧kk≤l0.length∧l0.length - kk≤gg)∧v6=.int .i64 (kk:Int)∧Aside0 (impl_motion_go k m (l0.drop kk)=some (r1,r2,r3))∧Aside0 (w'.heap[w.heap.size]? = some (.cells #[.int .i64 0,.int .i64 0,.int .i64 0] 89 (0,0)))∧Aside0 (w'.heap[w.heap.size+1]? = some (.cells #[.int .i64 m.f0,.int .i64 m.f1,.int .i64 m.f2] 89 (0,0)))∧Aside0 (Below w.heap.size w w'))
 case atStart=>exact⟨1,x0,⟨by omega,by have:=HPOS.out;omega,by omega⟩,rfl,H,⟨Jh (Go.Deep.blk_alloc_new w _) _⟩,⟨impl_motion_two w _ _⟩,⟨Jf (Jf (Below.refl _ _) _) _⟩⟩
 case round=>
  clear H
  obtain⟨kk,m,HK,rfl,HI,BT,BM,HB⟩:=hrel
  have HM2:l0.length≤9223372036854775807:=HM0.out
  by_cases hlt:kk < l0.length
  ·have HI2:((impl_motion_1.f k (rd_T89 l0 (kk:Int)).f0 (rd_T89 l0 (kk:Int)).f1 (rd_T89 l0 (kk:Int)).f2 m.f0 m.f1 m.f2).bind fun t=>if t < 0 then impl_motion_go k (rd_T89 l0 (kk:Int)) (l0.drop (kk+1)) else impl_motion_go k m (l0.drop (kk+1)))=some (r1,r2,r3):=by
    have:=HI.out
    rw [List.drop_eq_getElem_cons hlt] at this
    have e:l0[kk]=rd_T89 l0 (kk:Int):=by simp [rd_T89,List.getD_eq_getElem?_getD,List.getElem?_eq_getElem hlt]
    rw [e] at this
    exact this
   clear HI
   obtain⟨t,ht,HI3⟩:=Option.bind_eq_some_iff.1 HI2
   clear HI2
   have HT:=Ja ht
   clear ht
   obtain⟨ad2,e2,m0,m1,m2⟩:=at_T89 (Kd.C_below HR0.out HB.out) (kk:Int) (by omega) (by omega)
   cases e2
   simp only [Int.toNat_natCast] at m0 m1 m2
   generalize rd_T89 l0 (kk:Int)=x at HT HI3 m0 m1 m2
   have hltb:decide ((kk:Int) < (l0.length:Int))=true:=decide_eq_true (by omega)
   have p0:(0≤(kk:Int))=True:=eq_true (by omega)
   have q1:((kk:Int) < (l0.length:Int))=True:=eq_true (by omega)
   have g0:wr.cell? ⟨w.heap.size+1,0,none⟩=some (.int .i64 m.f0):=(Jj BM.out 0).trans rfl
   have g1:wr.cell? ⟨w.heap.size+1,1,none⟩=some (.int .i64 m.f1):=(Jj BM.out 1).trans rfl
   have g2:wr.cell? ⟨w.heap.size+1,2,none⟩=some (.int .i64 m.f2):=(Jj BM.out 2).trans rfl
   have HI4:=Ja HI3
   clear HI3
   go_wp2
   have hstep:wrap64 ((kk:Int)+1)=((kk+1:Nat):Int):=by unfold wrap64;omega
   have HST:=Ja hstep
   clear hstep
   by_cases ht0:t < 0
   ·have cT:decide (t < 0)=true:=decide_eq_true ht0
    have HI5:=Ja (show impl_motion_go k x (l0.drop (kk+1))=some (r1,r2,r3) by have:=HI4.out;rwa [if_pos ht0] at this)
    clear HI4 ht0
    go_region_held3 (fun w'=>w'.cell? (ad.add (kk*3))=some (.int .i64 x.f0)∧w'.cell? (⟨(ad.add (kk*3)).block,(ad.add (kk*3)).off+1,none⟩)=some (.int .i64 x.f1)∧w'.cell? (⟨(ad.add (kk*3)).block,(ad.add (kk*3)).off+2,none⟩)=some (.int .i64 x.f2)∧w'.cell? ⟨w.heap.size+1,0,none⟩=some (.int .i64 m.f0)∧w'.cell? ⟨w.heap.size+1,1,none⟩=some (.int .i64 m.f1)∧w'.cell? ⟨w.heap.size+1,2,none⟩=some (.int .i64 m.f2)) (go_keep) ((go_at_call 89;refine(impl_motion_1.calls k _ _ _ _ _ _ t _ HT.out).mono ?_;rintro e w5 ⟨rfl,hb5⟩;have hh_:=‹_∧_∧_∧_∧_∧_›;have k0:=(hb5.cell (World.block_lt_of_cell? _ _ hh_.1)).trans hh_.1;have k1:=(hb5.cell (World.block_lt_of_cell? _ _ hh_.2.1)).trans hh_.2.1;have k2:=(hb5.cell (World.block_lt_of_cell? _ _ hh_.2.2.1)).trans hh_.2.2.1;have k3:=(hb5.cell (World.block_lt_of_cell? _ _ hh_.2.2.2.1)).trans hh_.2.2.2.1;have k4:=(hb5.cell (World.block_lt_of_cell? _ _ hh_.2.2.2.2.1)).trans hh_.2.2.2.2.1;have k5:=(hb5.cell (World.block_lt_of_cell? _ _ hh_.2.2.2.2.2)).trans hh_.2.2.2.2.2;clear hh_;have HB5:=Ja hb5;clear hb5))
    all_goals (
     have HF:=Ja (Jo (by repeat(first|exact Below.refl wr.heap.size wr|apply Jg)) HB5.out)
     have HB2:=Ja (Jo HB.out HF.out)
     have BT2:=Ja (Jm BT.out HF.out)
     have BM2:=Ja (Jm BM.out HF.out)
     clear HB BT BM HF HB5 m0 m1 m2 g0 g1 g2
     have f0:=Jq BM2.out 0
     have f1:=Jq BM2.out 1
     have f2:=Jq BM2.out 2
     go_wp2
     go_roundg (l0.length - (kk+1))
     (case measure=>(have:=HK.out;omega))
     (case rel=>exact⟨kk+1,x,⟨by omega,by omega,by omega⟩,by first|rfl|go_num|(rw [HST.out]),HI5,⟨blk_far (blk_far (blk_far BT2.out (by simp) _) (by simp) _) (by simp) _⟩,⟨blk_put (blk_put (blk_put BM2.out 0 _ rfl) 1 _ rfl) 2 _ rfl⟩,⟨Jc (Jc (Jc HB2.out (Nat.le_succ _)) (Nat.le_succ _)) (Nat.le_succ _)⟩⟩))
   ·have cT:decide (t < 0)=false:=decide_eq_false ht0
    have HI5:=Ja (show impl_motion_go k m (l0.drop (kk+1))=some (r1,r2,r3) by have:=HI4.out;rwa [if_neg ht0] at this)
    clear HI4 ht0
    go_region_held3 (fun w'=>w'.cell? (ad.add (kk*3))=some (.int .i64 x.f0)∧w'.cell? (⟨(ad.add (kk*3)).block,(ad.add (kk*3)).off+1,none⟩)=some (.int .i64 x.f1)∧w'.cell? (⟨(ad.add (kk*3)).block,(ad.add (kk*3)).off+2,none⟩)=some (.int .i64 x.f2)∧w'.cell? ⟨w.heap.size+1,0,none⟩=some (.int .i64 m.f0)∧w'.cell? ⟨w.heap.size+1,1,none⟩=some (.int .i64 m.f1)∧w'.cell? ⟨w.heap.size+1,2,none⟩=some (.int .i64 m.f2)) (go_keep) ((go_at_call 89;refine(impl_motion_1.calls k _ _ _ _ _ _ t _ HT.out).mono ?_;rintro e w5 ⟨rfl,hb5⟩;have hh_:=‹_∧_∧_∧_∧_∧_›;have k0:=(hb5.cell (World.block_lt_of_cell? _ _ hh_.1)).trans hh_.1;have k1:=(hb5.cell (World.block_lt_of_cell? _ _ hh_.2.1)).trans hh_.2.1;have k2:=(hb5.cell (World.block_lt_of_cell? _ _ hh_.2.2.1)).trans hh_.2.2.1;have k3:=(hb5.cell (World.block_lt_of_cell? _ _ hh_.2.2.2.1)).trans hh_.2.2.2.1;have k4:=(hb5.cell (World.block_lt_of_cell? _ _ hh_.2.2.2.2.1)).trans hh_.2.2.2.2.1;have k5:=(hb5.cell (World.block_lt_of_cell? _ _ hh_.2.2.2.2.2)).trans hh_.2.2.2.2.2;clear hh_;have HB5:=Ja hb5;clear hb5))
    all_goals (
     have HF:=Ja (Jo (by repeat(first|exact Below.refl wr.heap.size wr|apply Jg)) HB5.out)
     have HB2:=Ja (Jo HB.out HF.out)
     have BT2:=Ja (Jm BT.out HF.out)
     have BM2:=Ja (Jm BM.out HF.out)
     clear HB BT BM HF HB5 m0 m1 m2 g0 g1 g2
     go_wp2
     go_roundg (l0.length - (kk+1))
     (case measure=>(have:=HK.out;omega))
     (case rel=>exact⟨kk+1,m,⟨by omega,by omega,by omega⟩,by first|rfl|go_num|(rw [HST.out]),HI5,BT2,BM2,HB2⟩))
  ·have hltb:decide ((kk:Int) < (l0.length:Int))=false:=decide_eq_false (by omega)
   have hi:kk=l0.length:=by have:=HK.out;omega
   have hr:m.f0=r1∧m.f1=r2∧m.f2=r3:=by
    have:=HI.out
    rw [hi,List.drop_length] at this
    simpa [impl_motion_go] using this
   obtain⟨rfl,rfl,rfl⟩:=hr
   have g0:wr.cell? ⟨w.heap.size+1,0,none⟩=some (.int .i64 m.f0):=(Jj BM.out 0).trans rfl
   have g1:wr.cell? ⟨w.heap.size+1,1,none⟩=some (.int .i64 m.f1):=(Jj BM.out 1).trans rfl
   have g2:wr.cell? ⟨w.heap.size+1,2,none⟩=some (.int .i64 m.f2):=(Jj BM.out 2).trans rfl
   have d0:wr.cell? ⟨w.heap.size,0,none⟩=some (.int .i64 0):=(Jj BT.out 0).trans rfl
   have d1:wr.cell? ⟨w.heap.size,1,none⟩=some (.int .i64 0):=(Jj BT.out 1).trans rfl
   have d2:wr.cell? ⟨w.heap.size,2,none⟩=some (.int .i64 0):=(Jj BT.out 2).trans rfl
   have f0:=Jq BT.out 0
   have f1:=Jq BT.out 1
   have f2:=Jq BT.out 2
   clear HI
   go_wp2
   refine bodyPost_ret (results_cell_row rfl _ _ w.heap.size 89 #[.int .i64 m.f0,.int .i64 m.f1,.int .i64 m.f2] (0,0) _ rfl (blk_put (blk_put (blk_put BT.out 0 _ rfl) 1 _ rfl) 2 _ rfl) huW rfl (by kernel_rfl)) rfl ?_
   exact⟨rfl,Jc (Jc (Jc HB.out (Nat.le_refl _)) (Nat.le_refl _)) (Nat.le_refl _)⟩

/-! ### impl_motion: function 71 -/
mutual
def impl_motion.l0 : Nat → Int → List Int → List (S89) → Int → Int → Int → List Int → Option (Int × Int)
 | 0, _, _, _, _, _, _, _ => none
 | k + 1, x2, x8, x9, x10, x284000, x284001, x284002 => if x10 ≤ 2 then (impl_motion.l1 k x2 x8 x9 x10 (-2) x284000 x284001 x284002) else ((impl_motion_min.f k x9).bind fun bt291 => (some (bt291.2.1, bt291.2.2)))
def impl_motion.l1 : Nat → Int → List Int → List (S89) → Int → Int → Int → Int → List Int → Option (Int × Int)
 | 0, _, _, _, _, _, _, _, _ => none
 | k + 1, x2, x8, x9, x10, x11, x284000, x284001, x284002 => if x11 ≤ 2 then ((impl_Picture_at.f k x284000 x284001 x284002 x2 x11 x10).bind fun t295 => ((impl_offBy.f k x8 t295).bind fun t298 => (if x9.length < 5864062014805 then (impl_motion.l1 k x2 x8 (x9 ++ [(⟨t298, x11, x10⟩ : S89)]) x10 (wrap64 (x11 + 1)) x284000 x284001 x284002) else (none)))) else (impl_motion.l0 k x2 x8 x9 (wrap64 (x10 + 1)) x284000 x284001 x284002)
end
def impl_motion.f (k : Nat) (a0_0 : Int) (a0_1 : Int) (l0_2 : List Int) (a1_0 : Int) (a1_1 : Int) (l1_2 : List Int) (a2 : Int) : Option (Int × Int) := (impl_Picture_at.f k a1_0 a1_1 l1_2 a2 0 0).bind fun t285 => (impl_motion.l0 k a2 t285 (([] : List (S89))) (-2) a0_0 a0_1 l0_2)
theorem impl_motion.mono_l : ∀ k, (∀ y0 y1 y2 y3 y4 y5 y6, LeO (impl_motion.l0 k y0 y1 y2 y3 y4 y5 y6) (impl_motion.l0 (k + 1) y0 y1 y2 y3 y4 y5 y6)) ∧ (∀ y0 y1 y2 y3 y4 y5 y6 y7, LeO (impl_motion.l1 k y0 y1 y2 y3 y4 y5 y6 y7) (impl_motion.l1 (k + 1) y0 y1 y2 y3 y4 y5 y6 y7))
 | 0 => ⟨fun _ _ _ _ _ _ _ r h => by simp [impl_motion.l0] at h, fun _ _ _ _ _ _ _ _ r h => by simp [impl_motion.l1] at h⟩
 | k + 1 => by
  obtain⟨ih0,ih1⟩:=impl_motion.mono_l k
  refine⟨?_,?_⟩
  ·intro y0 y1 y2 y3 y4 y5 y6
   unfold impl_motion.l0
   repeat' first
   | (with_reducible exact ih0 _ _ _ _ _ _ _)
   | (with_reducible exact ih1 _ _ _ _ _ _ _ _)
   | (with_reducible exact impl_Picture_at.mono _ _ _ _ _ _ _)
   | (with_reducible exact impl_motion_min.mono _ _)
   | (with_reducible exact impl_offBy.mono _ _ _)
   | (with_reducible exact LeO.refl _)
   | (with_reducible exact LeO.none _)
   | (with_reducible refine LeO.ite ?_ ?_)
   | (with_reducible refine LeO.bind ?_ (fun _ => ?_))
   | exact ih0 _ _ _ _ _ _ _
   | exact ih1 _ _ _ _ _ _ _ _
   | exact impl_Picture_at.mono _ _ _ _ _ _ _
   | exact impl_motion_min.mono _ _
   | exact impl_offBy.mono _ _ _
   | exact LeO.none _
   | refine LeO.ite ?_ ?_
   | refine LeO.bind ?_ (fun _ => ?_)
  ·intro y0 y1 y2 y3 y4 y5 y6 y7
   unfold impl_motion.l1
   repeat' first
   | (with_reducible exact ih0 _ _ _ _ _ _ _)
   | (with_reducible exact ih1 _ _ _ _ _ _ _ _)
   | (with_reducible exact impl_Picture_at.mono _ _ _ _ _ _ _)
   | (with_reducible exact impl_motion_min.mono _ _)
   | (with_reducible exact impl_offBy.mono _ _ _)
   | (with_reducible exact LeO.refl _)
   | (with_reducible exact LeO.none _)
   | (with_reducible refine LeO.ite ?_ ?_)
   | (with_reducible refine LeO.bind ?_ (fun _ => ?_))
   | exact ih0 _ _ _ _ _ _ _
   | exact ih1 _ _ _ _ _ _ _ _
   | exact impl_Picture_at.mono _ _ _ _ _ _ _
   | exact impl_motion_min.mono _ _
   | exact impl_offBy.mono _ _ _
   | exact LeO.none _
   | refine LeO.ite ?_ ?_
   | refine LeO.bind ?_ (fun _ => ?_)
theorem impl_motion.mono : ∀ a0 a1 a2 a3 a4 a5 a6 k, LeO (impl_motion.f k a0 a1 a2 a3 a4 a5 a6) (impl_motion.f (k + 1) a0 a1 a2 a3 a4 a5 a6) := by
 intro a0 a1 a2 a3 a4 a5 a6 k
 obtain⟨ih0,ih1⟩:=impl_motion.mono_l k
 unfold impl_motion.f
 repeat' first
   | (with_reducible exact ih0 _ _ _ _ _ _ _)
   | (with_reducible exact ih1 _ _ _ _ _ _ _ _)
   | (with_reducible exact impl_Picture_at.mono _ _ _ _ _ _ _)
   | (with_reducible exact impl_motion_min.mono _ _)
   | (with_reducible exact impl_offBy.mono _ _ _)
   | (with_reducible exact LeO.refl _)
   | (with_reducible exact LeO.none _)
   | (with_reducible refine LeO.ite ?_ ?_)
   | (with_reducible refine LeO.bind ?_ (fun _ => ?_))
   | exact ih0 _ _ _ _ _ _ _
   | exact ih1 _ _ _ _ _ _ _ _
   | exact impl_Picture_at.mono _ _ _ _ _ _ _
   | exact impl_motion_min.mono _ _
   | exact impl_offBy.mono _ _ _
   | exact LeO.none _
   | refine LeO.ite ?_ ?_
   | refine LeO.bind ?_ (fun _ => ?_)
set_option maxHeartbeats 8000000 in
set_option maxRecDepth 100000 in
theorem impl_motion.calls (k : Nat) (a0_0 : Int) (a0_1 : Int) (A0_2 : Option Addr) (c0_2 : Nat) (l0_2 : List Int) (a1_0 : Int) (a1_1 : Int) (A1_2 : Option Addr) (c1_2 : Nat) (l1_2 : List Int) (a2 : Int) (r1 : Int) (r2 : Int) (w : World) (hr0_2 : Kd.C (Kd.int .i64) w A0_2 l0_2.length l0_2) (hc0_2 : l0_2.length ≤ c0_2) (hr1_2 : Kd.C (Kd.int .i64) w A1_2 l1_2.length l1_2) (hc1_2 : l1_2.length ≤ c1_2) (h : impl_motion.f k a0_0 a0_1 l0_2 a1_0 a1_1 l1_2 a2 = some (r1, r2)) :
  Calls Try.prog 71 #[.agg #[.int .i64 a0_0,.int .i64 a0_1,.slice A0_2 l0_2.length c0_2],.agg #[.int .i64 a1_0,.int .i64 a1_1,.slice A1_2 l1_2.length c1_2],.int .i64 a2] w fun e w'=>e=.returned (.tuple #[.int .i64 r1,.int .i64 r2])∧Below w.heap.size w w':=by
 have hu27:=Try.underlying27
 have hu89:=Try.underlying89
 have HR0_2:=Ja hr0_2
 have HC0_2:=Ja hc0_2
 clear hr0_2 hc0_2
 have HR1_2:=Ja hr1_2
 have HC1_2:=Ja hc1_2
 clear hr1_2 hc1_2
 have HB:=Ja (Below.refl w.heap.size w)
 have H:((impl_Picture_at.f k a1_0 a1_1 l1_2 a2 0 0).bind fun t285=>(impl_motion.l0 k a2 t285 (([]:List (S89))) (-2) a0_0 a0_1 l0_2))=some (r1,r2):=h
 clear h
 replace H:=Option.bind_eq_some_iff.mp H
 obtain⟨t285,A40,H⟩:=H
 replace H:(impl_motion.l0 k a2 t285 (([]:List (S89))) (-2) a0_0 a0_1 l0_2)=some (r1,r2):=H
 have A4:=Ja A40
 clear A40
 obtain⟨y288,hy288⟩:∃ y_:List (S89),y_=(([]:List (S89))):=⟨_,rfl⟩
 replace H:(impl_motion.l0 k a2 t285 y288 (-2) a0_0 a0_1 l0_2)=some (r1,r2):=by first|(rw [hy288];with_reducible exact H)|(have H2_:=(Option.bind_some _ _).symm.trans H;rw [hy288];with_reducible exact H2_)|(have H2_:=(Option.bind_some _ _).symm.trans H;with_reducible exact H2_)|with_reducible exact H|(rw [hy288];exact H)|exact H
 have qv:=Ja hy288
 clear hy288
 have H':=Ja H
 clear H
 go_enter Try.func71,Try.ntmps71
 go_wp2_with (first|((with_reducible refine gate_dst (N:=3) rfl ?_);refine box_event ?hg (N:=3) ?hd (cs:=#[.int .i64 a0_0,.int .i64 a0_1,.slice A0_2 l0_2.length c0_2]) (t:=27) ?hr ?_;(case hd=>rfl);(case hg=>rfl);(case hr=>first|(go_simp;done)|(go_simp;rfl));intro qc hg w5 hbox hb;have n0_:=Ja (Jo (by repeat(first|(with_reducible first|exact HB.out|apply Jf|apply Je|apply Jg)|exact HB.out)) hb);have n1_:=Ja (hbox);have n2_:=Ja ((by rw [hg];exact(Jn (by repeat(first|(with_reducible first|exact HB.out|apply Jf|apply Je|apply Jg)|exact HB.out))):w.heap.size≤qc));have n3_:=Ja ((by rw [hg];exact(Jn (by repeat(first|(with_reducible first|exact HB.out|apply Jf|apply Je|apply Jg)|exact HB.out))):w.heap.size≤qc));clear HB;have HB:=n0_;have qa:=n1_;have GW283:=n2_;have qe:=n3_;clear n0_ n1_ n2_ n3_;clear hb hbox hg)|((with_reducible refine gate_dst (N:=4) rfl ?_);refine box_event ?hg (N:=4) ?hd (cs:=#[.int .i64 a1_0,.int .i64 a1_1,.slice A1_2 l1_2.length c1_2]) (t:=27) ?hr ?_;(case hd=>rfl);(case hg=>rfl);(case hr=>first|(go_simp;done)|(go_simp;rfl));intro qd hg w6 hbox hb;have n0_:=Ja (Jm (g:=qc) (o:=.cells #[.int .i64 a0_0,.int .i64 a0_1,.slice A0_2 l0_2.length c0_2] 27 (0,0)) (by(with_reducible repeat(first|refine Ji ?_ _|refine Jb ?_|refine Jh ?_ _));exact qa.out) hb);have n1_:=Ja (Jo (by repeat(first|(with_reducible first|exact HB.out|apply Jf|apply Je|apply Jg|refine Jc ?_ qe.out)|exact HB.out)) hb);have n2_:=Ja (hbox);have n3_:=Ja ((by rw [hg];exact(Jn (by repeat(first|(with_reducible first|exact HB.out|apply Jf|apply Je|apply Jg|refine Jc ?_ qe.out)|exact HB.out))):w.heap.size≤qd));have n4_:=Ja ((by rw [hg];exact(Jn (by repeat(first|(with_reducible first|exact HB.out|apply Jf|apply Je|apply Jg|refine Jc ?_ qe.out)|exact HB.out))):w.heap.size≤qd));have n5_:=Ja ((by rw [hg];exact Nat.ne_of_lt (blk_lt (g:=qc) (o:=.cells #[.int .i64 a0_0,.int .i64 a0_1,.slice A0_2 l0_2.length c0_2] 27 (0,0)) (by(with_reducible repeat(first|refine Ji ?_ _|refine Jb ?_|refine Jh ?_ _));exact qa.out)):qc≠qd));have n6_:=Ja ((by rw [hg];exact Nat.ne_of_gt (blk_lt (g:=qc) (o:=.cells #[.int .i64 a0_0,.int .i64 a0_1,.slice A0_2 l0_2.length c0_2] 27 (0,0)) (by(with_reducible repeat(first|refine Ji ?_ _|refine Jb ?_|refine Jh ?_ _));exact qa.out)):qd≠qc));clear qa;clear HB;have qa:=n0_;have HB:=n1_;have qb:=n2_;have GW284:=n3_;have qf:=n4_;have qn:=n5_;have qo:=n6_;clear n0_ n1_ n2_ n3_ n4_ n5_ n6_;clear hb hbox hg;have hnb7:=qo.out;have hnc7:=qn.out;have hcz8_0:w6.cell? ⟨qd,0,none⟩=some (.int .i64 a1_0):=(Jj qb.out 0).trans rfl;have hcz8_1:w6.cell? ⟨qd,1,none⟩=some (.int .i64 a1_1):=(Jj qb.out 1).trans rfl;have hcz8_2:w6.cell? ⟨qd,2,none⟩=some (.slice A1_2 l1_2.length c1_2):=(Jj qb.out 2).trans rfl;have hfz8_0:=Jq qb.out 0;have hfz8_1:=Jq qb.out 1;have hfz8_2:=Jq qb.out 2)|(go_at_call 78;(with_reducible refine(impl_Picture_at.calls k a1_0 a1_1 _ _ l1_2 a2 0 0 t285 _ ?side1 ?side2 A4.out).mono ?_);(case side1=>repeat(first|exact(Kd.C_below HR1_2.out HB.out)|(with_reducible refine Kd.C_alloc ?_ _)|(with_reducible refine Kd.C_drewN ?_ _)|(with_reducible refine Kd.C_drew ?_)));(case side2=>exact HC1_2.out);rintro e w9 ⟨v286,rfl,qw,hb⟩;have n0_:=Ja (Kd.R_lower qw (Jn (by repeat(first|(with_reducible first|exact HB.out|apply Jf|apply Je|apply Jg|refine Jc ?_ qe.out|refine Jc ?_ qf.out)|exact HB.out))));have n1_:=Ja (Jm (g:=qc) (o:=.cells #[.int .i64 a0_0,.int .i64 a0_1,.slice A0_2 l0_2.length c0_2] 27 (0,0)) (by(with_reducible repeat(first|refine Ji ?_ _|refine Jb ?_|refine Jh ?_ _));exact qa.out) hb);have n2_:=Ja (Jm (g:=qd) (o:=.cells #[.int .i64 a1_0,.int .i64 a1_1,.slice A1_2 l1_2.length c1_2] 27 (0,0)) (by(with_reducible repeat(first|refine Ji ?_ _|refine Jb ?_|refine Jh ?_ _));exact qb.out) hb);have n3_:=Ja (Jo (by repeat(first|(with_reducible first|exact HB.out|apply Jf|apply Je|apply Jg|refine Jc ?_ qe.out|refine Jc ?_ qf.out)|exact HB.out)) hb);clear qa;clear qb;clear HB;have qt:=n0_;have qa:=n1_;have qb:=n2_;have HB:=n3_;clear n0_ n1_ n2_ n3_;(try clear hb);(try clear hb2);(try clear hk);(try clear hi);(try clear qw))|((with_reducible refine gate_dst (N:=16) rfl ?_);refine Kd.R_lit k89 _ 89 ?hg (N:=16) ?hd (xs:=([]:List (S89))) (inner:=[]) (ok:=fun _=>True) (okp:=fun _=>True) ?hr ?hp (fun _ hk=>hk) trivial (Below.refl _ _) (Nat.le_refl _) (by simp) ?_;(case hd=>rfl);(case hg=>rfl);(case hr=>first|(go_simp;done)|(go_simp;rfl));(case hp=>exact(Reps.none _ _));intro v289 w10 ho11 hb hg_ hnew_;clear hg_ hnew_;(first|rw [← qv.out] at ho11|(simp only [Int.reduceToNat] at ho11;rw [← qv.out] at ho11));have n0_:=Ja (Jp (by(with_reducible repeat(first|apply Jk|apply Jl|apply Jd));exact qt.out) hb);have n1_:=Ja (Kd.R_lower ho11 (Jn (by repeat(first|(with_reducible first|exact HB.out|apply Jf|apply Je|apply Jg|refine Jc ?_ qe.out|refine Jc ?_ qf.out)|exact HB.out))));have n2_:=Ja (Jm (g:=qc) (o:=.cells #[.int .i64 a0_0,.int .i64 a0_1,.slice A0_2 l0_2.length c0_2] 27 (0,0)) (by(with_reducible repeat(first|refine Ji ?_ _|refine Jb ?_|refine Jh ?_ _));exact qa.out) hb);have n3_:=Ja (Jm (g:=qd) (o:=.cells #[.int .i64 a1_0,.int .i64 a1_1,.slice A1_2 l1_2.length c1_2] 27 (0,0)) (by(with_reducible repeat(first|refine Ji ?_ _|refine Jb ?_|refine Jh ?_ _));exact qb.out) hb);have n4_:=Ja (Jo (by repeat(first|(with_reducible first|exact HB.out|apply Jf|apply Je|apply Jg|refine Jc ?_ qe.out|refine Jc ?_ qf.out)|exact HB.out)) hb);clear qt;clear qa;clear qb;clear HB;have qt:=n0_;have HO290:=n1_;have qa:=n2_;have qb:=n3_;have HB:=n4_;clear n0_ n1_ n2_ n3_ n4_;clear hb ho11))
 repeat(go_quiet (first|((with_reducible refine gate_dst (N:=3) rfl ?_);refine box_event ?hg (N:=3) ?hd (cs:=#[.int .i64 a0_0,.int .i64 a0_1,.slice A0_2 l0_2.length c0_2]) (t:=27) ?hr ?_;(case hd=>rfl);(case hg=>rfl);(case hr=>first|(go_simp;done)|(go_simp;rfl));intro qc hg w5 hbox hb;have n0_:=Ja (Jo (by repeat(first|(with_reducible first|exact HB.out|apply Jf|apply Je|apply Jg)|exact HB.out)) hb);have n1_:=Ja (hbox);have n2_:=Ja ((by rw [hg];exact(Jn (by repeat(first|(with_reducible first|exact HB.out|apply Jf|apply Je|apply Jg)|exact HB.out))):w.heap.size≤qc));have n3_:=Ja ((by rw [hg];exact(Jn (by repeat(first|(with_reducible first|exact HB.out|apply Jf|apply Je|apply Jg)|exact HB.out))):w.heap.size≤qc));clear HB;have HB:=n0_;have qa:=n1_;have GW283:=n2_;have qe:=n3_;clear n0_ n1_ n2_ n3_;clear hb hbox hg)|((with_reducible refine gate_dst (N:=4) rfl ?_);refine box_event ?hg (N:=4) ?hd (cs:=#[.int .i64 a1_0,.int .i64 a1_1,.slice A1_2 l1_2.length c1_2]) (t:=27) ?hr ?_;(case hd=>rfl);(case hg=>rfl);(case hr=>first|(go_simp;done)|(go_simp;rfl));intro qd hg w6 hbox hb;have n0_:=Ja (Jm (g:=qc) (o:=.cells #[.int .i64 a0_0,.int .i64 a0_1,.slice A0_2 l0_2.length c0_2] 27 (0,0)) (by(with_reducible repeat(first|refine Ji ?_ _|refine Jb ?_|refine Jh ?_ _));exact qa.out) hb);have n1_:=Ja (Jo (by repeat(first|(with_reducible first|exact HB.out|apply Jf|apply Je|apply Jg|refine Jc ?_ qe.out)|exact HB.out)) hb);have n2_:=Ja (hbox);have n3_:=Ja ((by rw [hg];exact(Jn (by repeat(first|(with_reducible first|exact HB.out|apply Jf|apply Je|apply Jg|refine Jc ?_ qe.out)|exact HB.out))):w.heap.size≤qd));have n4_:=Ja ((by rw [hg];exact(Jn (by repeat(first|(with_reducible first|exact HB.out|apply Jf|apply Je|apply Jg|refine Jc ?_ qe.out)|exact HB.out))):w.heap.size≤qd));have n5_:=Ja ((by rw [hg];exact Nat.ne_of_lt (blk_lt (g:=qc) (o:=.cells #[.int .i64 a0_0,.int .i64 a0_1,.slice A0_2 l0_2.length c0_2] 27 (0,0)) (by(with_reducible repeat(first|refine Ji ?_ _|refine Jb ?_|refine Jh ?_ _));exact qa.out)):qc≠qd));have n6_:=Ja ((by rw [hg];exact Nat.ne_of_gt (blk_lt (g:=qc) (o:=.cells #[.int .i64 a0_0,.int .i64 a0_1,.slice A0_2 l0_2.length c0_2] 27 (0,0)) (by(with_reducible repeat(first|refine Ji ?_ _|refine Jb ?_|refine Jh ?_ _));exact qa.out)):qd≠qc));clear qa;clear HB;have qa:=n0_;have HB:=n1_;have qb:=n2_;have GW284:=n3_;have qf:=n4_;have qn:=n5_;have qo:=n6_;clear n0_ n1_ n2_ n3_ n4_ n5_ n6_;clear hb hbox hg;have hnb7:=qo.out;have hnc7:=qn.out;have hcz8_0:w6.cell? ⟨qd,0,none⟩=some (.int .i64 a1_0):=(Jj qb.out 0).trans rfl;have hcz8_1:w6.cell? ⟨qd,1,none⟩=some (.int .i64 a1_1):=(Jj qb.out 1).trans rfl;have hcz8_2:w6.cell? ⟨qd,2,none⟩=some (.slice A1_2 l1_2.length c1_2):=(Jj qb.out 2).trans rfl;have hfz8_0:=Jq qb.out 0;have hfz8_1:=Jq qb.out 1;have hfz8_2:=Jq qb.out 2)|(go_at_call 78;(with_reducible refine(impl_Picture_at.calls k a1_0 a1_1 _ _ l1_2 a2 0 0 t285 _ ?side1 ?side2 A4.out).mono ?_);(case side1=>repeat(first|exact(Kd.C_below HR1_2.out HB.out)|(with_reducible refine Kd.C_alloc ?_ _)|(with_reducible refine Kd.C_drewN ?_ _)|(with_reducible refine Kd.C_drew ?_)));(case side2=>exact HC1_2.out);rintro e w9 ⟨v286,rfl,qw,hb⟩;have n0_:=Ja (Kd.R_lower qw (Jn (by repeat(first|(with_reducible first|exact HB.out|apply Jf|apply Je|apply Jg|refine Jc ?_ qe.out|refine Jc ?_ qf.out)|exact HB.out))));have n1_:=Ja (Jm (g:=qc) (o:=.cells #[.int .i64 a0_0,.int .i64 a0_1,.slice A0_2 l0_2.length c0_2] 27 (0,0)) (by(with_reducible repeat(first|refine Ji ?_ _|refine Jb ?_|refine Jh ?_ _));exact qa.out) hb);have n2_:=Ja (Jm (g:=qd) (o:=.cells #[.int .i64 a1_0,.int .i64 a1_1,.slice A1_2 l1_2.length c1_2] 27 (0,0)) (by(with_reducible repeat(first|refine Ji ?_ _|refine Jb ?_|refine Jh ?_ _));exact qb.out) hb);have n3_:=Ja (Jo (by repeat(first|(with_reducible first|exact HB.out|apply Jf|apply Je|apply Jg|refine Jc ?_ qe.out|refine Jc ?_ qf.out)|exact HB.out)) hb);clear qa;clear qb;clear HB;have qt:=n0_;have qa:=n1_;have qb:=n2_;have HB:=n3_;clear n0_ n1_ n2_ n3_;(try clear hb);(try clear hb2);(try clear hk);(try clear hi);(try clear qw))|((with_reducible refine gate_dst (N:=16) rfl ?_);refine Kd.R_lit k89 _ 89 ?hg (N:=16) ?hd (xs:=([]:List (S89))) (inner:=[]) (ok:=fun _=>True) (okp:=fun _=>True) ?hr ?hp (fun _ hk=>hk) trivial (Below.refl _ _) (Nat.le_refl _) (by simp) ?_;(case hd=>rfl);(case hg=>rfl);(case hr=>first|(go_simp;done)|(go_simp;rfl));(case hp=>exact(Reps.none _ _));intro v289 w10 ho11 hb hg_ hnew_;clear hg_ hnew_;(first|rw [← qv.out] at ho11|(simp only [Int.reduceToNat] at ho11;rw [← qv.out] at ho11));have n0_:=Ja (Jp (by(with_reducible repeat(first|apply Jk|apply Jl|apply Jd));exact qt.out) hb);have n1_:=Ja (Kd.R_lower ho11 (Jn (by repeat(first|(with_reducible first|exact HB.out|apply Jf|apply Je|apply Jg|refine Jc ?_ qe.out|refine Jc ?_ qf.out)|exact HB.out))));have n2_:=Ja (Jm (g:=qc) (o:=.cells #[.int .i64 a0_0,.int .i64 a0_1,.slice A0_2 l0_2.length c0_2] 27 (0,0)) (by(with_reducible repeat(first|refine Ji ?_ _|refine Jb ?_|refine Jh ?_ _));exact qa.out) hb);have n3_:=Ja (Jm (g:=qd) (o:=.cells #[.int .i64 a1_0,.int .i64 a1_1,.slice A1_2 l1_2.length c1_2] 27 (0,0)) (by(with_reducible repeat(first|refine Ji ?_ _|refine Jb ?_|refine Jh ?_ _));exact qb.out) hb);have n4_:=Ja (Jo (by repeat(first|(with_reducible first|exact HB.out|apply Jf|apply Je|apply Jg|refine Jc ?_ qe.out|refine Jc ?_ qf.out)|exact HB.out)) hb);clear qt;clear qa;clear qb;clear HB;have qt:=n0_;have HO290:=n1_;have qa:=n2_;have qb:=n3_;have HB:=n4_;clear n0_ n1_ n2_ n3_ n4_;clear hb ho11));try go_wp2_with (first|((with_reducible refine gate_dst (N:=3) rfl ?_);refine box_event ?hg (N:=3) ?hd (cs:=#[.int .i64 a0_0,.int .i64 a0_1,.slice A0_2 l0_2.length c0_2]) (t:=27) ?hr ?_;(case hd=>rfl);(case hg=>rfl);(case hr=>first|(go_simp;done)|(go_simp;rfl));intro qc hg w5 hbox hb;have n0_:=Ja (Jo (by repeat(first|(with_reducible first|exact HB.out|apply Jf|apply Je|apply Jg)|exact HB.out)) hb);have n1_:=Ja (hbox);have n2_:=Ja ((by rw [hg];exact(Jn (by repeat(first|(with_reducible first|exact HB.out|apply Jf|apply Je|apply Jg)|exact HB.out))):w.heap.size≤qc));have n3_:=Ja ((by rw [hg];exact(Jn (by repeat(first|(with_reducible first|exact HB.out|apply Jf|apply Je|apply Jg)|exact HB.out))):w.heap.size≤qc));clear HB;have HB:=n0_;have qa:=n1_;have GW283:=n2_;have qe:=n3_;clear n0_ n1_ n2_ n3_;clear hb hbox hg)|((with_reducible refine gate_dst (N:=4) rfl ?_);refine box_event ?hg (N:=4) ?hd (cs:=#[.int .i64 a1_0,.int .i64 a1_1,.slice A1_2 l1_2.length c1_2]) (t:=27) ?hr ?_;(case hd=>rfl);(case hg=>rfl);(case hr=>first|(go_simp;done)|(go_simp;rfl));intro qd hg w6 hbox hb;have n0_:=Ja (Jm (g:=qc) (o:=.cells #[.int .i64 a0_0,.int .i64 a0_1,.slice A0_2 l0_2.length c0_2] 27 (0,0)) (by(with_reducible repeat(first|refine Ji ?_ _|refine Jb ?_|refine Jh ?_ _));exact qa.out) hb);have n1_:=Ja (Jo (by repeat(first|(with_reducible first|exact HB.out|apply Jf|apply Je|apply Jg|refine Jc ?_ qe.out)|exact HB.out)) hb);have n2_:=Ja (hbox);have n3_:=Ja ((by rw [hg];exact(Jn (by repeat(first|(with_reducible first|exact HB.out|apply Jf|apply Je|apply Jg|refine Jc ?_ qe.out)|exact HB.out))):w.heap.size≤qd));have n4_:=Ja ((by rw [hg];exact(Jn (by repeat(first|(with_reducible first|exact HB.out|apply Jf|apply Je|apply Jg|refine Jc ?_ qe.out)|exact HB.out))):w.heap.size≤qd));have n5_:=Ja ((by rw [hg];exact Nat.ne_of_lt (blk_lt (g:=qc) (o:=.cells #[.int .i64 a0_0,.int .i64 a0_1,.slice A0_2 l0_2.length c0_2] 27 (0,0)) (by(with_reducible repeat(first|refine Ji ?_ _|refine Jb ?_|refine Jh ?_ _));exact qa.out)):qc≠qd));have n6_:=Ja ((by rw [hg];exact Nat.ne_of_gt (blk_lt (g:=qc) (o:=.cells #[.int .i64 a0_0,.int .i64 a0_1,.slice A0_2 l0_2.length c0_2] 27 (0,0)) (by(with_reducible repeat(first|refine Ji ?_ _|refine Jb ?_|refine Jh ?_ _));exact qa.out)):qd≠qc));clear qa;clear HB;have qa:=n0_;have HB:=n1_;have qb:=n2_;have GW284:=n3_;have qf:=n4_;have qn:=n5_;have qo:=n6_;clear n0_ n1_ n2_ n3_ n4_ n5_ n6_;clear hb hbox hg;have hnb7:=qo.out;have hnc7:=qn.out;have hcz8_0:w6.cell? ⟨qd,0,none⟩=some (.int .i64 a1_0):=(Jj qb.out 0).trans rfl;have hcz8_1:w6.cell? ⟨qd,1,none⟩=some (.int .i64 a1_1):=(Jj qb.out 1).trans rfl;have hcz8_2:w6.cell? ⟨qd,2,none⟩=some (.slice A1_2 l1_2.length c1_2):=(Jj qb.out 2).trans rfl;have hfz8_0:=Jq qb.out 0;have hfz8_1:=Jq qb.out 1;have hfz8_2:=Jq qb.out 2)|(go_at_call 78;(with_reducible refine(impl_Picture_at.calls k a1_0 a1_1 _ _ l1_2 a2 0 0 t285 _ ?side1 ?side2 A4.out).mono ?_);(case side1=>repeat(first|exact(Kd.C_below HR1_2.out HB.out)|(with_reducible refine Kd.C_alloc ?_ _)|(with_reducible refine Kd.C_drewN ?_ _)|(with_reducible refine Kd.C_drew ?_)));(case side2=>exact HC1_2.out);rintro e w9 ⟨v286,rfl,qw,hb⟩;have n0_:=Ja (Kd.R_lower qw (Jn (by repeat(first|(with_reducible first|exact HB.out|apply Jf|apply Je|apply Jg|refine Jc ?_ qe.out|refine Jc ?_ qf.out)|exact HB.out))));have n1_:=Ja (Jm (g:=qc) (o:=.cells #[.int .i64 a0_0,.int .i64 a0_1,.slice A0_2 l0_2.length c0_2] 27 (0,0)) (by(with_reducible repeat(first|refine Ji ?_ _|refine Jb ?_|refine Jh ?_ _));exact qa.out) hb);have n2_:=Ja (Jm (g:=qd) (o:=.cells #[.int .i64 a1_0,.int .i64 a1_1,.slice A1_2 l1_2.length c1_2] 27 (0,0)) (by(with_reducible repeat(first|refine Ji ?_ _|refine Jb ?_|refine Jh ?_ _));exact qb.out) hb);have n3_:=Ja (Jo (by repeat(first|(with_reducible first|exact HB.out|apply Jf|apply Je|apply Jg|refine Jc ?_ qe.out|refine Jc ?_ qf.out)|exact HB.out)) hb);clear qa;clear qb;clear HB;have qt:=n0_;have qa:=n1_;have qb:=n2_;have HB:=n3_;clear n0_ n1_ n2_ n3_;(try clear hb);(try clear hb2);(try clear hk);(try clear hi);(try clear qw))|((with_reducible refine gate_dst (N:=16) rfl ?_);refine Kd.R_lit k89 _ 89 ?hg (N:=16) ?hd (xs:=([]:List (S89))) (inner:=[]) (ok:=fun _=>True) (okp:=fun _=>True) ?hr ?hp (fun _ hk=>hk) trivial (Below.refl _ _) (Nat.le_refl _) (by simp) ?_;(case hd=>rfl);(case hg=>rfl);(case hr=>first|(go_simp;done)|(go_simp;rfl));(case hp=>exact(Reps.none _ _));intro v289 w10 ho11 hb hg_ hnew_;clear hg_ hnew_;(first|rw [← qv.out] at ho11|(simp only [Int.reduceToNat] at ho11;rw [← qv.out] at ho11));have n0_:=Ja (Jp (by(with_reducible repeat(first|apply Jk|apply Jl|apply Jd));exact qt.out) hb);have n1_:=Ja (Kd.R_lower ho11 (Jn (by repeat(first|(with_reducible first|exact HB.out|apply Jf|apply Je|apply Jg|refine Jc ?_ qe.out|refine Jc ?_ qf.out)|exact HB.out))));have n2_:=Ja (Jm (g:=qc) (o:=.cells #[.int .i64 a0_0,.int .i64 a0_1,.slice A0_2 l0_2.length c0_2] 27 (0,0)) (by(with_reducible repeat(first|refine Ji ?_ _|refine Jb ?_|refine Jh ?_ _));exact qa.out) hb);have n3_:=Ja (Jm (g:=qd) (o:=.cells #[.int .i64 a1_0,.int .i64 a1_1,.slice A1_2 l1_2.length c1_2] 27 (0,0)) (by(with_reducible repeat(first|refine Ji ?_ _|refine Jb ?_|refine Jh ?_ _));exact qb.out) hb);have n4_:=Ja (Jo (by repeat(first|(with_reducible first|exact HB.out|apply Jf|apply Je|apply Jg|refine Jc ?_ qe.out|refine Jc ?_ qf.out)|exact HB.out)) hb);clear qt;clear qa;clear qb;clear HB;have qt:=n0_;have HO290:=n1_;have qa:=n2_;have qb:=n3_;have HB:=n4_;clear n0_ n1_ n2_ n3_ n4_;clear hb ho11)))
 go_loopg [9,10] k (fun kq v9 v10 w'=>∃ (x9_1:List (S89)) (qk:Int),v10=.int .i64 qk∧Aside0 (impl_motion.l0 kq a2 t285 x9_1 qk a0_0 a0_1 l0_2=some (r1,r2))∧Aside0 (kq≤k)∧Aside0 (Kd.R (Kd.int .i64) 2 w' w.heap.size (fun _=>True) v286 t285)∧Aside0 (Kd.R k89 89 w' w.heap.size (fun _=>True) v9 x9_1)∧Aside0 (w'.heap[qc]? = some (.cells #[.int .i64 a0_0,.int .i64 a0_1,(.slice A0_2 l0_2.length c0_2)] 27 (0,0)))∧Aside0 (w'.heap[qd]? = some (.cells #[.int .i64 a1_0,.int .i64 a1_1,(.slice A1_2 l1_2.length c1_2)] 27 (0,0)))∧Aside0 (Below w.heap.size w w'))
 case atStart=>exact⟨(y288),((-2)),(by first|rfl|(simp;done)|(simp [*];done)),H',⟨Nat.le_refl _⟩,⟨by(with_reducible repeat(first|apply Jk|apply Jl|apply Jd));exact qt.out⟩,⟨by(with_reducible repeat(first|apply Jk|apply Jl|apply Jd));exact HO290.out⟩,⟨by(with_reducible repeat(first|refine Ji ?_ _|refine Jb ?_|refine Jh ?_ _));exact qa.out⟩,⟨by(with_reducible repeat(first|refine Ji ?_ _|refine Jb ?_|refine Jh ?_ _));exact qb.out⟩,⟨by repeat(first|(with_reducible first|exact HB.out|apply Jf|apply Je|apply Jg|refine Jc ?_ qe.out|refine Jc ?_ qf.out)|exact HB.out)⟩⟩
 case round=>
  clear H'
  try clear c1
  try clear p2
  try clear c7
  try clear hcz8_0
  try clear hcz8_1
  try clear hcz8_2
  try clear hfz8_0
  try clear hfz8_1
  try clear hfz8_2
  obtain⟨x9_1,qk,rfl,HA,HK1,qh,qg,qa,qb,HB⟩:=hrel
  cases gk with
  | zero => exact absurd HA.out (by simp [impl_motion.l0])
  | succ k1 =>
   have H:=HA.out
   clear HA
   simp only [impl_motion.l0] at H
   by_cases c12:qk≤2
   ·rw [if_pos c12] at H
    have c12b0:decide (qk≤2)=true:=decide_eq_true c12
    clear c12
    have H':=Ja H
    clear H
    go_wp2
    repeat(go_quiet (fail);try go_wp2)
    go_loopg [9,11] k1 (fun kq v9 v11 w'=>∃ (qu:List (S89)) (ql:Int),v11=.int .i64 ql∧Aside0 (impl_motion.l1 kq a2 t285 qu qk ql a0_0 a0_1 l0_2=some (r1,r2))∧Aside0 (kq≤k1)∧Aside0 (Kd.R (Kd.int .i64) 2 w' w.heap.size (fun _=>True) v286 t285)∧Aside0 (Kd.R k89 89 w' w.heap.size (fun _=>True) v9 qu)∧Aside0 (w'.heap[qc]? = some (.cells #[.int .i64 a0_0,.int .i64 a0_1,(.slice A0_2 l0_2.length c0_2)] 27 (0,0)))∧Aside0 (w'.heap[qd]? = some (.cells #[.int .i64 a1_0,.int .i64 a1_1,(.slice A1_2 l1_2.length c1_2)] 27 (0,0)))∧Aside0 (Below w.heap.size w w'))
    case atStart=>exact⟨(x9_1),((-2)),(by first|rfl|(simp;done)|(simp [*];done)),H',⟨Nat.le_refl _⟩,⟨by(with_reducible repeat(first|apply Jk|apply Jl|apply Jd));exact qh.out⟩,⟨by(with_reducible repeat(first|apply Jk|apply Jl|apply Jd));exact qg.out⟩,⟨by(with_reducible repeat(first|refine Ji ?_ _|refine Jb ?_|refine Jh ?_ _));exact qa.out⟩,⟨by(with_reducible repeat(first|refine Ji ?_ _|refine Jb ?_|refine Jh ?_ _));exact qb.out⟩,⟨by repeat(first|(with_reducible first|exact HB.out|apply Jf|apply Je|apply Jg|refine Jc ?_ qe.out|refine Jc ?_ qf.out)|exact HB.out)⟩⟩
    case round=>
     clear H'
     try clear c1
     try clear p2
     try clear c7
     try clear c12
     try clear c12b0
     try clear hcz8_0
     try clear hcz8_1
     try clear hcz8_2
     try clear hfz8_0
     try clear hfz8_1
     try clear hfz8_2
     try clear p2
     obtain⟨qu,ql,rfl,HA,HK2,qh,qg,qa,qb,HB⟩:=hrel
     cases gk with
     | zero => exact absurd HA.out (by simp [impl_motion.l1])
     | succ k2 =>
      have H:=HA.out
      clear HA
      simp only [impl_motion.l1] at H
      by_cases c13:ql≤2
      ·rw [if_pos c13] at H
       have c13b0:decide (ql≤2)=true:=decide_eq_true c13
       clear c13
       replace H:=Option.bind_eq_some_iff.mp H
       obtain⟨t295,A140,H⟩:=H
       replace H:((impl_offBy.f k2 t285 t295).bind fun t298=>(if qu.length < 5864062014805 then (impl_motion.l1 k2 a2 t285 (qu ++ [(⟨t298,ql,qk⟩:S89)]) qk (wrap64 (ql+1)) a0_0 a0_1 l0_2) else (none)))=some (r1,r2):=H
       have A14:=Ja A140
       clear A140
       replace H:=Option.bind_eq_some_iff.mp H
       obtain⟨t298,A150,H⟩:=H
       replace H:(if qu.length < 5864062014805 then (impl_motion.l1 k2 a2 t285 (qu ++ [(⟨t298,ql,qk⟩:S89)]) qk (wrap64 (ql+1)) a0_0 a0_1 l0_2) else (none))=some (r1,r2):=H
       have A15:=Ja A150
       clear A150
       by_cases c16:qu.length < 5864062014805
       ·rw [if_pos c16] at H
        have LMc16:=Ja c16
        clear c16
        obtain⟨y299,hy299⟩:∃ y_:List (S89),y_=(qu ++ [(⟨t298,ql,qk⟩:S89)]):=⟨_,rfl⟩
        replace H:(impl_motion.l1 k2 a2 t285 y299 qk (wrap64 (ql+1)) a0_0 a0_1 l0_2)=some (r1,r2):=by first|(rw [hy299];with_reducible exact H)|(have H2_:=(Option.bind_some _ _).symm.trans H;rw [hy299];with_reducible exact H2_)|(have H2_:=(Option.bind_some _ _).symm.trans H;with_reducible exact H2_)|with_reducible exact H|(rw [hy299];exact H)|exact H
        have Ny299:=Ja hy299
        clear hy299
        have H':=Ja H
        clear H
        have hnb17:=qn.out
        have hnc17:=qo.out
        have hcz18_0:wr.cell? ⟨qc,0,none⟩=some (.int .i64 a0_0):=(Jj qa.out 0).trans rfl
        have hcz18_1:wr.cell? ⟨qc,1,none⟩=some (.int .i64 a0_1):=(Jj qa.out 1).trans rfl
        have hcz18_2:wr.cell? ⟨qc,2,none⟩=some (.slice A0_2 l0_2.length c0_2):=(Jj qa.out 2).trans rfl
        have hfz18_0:=Jq qa.out 0
        have hfz18_1:=Jq qa.out 1
        have hfz18_2:=Jq qa.out 2
        go_wp2_with (first|(go_at_call 78;(with_reducible refine(impl_Picture_at.calls k2 a0_0 a0_1 _ _ l0_2 a2 ql qk t295 _ ?side1 ?side2 A14.out).mono ?_);(case side1=>repeat(first|exact(Kd.C_below HR0_2.out HB.out)|(with_reducible refine Kd.C_alloc ?_ _)|(with_reducible refine Kd.C_drewN ?_ _)|(with_reducible refine Kd.C_drew ?_)));(case side2=>exact HC0_2.out);rintro e w19 ⟨v296,rfl,qw,hb⟩;have n0_:=Ja (Kd.R_elder' (by(with_reducible repeat(first|apply Jk|apply Jl|apply Jd));exact qh.out) (Kd.R_base qw) hb);have n1_:=Ja (Jp (by(with_reducible repeat(first|apply Jk|apply Jl|apply Jd));exact qg.out) hb);have n2_:=Ja (Kd.R_lower (Kd.R_new' qw (Kd.R_lt (by(with_reducible repeat(first|apply Jk|apply Jl|apply Jd));exact qh.out))) (Jn (by repeat(first|(with_reducible first|exact HB.out|apply Jf|apply Je|apply Jg|refine Jc ?_ qe.out|refine Jc ?_ qf.out)|exact HB.out))));have n3_:=Ja (Jm (g:=qc) (o:=.cells #[.int .i64 a0_0,.int .i64 a0_1,.slice A0_2 l0_2.length c0_2] 27 (0,0)) (by(with_reducible repeat(first|refine Ji ?_ _|refine Jb ?_|refine Jh ?_ _));exact qa.out) hb);have n4_:=Ja (Jm (g:=qd) (o:=.cells #[.int .i64 a1_0,.int .i64 a1_1,.slice A1_2 l1_2.length c1_2] 27 (0,0)) (by(with_reducible repeat(first|refine Ji ?_ _|refine Jb ?_|refine Jh ?_ _));exact qb.out) hb);have n5_:=Ja (Jo (by repeat(first|(with_reducible first|exact HB.out|apply Jf|apply Je|apply Jg|refine Jc ?_ qe.out|refine Jc ?_ qf.out)|exact HB.out)) hb);clear qh;clear qg;clear qa;clear qb;clear HB;have qh:=n0_;have qg:=n1_;have qj:=n2_;have qa:=n3_;have qb:=n4_;have HB:=n5_;clear n0_ n1_ n2_ n3_ n4_ n5_;(try clear hb);(try clear hb2);(try clear hk);(try clear hi);(try clear qw);obtain⟨Ao20,co20,eo20⟩:=Kd.R_slice qh.out;subst eo20;obtain⟨Ao21,co21,eo21⟩:=Kd.R_slice qj.out;subst eo21)|(go_at_call 87;(with_reducible refine(impl_offBy.calls k2 _ _ t285 _ _ t295 t298 _ ?side1 ?side2 ?side3 ?side4 A15.out).mono ?_);(case side1=>repeat(first|exact(Jr qh.out).2.2|(with_reducible refine Kd.C_alloc ?_ _)|(with_reducible refine Kd.C_drewN ?_ _)|(with_reducible refine Kd.C_drew ?_)));(case side2=>exact(Jr qh.out).2.1);(case side3=>repeat(first|exact(Jr qj.out).2.2|(with_reducible refine Kd.C_alloc ?_ _)|(with_reducible refine Kd.C_drewN ?_ _)|(with_reducible refine Kd.C_drew ?_)));(case side4=>exact(Jr qj.out).2.1);rintro e w22 ⟨rfl,hb⟩;have n0_:=Ja (Jp (by(with_reducible repeat(first|apply Jk|apply Jl|apply Jd));exact qh.out) hb);have n1_:=Ja (Jp (by(with_reducible repeat(first|apply Jk|apply Jl|apply Jd));exact qg.out) hb);have n2_:=Ja (Jp (by(with_reducible repeat(first|apply Jk|apply Jl|apply Jd));exact qj.out) hb);have n3_:=Ja (Jm (g:=qc) (o:=.cells #[.int .i64 a0_0,.int .i64 a0_1,.slice A0_2 l0_2.length c0_2] 27 (0,0)) (by(with_reducible repeat(first|refine Ji ?_ _|refine Jb ?_|refine Jh ?_ _));exact qa.out) hb);have n4_:=Ja (Jm (g:=qd) (o:=.cells #[.int .i64 a1_0,.int .i64 a1_1,.slice A1_2 l1_2.length c1_2] 27 (0,0)) (by(with_reducible repeat(first|refine Ji ?_ _|refine Jb ?_|refine Jh ?_ _));exact qb.out) hb);have n5_:=Ja (Jo (by repeat(first|(with_reducible first|exact HB.out|apply Jf|apply Je|apply Jg|refine Jc ?_ qe.out|refine Jc ?_ qf.out)|exact HB.out)) hb);clear qh;clear qg;clear qj;clear qa;clear qb;clear HB;have qh:=n0_;have qg:=n1_;have qj:=n2_;have qa:=n3_;have qb:=n4_;have HB:=n5_;clear n0_ n1_ n2_ n3_ n4_ n5_;(try clear hb);(try clear hb2);(try clear hk);(try clear hi))|((with_reducible refine gate_builtin (b:=.append) (xs:=#[.tmp 25,.tmp 36]) rfl ?_);at_builtin;refine Kd.R_append k89 (w0:=w) w.heap.size rfl (.tmp 25) (.tmp 36) 86 89 (.agg #[(.int .i64 0),(.int .i64 0),(.int .i64 0)]) 24 rfl Try.underlying86 info89 rfl (by decide) (by omega) u9 qu (⟨t298,ql,qk⟩:S89) [.int .i64 t298,.int .i64 ql,.int .i64 qk] (fun _=>True) (fun _=>False) rfl rfl ?aP (fun _ hk=>hk.elim) ?aF ?aO ?aB ?aS ?aL ?_;(case aP=>exact k89_mkM _ _ _ (⟨t298,ql,qk⟩:S89));(case aB=>exact(by repeat(first|(with_reducible first|exact HB.out|apply Jf|apply Je|apply Jg|refine Jc ?_ qe.out|refine Jc ?_ qf.out)|exact HB.out)));(case aF=>exact(fun _ _=>trivial));(case aO=>exact(by(with_reducible repeat(first|apply Jk|apply Jl|apply Jd));exact qg.out));(case aS=>exact(Jn (by repeat(first|(with_reducible first|exact HB.out|apply Jf|apply Je|apply Jg|refine Jc ?_ qe.out|refine Jc ?_ qf.out)|exact HB.out))));(case aL=>have:=LMc16.out;omega);intro v300 w23 ho hb hg hat;rw [← Ny299.out] at ho;have n0_:=Ja (Kd.R_over' (by(with_reducible repeat(first|apply Jk|apply Jl|apply Jd));exact qh.out) (Kd.R_typed (by(with_reducible repeat(first|apply Jk|apply Jl|apply Jd));exact qg.out)) (by decide) hg);have n1_:=Ja (blk_grown (g:=qc) (o:=.cells #[.int .i64 a0_0,.int .i64 a0_1,.slice A0_2 l0_2.length c0_2] 27 (0,0)) (by(with_reducible repeat(first|refine Ji ?_ _|refine Jb ?_|refine Jh ?_ _));exact qa.out) hg (Kd.R_ne qg.out qa.out (by decide)));have n2_:=Ja (blk_grown (g:=qd) (o:=.cells #[.int .i64 a1_0,.int .i64 a1_1,.slice A1_2 l1_2.length c1_2] 27 (0,0)) (by(with_reducible repeat(first|refine Ji ?_ _|refine Jb ?_|refine Jh ?_ _));exact qb.out) hg (Kd.R_ne qg.out qb.out (by decide)));have n3_:=Ja (Kd.R_over' (by(with_reducible repeat(first|apply Jk|apply Jl|apply Jd));exact qj.out) (Kd.R_typed (by(with_reducible repeat(first|apply Jk|apply Jl|apply Jd));exact qg.out)) (by decide) hg);have n4_:=Ja (hb);have n5_:=Ja (ho);clear qh;clear qa;clear qb;clear qj;clear HB;clear qg;have qh:=n0_;have qa:=n1_;have qb:=n2_;have qj:=n3_;have HB:=n4_;have HO301:=n5_;clear n0_ n1_ n2_ n3_ n4_ n5_;clear ho hb hg hat))
        repeat(go_quiet (first|(go_at_call 78;(with_reducible refine(impl_Picture_at.calls k2 a0_0 a0_1 _ _ l0_2 a2 ql qk t295 _ ?side1 ?side2 A14.out).mono ?_);(case side1=>repeat(first|exact(Kd.C_below HR0_2.out HB.out)|(with_reducible refine Kd.C_alloc ?_ _)|(with_reducible refine Kd.C_drewN ?_ _)|(with_reducible refine Kd.C_drew ?_)));(case side2=>exact HC0_2.out);rintro e w19 ⟨v296,rfl,qw,hb⟩;have n0_:=Ja (Kd.R_elder' (by(with_reducible repeat(first|apply Jk|apply Jl|apply Jd));exact qh.out) (Kd.R_base qw) hb);have n1_:=Ja (Jp (by(with_reducible repeat(first|apply Jk|apply Jl|apply Jd));exact qg.out) hb);have n2_:=Ja (Kd.R_lower (Kd.R_new' qw (Kd.R_lt (by(with_reducible repeat(first|apply Jk|apply Jl|apply Jd));exact qh.out))) (Jn (by repeat(first|(with_reducible first|exact HB.out|apply Jf|apply Je|apply Jg|refine Jc ?_ qe.out|refine Jc ?_ qf.out)|exact HB.out))));have n3_:=Ja (Jm (g:=qc) (o:=.cells #[.int .i64 a0_0,.int .i64 a0_1,.slice A0_2 l0_2.length c0_2] 27 (0,0)) (by(with_reducible repeat(first|refine Ji ?_ _|refine Jb ?_|refine Jh ?_ _));exact qa.out) hb);have n4_:=Ja (Jm (g:=qd) (o:=.cells #[.int .i64 a1_0,.int .i64 a1_1,.slice A1_2 l1_2.length c1_2] 27 (0,0)) (by(with_reducible repeat(first|refine Ji ?_ _|refine Jb ?_|refine Jh ?_ _));exact qb.out) hb);have n5_:=Ja (Jo (by repeat(first|(with_reducible first|exact HB.out|apply Jf|apply Je|apply Jg|refine Jc ?_ qe.out|refine Jc ?_ qf.out)|exact HB.out)) hb);clear qh;clear qg;clear qa;clear qb;clear HB;have qh:=n0_;have qg:=n1_;have qj:=n2_;have qa:=n3_;have qb:=n4_;have HB:=n5_;clear n0_ n1_ n2_ n3_ n4_ n5_;(try clear hb);(try clear hb2);(try clear hk);(try clear hi);(try clear qw);obtain⟨Ao20,co20,eo20⟩:=Kd.R_slice qh.out;subst eo20;obtain⟨Ao21,co21,eo21⟩:=Kd.R_slice qj.out;subst eo21)|(go_at_call 87;(with_reducible refine(impl_offBy.calls k2 _ _ t285 _ _ t295 t298 _ ?side1 ?side2 ?side3 ?side4 A15.out).mono ?_);(case side1=>repeat(first|exact(Jr qh.out).2.2|(with_reducible refine Kd.C_alloc ?_ _)|(with_reducible refine Kd.C_drewN ?_ _)|(with_reducible refine Kd.C_drew ?_)));(case side2=>exact(Jr qh.out).2.1);(case side3=>repeat(first|exact(Jr qj.out).2.2|(with_reducible refine Kd.C_alloc ?_ _)|(with_reducible refine Kd.C_drewN ?_ _)|(with_reducible refine Kd.C_drew ?_)));(case side4=>exact(Jr qj.out).2.1);rintro e w22 ⟨rfl,hb⟩;have n0_:=Ja (Jp (by(with_reducible repeat(first|apply Jk|apply Jl|apply Jd));exact qh.out) hb);have n1_:=Ja (Jp (by(with_reducible repeat(first|apply Jk|apply Jl|apply Jd));exact qg.out) hb);have n2_:=Ja (Jp (by(with_reducible repeat(first|apply Jk|apply Jl|apply Jd));exact qj.out) hb);have n3_:=Ja (Jm (g:=qc) (o:=.cells #[.int .i64 a0_0,.int .i64 a0_1,.slice A0_2 l0_2.length c0_2] 27 (0,0)) (by(with_reducible repeat(first|refine Ji ?_ _|refine Jb ?_|refine Jh ?_ _));exact qa.out) hb);have n4_:=Ja (Jm (g:=qd) (o:=.cells #[.int .i64 a1_0,.int .i64 a1_1,.slice A1_2 l1_2.length c1_2] 27 (0,0)) (by(with_reducible repeat(first|refine Ji ?_ _|refine Jb ?_|refine Jh ?_ _));exact qb.out) hb);have n5_:=Ja (Jo (by repeat(first|(with_reducible first|exact HB.out|apply Jf|apply Je|apply Jg|refine Jc ?_ qe.out|refine Jc ?_ qf.out)|exact HB.out)) hb);clear qh;clear qg;clear qj;clear qa;clear qb;clear HB;have qh:=n0_;have qg:=n1_;have qj:=n2_;have qa:=n3_;have qb:=n4_;have HB:=n5_;clear n0_ n1_ n2_ n3_ n4_ n5_;(try clear hb);(try clear hb2);(try clear hk);(try clear hi))|((with_reducible refine gate_builtin (b:=.append) (xs:=#[.tmp 25,.tmp 36]) rfl ?_);at_builtin;refine Kd.R_append k89 (w0:=w) w.heap.size rfl (.tmp 25) (.tmp 36) 86 89 (.agg #[(.int .i64 0),(.int .i64 0),(.int .i64 0)]) 24 rfl Try.underlying86 info89 rfl (by decide) (by omega) u9 qu (⟨t298,ql,qk⟩:S89) [.int .i64 t298,.int .i64 ql,.int .i64 qk] (fun _=>True) (fun _=>False) rfl rfl ?aP (fun _ hk=>hk.elim) ?aF ?aO ?aB ?aS ?aL ?_;(case aP=>exact k89_mkM _ _ _ (⟨t298,ql,qk⟩:S89));(case aB=>exact(by repeat(first|(with_reducible first|exact HB.out|apply Jf|apply Je|apply Jg|refine Jc ?_ qe.out|refine Jc ?_ qf.out)|exact HB.out)));(case aF=>exact(fun _ _=>trivial));(case aO=>exact(by(with_reducible repeat(first|apply Jk|apply Jl|apply Jd));exact qg.out));(case aS=>exact(Jn (by repeat(first|(with_reducible first|exact HB.out|apply Jf|apply Je|apply Jg|refine Jc ?_ qe.out|refine Jc ?_ qf.out)|exact HB.out))));(case aL=>have:=LMc16.out;omega);intro v300 w23 ho hb hg hat;rw [← Ny299.out] at ho;have n0_:=Ja (Kd.R_over' (by(with_reducible repeat(first|apply Jk|apply Jl|apply Jd));exact qh.out) (Kd.R_typed (by(with_reducible repeat(first|apply Jk|apply Jl|apply Jd));exact qg.out)) (by decide) hg);have n1_:=Ja (blk_grown (g:=qc) (o:=.cells #[.int .i64 a0_0,.int .i64 a0_1,.slice A0_2 l0_2.length c0_2] 27 (0,0)) (by(with_reducible repeat(first|refine Ji ?_ _|refine Jb ?_|refine Jh ?_ _));exact qa.out) hg (Kd.R_ne qg.out qa.out (by decide)));have n2_:=Ja (blk_grown (g:=qd) (o:=.cells #[.int .i64 a1_0,.int .i64 a1_1,.slice A1_2 l1_2.length c1_2] 27 (0,0)) (by(with_reducible repeat(first|refine Ji ?_ _|refine Jb ?_|refine Jh ?_ _));exact qb.out) hg (Kd.R_ne qg.out qb.out (by decide)));have n3_:=Ja (Kd.R_over' (by(with_reducible repeat(first|apply Jk|apply Jl|apply Jd));exact qj.out) (Kd.R_typed (by(with_reducible repeat(first|apply Jk|apply Jl|apply Jd));exact qg.out)) (by decide) hg);have n4_:=Ja (hb);have n5_:=Ja (ho);clear qh;clear qa;clear qb;clear qj;clear HB;clear qg;have qh:=n0_;have qa:=n1_;have qb:=n2_;have qj:=n3_;have HB:=n4_;have HO301:=n5_;clear n0_ n1_ n2_ n3_ n4_ n5_;clear ho hb hg hat));try go_wp2_with (first|(go_at_call 78;(with_reducible refine(impl_Picture_at.calls k2 a0_0 a0_1 _ _ l0_2 a2 ql qk t295 _ ?side1 ?side2 A14.out).mono ?_);(case side1=>repeat(first|exact(Kd.C_below HR0_2.out HB.out)|(with_reducible refine Kd.C_alloc ?_ _)|(with_reducible refine Kd.C_drewN ?_ _)|(with_reducible refine Kd.C_drew ?_)));(case side2=>exact HC0_2.out);rintro e w19 ⟨v296,rfl,qw,hb⟩;have n0_:=Ja (Kd.R_elder' (by(with_reducible repeat(first|apply Jk|apply Jl|apply Jd));exact qh.out) (Kd.R_base qw) hb);have n1_:=Ja (Jp (by(with_reducible repeat(first|apply Jk|apply Jl|apply Jd));exact qg.out) hb);have n2_:=Ja (Kd.R_lower (Kd.R_new' qw (Kd.R_lt (by(with_reducible repeat(first|apply Jk|apply Jl|apply Jd));exact qh.out))) (Jn (by repeat(first|(with_reducible first|exact HB.out|apply Jf|apply Je|apply Jg|refine Jc ?_ qe.out|refine Jc ?_ qf.out)|exact HB.out))));have n3_:=Ja (Jm (g:=qc) (o:=.cells #[.int .i64 a0_0,.int .i64 a0_1,.slice A0_2 l0_2.length c0_2] 27 (0,0)) (by(with_reducible repeat(first|refine Ji ?_ _|refine Jb ?_|refine Jh ?_ _));exact qa.out) hb);have n4_:=Ja (Jm (g:=qd) (o:=.cells #[.int .i64 a1_0,.int .i64 a1_1,.slice A1_2 l1_2.length c1_2] 27 (0,0)) (by(with_reducible repeat(first|refine Ji ?_ _|refine Jb ?_|refine Jh ?_ _));exact qb.out) hb);have n5_:=Ja (Jo (by repeat(first|(with_reducible first|exact HB.out|apply Jf|apply Je|apply Jg|refine Jc ?_ qe.out|refine Jc ?_ qf.out)|exact HB.out)) hb);clear qh;clear qg;clear qa;clear qb;clear HB;have qh:=n0_;have qg:=n1_;have qj:=n2_;have qa:=n3_;have qb:=n4_;have HB:=n5_;clear n0_ n1_ n2_ n3_ n4_ n5_;(try clear hb);(try clear hb2);(try clear hk);(try clear hi);(try clear qw);obtain⟨Ao20,co20,eo20⟩:=Kd.R_slice qh.out;subst eo20;obtain⟨Ao21,co21,eo21⟩:=Kd.R_slice qj.out;subst eo21)|(go_at_call 87;(with_reducible refine(impl_offBy.calls k2 _ _ t285 _ _ t295 t298 _ ?side1 ?side2 ?side3 ?side4 A15.out).mono ?_);(case side1=>repeat(first|exact(Jr qh.out).2.2|(with_reducible refine Kd.C_alloc ?_ _)|(with_reducible refine Kd.C_drewN ?_ _)|(with_reducible refine Kd.C_drew ?_)));(case side2=>exact(Jr qh.out).2.1);(case side3=>repeat(first|exact(Jr qj.out).2.2|(with_reducible refine Kd.C_alloc ?_ _)|(with_reducible refine Kd.C_drewN ?_ _)|(with_reducible refine Kd.C_drew ?_)));(case side4=>exact(Jr qj.out).2.1);rintro e w22 ⟨rfl,hb⟩;have n0_:=Ja (Jp (by(with_reducible repeat(first|apply Jk|apply Jl|apply Jd));exact qh.out) hb);have n1_:=Ja (Jp (by(with_reducible repeat(first|apply Jk|apply Jl|apply Jd));exact qg.out) hb);have n2_:=Ja (Jp (by(with_reducible repeat(first|apply Jk|apply Jl|apply Jd));exact qj.out) hb);have n3_:=Ja (Jm (g:=qc) (o:=.cells #[.int .i64 a0_0,.int .i64 a0_1,.slice A0_2 l0_2.length c0_2] 27 (0,0)) (by(with_reducible repeat(first|refine Ji ?_ _|refine Jb ?_|refine Jh ?_ _));exact qa.out) hb);have n4_:=Ja (Jm (g:=qd) (o:=.cells #[.int .i64 a1_0,.int .i64 a1_1,.slice A1_2 l1_2.length c1_2] 27 (0,0)) (by(with_reducible repeat(first|refine Ji ?_ _|refine Jb ?_|refine Jh ?_ _));exact qb.out) hb);have n5_:=Ja (Jo (by repeat(first|(with_reducible first|exact HB.out|apply Jf|apply Je|apply Jg|refine Jc ?_ qe.out|refine Jc ?_ qf.out)|exact HB.out)) hb);clear qh;clear qg;clear qj;clear qa;clear qb;clear HB;have qh:=n0_;have qg:=n1_;have qj:=n2_;have qa:=n3_;have qb:=n4_;have HB:=n5_;clear n0_ n1_ n2_ n3_ n4_ n5_;(try clear hb);(try clear hb2);(try clear hk);(try clear hi))|((with_reducible refine gate_builtin (b:=.append) (xs:=#[.tmp 25,.tmp 36]) rfl ?_);at_builtin;refine Kd.R_append k89 (w0:=w) w.heap.size rfl (.tmp 25) (.tmp 36) 86 89 (.agg #[(.int .i64 0),(.int .i64 0),(.int .i64 0)]) 24 rfl Try.underlying86 info89 rfl (by decide) (by omega) u9 qu (⟨t298,ql,qk⟩:S89) [.int .i64 t298,.int .i64 ql,.int .i64 qk] (fun _=>True) (fun _=>False) rfl rfl ?aP (fun _ hk=>hk.elim) ?aF ?aO ?aB ?aS ?aL ?_;(case aP=>exact k89_mkM _ _ _ (⟨t298,ql,qk⟩:S89));(case aB=>exact(by repeat(first|(with_reducible first|exact HB.out|apply Jf|apply Je|apply Jg|refine Jc ?_ qe.out|refine Jc ?_ qf.out)|exact HB.out)));(case aF=>exact(fun _ _=>trivial));(case aO=>exact(by(with_reducible repeat(first|apply Jk|apply Jl|apply Jd));exact qg.out));(case aS=>exact(Jn (by repeat(first|(with_reducible first|exact HB.out|apply Jf|apply Je|apply Jg|refine Jc ?_ qe.out|refine Jc ?_ qf.out)|exact HB.out))));(case aL=>have:=LMc16.out;omega);intro v300 w23 ho hb hg hat;rw [← Ny299.out] at ho;have n0_:=Ja (Kd.R_over' (by(with_reducible repeat(first|apply Jk|apply Jl|apply Jd));exact qh.out) (Kd.R_typed (by(with_reducible repeat(first|apply Jk|apply Jl|apply Jd));exact qg.out)) (by decide) hg);have n1_:=Ja (blk_grown (g:=qc) (o:=.cells #[.int .i64 a0_0,.int .i64 a0_1,.slice A0_2 l0_2.length c0_2] 27 (0,0)) (by(with_reducible repeat(first|refine Ji ?_ _|refine Jb ?_|refine Jh ?_ _));exact qa.out) hg (Kd.R_ne qg.out qa.out (by decide)));have n2_:=Ja (blk_grown (g:=qd) (o:=.cells #[.int .i64 a1_0,.int .i64 a1_1,.slice A1_2 l1_2.length c1_2] 27 (0,0)) (by(with_reducible repeat(first|refine Ji ?_ _|refine Jb ?_|refine Jh ?_ _));exact qb.out) hg (Kd.R_ne qg.out qb.out (by decide)));have n3_:=Ja (Kd.R_over' (by(with_reducible repeat(first|apply Jk|apply Jl|apply Jd));exact qj.out) (Kd.R_typed (by(with_reducible repeat(first|apply Jk|apply Jl|apply Jd));exact qg.out)) (by decide) hg);have n4_:=Ja (hb);have n5_:=Ja (ho);clear qh;clear qa;clear qb;clear qj;clear HB;clear qg;have qh:=n0_;have qa:=n1_;have qb:=n2_;have qj:=n3_;have HB:=n4_;have HO301:=n5_;clear n0_ n1_ n2_ n3_ n4_ n5_;clear ho hb hg hat)))
        go_roundg k2
        case measure=>have:=HK1.out;have:=HK2.out;omega
        case rel=>exact⟨(y299),(wrap64 (ql+1)),(by first|rfl|(simp;done)|(simp [*];done)),H',⟨by have:=HK1.out;have:=HK2.out;omega⟩,⟨by(with_reducible repeat(first|apply Jk|apply Jl|apply Jd));exact Kd.R_mono qh.out (fun _ hk=>trivial)⟩,⟨by(with_reducible repeat(first|apply Jk|apply Jl|apply Jd));exact HO301.out⟩,⟨by(with_reducible repeat(first|refine Ji ?_ _|refine Jb ?_|refine Jh ?_ _));exact qa.out⟩,⟨by(with_reducible repeat(first|refine Ji ?_ _|refine Jb ?_|refine Jh ?_ _));exact qb.out⟩,⟨by repeat(first|(with_reducible first|exact HB.out|apply Jf|apply Je|apply Jg|refine Jc ?_ qe.out|refine Jc ?_ qf.out)|exact HB.out)⟩⟩
       ·rw [if_neg c16] at H
        exact absurd H (by simp)
      ·rw [if_neg c13] at H
       have c13b0:decide (ql≤2)=false:=decide_eq_false c13
       clear c13
       have H':=Ja H
       clear H
       go_wp2
       repeat(go_quiet (fail);try go_wp2)
       go_roundg k2
       case measure=>have:=HK1.out;have:=HK2.out;omega
       case rel=>exact⟨(qu),(wrap64 (qk+1)),(by first|rfl|(simp;done)|(simp [*];done)),H',⟨by have:=HK1.out;have:=HK2.out;omega⟩,⟨by(with_reducible repeat(first|apply Jk|apply Jl|apply Jd));exact qh.out⟩,⟨by(with_reducible repeat(first|apply Jk|apply Jl|apply Jd));exact qg.out⟩,⟨by(with_reducible repeat(first|refine Ji ?_ _|refine Jb ?_|refine Jh ?_ _));exact qa.out⟩,⟨by(with_reducible repeat(first|refine Ji ?_ _|refine Jb ?_|refine Jh ?_ _));exact qb.out⟩,⟨by repeat(first|(with_reducible first|exact HB.out|apply Jf|apply Je|apply Jg|refine Jc ?_ qe.out|refine Jc ?_ qf.out)|exact HB.out)⟩⟩
   ·rw [if_neg c12] at H
    have c12b0:decide (qk≤2)=false:=decide_eq_false c12
    clear c12
    replace H:=Option.bind_eq_some_iff.mp H
    obtain⟨⟨t291,t292,t293⟩,A240,H⟩:=H
    replace H:(some (t292,t293))=some (r1,r2):=H
    have A24:=Ja A240
    clear A240
    simp only [Option.some.injEq,Prod.mk.injEq] at H
    obtain⟨rfl,rfl⟩:=H
    obtain⟨Ao25,co25,eo25⟩:=Kd.R_slice qg.out
    subst eo25
    go_wp2_with (first|(go_at_call 88;(with_reducible refine(impl_motion_min.calls k1 _ _ x9_1 t291 t292 t293 _ ?side1 ?side2 A24.out).mono ?_);(case side1=>repeat(first|exact(Jr qg.out).2.2|(with_reducible refine Kd.C_alloc ?_ _)|(with_reducible refine Kd.C_drewN ?_ _)|(with_reducible refine Kd.C_drew ?_)));(case side2=>exact(Jr qg.out).2.1);rintro e w26 ⟨rfl,hb⟩;have n0_:=Ja (Jp (by(with_reducible repeat(first|apply Jk|apply Jl|apply Jd));exact qh.out) hb);have n1_:=Ja (Jp (by(with_reducible repeat(first|apply Jk|apply Jl|apply Jd));exact qg.out) hb);have n2_:=Ja (Jm (g:=qc) (o:=.cells #[.int .i64 a0_0,.int .i64 a0_1,.slice A0_2 l0_2.length c0_2] 27 (0,0)) (by(with_reducible repeat(first|refine Ji ?_ _|refine Jb ?_|refine Jh ?_ _));exact qa.out) hb);have n3_:=Ja (Jm (g:=qd) (o:=.cells #[.int .i64 a1_0,.int .i64 a1_1,.slice A1_2 l1_2.length c1_2] 27 (0,0)) (by(with_reducible repeat(first|refine Ji ?_ _|refine Jb ?_|refine Jh ?_ _));exact qb.out) hb);have n4_:=Ja (Jo (by repeat(first|(with_reducible first|exact HB.out|apply Jf|apply Je|apply Jg|refine Jc ?_ qe.out|refine Jc ?_ qf.out)|exact HB.out)) hb);clear qh;clear qg;clear qa;clear qb;clear HB;have qh:=n0_;have qg:=n1_;have qa:=n2_;have qb:=n3_;have HB:=n4_;clear n0_ n1_ n2_ n3_ n4_;(try clear hb);(try clear hb2);(try clear hk);(try clear hi))|((with_reducible refine gate_dst (N:=12) rfl ?_);refine box_event ?hg (N:=12) ?hd (cs:=#[.int .i64 0,.int .i64 0,.int .i64 0]) (t:=89) ?hr ?_;(case hd=>rfl);(case hg=>rfl);(case hr=>first|(go_simp;done)|(go_simp;rfl));intro qi hg w27 hbox hb;have n0_:=Ja (Jp (by(with_reducible repeat(first|apply Jk|apply Jl|apply Jd));exact qh.out) hb);have n1_:=Ja (Jp (Kd.R_elderB (by(with_reducible repeat(first|apply Jk|apply Jl|apply Jd));exact qg.out) qi (Nat.le_of_eq hg.symm)) hb);have n2_:=Ja (Jm (g:=qc) (o:=.cells #[.int .i64 a0_0,.int .i64 a0_1,.slice A0_2 l0_2.length c0_2] 27 (0,0)) (by(with_reducible repeat(first|refine Ji ?_ _|refine Jb ?_|refine Jh ?_ _));exact qa.out) hb);have n3_:=Ja (Jm (g:=qd) (o:=.cells #[.int .i64 a1_0,.int .i64 a1_1,.slice A1_2 l1_2.length c1_2] 27 (0,0)) (by(with_reducible repeat(first|refine Ji ?_ _|refine Jb ?_|refine Jh ?_ _));exact qb.out) hb);have n4_:=Ja (Jo (by repeat(first|(with_reducible first|exact HB.out|apply Jf|apply Je|apply Jg|refine Jc ?_ qe.out|refine Jc ?_ qf.out)|exact HB.out)) hb);have n5_:=Ja (hbox);have n6_:=Ja ((by rw [hg];exact(Jn (by repeat(first|(with_reducible first|exact HB.out|apply Jf|apply Je|apply Jg|refine Jc ?_ qe.out|refine Jc ?_ qf.out)|exact HB.out))):w.heap.size≤qi));have n7_:=Ja ((by rw [hg];exact(Jn (by repeat(first|(with_reducible first|exact HB.out|apply Jf|apply Je|apply Jg|refine Jc ?_ qe.out|refine Jc ?_ qf.out)|exact HB.out))):w.heap.size≤qi));have n8_:=Ja ((by rw [hg];exact Nat.ne_of_lt (blk_lt (g:=qc) (o:=.cells #[.int .i64 a0_0,.int .i64 a0_1,.slice A0_2 l0_2.length c0_2] 27 (0,0)) (by(with_reducible repeat(first|refine Ji ?_ _|refine Jb ?_|refine Jh ?_ _));exact qa.out)):qc≠qi));have n9_:=Ja ((by rw [hg];exact Nat.ne_of_gt (blk_lt (g:=qc) (o:=.cells #[.int .i64 a0_0,.int .i64 a0_1,.slice A0_2 l0_2.length c0_2] 27 (0,0)) (by(with_reducible repeat(first|refine Ji ?_ _|refine Jb ?_|refine Jh ?_ _));exact qa.out)):qi≠qc));have n10_:=Ja ((by rw [hg];exact Nat.ne_of_lt (blk_lt (g:=qd) (o:=.cells #[.int .i64 a1_0,.int .i64 a1_1,.slice A1_2 l1_2.length c1_2] 27 (0,0)) (by(with_reducible repeat(first|refine Ji ?_ _|refine Jb ?_|refine Jh ?_ _));exact qb.out)):qd≠qi));have n11_:=Ja ((by rw [hg];exact Nat.ne_of_gt (blk_lt (g:=qd) (o:=.cells #[.int .i64 a1_0,.int .i64 a1_1,.slice A1_2 l1_2.length c1_2] 27 (0,0)) (by(with_reducible repeat(first|refine Ji ?_ _|refine Jb ?_|refine Jh ?_ _));exact qb.out)):qi≠qd));clear qh;clear qg;clear qa;clear qb;clear HB;have qh:=n0_;have qg:=n1_;have qa:=n2_;have qb:=n3_;have HB:=n4_;have qm:=n5_;have GW294:=n6_;have GE294:=n7_;have qp:=n8_;have qr:=n9_;have qq:=n10_;have qs:=n11_;clear n0_ n1_ n2_ n3_ n4_ n5_ n6_ n7_ n8_ n9_ n10_ n11_;clear hb hbox hg;have hnb28:=qr.out;have hnc28:=qp.out;have hnb29:=qs.out;have hnc29:=qq.out;have hcz30_0:w27.cell? ⟨qi,0,none⟩=some (.int .i64 0):=(Jj qm.out 0).trans rfl;have hcz30_1:w27.cell? ⟨qi,1,none⟩=some (.int .i64 0):=(Jj qm.out 1).trans rfl;have hcz30_2:w27.cell? ⟨qi,2,none⟩=some (.int .i64 0):=(Jj qm.out 2).trans rfl;have hfz30_0:=Jq qm.out 0;have hfz30_1:=Jq qm.out 1;have hfz30_2:=Jq qm.out 2))
    repeat(go_quiet (first|(go_at_call 88;(with_reducible refine(impl_motion_min.calls k1 _ _ x9_1 t291 t292 t293 _ ?side1 ?side2 A24.out).mono ?_);(case side1=>repeat(first|exact(Jr qg.out).2.2|(with_reducible refine Kd.C_alloc ?_ _)|(with_reducible refine Kd.C_drewN ?_ _)|(with_reducible refine Kd.C_drew ?_)));(case side2=>exact(Jr qg.out).2.1);rintro e w26 ⟨rfl,hb⟩;have n0_:=Ja (Jp (by(with_reducible repeat(first|apply Jk|apply Jl|apply Jd));exact qh.out) hb);have n1_:=Ja (Jp (by(with_reducible repeat(first|apply Jk|apply Jl|apply Jd));exact qg.out) hb);have n2_:=Ja (Jm (g:=qc) (o:=.cells #[.int .i64 a0_0,.int .i64 a0_1,.slice A0_2 l0_2.length c0_2] 27 (0,0)) (by(with_reducible repeat(first|refine Ji ?_ _|refine Jb ?_|refine Jh ?_ _));exact qa.out) hb);have n3_:=Ja (Jm (g:=qd) (o:=.cells #[.int .i64 a1_0,.int .i64 a1_1,.slice A1_2 l1_2.length c1_2] 27 (0,0)) (by(with_reducible repeat(first|refine Ji ?_ _|refine Jb ?_|refine Jh ?_ _));exact qb.out) hb);have n4_:=Ja (Jo (by repeat(first|(with_reducible first|exact HB.out|apply Jf|apply Je|apply Jg|refine Jc ?_ qe.out|refine Jc ?_ qf.out)|exact HB.out)) hb);clear qh;clear qg;clear qa;clear qb;clear HB;have qh:=n0_;have qg:=n1_;have qa:=n2_;have qb:=n3_;have HB:=n4_;clear n0_ n1_ n2_ n3_ n4_;(try clear hb);(try clear hb2);(try clear hk);(try clear hi))|((with_reducible refine gate_dst (N:=12) rfl ?_);refine box_event ?hg (N:=12) ?hd (cs:=#[.int .i64 0,.int .i64 0,.int .i64 0]) (t:=89) ?hr ?_;(case hd=>rfl);(case hg=>rfl);(case hr=>first|(go_simp;done)|(go_simp;rfl));intro qi hg w27 hbox hb;have n0_:=Ja (Jp (by(with_reducible repeat(first|apply Jk|apply Jl|apply Jd));exact qh.out) hb);have n1_:=Ja (Jp (Kd.R_elderB (by(with_reducible repeat(first|apply Jk|apply Jl|apply Jd));exact qg.out) qi (Nat.le_of_eq hg.symm)) hb);have n2_:=Ja (Jm (g:=qc) (o:=.cells #[.int .i64 a0_0,.int .i64 a0_1,.slice A0_2 l0_2.length c0_2] 27 (0,0)) (by(with_reducible repeat(first|refine Ji ?_ _|refine Jb ?_|refine Jh ?_ _));exact qa.out) hb);have n3_:=Ja (Jm (g:=qd) (o:=.cells #[.int .i64 a1_0,.int .i64 a1_1,.slice A1_2 l1_2.length c1_2] 27 (0,0)) (by(with_reducible repeat(first|refine Ji ?_ _|refine Jb ?_|refine Jh ?_ _));exact qb.out) hb);have n4_:=Ja (Jo (by repeat(first|(with_reducible first|exact HB.out|apply Jf|apply Je|apply Jg|refine Jc ?_ qe.out|refine Jc ?_ qf.out)|exact HB.out)) hb);have n5_:=Ja (hbox);have n6_:=Ja ((by rw [hg];exact(Jn (by repeat(first|(with_reducible first|exact HB.out|apply Jf|apply Je|apply Jg|refine Jc ?_ qe.out|refine Jc ?_ qf.out)|exact HB.out))):w.heap.size≤qi));have n7_:=Ja ((by rw [hg];exact(Jn (by repeat(first|(with_reducible first|exact HB.out|apply Jf|apply Je|apply Jg|refine Jc ?_ qe.out|refine Jc ?_ qf.out)|exact HB.out))):w.heap.size≤qi));have n8_:=Ja ((by rw [hg];exact Nat.ne_of_lt (blk_lt (g:=qc) (o:=.cells #[.int .i64 a0_0,.int .i64 a0_1,.slice A0_2 l0_2.length c0_2] 27 (0,0)) (by(with_reducible repeat(first|refine Ji ?_ _|refine Jb ?_|refine Jh ?_ _));exact qa.out)):qc≠qi));have n9_:=Ja ((by rw [hg];exact Nat.ne_of_gt (blk_lt (g:=qc) (o:=.cells #[.int .i64 a0_0,.int .i64 a0_1,.slice A0_2 l0_2.length c0_2] 27 (0,0)) (by(with_reducible repeat(first|refine Ji ?_ _|refine Jb ?_|refine Jh ?_ _));exact qa.out)):qi≠qc));have n10_:=Ja ((by rw [hg];exact Nat.ne_of_lt (blk_lt (g:=qd) (o:=.cells #[.int .i64 a1_0,.int .i64 a1_1,.slice A1_2 l1_2.length c1_2] 27 (0,0)) (by(with_reducible repeat(first|refine Ji ?_ _|refine Jb ?_|refine Jh ?_ _));exact qb.out)):qd≠qi));have n11_:=Ja ((by rw [hg];exact Nat.ne_of_gt (blk_lt (g:=qd) (o:=.cells #[.int .i64 a1_0,.int .i64 a1_1,.slice A1_2 l1_2.length c1_2] 27 (0,0)) (by(with_reducible repeat(first|refine Ji ?_ _|refine Jb ?_|refine Jh ?_ _));exact qb.out)):qi≠qd));clear qh;clear qg;clear qa;clear qb;clear HB;have qh:=n0_;have qg:=n1_;have qa:=n2_;have qb:=n3_;have HB:=n4_;have qm:=n5_;have GW294:=n6_;have GE294:=n7_;have qp:=n8_;have qr:=n9_;have qq:=n10_;have qs:=n11_;clear n0_ n1_ n2_ n3_ n4_ n5_ n6_ n7_ n8_ n9_ n10_ n11_;clear hb hbox hg;have hnb28:=qr.out;have hnc28:=qp.out;have hnb29:=qs.out;have hnc29:=qq.out;have hcz30_0:w27.cell? ⟨qi,0,none⟩=some (.int .i64 0):=(Jj qm.out 0).trans rfl;have hcz30_1:w27.cell? ⟨qi,1,none⟩=some (.int .i64 0):=(Jj qm.out 1).trans rfl;have hcz30_2:w27.cell? ⟨qi,2,none⟩=some (.int .i64 0):=(Jj qm.out 2).trans rfl;have hfz30_0:=Jq qm.out 0;have hfz30_1:=Jq qm.out 1;have hfz30_2:=Jq qm.out 2));try go_wp2_with (first|(go_at_call 88;(with_reducible refine(impl_motion_min.calls k1 _ _ x9_1 t291 t292 t293 _ ?side1 ?side2 A24.out).mono ?_);(case side1=>repeat(first|exact(Jr qg.out).2.2|(with_reducible refine Kd.C_alloc ?_ _)|(with_reducible refine Kd.C_drewN ?_ _)|(with_reducible refine Kd.C_drew ?_)));(case side2=>exact(Jr qg.out).2.1);rintro e w26 ⟨rfl,hb⟩;have n0_:=Ja (Jp (by(with_reducible repeat(first|apply Jk|apply Jl|apply Jd));exact qh.out) hb);have n1_:=Ja (Jp (by(with_reducible repeat(first|apply Jk|apply Jl|apply Jd));exact qg.out) hb);have n2_:=Ja (Jm (g:=qc) (o:=.cells #[.int .i64 a0_0,.int .i64 a0_1,.slice A0_2 l0_2.length c0_2] 27 (0,0)) (by(with_reducible repeat(first|refine Ji ?_ _|refine Jb ?_|refine Jh ?_ _));exact qa.out) hb);have n3_:=Ja (Jm (g:=qd) (o:=.cells #[.int .i64 a1_0,.int .i64 a1_1,.slice A1_2 l1_2.length c1_2] 27 (0,0)) (by(with_reducible repeat(first|refine Ji ?_ _|refine Jb ?_|refine Jh ?_ _));exact qb.out) hb);have n4_:=Ja (Jo (by repeat(first|(with_reducible first|exact HB.out|apply Jf|apply Je|apply Jg|refine Jc ?_ qe.out|refine Jc ?_ qf.out)|exact HB.out)) hb);clear qh;clear qg;clear qa;clear qb;clear HB;have qh:=n0_;have qg:=n1_;have qa:=n2_;have qb:=n3_;have HB:=n4_;clear n0_ n1_ n2_ n3_ n4_;(try clear hb);(try clear hb2);(try clear hk);(try clear hi))|((with_reducible refine gate_dst (N:=12) rfl ?_);refine box_event ?hg (N:=12) ?hd (cs:=#[.int .i64 0,.int .i64 0,.int .i64 0]) (t:=89) ?hr ?_;(case hd=>rfl);(case hg=>rfl);(case hr=>first|(go_simp;done)|(go_simp;rfl));intro qi hg w27 hbox hb;have n0_:=Ja (Jp (by(with_reducible repeat(first|apply Jk|apply Jl|apply Jd));exact qh.out) hb);have n1_:=Ja (Jp (Kd.R_elderB (by(with_reducible repeat(first|apply Jk|apply Jl|apply Jd));exact qg.out) qi (Nat.le_of_eq hg.symm)) hb);have n2_:=Ja (Jm (g:=qc) (o:=.cells #[.int .i64 a0_0,.int .i64 a0_1,.slice A0_2 l0_2.length c0_2] 27 (0,0)) (by(with_reducible repeat(first|refine Ji ?_ _|refine Jb ?_|refine Jh ?_ _));exact qa.out) hb);have n3_:=Ja (Jm (g:=qd) (o:=.cells #[.int .i64 a1_0,.int .i64 a1_1,.slice A1_2 l1_2.length c1_2] 27 (0,0)) (by(with_reducible repeat(first|refine Ji ?_ _|refine Jb ?_|refine Jh ?_ _));exact qb.out) hb);have n4_:=Ja (Jo (by repeat(first|(with_reducible first|exact HB.out|apply Jf|apply Je|apply Jg|refine Jc ?_ qe.out|refine Jc ?_ qf.out)|exact HB.out)) hb);have n5_:=Ja (hbox);have n6_:=Ja ((by rw [hg];exact(Jn (by repeat(first|(with_reducible first|exact HB.out|apply Jf|apply Je|apply Jg|refine Jc ?_ qe.out|refine Jc ?_ qf.out)|exact HB.out))):w.heap.size≤qi));have n7_:=Ja ((by rw [hg];exact(Jn (by repeat(first|(with_reducible first|exact HB.out|apply Jf|apply Je|apply Jg|refine Jc ?_ qe.out|refine Jc ?_ qf.out)|exact HB.out))):w.heap.size≤qi));have n8_:=Ja ((by rw [hg];exact Nat.ne_of_lt (blk_lt (g:=qc) (o:=.cells #[.int .i64 a0_0,.int .i64 a0_1,.slice A0_2 l0_2.length c0_2] 27 (0,0)) (by(with_reducible repeat(first|refine Ji ?_ _|refine Jb ?_|refine Jh ?_ _));exact qa.out)):qc≠qi));have n9_:=Ja ((by rw [hg];exact Nat.ne_of_gt (blk_lt (g:=qc) (o:=.cells #[.int .i64 a0_0,.int .i64 a0_1,.slice A0_2 l0_2.length c0_2] 27 (0,0)) (by(with_reducible repeat(first|refine Ji ?_ _|refine Jb ?_|refine Jh ?_ _));exact qa.out)):qi≠qc));have n10_:=Ja ((by rw [hg];exact Nat.ne_of_lt (blk_lt (g:=qd) (o:=.cells #[.int .i64 a1_0,.int .i64 a1_1,.slice A1_2 l1_2.length c1_2] 27 (0,0)) (by(with_reducible repeat(first|refine Ji ?_ _|refine Jb ?_|refine Jh ?_ _));exact qb.out)):qd≠qi));have n11_:=Ja ((by rw [hg];exact Nat.ne_of_gt (blk_lt (g:=qd) (o:=.cells #[.int .i64 a1_0,.int .i64 a1_1,.slice A1_2 l1_2.length c1_2] 27 (0,0)) (by(with_reducible repeat(first|refine Ji ?_ _|refine Jb ?_|refine Jh ?_ _));exact qb.out)):qi≠qd));clear qh;clear qg;clear qa;clear qb;clear HB;have qh:=n0_;have qg:=n1_;have qa:=n2_;have qb:=n3_;have HB:=n4_;have qm:=n5_;have GW294:=n6_;have GE294:=n7_;have qp:=n8_;have qr:=n9_;have qq:=n10_;have qs:=n11_;clear n0_ n1_ n2_ n3_ n4_ n5_ n6_ n7_ n8_ n9_ n10_ n11_;clear hb hbox hg;have hnb28:=qr.out;have hnc28:=qp.out;have hnb29:=qs.out;have hnc29:=qq.out;have hcz30_0:w27.cell? ⟨qi,0,none⟩=some (.int .i64 0):=(Jj qm.out 0).trans rfl;have hcz30_1:w27.cell? ⟨qi,1,none⟩=some (.int .i64 0):=(Jj qm.out 1).trans rfl;have hcz30_2:w27.cell? ⟨qi,2,none⟩=some (.int .i64 0):=(Jj qm.out 2).trans rfl;have hfz30_0:=Jq qm.out 0;have hfz30_1:=Jq qm.out 1;have hfz30_2:=Jq qm.out 2)))
    go_ret2
    exact⟨by first|rfl|(simp [errW_none,errW_some] <;> rfl)|(simp [*,errW_none,errW_some] <;> rfl),by repeat(first|(with_reducible first|exact HB.out|apply Jf|apply Je|apply Jg|refine Jc ?_ qe.out|refine Jc ?_ qf.out|refine Jc ?_ GE294.out)|exact HB.out)⟩

/-! ### impl_down: function 97 -/
def impl_down.f (a0 : Int) (a1 : Int) : Option (Int) := if a1 = 0 then (none) else (if (Int.tmod a0 a1) < 0 then (some (wrap64 ((wrap64 (Int.tdiv a0 a1)) - 1))) else (some (wrap64 (Int.tdiv a0 a1))))
set_option maxHeartbeats 8000000 in
set_option maxRecDepth 100000 in
theorem impl_down.calls (a0 : Int) (a1 : Int) (r : Int) (w : World) (h : impl_down.f a0 a1 = some r) :
  Calls Try.prog 97 #[.int .i64 a0,.int .i64 a1] w fun e w'=>e=.returned (.int .i64 r)∧Drawn0 w w':=by
 have H:(if a1=0 then (none) else (if (Int.tmod a0 a1) < 0 then (some (wrap64 ((wrap64 (Int.tdiv a0 a1)) - 1))) else (some (wrap64 (Int.tdiv a0 a1)))))=some r:=h
 clear h
 by_cases c3:a1=0
 ·rw [if_pos c3] at H
  exact absurd H (by simp)
 ·rw [if_neg c3] at H
  have c3b0:(a1 == 0)=false:=beq_eq_false_iff_ne.mpr c3
  have c3b1:(a1 != 0)=true:=bne_iff_ne.mpr c3
  by_cases c4:(Int.tmod a0 a1) < 0
  ·rw [if_pos c4] at H
   have c4b0:decide ((Int.tmod a0 a1) < 0)=true:=decide_eq_true c4
   clear c4
   obtain rfl:=Option.some.inj H
   go_enter Try.func97,Try.ntmps97
   go_wp2
   go_ret
   exact⟨by first|rfl|(simp;done)|(simp [*];done),by repeat(first|exact Drawn0.refl _|apply Drawn0.step)⟩
  ·rw [if_neg c4] at H
   have c4b0:decide ((Int.tmod a0 a1) < 0)=false:=decide_eq_false c4
   clear c4
   obtain rfl:=Option.some.inj H
   go_enter Try.func97,Try.ntmps97
   go_wp2
   go_ret
   exact⟨by first|rfl|(simp;done)|(simp [*];done),by repeat(first|exact Drawn0.refl _|apply Drawn0.step)⟩

/-! ### impl_near: function 79 -/
def impl_near.f (a0 : Int) (a1 : Int) : Option (Int) := (impl_down.f (wrap64 ((wrap64 (2 * a0)) + a1)) (wrap64 (2 * a1))).bind fun t302 => (some t302)
set_option maxHeartbeats 8000000 in
set_option maxRecDepth 100000 in
theorem impl_near.calls (a0 : Int) (a1 : Int) (r : Int) (w : World) (h : impl_near.f a0 a1 = some r) :
  Calls Try.prog 79 #[.int .i64 a0,.int .i64 a1] w fun e w'=>e=.returned (.int .i64 r)∧Drawn0 w w':=by
 have H:((impl_down.f (wrap64 ((wrap64 (2*a0))+a1)) (wrap64 (2*a1))).bind fun t302=>(some t302))=some r:=h
 clear h
 replace H:=Option.bind_eq_some_iff.mp H
 obtain⟨t302,A30,H⟩:=H
 replace H:(some t302)=some r:=H
 have A3:=Ja A30
 clear A30
 obtain rfl:=Option.some.inj H
 go_enter Try.func79,Try.ntmps79
 go_wp2_with (first|((with_reducible refine gate_callee (f:=97) rfl ?_);refine goesL_ (some 11) rfl rfl Try.func97 (by kernel_rfl) rfl #[.int .i64 (wrap64 ((wrap64 (2*a0))+a1)),.int .i64 (wrap64 (2*a1))] rfl (by(try simp only [List.map_toArray,List.map_cons,List.map_nil]);first|done|rfl|(simp only [List.length_drop,List.length_take];rfl)) ?_;(with_reducible refine(impl_down.calls (wrap64 ((wrap64 (2*a0))+a1)) (wrap64 (2*a1)) t302 _ A3.out).mono ?_);rintro e w' ⟨rfl,⟨nd,rfl⟩⟩;refine⟨_,rfl,?_⟩))
 go_ret
 exact⟨by first|rfl|(simp;done)|(simp [*];done),by repeat(first|exact Drawn0.refl _|apply Drawn0.step)⟩

end Go.Proofs.Ytbdnpfjjaokdbaa.HFnExactEncode
