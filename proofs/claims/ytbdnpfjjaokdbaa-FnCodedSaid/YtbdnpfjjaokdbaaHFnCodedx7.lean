-- Laid by myprint.py, a program of this repo, out of the kit's printer and this repo's own texts (wip/hand).
import Derived.Test.YtbdnpfjjaokdbaaHFnCodedx0
import Derived.Test.YtbdnpfjjaokdbaaHFnCodedx6
namespace Go.Proofs.Ytbdnpfjjaokdbaa.HFnCoded
open Go.RowKit Go.Proofs.YtbdnpfjjaokdbaaW.PrintWords Go.Proofs.YtbdnpfjjaokdbaaW.PrintLast Go.Proofs.YtbdnpfjjaokdbaaW.PrintMore
attribute [local go_sem] max2_int min2_int max_two min_two max_three min_three max_four min_four   -- for this text's walks alone
set_option linter.unusedVariables false
set_option linter.unusedSimpArgs false
theorem Ha : type_of% @Aside0.mk := @Aside0.mk
theorem Hb : type_of% @blk_drew := @blk_drew
theorem Hc : type_of% @pw_below_drewN := @pw_below_drewN
theorem Hd : type_of% @below_drew1 := @below_drew1
theorem He : type_of% @below_alloc := @below_alloc
theorem Hf : type_of% @below_set := @below_set
theorem Hg : type_of% @Kd.R_drew := @Kd.R_drew
theorem Hh : type_of% @blk_alloc := @blk_alloc
theorem Hi : type_of% @blk_drewN := @blk_drewN
theorem Hj : type_of% @Kd.R_alloc := @Kd.R_alloc
theorem Hk : type_of% @Kd.R_drewN := @Kd.R_drewN
theorem Hl : type_of% @below_size := @below_size
theorem Hm : type_of% @blk_cell := @blk_cell

/-! ### spec_l14Block: function 73 -/
mutual
def spec_l14Block.l0 : Nat → Int → Int → Int → List Int → Int → Int → Int → Int → List Int → Option (List Int)
 | 0, _, _, _, _, _, _, _, _, _ => none
 | k + 1, x1, x2, x3, x9, x10, x11, x168000, x168001, x168002 => if x11 < 4 then (spec_l14Block.l1 k x1 x2 x3 x9 x10 x11 0 x168000 x168001 x168002) else (some x9)
def spec_l14Block.l1 : Nat → Int → Int → Int → List Int → Int → Int → Int → Int → Int → List Int → Option (List Int)
 | 0, _, _, _, _, _, _, _, _, _, _ => none
 | k + 1, x1, x2, x3, x9, x10, x11, x12, x168000, x168001, x168002 => if x12 < 4 then (if x10 = 0 then (none) else ((spec_l14At.f x168000 x168001 x168002 (wrap64 ((wrap64 ((wrap64 ((Int.tmod x1 x10) * 4)) + x12)) + x2)) (wrap64 ((wrap64 ((wrap64 ((wrap64 (Int.tdiv x1 x10)) * 4)) + x11)) + x3))).bind fun t171 => (if x9.length < 17592186044416 then (spec_l14Block.l1 k x1 x2 x3 (x9 ++ [t171]) x10 x11 (wrap64 (x12 + 1)) x168000 x168001 x168002) else (none)))) else (spec_l14Block.l0 k x1 x2 x3 x9 x10 (wrap64 (x11 + 1)) x168000 x168001 x168002)
end
def spec_l14Block.f (k : Nat) (a0_0 : Int) (a0_1 : Int) (l0_2 : List Int) (a1 : Int) (a2 : Int) (a3 : Int) : Option (List Int) := spec_l14Block.l0 k a1 a2 a3 (([] : List Int)) (wrap64 (Int.tdiv a0_0 4)) 0 a0_0 a0_1 l0_2
theorem spec_l14Block.mono_l : ∀ k, (∀ y0 y1 y2 y3 y4 y5 y6 y7 y8, LeO (spec_l14Block.l0 k y0 y1 y2 y3 y4 y5 y6 y7 y8) (spec_l14Block.l0 (k + 1) y0 y1 y2 y3 y4 y5 y6 y7 y8)) ∧ (∀ y0 y1 y2 y3 y4 y5 y6 y7 y8 y9, LeO (spec_l14Block.l1 k y0 y1 y2 y3 y4 y5 y6 y7 y8 y9) (spec_l14Block.l1 (k + 1) y0 y1 y2 y3 y4 y5 y6 y7 y8 y9))
 | 0 => ⟨fun _ _ _ _ _ _ _ _ _ r h => by simp [spec_l14Block.l0] at h, fun _ _ _ _ _ _ _ _ _ _ r h => by simp [spec_l14Block.l1] at h⟩
 | k + 1 => by
  obtain⟨ih0,ih1⟩:=spec_l14Block.mono_l k
  refine⟨?_,?_⟩
  ·intro y0 y1 y2 y3 y4 y5 y6 y7 y8
   unfold spec_l14Block.l0
   repeat' first
   | (with_reducible exact ih0 _ _ _ _ _ _ _ _ _)
   | (with_reducible exact ih1 _ _ _ _ _ _ _ _ _ _)
   | (with_reducible exact LeO.refl _)
   | (with_reducible exact LeO.none _)
   | (with_reducible refine LeO.ite ?_ ?_)
   | (with_reducible refine LeO.bind ?_ (fun _ => ?_))
   | exact ih0 _ _ _ _ _ _ _ _ _
   | exact ih1 _ _ _ _ _ _ _ _ _ _
   | exact LeO.none _
   | refine LeO.ite ?_ ?_
   | refine LeO.bind ?_ (fun _ => ?_)
  ·intro y0 y1 y2 y3 y4 y5 y6 y7 y8 y9
   unfold spec_l14Block.l1
   repeat' first
   | (with_reducible exact ih0 _ _ _ _ _ _ _ _ _)
   | (with_reducible exact ih1 _ _ _ _ _ _ _ _ _ _)
   | (with_reducible exact LeO.refl _)
   | (with_reducible exact LeO.none _)
   | (with_reducible refine LeO.ite ?_ ?_)
   | (with_reducible refine LeO.bind ?_ (fun _ => ?_))
   | exact ih0 _ _ _ _ _ _ _ _ _
   | exact ih1 _ _ _ _ _ _ _ _ _ _
   | exact LeO.none _
   | refine LeO.ite ?_ ?_
   | refine LeO.bind ?_ (fun _ => ?_)
theorem spec_l14Block.mono : ∀ a0 a1 a2 a3 a4 a5 k, LeO (spec_l14Block.f k a0 a1 a2 a3 a4 a5) (spec_l14Block.f (k + 1) a0 a1 a2 a3 a4 a5) := by
 intro a0 a1 a2 a3 a4 a5 k
 obtain⟨ih0,ih1⟩:=spec_l14Block.mono_l k
 unfold spec_l14Block.f
 repeat' first
   | (with_reducible exact ih0 _ _ _ _ _ _ _ _ _)
   | (with_reducible exact ih1 _ _ _ _ _ _ _ _ _ _)
   | (with_reducible exact LeO.refl _)
   | (with_reducible exact LeO.none _)
   | (with_reducible refine LeO.ite ?_ ?_)
   | (with_reducible refine LeO.bind ?_ (fun _ => ?_))
   | exact ih0 _ _ _ _ _ _ _ _ _
   | exact ih1 _ _ _ _ _ _ _ _ _ _
   | exact LeO.none _
   | refine LeO.ite ?_ ?_
   | refine LeO.bind ?_ (fun _ => ?_)
def spec_l14Block.T9 : Bool × List (List Nat × List Nat) := (true, [([], []), ([], []), ([], []), ([], []), ([2, 3], [2, 3]), ([4], [4]), ([], []), ([5, 6], [5, 6]), ([], []), ([7, 8], [7, 8]), ([], []), ([], []), ([10, 11], [10, 11]), ([12], [12]), ([], []), ([13, 14], [13, 14]), ([], []), ([15, 16], [15, 16]), ([1, 9, 17], [1, 9, 17]), ([18], [18]), ([0, 19, 18], [0, 19]), ([20, 20, 0, 1, 2, 3, 4, 5, 6, 7, 8, 9, 10, 11, 12, 13, 14, 15, 16, 17, 18, 19, 20], [0, 20])])
def spec_l14Block.B9 : List Nat := [0, 0, 0, 0, 12, 28, 0, 124, 0, 508, 0, 0, 3072, 7168, 0, 31744, 0, 130048, 262142, 524286, 1048575, 2097151]
theorem spec_l14Block.tab9 : rtab .any (opsOf Try.f73 9) = spec_l14Block.T9 := by kernel_rfl
theorem spec_l14Block.bits9 : waitsOk spec_l14Block.T9.2 spec_l14Block.B9 = true := by kernel_rfl
set_option maxHeartbeats 8000000 in
set_option maxRecDepth 100000 in
theorem spec_l14Block.calls (k : Nat) (a0_0 : Int) (a0_1 : Int) (A0_2 : Option Addr) (c0_2 : Nat) (l0_2 : List Int) (a1 : Int) (a2 : Int) (a3 : Int) (r : List Int) (w : World) (hr0_2 : Kd.C (Kd.int .i64) w A0_2 l0_2.length l0_2) (hc0_2 : l0_2.length ≤ c0_2) (h : spec_l14Block.f k a0_0 a0_1 l0_2 a1 a2 a3 = some r) :
  Calls Try.prog 73 #[.agg #[.int .i64 a0_0,.int .i64 a0_1,.slice A0_2 l0_2.length c0_2],.int .i64 a1,.int .i64 a2,.int .i64 a3] w fun e w'=>∃ v0_:Value,e=.returned (v0_)∧Kd.R (Kd.int .i64) 2 w' w.heap.size (fun _=>True) v0_ r∧Below w.heap.size w w':=by
 have hu27:=Try.underlying27
 have HR0_2:=Ha hr0_2
 have HC0_2:=Ha hc0_2
 clear hr0_2 hc0_2
 have HB:=Ha (Below.refl w.heap.size w)
 have H:(spec_l14Block.l0 k a1 a2 a3 (([]:List Int)) (wrap64 (Int.tdiv a0_0 4)) 0 a0_0 a0_1 l0_2)=some r:=h
 clear h
 obtain⟨y168,hy168⟩:∃ y_:List Int,y_=(([]:List Int)):=⟨_,rfl⟩
 replace H:(spec_l14Block.l0 k a1 a2 a3 y168 (wrap64 (Int.tdiv a0_0 4)) 0 a0_0 a0_1 l0_2)=some r:=by first|(rw [hy168];with_reducible exact H)|(have H2_:=(Option.bind_some _ _).symm.trans H;rw [hy168];with_reducible exact H2_)|(have H2_:=(Option.bind_some _ _).symm.trans H;with_reducible exact H2_)|with_reducible exact H|(rw [hy168];exact H)|exact H
 have Ny168:=Ha hy168
 clear hy168
 have H':=Ha H
 clear H
 go_enter Try.func73,Try.ntmps73
 go_wp2_with (first|((with_reducible refine gate_dst (N:=4) rfl ?_);refine box_event ?hg (N:=4) ?hd (cs:=#[.int .i64 a0_0,.int .i64 a0_1,.slice A0_2 l0_2.length c0_2]) (t:=27) ?hr ?_;(case hd=>rfl);(case hg=>rfl);(case hr=>first|(go_simp;done)|(go_simp;rfl));intro gb167 hg w5 hbox hb;have n0_:=Ha (below_step (by repeat(first|(with_reducible first|exact HB.out|apply He|apply Hc|apply Hd)|exact HB.out)) hb);have n1_:=Ha (hbox);have n2_:=Ha ((by rw [hg];exact(Hl (by repeat(first|(with_reducible first|exact HB.out|apply He|apply Hc|apply Hd)|exact HB.out))):w.heap.size≤gb167));have n3_:=Ha ((by rw [hg];exact(Hl (by repeat(first|(with_reducible first|exact HB.out|apply He|apply Hc|apply Hd)|exact HB.out))):w.heap.size≤gb167));clear HB;have HB:=n0_;have BK167:=n1_;have GW167:=n2_;have GE167:=n3_;clear n0_ n1_ n2_ n3_;clear hb hbox hg)|((with_reducible refine gate_dst (N:=13) rfl ?_);refine Kd.R_lit (Kd.int .i64) _ 2 ?hg (N:=13) ?hd (xs:=([]:List Int)) (inner:=[]) (ok:=fun _=>True) (okp:=fun _=>True) ?hr ?hp (fun _ hk=>hk) trivial (Below.refl _ _) (Nat.le_refl _) (by simp) ?_;(case hd=>rfl);(case hg=>rfl);(case hr=>first|(go_simp;done)|(go_simp;rfl));(case hp=>exact(Reps.none _ _));intro v169 w6 ho7 hb hg_ hnew_;clear hg_ hnew_;(first|rw [← Ny168.out] at ho7|(simp only [Int.reduceToNat] at ho7;rw [← Ny168.out] at ho7));have n0_:=Ha (Kd.R_lower ho7 (Hl (by repeat(first|(with_reducible first|exact HB.out|apply He|apply Hc|apply Hd|refine Hf ?_ GE167.out)|exact HB.out))));have n1_:=Ha (blk_below (g:=gb167) (o:=.cells #[.int .i64 a0_0,.int .i64 a0_1,.slice A0_2 l0_2.length c0_2] 27 (0,0)) (by(with_reducible repeat(first|refine Hi ?_ _|refine Hb ?_|refine Hh ?_ _));exact BK167.out) hb);have n2_:=Ha (below_step (by repeat(first|(with_reducible first|exact HB.out|apply He|apply Hc|apply Hd|refine Hf ?_ GE167.out)|exact HB.out)) hb);clear BK167;clear HB;have HO170:=n0_;have BK167:=n1_;have HB:=n2_;clear n0_ n1_ n2_;clear hb ho7;have hcz8_0:w6.cell? ⟨gb167,0,none⟩=some (.int .i64 a0_0):=(Hm BK167.out 0).trans rfl;have hcz8_1:w6.cell? ⟨gb167,1,none⟩=some (.int .i64 a0_1):=(Hm BK167.out 1).trans rfl;have hcz8_2:w6.cell? ⟨gb167,2,none⟩=some (.slice A0_2 l0_2.length c0_2):=(Hm BK167.out 2).trans rfl;have hfz8_0:=blk_frozen BK167.out 0;have hfz8_1:=blk_frozen BK167.out 1;have hfz8_2:=blk_frozen BK167.out 2))
 go_loopg [9,11] k (fun kq v9 v11 w'=>∃ (x9_1:List Int) (x11_1:Int),v11=.int .i64 x11_1∧Aside0 (spec_l14Block.l0 kq a1 a2 a3 x9_1 (wrap64 (Int.tdiv a0_0 4)) x11_1 a0_0 a0_1 l0_2=some r)∧Aside0 (kq≤k)∧Aside0 (Kd.R (Kd.int .i64) 2 w' w.heap.size (fun _=>True) v9 x9_1)∧Aside0 (w'.heap[gb167]? = some (.cells #[.int .i64 a0_0,.int .i64 a0_1,(.slice A0_2 l0_2.length c0_2)] 27 (0,0)))∧Aside0 (Below w.heap.size w w'))
 case atStart=>exact⟨(y168),(0),(by first|rfl|(simp;done)|(simp [*];done)),H',⟨Nat.le_refl _⟩,⟨by(with_reducible repeat(first|apply Hj|apply Hk|apply Hg));exact HO170.out⟩,⟨by(with_reducible repeat(first|refine Hi ?_ _|refine Hb ?_|refine Hh ?_ _));exact BK167.out⟩,⟨by repeat(first|(with_reducible first|exact HB.out|apply He|apply Hc|apply Hd|refine Hf ?_ GE167.out)|exact HB.out)⟩⟩
 case round=>
  clear H'
  try clear p2
  try clear p6
  try clear c7
  try clear hcz8_0
  try clear hcz8_1
  try clear hcz8_2
  try clear hfz8_0
  try clear hfz8_1
  try clear hfz8_2
  obtain⟨x9_1,x11_1,rfl,HA,HK1,HO_9,BK167,HB⟩:=hrel
  cases gk with
  | zero => exact absurd HA.out (by simp [spec_l14Block.l0])
  | succ k1 =>
   have H:=HA.out
   clear HA
   simp only [spec_l14Block.l0] at H
   by_cases c9:x11_1 < 4
   ·rw [if_pos c9] at H
    have c9b0:decide (x11_1 < 4)=true:=decide_eq_true c9
    clear c9
    have H':=Ha H
    clear H
    go_wp2
    go_loopg [9,12] k1 (fun kq v9 v12 w'=>∃ (x9_2:List Int) (x12_2:Int),v12=.int .i64 x12_2∧Aside0 (spec_l14Block.l1 kq a1 a2 a3 x9_2 (wrap64 (Int.tdiv a0_0 4)) x11_1 x12_2 a0_0 a0_1 l0_2=some r)∧Aside0 (kq≤k1)∧Aside0 (Kd.R (Kd.int .i64) 2 w' w.heap.size (fun _=>True) v9 x9_2)∧Aside0 (w'.heap[gb167]? = some (.cells #[.int .i64 a0_0,.int .i64 a0_1,(.slice A0_2 l0_2.length c0_2)] 27 (0,0)))∧Aside0 (Below w.heap.size w w'))
    case atStart=>exact⟨(x9_1),(0),(by first|rfl|(simp;done)|(simp [*];done)),H',⟨Nat.le_refl _⟩,⟨by(with_reducible repeat(first|apply Hj|apply Hk|apply Hg));exact HO_9.out⟩,⟨by(with_reducible repeat(first|refine Hi ?_ _|refine Hb ?_|refine Hh ?_ _));exact BK167.out⟩,⟨by repeat(first|(with_reducible first|exact HB.out|apply He|apply Hc|apply Hd|refine Hf ?_ GE167.out)|exact HB.out)⟩⟩
    case round=>
     clear H'
     try clear p2
     try clear p6
     try clear c7
     try clear c9
     try clear c9b0
     try clear hcz8_0
     try clear hcz8_1
     try clear hcz8_2
     try clear hfz8_0
     try clear hfz8_1
     try clear hfz8_2
     try clear p2
     try clear p6
     obtain⟨x9_2,x12_2,rfl,HA,HK2,HO_9,BK167,HB⟩:=hrel
     cases gk with
     | zero => exact absurd HA.out (by simp [spec_l14Block.l1])
     | succ k2 =>
      have H:=HA.out
      clear HA
      simp only [spec_l14Block.l1] at H
      by_cases c10:x12_2 < 4
      ·rw [if_pos c10] at H
       have c10b0:decide (x12_2 < 4)=true:=decide_eq_true c10
       clear c10
       by_cases c11:(wrap64 (Int.tdiv a0_0 4))=0
       ·rw [if_pos c11] at H
        exact absurd H (by simp)
       ·rw [if_neg c11] at H
        have c11b0:((wrap64 (Int.tdiv a0_0 4)) == 0)=false:=beq_eq_false_iff_ne.mpr c11
        have c11b1:((wrap64 (Int.tdiv a0_0 4)) != 0)=true:=bne_iff_ne.mpr c11
        replace H:=Option.bind_eq_some_iff.mp H
        obtain⟨t171,A120,H⟩:=H
        replace H:(if x9_2.length < 17592186044416 then (spec_l14Block.l1 k2 a1 a2 a3 (x9_2 ++ [t171]) (wrap64 (Int.tdiv a0_0 4)) x11_1 (wrap64 (x12_2+1)) a0_0 a0_1 l0_2) else (none))=some r:=H
        have A12:=Ha A120
        clear A120
        by_cases c13:x9_2.length < 17592186044416
        ·rw [if_pos c13] at H
         have LMc13:=Ha c13
         clear c13
         obtain⟨y172,hy172⟩:∃ y_:List Int,y_=(x9_2 ++ [t171]):=⟨_,rfl⟩
         replace H:(spec_l14Block.l1 k2 a1 a2 a3 y172 (wrap64 (Int.tdiv a0_0 4)) x11_1 (wrap64 (x12_2+1)) a0_0 a0_1 l0_2)=some r:=by first|(rw [hy172];with_reducible exact H)|(have H2_:=(Option.bind_some _ _).symm.trans H;rw [hy172];with_reducible exact H2_)|(have H2_:=(Option.bind_some _ _).symm.trans H;with_reducible exact H2_)|with_reducible exact H|(rw [hy172];exact H)|exact H
         have Ny172:=Ha hy172
         clear hy172
         have H':=Ha H
         clear H
         try go_wp2
         have n0_:=Ha (Hg HO_9.out)
         have n1_:=Ha (Hb BK167.out)
         have n2_:=Ha (Hd HB.out)
         clear HO_9
         clear BK167
         clear HB
         have HO_9:=n0_
         have BK167:=n1_
         have HB:=n2_
         clear n0_ n1_ n2_
         refine start_ (n:=22) (S:=fun w'=>w'.cell? ⟨gb167,0,none⟩=some (.int .i64 a0_0)∧w'.cell? ⟨gb167,1,none⟩=some (.int .i64 a0_1)∧w'.cell? ⟨gb167,2,none⟩=some (.slice A0_2 l0_2.length c0_2)) (ds:=[]) #[false,false,false,false,false,false,false,false,false,false,false,false,false,false,false,false,false,false,false,false,false,false] (by kernel_rfl) rfl rfl ⟨(Hm BK167.out 0).trans rfl,(Hm BK167.out 1).trans rfl,(Hm BK167.out 2).trans rfl⟩ (fun hHeld=>?_);refine with_tabW spec_l14Block.tab9 spec_l14Block.bits9 (fun HT_ HW_=>?_)
         generalize wr.drew=w14 at HO_9 BK167 HB hHeld ⊢
         refine pure_ (i:=0) (N:=some 25) (v:=?_) (a':=?_) #[true,false,false,false,false,false,false,false,false,false,false,false,false,false,false,false,false,false,false,false,false,false] rfl rfl (any_of HT_.out (by kernel_rfl)) (fun _ _ _ h=>h) (Or.inl ⟨by rfl,?_⟩) ?_ ?_
         rotate_left
         ·intro w'
          go_simp
          with_reducible rfl
         rotate_left
         ·simp only [Act.put,List.setIfInBounds_toArray,List.set_cons_zero,List.set_cons_succ,i64_w,i32_w]
          rfl
         refine pure_ (i:=2) (N:=some 27) (v:=?_) (a':=?_) #[true,false,true,false,false,false,false,false,false,false,false,false,false,false,false,false,false,false,false,false,false,false] rfl rfl (any_of HT_.out (by kernel_rfl)) (fun _ _ _ h=>h) (Or.inl ⟨by rfl,?_⟩) ?_ ?_
         rotate_left
         ·intro w'
          go_simp
          with_reducible rfl
         rotate_left
         ·simp only [Act.put,List.setIfInBounds_toArray,List.set_cons_zero,List.set_cons_succ,i64_w,i32_w]
          rfl
         refine pure_ (i:=3) (N:=some 28) (v:=?_) (a':=?_) #[true,false,true,true,false,false,false,false,false,false,false,false,false,false,false,false,false,false,false,false,false,false] rfl rfl (any_of HT_.out (by kernel_rfl)) (fun _ _ _ h=>h) (Or.inl ⟨by rfl,?_⟩) ?_ ?_
         rotate_left
         ·intro w'
          go_simp
          with_reducible rfl
         rotate_left
         ·simp only [Act.put,List.setIfInBounds_toArray,List.set_cons_zero,List.set_cons_succ,i64_w,i32_w]
          rfl
         refine pure_ (i:=4) (N:=some 29) (v:=?_) (a':=?_) #[true,false,true,true,true,false,false,false,false,false,false,false,false,false,false,false,false,false,false,false,false,false] rfl rfl (any_of HT_.out (by kernel_rfl)) (fun _ _ _ h=>h) (Or.inl ⟨by rfl,?_⟩) ?_ ?_
         rotate_left
         ·intro w'
          go_simp
          with_reducible rfl
         rotate_left
         ·simp only [Act.put,List.setIfInBounds_toArray,List.set_cons_zero,List.set_cons_succ,i64_w,i32_w]
          rfl
         refine pure_ (i:=5) (N:=some 30) (v:=?_) (a':=?_) #[true,false,true,true,true,true,false,false,false,false,false,false,false,false,false,false,false,false,false,false,false,false] rfl rfl (any_of HT_.out (by kernel_rfl)) (fun _ _ _ h=>h) (Or.inl ⟨by rfl,?_⟩) ?_ ?_
         rotate_left
         ·intro w'
          go_simp
          with_reducible rfl
         rotate_left
         ·simp only [Act.put,List.setIfInBounds_toArray,List.set_cons_zero,List.set_cons_succ,i64_w,i32_w]
          rfl
         refine pure_ (i:=6) (N:=some 31) (v:=?_) (a':=?_) #[true,false,true,true,true,true,true,false,false,false,false,false,false,false,false,false,false,false,false,false,false,false] rfl rfl (any_of HT_.out (by kernel_rfl)) (fun _ _ _ h=>h) (Or.inl ⟨by rfl,?_⟩) ?_ ?_
         rotate_left
         ·intro w'
          go_simp
          with_reducible rfl
         rotate_left
         ·simp only [Act.put,List.setIfInBounds_toArray,List.set_cons_zero,List.set_cons_succ,i64_w,i32_w]
          rfl
         refine pure_ (i:=7) (N:=some 32) (v:=?_) (a':=?_) #[true,false,true,true,true,true,true,true,false,false,false,false,false,false,false,false,false,false,false,false,false,false] rfl rfl (any_of HT_.out (by kernel_rfl)) (fun _ _ _ h=>h) (Or.inl ⟨by rfl,?_⟩) ?_ ?_
         rotate_left
         ·intro w'
          go_simp
          with_reducible rfl
         rotate_left
         ·simp only [Act.put,List.setIfInBounds_toArray,List.set_cons_zero,List.set_cons_succ,i64_w,i32_w]
          rfl
         refine pure_ (i:=8) (N:=some 33) (v:=?_) (a':=?_) #[true,false,true,true,true,true,true,true,true,false,false,false,false,false,false,false,false,false,false,false,false,false] rfl rfl (any_of HT_.out (by kernel_rfl)) (fun _ _ _ h=>h) (Or.inl ⟨by rfl,?_⟩) ?_ ?_
         rotate_left
         ·intro w'
          go_simp
          with_reducible rfl
         rotate_left
         ·simp only [Act.put,List.setIfInBounds_toArray,List.set_cons_zero,List.set_cons_succ,i64_w,i32_w]
          rfl
         refine pure_ (i:=9) (N:=some 34) (v:=?_) (a':=?_) #[true,false,true,true,true,true,true,true,true,true,false,false,false,false,false,false,false,false,false,false,false,false] rfl rfl (any_of HT_.out (by kernel_rfl)) (fun _ _ _ h=>h) (Or.inl ⟨by rfl,?_⟩) ?_ ?_
         rotate_left
         ·intro w'
          go_simp
          with_reducible rfl
         rotate_left
         ·simp only [Act.put,List.setIfInBounds_toArray,List.set_cons_zero,List.set_cons_succ,i64_w,i32_w]
          rfl
         refine pure_ (i:=10) (N:=some 35) (v:=?_) (a':=?_) #[true,false,true,true,true,true,true,true,true,true,true,false,false,false,false,false,false,false,false,false,false,false] rfl rfl (any_of HT_.out (by kernel_rfl)) (fun _ _ _ h=>h) (Or.inl ⟨by rfl,?_⟩) ?_ ?_
         rotate_left
         ·intro w'
          go_simp
          with_reducible rfl
         rotate_left
         ·simp only [Act.put,List.setIfInBounds_toArray,List.set_cons_zero,List.set_cons_succ,i64_w,i32_w]
          rfl
         refine pure_ (i:=11) (N:=some 36) (v:=?_) (a':=?_) #[true,false,true,true,true,true,true,true,true,true,true,true,false,false,false,false,false,false,false,false,false,false] rfl rfl (any_of HT_.out (by kernel_rfl)) (fun _ _ _ h=>h) (Or.inl ⟨by rfl,?_⟩) ?_ ?_
         rotate_left
         ·intro w'
          go_simp
          with_reducible rfl
         rotate_left
         ·simp only [Act.put,List.setIfInBounds_toArray,List.set_cons_zero,List.set_cons_succ,i64_w,i32_w]
          rfl
         refine pure_ (i:=12) (N:=some 37) (v:=?_) (a':=?_) #[true,false,true,true,true,true,true,true,true,true,true,true,true,false,false,false,false,false,false,false,false,false] rfl rfl (any_of HT_.out (by kernel_rfl)) (fun _ _ _ h=>h) (Or.inl ⟨by rfl,?_⟩) ?_ ?_
         rotate_left
         ·intro w'
          go_simp
          with_reducible rfl
         rotate_left
         ·simp only [Act.put,List.setIfInBounds_toArray,List.set_cons_zero,List.set_cons_succ,i64_w,i32_w]
          rfl
         refine pure_ (i:=13) (N:=some 38) (v:=?_) (a':=?_) #[true,false,true,true,true,true,true,true,true,true,true,true,true,true,false,false,false,false,false,false,false,false] rfl rfl (any_of HT_.out (by kernel_rfl)) (fun _ _ _ h=>h) (Or.inl ⟨by rfl,?_⟩) ?_ ?_
         rotate_left
         ·intro w'
          go_simp
          with_reducible rfl
         rotate_left
         ·simp only [Act.put,List.setIfInBounds_toArray,List.set_cons_zero,List.set_cons_succ,i64_w,i32_w]
          rfl
         refine pure_ (i:=14) (N:=some 39) (v:=?_) (a':=?_) #[true,false,true,true,true,true,true,true,true,true,true,true,true,true,true,false,false,false,false,false,false,false] rfl rfl (any_of HT_.out (by kernel_rfl)) (fun _ _ _ h=>h) (Or.inl ⟨by rfl,?_⟩) ?_ ?_
         rotate_left
         ·intro w'
          go_simp
          with_reducible rfl
         rotate_left
         ·simp only [Act.put,List.setIfInBounds_toArray,List.set_cons_zero,List.set_cons_succ,i64_w,i32_w]
          rfl
         refine pure_ (i:=15) (N:=some 40) (v:=?_) (a':=?_) #[true,false,true,true,true,true,true,true,true,true,true,true,true,true,true,true,false,false,false,false,false,false] rfl rfl (any_of HT_.out (by kernel_rfl)) (fun _ _ _ h=>h) (Or.inl ⟨by rfl,?_⟩) ?_ ?_
         rotate_left
         ·intro w'
          go_simp
          with_reducible rfl
         rotate_left
         ·simp only [Act.put,List.setIfInBounds_toArray,List.set_cons_zero,List.set_cons_succ,i64_w,i32_w]
          rfl
         refine pure_ (i:=16) (N:=some 41) (v:=?_) (a':=?_) #[true,false,true,true,true,true,true,true,true,true,true,true,true,true,true,true,true,false,false,false,false,false] rfl rfl (any_of HT_.out (by kernel_rfl)) (fun _ _ _ h=>h) (Or.inl ⟨by rfl,?_⟩) ?_ ?_
         rotate_left
         ·intro w'
          go_simp
          with_reducible rfl
         rotate_left
         ·simp only [Act.put,List.setIfInBounds_toArray,List.set_cons_zero,List.set_cons_succ,i64_w,i32_w]
          rfl
         refine pure_ (i:=17) (N:=some 42) (v:=?_) (a':=?_) #[true,false,true,true,true,true,true,true,true,true,true,true,true,true,true,true,true,true,false,false,false,false] rfl rfl (any_of HT_.out (by kernel_rfl)) (fun _ _ _ h=>h) (Or.inl ⟨by rfl,?_⟩) ?_ ?_
         rotate_left
         ·intro w'
          go_simp
          with_reducible rfl
         rotate_left
         ·simp only [Act.put,List.setIfInBounds_toArray,List.set_cons_zero,List.set_cons_succ,i64_w,i32_w]
          rfl
         refine take_ (i:=1) (N:=some 26) (v:=?_) (a':=?_) #[true,true,true,true,true,true,true,true,true,true,true,true,true,true,true,true,true,true,false,false,false,false] rfl rfl (take_ofW HT_.out HW_.out (by kernel_rfl)) (fun _ _ _ h=>h) (Or.inl ⟨by rfl,?_⟩) hHeld ?_ ?_
         rotate_left
         ·rintro w' ⟨s0,s1,s2⟩
          go_simp
          with_reducible rfl
         rotate_left
         ·simp only [Act.put,List.setIfInBounds_toArray,List.set_cons_zero,List.set_cons_succ,i64_w,i32_w]
          rfl
         refine one_ (i:=18) (N:=some 43) #[true,true,true,true,true,true,true,true,true,true,true,true,true,true,true,true,true,true,true,false,false,false] rfl rfl (one_of HT_.out (by kernel_rfl)) (by decide) (fun K hK=>?_)
         refine goes_ Try.func93 (by kernel_rfl) rfl #[.agg #[.int .i64 a0_0,.int .i64 a0_1,.slice A0_2 l0_2.length c0_2],.int .i64 (wrap64 ((wrap64 ((wrap64 ((Int.tmod a1 (wrap64 (Int.tdiv a0_0 4)))*4))+x12_2))+a2)),.int .i64 (wrap64 ((wrap64 ((wrap64 ((wrap64 (Int.tdiv a1 (wrap64 (Int.tdiv a0_0 4))))*4))+x11_1))+a3))] (by rfl) rfl rfl (by(try simp only [List.map_toArray,List.map_cons,List.map_nil]);first|done|rfl|(simp only [List.length_drop,List.length_take];rfl)) ?_
         with_reducible refine(spec_l14At.calls a0_0 a0_1 _ _ l0_2 (wrap64 ((wrap64 ((wrap64 ((Int.tmod a1 (wrap64 (Int.tdiv a0_0 4)))*4))+x12_2))+a2)) (wrap64 ((wrap64 ((wrap64 ((wrap64 (Int.tdiv a1 (wrap64 (Int.tdiv a0_0 4))))*4))+x11_1))+a3)) t171 _ ?side1 ?side2 A12.out).mono ?_
         (case side1=>repeat(first|exact(Kd.C_below HR0_2.out HB.out)|(with_reducible refine Kd.C_alloc ?_ _)|(with_reducible refine Kd.C_drewN ?_ _)|(with_reducible refine Kd.C_drew ?_)))
         (case side2=>exact HC0_2.out)
         rintro e w15 ⟨rfl,hb⟩
         refine⟨_,rfl,?_⟩
         have n0_:=Ha (Kd.R_below (by(with_reducible repeat(first|apply Hj|apply Hk|apply Hg));exact HO_9.out) hb)
         have n1_:=Ha (blk_below (g:=gb167) (o:=.cells #[.int .i64 a0_0,.int .i64 a0_1,.slice A0_2 l0_2.length c0_2] 27 (0,0)) (by(with_reducible repeat(first|refine Hi ?_ _|refine Hb ?_|refine Hh ?_ _));exact BK167.out) hb)
         have n2_:=Ha (below_step (by repeat(first|(with_reducible first|exact HB.out|apply He|apply Hc|apply Hd|refine Hf ?_ GE167.out)|exact HB.out)) hb)
         clear HO_9
         clear BK167
         clear HB
         have HO_9:=n0_
         have BK167:=n1_
         have HB:=n2_
         clear n0_ n1_ n2_
         (try clear hb)
         (try clear hb2)
         (try clear hk)
         (try clear hi)
         refine hK.out _ _ ⟨(Hm BK167.out 0).trans rfl,(Hm BK167.out 1).trans rfl,(Hm BK167.out 2).trans rfl⟩ (fun hHeld=>?_)
         clear hK K
         refine norm_ (a':=?_) ?_ ?_
         rotate_left
         ·show Act.put _ (some 43) _=_
          simp only [Act.put,List.setIfInBounds_toArray,List.set_cons_zero,List.set_cons_succ,i64_w,i32_w]
          rfl
         refine one_ (i:=19) (N:=some 44) #[true,true,true,true,true,true,true,true,true,true,true,true,true,true,true,true,true,true,true,true,false,false] rfl rfl (one_of HT_.out (by kernel_rfl)) (by decide) (fun K hK=>?_)
         refine value_ (w1:=?_) (v:=?_) (by rfl) rfl ?_ ?_
         rotate_left 2
         ·go_simp
          constructor
          ·rfl
          ·rfl
         refine hK.out _ _ ⟨(Hm (Hh BK167.out _) 0).trans rfl,(Hm (Hh BK167.out _) 1).trans rfl,(Hm (Hh BK167.out _) 2).trans rfl⟩ (fun hHeld=>?_)
         clear hK K
         refine norm_ (a':=?_) ?_ ?_
         rotate_left
         ·show Act.put _ (some 44) _=_
          simp only [Act.put,List.setIfInBounds_toArray,List.set_cons_zero,List.set_cons_succ,i64_w,i32_w]
          rfl
         refine one_ (i:=20) (N:=some 45) #[true,true,true,true,true,true,true,true,true,true,true,true,true,true,true,true,true,true,true,true,true,false] rfl rfl (one_of HT_.out (by kernel_rfl)) (by decide) (fun K hK=>?_)
         refine Kd.R_append_step (Kd.int .i64) (w0:=w) w.heap.size (by rfl) (.tmp 25) (.tmp 44) 22 2 (.int .i64 0) 8 rfl Try.underlying22 info2 rfl (by decide) (by omega) u9 x9_2 t171 [.int .i64 t171] (fun _=>True) (fun _=>False) rfl rfl ?aP (fun _ hk=>hk.elim) ?aF ?aO ?aB ?aS ?aL ?_
         (case aP=>exact rfl)
         (case aB=>exact(by repeat(first|(with_reducible first|exact HB.out|apply He|apply Hc|apply Hd|refine Hf ?_ GE167.out)|exact HB.out)))
         (case aF=>exact(fun _ _=>trivial))
         (case aO=>exact(by(with_reducible repeat(first|apply Hj|apply Hk|apply Hg));exact HO_9.out))
         (case aS=>exact(Hl (by repeat(first|(with_reducible first|exact HB.out|apply He|apply Hc|apply Hd|refine Hf ?_ GE167.out)|exact HB.out))))
         (case aL=>have:=LMc13.out;omega)
         intro v173 w16 ho hb hg hat
         rw [← Ny172.out] at ho
         have n0_:=Ha (blk_grown (g:=gb167) (o:=.cells #[.int .i64 a0_0,.int .i64 a0_1,.slice A0_2 l0_2.length c0_2] 27 (0,0)) (by(with_reducible repeat(first|refine Hi ?_ _|refine Hb ?_|refine Hh ?_ _));exact BK167.out) hg (Kd.R_ne HO_9.out BK167.out (by decide)))
         have n1_:=Ha (hb)
         have n2_:=Ha (ho)
         clear BK167
         clear HB
         clear HO_9
         have BK167:=n0_
         have HB:=n1_
         have HO174:=n2_
         clear n0_ n1_ n2_
         clear ho hb hg hat
         refine hK.out _ _ ⟨(Hm BK167.out 0).trans rfl,(Hm BK167.out 1).trans rfl,(Hm BK167.out 2).trans rfl⟩ (fun hHeld=>?_)
         clear hK K
         refine norm_ (a':=?_) ?_ ?_
         rotate_left
         ·show Act.put _ (some 45) _=_
          simp only [Act.put,List.setIfInBounds_toArray,List.set_cons_zero,List.set_cons_succ,i64_w,i32_w]
          rfl
         refine pure_ (i:=21) (N:=some 9) (v:=?_) (a':=?_) #[true,true,true,true,true,true,true,true,true,true,true,true,true,true,true,true,true,true,true,true,true,true] rfl rfl (any_of HT_.out (by kernel_rfl)) (fun _ _ _ h=>h) (Or.inl ⟨by rfl,?_⟩) ?_ ?_
         rotate_left
         ·intro w'
          go_simp
          with_reducible rfl
         rotate_left
         ·simp only [Act.put,List.setIfInBounds_toArray,List.set_cons_zero,List.set_cons_succ,i64_w,i32_w]
          rfl
         refine done_ (done_of HT_.out (by kernel_rfl)) ?_
         try go_wp2
         go_roundg k2
         case measure=>have:=HK1.out;have:=HK2.out;omega
         case rel=>exact⟨(y172),(wrap64 (x12_2+1)),(by first|rfl|(simp;done)|(simp [*];done)),H',⟨by have:=HK1.out;have:=HK2.out;omega⟩,⟨by(with_reducible repeat(first|apply Hj|apply Hk|apply Hg));exact HO174.out⟩,⟨by(with_reducible repeat(first|refine Hi ?_ _|refine Hb ?_|refine Hh ?_ _));exact BK167.out⟩,⟨by repeat(first|(with_reducible first|exact HB.out|apply He|apply Hc|apply Hd|refine Hf ?_ GE167.out)|exact HB.out)⟩⟩
        ·rw [if_neg c13] at H
         exact absurd H (by simp)
      ·rw [if_neg c10] at H
       have c10b0:decide (x12_2 < 4)=false:=decide_eq_false c10
       clear c10
       have H':=Ha H
       clear H
       go_wp2
       go_roundg k2
       case measure=>have:=HK1.out;have:=HK2.out;omega
       case rel=>exact⟨(x9_2),(wrap64 (x11_1+1)),(by first|rfl|(simp;done)|(simp [*];done)),H',⟨by have:=HK1.out;have:=HK2.out;omega⟩,⟨by(with_reducible repeat(first|apply Hj|apply Hk|apply Hg));exact HO_9.out⟩,⟨by(with_reducible repeat(first|refine Hi ?_ _|refine Hb ?_|refine Hh ?_ _));exact BK167.out⟩,⟨by repeat(first|(with_reducible first|exact HB.out|apply He|apply Hc|apply Hd|refine Hf ?_ GE167.out)|exact HB.out)⟩⟩
   ·rw [if_neg c9] at H
    have c9b0:decide (x11_1 < 4)=false:=decide_eq_false c9
    clear c9
    obtain rfl:=Option.some.inj H
    go_wp2
    go_ret
    exact⟨_,by first|rfl|(simp [errW_none,errW_some] <;> rfl)|(simp [*,errW_none,errW_some] <;> rfl),by(with_reducible repeat(first|apply Hj|apply Hk|apply Hg));exact HO_9.out,by repeat(first|(with_reducible first|exact HB.out|apply He|apply Hc|apply Hd|refine Hf ?_ GE167.out)|exact HB.out)⟩

/-! ### spec_l1Abs: function 86 -/
def spec_l1Abs.f (a0 : Int) : Option (Int) := if a0 < 0 then (some (wrap64 (-a0))) else (some a0)
set_option maxHeartbeats 8000000 in
set_option maxRecDepth 100000 in
theorem spec_l1Abs.calls (a0 : Int) (r : Int) (w : World) (h : spec_l1Abs.f a0 = some r) :
  Calls Try.prog 86 #[.int .i64 a0] w fun e w'=>e=.returned (.int .i64 r)∧Drawn0 w w':=by
 have H:(if a0 < 0 then (some (wrap64 (-a0))) else (some a0))=some r:=h
 clear h
 by_cases c2:a0 < 0
 ·rw [if_pos c2] at H
  have c2b0:decide (a0 < 0)=true:=decide_eq_true c2
  clear c2
  obtain rfl:=Option.some.inj H
  go_enter Try.func86,Try.ntmps86
  go_wp2
  go_ret
  exact⟨by first|rfl|(simp;done)|(simp [*];done),by repeat(first|exact Drawn0.refl _|apply Drawn0.step)⟩
 ·rw [if_neg c2] at H
  have c2b0:decide (a0 < 0)=false:=decide_eq_false c2
  clear c2
  obtain rfl:=Option.some.inj H
  go_enter Try.func86,Try.ntmps86
  go_wp2
  go_ret
  exact⟨by first|rfl|(simp;done)|(simp [*];done),by repeat(first|exact Drawn0.refl _|apply Drawn0.step)⟩

/-! ### spec_l14Motion: function 68 -/
mutual
def spec_l14Motion.l0 : Nat → Int → Int → Int → Int → List Int → Int → Int → Int → List Int → Option (Int × Int)
 | 0, _, _, _, _, _, _, _, _, _ => none
 | k + 1, x2, x8, x9, x10, x11, x12, x176000, x176001, x176002 => if x12 ≤ 8 then (spec_l14Motion.l1 k x2 x8 x9 x10 x11 x12 (-2) x176000 x176001 x176002) else (some (x8, x9))
def spec_l14Motion.l1 : Nat → Int → Int → Int → Int → List Int → Int → Int → Int → Int → List Int → Option (Int × Int)
 | 0, _, _, _, _, _, _, _, _, _, _ => none
 | k + 1, x2, x8, x9, x10, x11, x12, x13, x176000, x176001, x176002 => if x13 ≤ 2 then (spec_l14Motion.l2 k x2 x8 x9 x10 x11 x12 x13 (-2) x176000 x176001 x176002) else (spec_l14Motion.l0 k x2 x8 x9 x10 x11 (wrap64 (x12 + 1)) x176000 x176001 x176002)
def spec_l14Motion.l2 : Nat → Int → Int → Int → Int → List Int → Int → Int → Int → Int → Int → List Int → Option (Int × Int)
 | 0, _, _, _, _, _, _, _, _, _, _, _ => none
 | k + 1, x2, x8, x9, x10, x11, x12, x13, x14, x176000, x176001, x176002 => if x14 ≤ 2 then (if (wrap64 ((wrap64 (x14 * x14)) + (wrap64 (x13 * x13)))) = x12 then ((spec_l14Block.f k x176000 x176001 x176002 x2 x14 x13).bind fun t180 => (spec_l14Motion.l3 k x2 x8 x9 x10 x11 x12 x13 x14 0 t180 0 x176000 x176001 x176002)) else (spec_l14Motion.l2 k x2 x8 x9 x10 x11 x12 x13 (wrap64 (x14 + 1)) x176000 x176001 x176002)) else (spec_l14Motion.l1 k x2 x8 x9 x10 x11 x12 (wrap64 (x13 + 1)) x176000 x176001 x176002)
def spec_l14Motion.l3 : Nat → Int → Int → Int → Int → List Int → Int → Int → Int → Int → List Int → Int → Int → Int → List Int → Option (Int × Int)
 | 0, _, _, _, _, _, _, _, _, _, _, _, _, _, _ => none
 | k + 1, x2, x8, x9, x10, x11, x12, x13, x14, x15, x16, x17, x176000, x176001, x176002 => if x17 < 16 then (if 0 ≤ x17 then (if x17 < (x11.length : Int) then (if x17 < (x16.length : Int) then ((spec_l1Abs.f (wrap64 ((rd x11 x17) - (rd x16 x17)))).bind fun t185 => (spec_l14Motion.l3 k x2 x8 x9 x10 x11 x12 x13 x14 (wrap64 (x15 + t185)) x16 (wrap64 (x17 + 1)) x176000 x176001 x176002)) else (none)) else (none)) else (none)) else (if x10 < 0 then (spec_l14Motion.l2 k x2 x14 x13 x15 x11 x12 x13 (wrap64 (x14 + 1)) x176000 x176001 x176002) else (if x15 < x10 then (spec_l14Motion.l2 k x2 x14 x13 x15 x11 x12 x13 (wrap64 (x14 + 1)) x176000 x176001 x176002) else (spec_l14Motion.l2 k x2 x8 x9 x10 x11 x12 x13 (wrap64 (x14 + 1)) x176000 x176001 x176002)))
end
def spec_l14Motion.f (k : Nat) (a0_0 : Int) (a0_1 : Int) (l0_2 : List Int) (a1_0 : Int) (a1_1 : Int) (l1_2 : List Int) (a2 : Int) : Option (Int × Int) := (spec_l14Block.f k a1_0 a1_1 l1_2 a2 0 0).bind fun t177 => (spec_l14Motion.l0 k a2 0 0 (-1) t177 0 a0_0 a0_1 l0_2)
theorem spec_l14Motion.mono_l : ∀ k, (∀ y0 y1 y2 y3 y4 y5 y6 y7 y8, LeO (spec_l14Motion.l0 k y0 y1 y2 y3 y4 y5 y6 y7 y8) (spec_l14Motion.l0 (k + 1) y0 y1 y2 y3 y4 y5 y6 y7 y8)) ∧ (∀ y0 y1 y2 y3 y4 y5 y6 y7 y8 y9, LeO (spec_l14Motion.l1 k y0 y1 y2 y3 y4 y5 y6 y7 y8 y9) (spec_l14Motion.l1 (k + 1) y0 y1 y2 y3 y4 y5 y6 y7 y8 y9)) ∧ (∀ y0 y1 y2 y3 y4 y5 y6 y7 y8 y9 y10, LeO (spec_l14Motion.l2 k y0 y1 y2 y3 y4 y5 y6 y7 y8 y9 y10) (spec_l14Motion.l2 (k + 1) y0 y1 y2 y3 y4 y5 y6 y7 y8 y9 y10)) ∧ (∀ y0 y1 y2 y3 y4 y5 y6 y7 y8 y9 y10 y11 y12 y13, LeO (spec_l14Motion.l3 k y0 y1 y2 y3 y4 y5 y6 y7 y8 y9 y10 y11 y12 y13) (spec_l14Motion.l3 (k + 1) y0 y1 y2 y3 y4 y5 y6 y7 y8 y9 y10 y11 y12 y13))
 | 0 => ⟨fun _ _ _ _ _ _ _ _ _ r h => by simp [spec_l14Motion.l0] at h, fun _ _ _ _ _ _ _ _ _ _ r h => by simp [spec_l14Motion.l1] at h, fun _ _ _ _ _ _ _ _ _ _ _ r h => by simp [spec_l14Motion.l2] at h, fun _ _ _ _ _ _ _ _ _ _ _ _ _ _ r h => by simp [spec_l14Motion.l3] at h⟩
 | k + 1 => by
  obtain⟨ih0,ih1,ih2,ih3⟩:=spec_l14Motion.mono_l k
  refine⟨?_,?_,?_,?_⟩
  ·intro y0 y1 y2 y3 y4 y5 y6 y7 y8
   unfold spec_l14Motion.l0
   repeat' first
   | (with_reducible exact ih0 _ _ _ _ _ _ _ _ _)
   | (with_reducible exact ih1 _ _ _ _ _ _ _ _ _ _)
   | (with_reducible exact ih2 _ _ _ _ _ _ _ _ _ _ _)
   | (with_reducible exact ih3 _ _ _ _ _ _ _ _ _ _ _ _ _ _)
   | (with_reducible exact spec_l14Block.mono _ _ _ _ _ _ _)
   | (with_reducible exact LeO.refl _)
   | (with_reducible exact LeO.none _)
   | (with_reducible refine LeO.ite ?_ ?_)
   | (with_reducible refine LeO.bind ?_ (fun _ => ?_))
   | exact ih0 _ _ _ _ _ _ _ _ _
   | exact ih1 _ _ _ _ _ _ _ _ _ _
   | exact ih2 _ _ _ _ _ _ _ _ _ _ _
   | exact ih3 _ _ _ _ _ _ _ _ _ _ _ _ _ _
   | exact spec_l14Block.mono _ _ _ _ _ _ _
   | exact LeO.none _
   | refine LeO.ite ?_ ?_
   | refine LeO.bind ?_ (fun _ => ?_)
  ·intro y0 y1 y2 y3 y4 y5 y6 y7 y8 y9
   unfold spec_l14Motion.l1
   repeat' first
   | (with_reducible exact ih0 _ _ _ _ _ _ _ _ _)
   | (with_reducible exact ih1 _ _ _ _ _ _ _ _ _ _)
   | (with_reducible exact ih2 _ _ _ _ _ _ _ _ _ _ _)
   | (with_reducible exact ih3 _ _ _ _ _ _ _ _ _ _ _ _ _ _)
   | (with_reducible exact spec_l14Block.mono _ _ _ _ _ _ _)
   | (with_reducible exact LeO.refl _)
   | (with_reducible exact LeO.none _)
   | (with_reducible refine LeO.ite ?_ ?_)
   | (with_reducible refine LeO.bind ?_ (fun _ => ?_))
   | exact ih0 _ _ _ _ _ _ _ _ _
   | exact ih1 _ _ _ _ _ _ _ _ _ _
   | exact ih2 _ _ _ _ _ _ _ _ _ _ _
   | exact ih3 _ _ _ _ _ _ _ _ _ _ _ _ _ _
   | exact spec_l14Block.mono _ _ _ _ _ _ _
   | exact LeO.none _
   | refine LeO.ite ?_ ?_
   | refine LeO.bind ?_ (fun _ => ?_)
  ·intro y0 y1 y2 y3 y4 y5 y6 y7 y8 y9 y10
   unfold spec_l14Motion.l2
   repeat' first
   | (with_reducible exact ih0 _ _ _ _ _ _ _ _ _)
   | (with_reducible exact ih1 _ _ _ _ _ _ _ _ _ _)
   | (with_reducible exact ih2 _ _ _ _ _ _ _ _ _ _ _)
   | (with_reducible exact ih3 _ _ _ _ _ _ _ _ _ _ _ _ _ _)
   | (with_reducible exact spec_l14Block.mono _ _ _ _ _ _ _)
   | (with_reducible exact LeO.refl _)
   | (with_reducible exact LeO.none _)
   | (with_reducible refine LeO.ite ?_ ?_)
   | (with_reducible refine LeO.bind ?_ (fun _ => ?_))
   | exact ih0 _ _ _ _ _ _ _ _ _
   | exact ih1 _ _ _ _ _ _ _ _ _ _
   | exact ih2 _ _ _ _ _ _ _ _ _ _ _
   | exact ih3 _ _ _ _ _ _ _ _ _ _ _ _ _ _
   | exact spec_l14Block.mono _ _ _ _ _ _ _
   | exact LeO.none _
   | refine LeO.ite ?_ ?_
   | refine LeO.bind ?_ (fun _ => ?_)
  ·intro y0 y1 y2 y3 y4 y5 y6 y7 y8 y9 y10 y11 y12 y13
   unfold spec_l14Motion.l3
   repeat' first
   | (with_reducible exact ih0 _ _ _ _ _ _ _ _ _)
   | (with_reducible exact ih1 _ _ _ _ _ _ _ _ _ _)
   | (with_reducible exact ih2 _ _ _ _ _ _ _ _ _ _ _)
   | (with_reducible exact ih3 _ _ _ _ _ _ _ _ _ _ _ _ _ _)
   | (with_reducible exact spec_l14Block.mono _ _ _ _ _ _ _)
   | (with_reducible exact LeO.refl _)
   | (with_reducible exact LeO.none _)
   | (with_reducible refine LeO.ite ?_ ?_)
   | (with_reducible refine LeO.bind ?_ (fun _ => ?_))
   | exact ih0 _ _ _ _ _ _ _ _ _
   | exact ih1 _ _ _ _ _ _ _ _ _ _
   | exact ih2 _ _ _ _ _ _ _ _ _ _ _
   | exact ih3 _ _ _ _ _ _ _ _ _ _ _ _ _ _
   | exact spec_l14Block.mono _ _ _ _ _ _ _
   | exact LeO.none _
   | refine LeO.ite ?_ ?_
   | refine LeO.bind ?_ (fun _ => ?_)
theorem spec_l14Motion.mono : ∀ a0 a1 a2 a3 a4 a5 a6 k, LeO (spec_l14Motion.f k a0 a1 a2 a3 a4 a5 a6) (spec_l14Motion.f (k + 1) a0 a1 a2 a3 a4 a5 a6) := by
 intro a0 a1 a2 a3 a4 a5 a6 k
 obtain⟨ih0,ih1,ih2,ih3⟩:=spec_l14Motion.mono_l k
 unfold spec_l14Motion.f
 repeat' first
   | (with_reducible exact ih0 _ _ _ _ _ _ _ _ _)
   | (with_reducible exact ih1 _ _ _ _ _ _ _ _ _ _)
   | (with_reducible exact ih2 _ _ _ _ _ _ _ _ _ _ _)
   | (with_reducible exact ih3 _ _ _ _ _ _ _ _ _ _ _ _ _ _)
   | (with_reducible exact spec_l14Block.mono _ _ _ _ _ _ _)
   | (with_reducible exact LeO.refl _)
   | (with_reducible exact LeO.none _)
   | (with_reducible refine LeO.ite ?_ ?_)
   | (with_reducible refine LeO.bind ?_ (fun _ => ?_))
   | exact ih0 _ _ _ _ _ _ _ _ _
   | exact ih1 _ _ _ _ _ _ _ _ _ _
   | exact ih2 _ _ _ _ _ _ _ _ _ _ _
   | exact ih3 _ _ _ _ _ _ _ _ _ _ _ _ _ _
   | exact spec_l14Block.mono _ _ _ _ _ _ _
   | exact LeO.none _
   | refine LeO.ite ?_ ?_
   | refine LeO.bind ?_ (fun _ => ?_)
set_option maxHeartbeats 8000000 in
set_option maxRecDepth 100000 in
theorem spec_l14Motion.calls (k : Nat) (a0_0 : Int) (a0_1 : Int) (A0_2 : Option Addr) (c0_2 : Nat) (l0_2 : List Int) (a1_0 : Int) (a1_1 : Int) (A1_2 : Option Addr) (c1_2 : Nat) (l1_2 : List Int) (a2 : Int) (r1 : Int) (r2 : Int) (w : World) (hr0_2 : Kd.C (Kd.int .i64) w A0_2 l0_2.length l0_2) (hc0_2 : l0_2.length ≤ c0_2) (hr1_2 : Kd.C (Kd.int .i64) w A1_2 l1_2.length l1_2) (hc1_2 : l1_2.length ≤ c1_2) (h : spec_l14Motion.f k a0_0 a0_1 l0_2 a1_0 a1_1 l1_2 a2 = some (r1, r2)) :
  Calls Try.prog 68 #[.agg #[.int .i64 a0_0,.int .i64 a0_1,.slice A0_2 l0_2.length c0_2],.agg #[.int .i64 a1_0,.int .i64 a1_1,.slice A1_2 l1_2.length c1_2],.int .i64 a2] w fun e w'=>e=.returned (.tuple #[.int .i64 r1,.int .i64 r2])∧Below w.heap.size w w':=by
 have hu27:=Try.underlying27
 have HR0_2:=Ha hr0_2
 have HC0_2:=Ha hc0_2
 clear hr0_2 hc0_2
 have HR1_2:=Ha hr1_2
 have HC1_2:=Ha hc1_2
 clear hr1_2 hc1_2
 have HB:=Ha (Below.refl w.heap.size w)
 have H:((spec_l14Block.f k a1_0 a1_1 l1_2 a2 0 0).bind fun t177=>(spec_l14Motion.l0 k a2 0 0 (-1) t177 0 a0_0 a0_1 l0_2))=some (r1,r2):=h
 clear h
 replace H:=Option.bind_eq_some_iff.mp H
 obtain⟨t177,A40,H⟩:=H
 replace H:(spec_l14Motion.l0 k a2 0 0 (-1) t177 0 a0_0 a0_1 l0_2)=some (r1,r2):=H
 have A4:=Ha A40
 clear A40
 have H':=Ha H
 clear H
 go_enter Try.func68,Try.ntmps68
 go_wp2_with (first|((with_reducible refine gate_dst (N:=3) rfl ?_);refine box_event ?hg (N:=3) ?hd (cs:=#[.int .i64 a0_0,.int .i64 a0_1,.slice A0_2 l0_2.length c0_2]) (t:=27) ?hr ?_;(case hd=>rfl);(case hg=>rfl);(case hr=>first|(go_simp;done)|(go_simp;rfl));intro qc hg w5 hbox hb;have n0_:=Ha (below_step (by repeat(first|(with_reducible first|exact HB.out|apply He|apply Hc|apply Hd)|exact HB.out)) hb);have n1_:=Ha (hbox);have n2_:=Ha ((by rw [hg];exact(Hl (by repeat(first|(with_reducible first|exact HB.out|apply He|apply Hc|apply Hd)|exact HB.out))):w.heap.size≤qc));have n3_:=Ha ((by rw [hg];exact(Hl (by repeat(first|(with_reducible first|exact HB.out|apply He|apply Hc|apply Hd)|exact HB.out))):w.heap.size≤qc));clear HB;have HB:=n0_;have qa:=n1_;have GW175:=n2_;have qd:=n3_;clear n0_ n1_ n2_ n3_;clear hb hbox hg)|((with_reducible refine gate_dst (N:=4) rfl ?_);refine box_event ?hg (N:=4) ?hd (cs:=#[.int .i64 a1_0,.int .i64 a1_1,.slice A1_2 l1_2.length c1_2]) (t:=27) ?hr ?_;(case hd=>rfl);(case hg=>rfl);(case hr=>first|(go_simp;done)|(go_simp;rfl));intro qe hg w6 hbox hb;have n0_:=Ha (blk_below (g:=qc) (o:=.cells #[.int .i64 a0_0,.int .i64 a0_1,.slice A0_2 l0_2.length c0_2] 27 (0,0)) (by(with_reducible repeat(first|refine Hi ?_ _|refine Hb ?_|refine Hh ?_ _));exact qa.out) hb);have n1_:=Ha (below_step (by repeat(first|(with_reducible first|exact HB.out|apply He|apply Hc|apply Hd|refine Hf ?_ qd.out)|exact HB.out)) hb);have n2_:=Ha (hbox);have n3_:=Ha ((by rw [hg];exact(Hl (by repeat(first|(with_reducible first|exact HB.out|apply He|apply Hc|apply Hd|refine Hf ?_ qd.out)|exact HB.out))):w.heap.size≤qe));have n4_:=Ha ((by rw [hg];exact(Hl (by repeat(first|(with_reducible first|exact HB.out|apply He|apply Hc|apply Hd|refine Hf ?_ qd.out)|exact HB.out))):w.heap.size≤qe));have n5_:=Ha ((by rw [hg];exact Nat.ne_of_lt (blk_lt (g:=qc) (o:=.cells #[.int .i64 a0_0,.int .i64 a0_1,.slice A0_2 l0_2.length c0_2] 27 (0,0)) (by(with_reducible repeat(first|refine Hi ?_ _|refine Hb ?_|refine Hh ?_ _));exact qa.out)):qc≠qe));have n6_:=Ha ((by rw [hg];exact Nat.ne_of_gt (blk_lt (g:=qc) (o:=.cells #[.int .i64 a0_0,.int .i64 a0_1,.slice A0_2 l0_2.length c0_2] 27 (0,0)) (by(with_reducible repeat(first|refine Hi ?_ _|refine Hb ?_|refine Hh ?_ _));exact qa.out)):qe≠qc));clear qa;clear HB;have qa:=n0_;have HB:=n1_;have qb:=n2_;have GW176:=n3_;have qh:=n4_;have ql:=n5_;have qm:=n6_;clear n0_ n1_ n2_ n3_ n4_ n5_ n6_;clear hb hbox hg;have hnb7:=qm.out;have hnc7:=ql.out;have hcz8_0:w6.cell? ⟨qe,0,none⟩=some (.int .i64 a1_0):=(Hm qb.out 0).trans rfl;have hcz8_1:w6.cell? ⟨qe,1,none⟩=some (.int .i64 a1_1):=(Hm qb.out 1).trans rfl;have hcz8_2:w6.cell? ⟨qe,2,none⟩=some (.slice A1_2 l1_2.length c1_2):=(Hm qb.out 2).trans rfl;have hfz8_0:=blk_frozen qb.out 0;have hfz8_1:=blk_frozen qb.out 1;have hfz8_2:=blk_frozen qb.out 2)|(go_at_call 73;(with_reducible refine(spec_l14Block.calls k a1_0 a1_1 _ _ l1_2 a2 0 0 t177 _ ?side1 ?side2 A4.out).mono ?_);(case side1=>repeat(first|exact(Kd.C_below HR1_2.out HB.out)|(with_reducible refine Kd.C_alloc ?_ _)|(with_reducible refine Kd.C_drewN ?_ _)|(with_reducible refine Kd.C_drew ?_)));(case side2=>exact HC1_2.out);rintro e w9 ⟨v178,rfl,qp,hb⟩;have n0_:=Ha (Kd.R_lower qp (Hl (by repeat(first|(with_reducible first|exact HB.out|apply He|apply Hc|apply Hd|refine Hf ?_ qd.out|refine Hf ?_ qh.out)|exact HB.out))));have n1_:=Ha (blk_below (g:=qc) (o:=.cells #[.int .i64 a0_0,.int .i64 a0_1,.slice A0_2 l0_2.length c0_2] 27 (0,0)) (by(with_reducible repeat(first|refine Hi ?_ _|refine Hb ?_|refine Hh ?_ _));exact qa.out) hb);have n2_:=Ha (blk_below (g:=qe) (o:=.cells #[.int .i64 a1_0,.int .i64 a1_1,.slice A1_2 l1_2.length c1_2] 27 (0,0)) (by(with_reducible repeat(first|refine Hi ?_ _|refine Hb ?_|refine Hh ?_ _));exact qb.out) hb);have n3_:=Ha (below_step (by repeat(first|(with_reducible first|exact HB.out|apply He|apply Hc|apply Hd|refine Hf ?_ qd.out|refine Hf ?_ qh.out)|exact HB.out)) hb);clear qa;clear qb;clear HB;have HO179:=n0_;have qa:=n1_;have qb:=n2_;have HB:=n3_;clear n0_ n1_ n2_ n3_;(try clear hb);(try clear hb2);(try clear hk);(try clear hi);(try clear qp)))
 repeat(go_quiet (first|((with_reducible refine gate_dst (N:=3) rfl ?_);refine box_event ?hg (N:=3) ?hd (cs:=#[.int .i64 a0_0,.int .i64 a0_1,.slice A0_2 l0_2.length c0_2]) (t:=27) ?hr ?_;(case hd=>rfl);(case hg=>rfl);(case hr=>first|(go_simp;done)|(go_simp;rfl));intro qc hg w5 hbox hb;have n0_:=Ha (below_step (by repeat(first|(with_reducible first|exact HB.out|apply He|apply Hc|apply Hd)|exact HB.out)) hb);have n1_:=Ha (hbox);have n2_:=Ha ((by rw [hg];exact(Hl (by repeat(first|(with_reducible first|exact HB.out|apply He|apply Hc|apply Hd)|exact HB.out))):w.heap.size≤qc));have n3_:=Ha ((by rw [hg];exact(Hl (by repeat(first|(with_reducible first|exact HB.out|apply He|apply Hc|apply Hd)|exact HB.out))):w.heap.size≤qc));clear HB;have HB:=n0_;have qa:=n1_;have GW175:=n2_;have qd:=n3_;clear n0_ n1_ n2_ n3_;clear hb hbox hg)|((with_reducible refine gate_dst (N:=4) rfl ?_);refine box_event ?hg (N:=4) ?hd (cs:=#[.int .i64 a1_0,.int .i64 a1_1,.slice A1_2 l1_2.length c1_2]) (t:=27) ?hr ?_;(case hd=>rfl);(case hg=>rfl);(case hr=>first|(go_simp;done)|(go_simp;rfl));intro qe hg w6 hbox hb;have n0_:=Ha (blk_below (g:=qc) (o:=.cells #[.int .i64 a0_0,.int .i64 a0_1,.slice A0_2 l0_2.length c0_2] 27 (0,0)) (by(with_reducible repeat(first|refine Hi ?_ _|refine Hb ?_|refine Hh ?_ _));exact qa.out) hb);have n1_:=Ha (below_step (by repeat(first|(with_reducible first|exact HB.out|apply He|apply Hc|apply Hd|refine Hf ?_ qd.out)|exact HB.out)) hb);have n2_:=Ha (hbox);have n3_:=Ha ((by rw [hg];exact(Hl (by repeat(first|(with_reducible first|exact HB.out|apply He|apply Hc|apply Hd|refine Hf ?_ qd.out)|exact HB.out))):w.heap.size≤qe));have n4_:=Ha ((by rw [hg];exact(Hl (by repeat(first|(with_reducible first|exact HB.out|apply He|apply Hc|apply Hd|refine Hf ?_ qd.out)|exact HB.out))):w.heap.size≤qe));have n5_:=Ha ((by rw [hg];exact Nat.ne_of_lt (blk_lt (g:=qc) (o:=.cells #[.int .i64 a0_0,.int .i64 a0_1,.slice A0_2 l0_2.length c0_2] 27 (0,0)) (by(with_reducible repeat(first|refine Hi ?_ _|refine Hb ?_|refine Hh ?_ _));exact qa.out)):qc≠qe));have n6_:=Ha ((by rw [hg];exact Nat.ne_of_gt (blk_lt (g:=qc) (o:=.cells #[.int .i64 a0_0,.int .i64 a0_1,.slice A0_2 l0_2.length c0_2] 27 (0,0)) (by(with_reducible repeat(first|refine Hi ?_ _|refine Hb ?_|refine Hh ?_ _));exact qa.out)):qe≠qc));clear qa;clear HB;have qa:=n0_;have HB:=n1_;have qb:=n2_;have GW176:=n3_;have qh:=n4_;have ql:=n5_;have qm:=n6_;clear n0_ n1_ n2_ n3_ n4_ n5_ n6_;clear hb hbox hg;have hnb7:=qm.out;have hnc7:=ql.out;have hcz8_0:w6.cell? ⟨qe,0,none⟩=some (.int .i64 a1_0):=(Hm qb.out 0).trans rfl;have hcz8_1:w6.cell? ⟨qe,1,none⟩=some (.int .i64 a1_1):=(Hm qb.out 1).trans rfl;have hcz8_2:w6.cell? ⟨qe,2,none⟩=some (.slice A1_2 l1_2.length c1_2):=(Hm qb.out 2).trans rfl;have hfz8_0:=blk_frozen qb.out 0;have hfz8_1:=blk_frozen qb.out 1;have hfz8_2:=blk_frozen qb.out 2)|(go_at_call 73;(with_reducible refine(spec_l14Block.calls k a1_0 a1_1 _ _ l1_2 a2 0 0 t177 _ ?side1 ?side2 A4.out).mono ?_);(case side1=>repeat(first|exact(Kd.C_below HR1_2.out HB.out)|(with_reducible refine Kd.C_alloc ?_ _)|(with_reducible refine Kd.C_drewN ?_ _)|(with_reducible refine Kd.C_drew ?_)));(case side2=>exact HC1_2.out);rintro e w9 ⟨v178,rfl,qp,hb⟩;have n0_:=Ha (Kd.R_lower qp (Hl (by repeat(first|(with_reducible first|exact HB.out|apply He|apply Hc|apply Hd|refine Hf ?_ qd.out|refine Hf ?_ qh.out)|exact HB.out))));have n1_:=Ha (blk_below (g:=qc) (o:=.cells #[.int .i64 a0_0,.int .i64 a0_1,.slice A0_2 l0_2.length c0_2] 27 (0,0)) (by(with_reducible repeat(first|refine Hi ?_ _|refine Hb ?_|refine Hh ?_ _));exact qa.out) hb);have n2_:=Ha (blk_below (g:=qe) (o:=.cells #[.int .i64 a1_0,.int .i64 a1_1,.slice A1_2 l1_2.length c1_2] 27 (0,0)) (by(with_reducible repeat(first|refine Hi ?_ _|refine Hb ?_|refine Hh ?_ _));exact qb.out) hb);have n3_:=Ha (below_step (by repeat(first|(with_reducible first|exact HB.out|apply He|apply Hc|apply Hd|refine Hf ?_ qd.out|refine Hf ?_ qh.out)|exact HB.out)) hb);clear qa;clear qb;clear HB;have HO179:=n0_;have qa:=n1_;have qb:=n2_;have HB:=n3_;clear n0_ n1_ n2_ n3_;(try clear hb);(try clear hb2);(try clear hk);(try clear hi);(try clear qp)));try go_wp2_with (first|((with_reducible refine gate_dst (N:=3) rfl ?_);refine box_event ?hg (N:=3) ?hd (cs:=#[.int .i64 a0_0,.int .i64 a0_1,.slice A0_2 l0_2.length c0_2]) (t:=27) ?hr ?_;(case hd=>rfl);(case hg=>rfl);(case hr=>first|(go_simp;done)|(go_simp;rfl));intro qc hg w5 hbox hb;have n0_:=Ha (below_step (by repeat(first|(with_reducible first|exact HB.out|apply He|apply Hc|apply Hd)|exact HB.out)) hb);have n1_:=Ha (hbox);have n2_:=Ha ((by rw [hg];exact(Hl (by repeat(first|(with_reducible first|exact HB.out|apply He|apply Hc|apply Hd)|exact HB.out))):w.heap.size≤qc));have n3_:=Ha ((by rw [hg];exact(Hl (by repeat(first|(with_reducible first|exact HB.out|apply He|apply Hc|apply Hd)|exact HB.out))):w.heap.size≤qc));clear HB;have HB:=n0_;have qa:=n1_;have GW175:=n2_;have qd:=n3_;clear n0_ n1_ n2_ n3_;clear hb hbox hg)|((with_reducible refine gate_dst (N:=4) rfl ?_);refine box_event ?hg (N:=4) ?hd (cs:=#[.int .i64 a1_0,.int .i64 a1_1,.slice A1_2 l1_2.length c1_2]) (t:=27) ?hr ?_;(case hd=>rfl);(case hg=>rfl);(case hr=>first|(go_simp;done)|(go_simp;rfl));intro qe hg w6 hbox hb;have n0_:=Ha (blk_below (g:=qc) (o:=.cells #[.int .i64 a0_0,.int .i64 a0_1,.slice A0_2 l0_2.length c0_2] 27 (0,0)) (by(with_reducible repeat(first|refine Hi ?_ _|refine Hb ?_|refine Hh ?_ _));exact qa.out) hb);have n1_:=Ha (below_step (by repeat(first|(with_reducible first|exact HB.out|apply He|apply Hc|apply Hd|refine Hf ?_ qd.out)|exact HB.out)) hb);have n2_:=Ha (hbox);have n3_:=Ha ((by rw [hg];exact(Hl (by repeat(first|(with_reducible first|exact HB.out|apply He|apply Hc|apply Hd|refine Hf ?_ qd.out)|exact HB.out))):w.heap.size≤qe));have n4_:=Ha ((by rw [hg];exact(Hl (by repeat(first|(with_reducible first|exact HB.out|apply He|apply Hc|apply Hd|refine Hf ?_ qd.out)|exact HB.out))):w.heap.size≤qe));have n5_:=Ha ((by rw [hg];exact Nat.ne_of_lt (blk_lt (g:=qc) (o:=.cells #[.int .i64 a0_0,.int .i64 a0_1,.slice A0_2 l0_2.length c0_2] 27 (0,0)) (by(with_reducible repeat(first|refine Hi ?_ _|refine Hb ?_|refine Hh ?_ _));exact qa.out)):qc≠qe));have n6_:=Ha ((by rw [hg];exact Nat.ne_of_gt (blk_lt (g:=qc) (o:=.cells #[.int .i64 a0_0,.int .i64 a0_1,.slice A0_2 l0_2.length c0_2] 27 (0,0)) (by(with_reducible repeat(first|refine Hi ?_ _|refine Hb ?_|refine Hh ?_ _));exact qa.out)):qe≠qc));clear qa;clear HB;have qa:=n0_;have HB:=n1_;have qb:=n2_;have GW176:=n3_;have qh:=n4_;have ql:=n5_;have qm:=n6_;clear n0_ n1_ n2_ n3_ n4_ n5_ n6_;clear hb hbox hg;have hnb7:=qm.out;have hnc7:=ql.out;have hcz8_0:w6.cell? ⟨qe,0,none⟩=some (.int .i64 a1_0):=(Hm qb.out 0).trans rfl;have hcz8_1:w6.cell? ⟨qe,1,none⟩=some (.int .i64 a1_1):=(Hm qb.out 1).trans rfl;have hcz8_2:w6.cell? ⟨qe,2,none⟩=some (.slice A1_2 l1_2.length c1_2):=(Hm qb.out 2).trans rfl;have hfz8_0:=blk_frozen qb.out 0;have hfz8_1:=blk_frozen qb.out 1;have hfz8_2:=blk_frozen qb.out 2)|(go_at_call 73;(with_reducible refine(spec_l14Block.calls k a1_0 a1_1 _ _ l1_2 a2 0 0 t177 _ ?side1 ?side2 A4.out).mono ?_);(case side1=>repeat(first|exact(Kd.C_below HR1_2.out HB.out)|(with_reducible refine Kd.C_alloc ?_ _)|(with_reducible refine Kd.C_drewN ?_ _)|(with_reducible refine Kd.C_drew ?_)));(case side2=>exact HC1_2.out);rintro e w9 ⟨v178,rfl,qp,hb⟩;have n0_:=Ha (Kd.R_lower qp (Hl (by repeat(first|(with_reducible first|exact HB.out|apply He|apply Hc|apply Hd|refine Hf ?_ qd.out|refine Hf ?_ qh.out)|exact HB.out))));have n1_:=Ha (blk_below (g:=qc) (o:=.cells #[.int .i64 a0_0,.int .i64 a0_1,.slice A0_2 l0_2.length c0_2] 27 (0,0)) (by(with_reducible repeat(first|refine Hi ?_ _|refine Hb ?_|refine Hh ?_ _));exact qa.out) hb);have n2_:=Ha (blk_below (g:=qe) (o:=.cells #[.int .i64 a1_0,.int .i64 a1_1,.slice A1_2 l1_2.length c1_2] 27 (0,0)) (by(with_reducible repeat(first|refine Hi ?_ _|refine Hb ?_|refine Hh ?_ _));exact qb.out) hb);have n3_:=Ha (below_step (by repeat(first|(with_reducible first|exact HB.out|apply He|apply Hc|apply Hd|refine Hf ?_ qd.out|refine Hf ?_ qh.out)|exact HB.out)) hb);clear qa;clear qb;clear HB;have HO179:=n0_;have qa:=n1_;have qb:=n2_;have HB:=n3_;clear n0_ n1_ n2_ n3_;(try clear hb);(try clear hb2);(try clear hk);(try clear hi);(try clear qp))))
 go_loopg [8,9,10,12] k (fun kq v8 v9 v10 v12 w'=>∃ (x8_1:Int) (x9_1:Int) (x10_1:Int) (qk:Int),v8=.int .i64 x8_1∧v9=.int .i64 x9_1∧v10=.int .i64 x10_1∧v12=.int .i64 qk∧Aside0 (spec_l14Motion.l0 kq a2 x8_1 x9_1 x10_1 t177 qk a0_0 a0_1 l0_2=some (r1,r2))∧Aside0 (kq≤k)∧Aside0 (Kd.R (Kd.int .i64) 2 w' w.heap.size (fun _=>True) v178 t177)∧Aside0 (w'.heap[qc]? = some (.cells #[.int .i64 a0_0,.int .i64 a0_1,(.slice A0_2 l0_2.length c0_2)] 27 (0,0)))∧Aside0 (w'.heap[qe]? = some (.cells #[.int .i64 a1_0,.int .i64 a1_1,(.slice A1_2 l1_2.length c1_2)] 27 (0,0)))∧Aside0 (Below w.heap.size w w'))
 case atStart=>exact⟨(0),(0),((-1)),(0),(by first|rfl|(simp;done)|(simp [*];done)),(by first|rfl|(simp;done)|(simp [*];done)),(by first|rfl|(simp;done)|(simp [*];done)),(by first|rfl|(simp;done)|(simp [*];done)),H',⟨Nat.le_refl _⟩,⟨by(with_reducible repeat(first|apply Hj|apply Hk|apply Hg));exact HO179.out⟩,⟨by(with_reducible repeat(first|refine Hi ?_ _|refine Hb ?_|refine Hh ?_ _));exact qa.out⟩,⟨by(with_reducible repeat(first|refine Hi ?_ _|refine Hb ?_|refine Hh ?_ _));exact qb.out⟩,⟨by repeat(first|(with_reducible first|exact HB.out|apply He|apply Hc|apply Hd|refine Hf ?_ qd.out|refine Hf ?_ qh.out)|exact HB.out)⟩⟩
 case round=>
  clear H'
  try clear c1
  try clear p2
  try clear c6
  try clear c7
  try clear hcz8_0
  try clear hcz8_1
  try clear hcz8_2
  try clear hfz8_0
  try clear hfz8_1
  try clear hfz8_2
  obtain⟨x8_1,x9_1,x10_1,qk,rfl,rfl,rfl,rfl,HA,HK1,qg,qa,qb,HB⟩:=hrel
  cases gk with
  | zero => exact absurd HA.out (by simp [spec_l14Motion.l0])
  | succ k1 =>
   have H:=HA.out
   clear HA
   simp only [spec_l14Motion.l0] at H
   by_cases c10:qk≤8
   ·rw [if_pos c10] at H
    have c10b0:decide (qk≤8)=true:=decide_eq_true c10
    clear c10
    have H':=Ha H
    clear H
    go_wp2
    repeat(go_quiet (fail);try go_wp2)
    go_loopg [8,9,10,13] k1 (fun kq v8 v9 v10 v13 w'=>∃ (x8_2:Int) (x9_2:Int) (x10_2:Int) (qi:Int),v8=.int .i64 x8_2∧v9=.int .i64 x9_2∧v10=.int .i64 x10_2∧v13=.int .i64 qi∧Aside0 (spec_l14Motion.l1 kq a2 x8_2 x9_2 x10_2 t177 qk qi a0_0 a0_1 l0_2=some (r1,r2))∧Aside0 (kq≤k1)∧Aside0 (Kd.R (Kd.int .i64) 2 w' w.heap.size (fun _=>True) v178 t177)∧Aside0 (w'.heap[qc]? = some (.cells #[.int .i64 a0_0,.int .i64 a0_1,(.slice A0_2 l0_2.length c0_2)] 27 (0,0)))∧Aside0 (w'.heap[qe]? = some (.cells #[.int .i64 a1_0,.int .i64 a1_1,(.slice A1_2 l1_2.length c1_2)] 27 (0,0)))∧Aside0 (Below w.heap.size w w'))
    case atStart=>exact⟨(x8_1),(x9_1),(x10_1),((-2)),(by first|rfl|(simp;done)|(simp [*];done)),(by first|rfl|(simp;done)|(simp [*];done)),(by first|rfl|(simp;done)|(simp [*];done)),(by first|rfl|(simp;done)|(simp [*];done)),H',⟨Nat.le_refl _⟩,⟨by(with_reducible repeat(first|apply Hj|apply Hk|apply Hg));exact qg.out⟩,⟨by(with_reducible repeat(first|refine Hi ?_ _|refine Hb ?_|refine Hh ?_ _));exact qa.out⟩,⟨by(with_reducible repeat(first|refine Hi ?_ _|refine Hb ?_|refine Hh ?_ _));exact qb.out⟩,⟨by repeat(first|(with_reducible first|exact HB.out|apply He|apply Hc|apply Hd|refine Hf ?_ qd.out|refine Hf ?_ qh.out)|exact HB.out)⟩⟩
    case round=>
     clear H'
     try clear c1
     try clear p2
     try clear c6
     try clear c7
     try clear c10
     try clear c10b0
     try clear hcz8_0
     try clear hcz8_1
     try clear hcz8_2
     try clear hfz8_0
     try clear hfz8_1
     try clear hfz8_2
     try clear p2
     obtain⟨x8_2,x9_2,x10_2,qi,rfl,rfl,rfl,rfl,HA,HK2,qg,qa,qb,HB⟩:=hrel
     cases gk with
     | zero => exact absurd HA.out (by simp [spec_l14Motion.l1])
     | succ k2 =>
      have H:=HA.out
      clear HA
      simp only [spec_l14Motion.l1] at H
      by_cases c11:qi≤2
      ·rw [if_pos c11] at H
       have c11b0:decide (qi≤2)=true:=decide_eq_true c11
       clear c11
       have H':=Ha H
       clear H
       go_wp2
       repeat(go_quiet (fail);try go_wp2)
       go_loopg [8,9,10,14] k2 (fun kq v8 v9 v10 v14 w'=>∃ (x8_3:Int) (x9_3:Int) (qn:Int) (qf:Int),v8=.int .i64 x8_3∧v9=.int .i64 x9_3∧v10=.int .i64 qn∧v14=.int .i64 qf∧Aside0 (spec_l14Motion.l2 kq a2 x8_3 x9_3 qn t177 qk qi qf a0_0 a0_1 l0_2=some (r1,r2))∧Aside0 (kq≤k2)∧Aside0 (Kd.R (Kd.int .i64) 2 w' w.heap.size (fun _=>True) v178 t177)∧Aside0 (w'.heap[qc]? = some (.cells #[.int .i64 a0_0,.int .i64 a0_1,(.slice A0_2 l0_2.length c0_2)] 27 (0,0)))∧Aside0 (w'.heap[qe]? = some (.cells #[.int .i64 a1_0,.int .i64 a1_1,(.slice A1_2 l1_2.length c1_2)] 27 (0,0)))∧Aside0 (Below w.heap.size w w'))
       case atStart=>exact⟨(x8_2),(x9_2),(x10_2),((-2)),(by first|rfl|(simp;done)|(simp [*];done)),(by first|rfl|(simp;done)|(simp [*];done)),(by first|rfl|(simp;done)|(simp [*];done)),(by first|rfl|(simp;done)|(simp [*];done)),H',⟨Nat.le_refl _⟩,⟨by(with_reducible repeat(first|apply Hj|apply Hk|apply Hg));exact qg.out⟩,⟨by(with_reducible repeat(first|refine Hi ?_ _|refine Hb ?_|refine Hh ?_ _));exact qa.out⟩,⟨by(with_reducible repeat(first|refine Hi ?_ _|refine Hb ?_|refine Hh ?_ _));exact qb.out⟩,⟨by repeat(first|(with_reducible first|exact HB.out|apply He|apply Hc|apply Hd|refine Hf ?_ qd.out|refine Hf ?_ qh.out)|exact HB.out)⟩⟩
       case round=>
        clear H'
        try clear c1
        try clear p2
        try clear c6
        try clear c7
        try clear c10
        try clear c10b0
        try clear c11
        try clear c11b0
        try clear hcz8_0
        try clear hcz8_1
        try clear hcz8_2
        try clear hfz8_0
        try clear hfz8_1
        try clear hfz8_2
        try clear p2
        obtain⟨x8_3,x9_3,qn,qf,rfl,rfl,rfl,rfl,HA,HK3,qg,qa,qb,HB⟩:=hrel
        cases gk with
        | zero => exact absurd HA.out (by simp [spec_l14Motion.l2])
        | succ k3 =>
         have H:=HA.out
         clear HA
         simp only [spec_l14Motion.l2] at H
         by_cases c12:qf≤2
         ·rw [if_pos c12] at H
          have c12b0:decide (qf≤2)=true:=decide_eq_true c12
          clear c12
          by_cases c13:(wrap64 ((wrap64 (qf*qf))+(wrap64 (qi*qi))))=qk
          ·rw [if_pos c13] at H
           have c13b0:((wrap64 ((wrap64 (qf*qf))+(wrap64 (qi*qi)))) == qk)=true:=beq_iff_eq.mpr c13
           have c13b1:((wrap64 ((wrap64 (qf*qf))+(wrap64 (qi*qi)))) != qk)=false:=bne_eq_false_iff_eq.mpr c13
           clear c13
           replace H:=Option.bind_eq_some_iff.mp H
           obtain⟨t180,A140,H⟩:=H
           replace H:(spec_l14Motion.l3 k3 a2 x8_3 x9_3 qn t177 qk qi qf 0 t180 0 a0_0 a0_1 l0_2)=some (r1,r2):=H
           have A14:=Ha A140
           clear A140
           have H':=Ha H
           clear H
           have hnb15:=ql.out
           have hnc15:=qm.out
           have hcz16_0:wr.cell? ⟨qc,0,none⟩=some (.int .i64 a0_0):=(Hm qa.out 0).trans rfl
           have hcz16_1:wr.cell? ⟨qc,1,none⟩=some (.int .i64 a0_1):=(Hm qa.out 1).trans rfl
           have hcz16_2:wr.cell? ⟨qc,2,none⟩=some (.slice A0_2 l0_2.length c0_2):=(Hm qa.out 2).trans rfl
           have hfz16_0:=blk_frozen qa.out 0
           have hfz16_1:=blk_frozen qa.out 1
           have hfz16_2:=blk_frozen qa.out 2
           go_wp2_with (first|(go_at_call 73;(with_reducible refine(spec_l14Block.calls k3 a0_0 a0_1 _ _ l0_2 a2 qf qi t180 _ ?side1 ?side2 A14.out).mono ?_);(case side1=>repeat(first|exact(Kd.C_below HR0_2.out HB.out)|(with_reducible refine Kd.C_alloc ?_ _)|(with_reducible refine Kd.C_drewN ?_ _)|(with_reducible refine Kd.C_drew ?_)));(case side2=>exact HC0_2.out);rintro e w17 ⟨v181,rfl,qp,hb⟩;have n0_:=Ha (Kd.R_elder' (by(with_reducible repeat(first|apply Hj|apply Hk|apply Hg));exact qg.out) (Kd.R_base qp) hb);have n1_:=Ha (Kd.R_lower (Kd.R_new' qp (Kd.R_lt (by(with_reducible repeat(first|apply Hj|apply Hk|apply Hg));exact qg.out))) (Hl (by repeat(first|(with_reducible first|exact HB.out|apply He|apply Hc|apply Hd|refine Hf ?_ qd.out|refine Hf ?_ qh.out)|exact HB.out))));have n2_:=Ha (blk_below (g:=qc) (o:=.cells #[.int .i64 a0_0,.int .i64 a0_1,.slice A0_2 l0_2.length c0_2] 27 (0,0)) (by(with_reducible repeat(first|refine Hi ?_ _|refine Hb ?_|refine Hh ?_ _));exact qa.out) hb);have n3_:=Ha (blk_below (g:=qe) (o:=.cells #[.int .i64 a1_0,.int .i64 a1_1,.slice A1_2 l1_2.length c1_2] 27 (0,0)) (by(with_reducible repeat(first|refine Hi ?_ _|refine Hb ?_|refine Hh ?_ _));exact qb.out) hb);have n4_:=Ha (below_step (by repeat(first|(with_reducible first|exact HB.out|apply He|apply Hc|apply Hd|refine Hf ?_ qd.out|refine Hf ?_ qh.out)|exact HB.out)) hb);clear qg;clear qa;clear qb;clear HB;have qg:=n0_;have HO182:=n1_;have qa:=n2_;have qb:=n3_;have HB:=n4_;clear n0_ n1_ n2_ n3_ n4_;(try clear hb);(try clear hb2);(try clear hk);(try clear hi);(try clear qp)))
           repeat(go_quiet (first|(go_at_call 73;(with_reducible refine(spec_l14Block.calls k3 a0_0 a0_1 _ _ l0_2 a2 qf qi t180 _ ?side1 ?side2 A14.out).mono ?_);(case side1=>repeat(first|exact(Kd.C_below HR0_2.out HB.out)|(with_reducible refine Kd.C_alloc ?_ _)|(with_reducible refine Kd.C_drewN ?_ _)|(with_reducible refine Kd.C_drew ?_)));(case side2=>exact HC0_2.out);rintro e w17 ⟨v181,rfl,qp,hb⟩;have n0_:=Ha (Kd.R_elder' (by(with_reducible repeat(first|apply Hj|apply Hk|apply Hg));exact qg.out) (Kd.R_base qp) hb);have n1_:=Ha (Kd.R_lower (Kd.R_new' qp (Kd.R_lt (by(with_reducible repeat(first|apply Hj|apply Hk|apply Hg));exact qg.out))) (Hl (by repeat(first|(with_reducible first|exact HB.out|apply He|apply Hc|apply Hd|refine Hf ?_ qd.out|refine Hf ?_ qh.out)|exact HB.out))));have n2_:=Ha (blk_below (g:=qc) (o:=.cells #[.int .i64 a0_0,.int .i64 a0_1,.slice A0_2 l0_2.length c0_2] 27 (0,0)) (by(with_reducible repeat(first|refine Hi ?_ _|refine Hb ?_|refine Hh ?_ _));exact qa.out) hb);have n3_:=Ha (blk_below (g:=qe) (o:=.cells #[.int .i64 a1_0,.int .i64 a1_1,.slice A1_2 l1_2.length c1_2] 27 (0,0)) (by(with_reducible repeat(first|refine Hi ?_ _|refine Hb ?_|refine Hh ?_ _));exact qb.out) hb);have n4_:=Ha (below_step (by repeat(first|(with_reducible first|exact HB.out|apply He|apply Hc|apply Hd|refine Hf ?_ qd.out|refine Hf ?_ qh.out)|exact HB.out)) hb);clear qg;clear qa;clear qb;clear HB;have qg:=n0_;have HO182:=n1_;have qa:=n2_;have qb:=n3_;have HB:=n4_;clear n0_ n1_ n2_ n3_ n4_;(try clear hb);(try clear hb2);(try clear hk);(try clear hi);(try clear qp)));try go_wp2_with (first|(go_at_call 73;(with_reducible refine(spec_l14Block.calls k3 a0_0 a0_1 _ _ l0_2 a2 qf qi t180 _ ?side1 ?side2 A14.out).mono ?_);(case side1=>repeat(first|exact(Kd.C_below HR0_2.out HB.out)|(with_reducible refine Kd.C_alloc ?_ _)|(with_reducible refine Kd.C_drewN ?_ _)|(with_reducible refine Kd.C_drew ?_)));(case side2=>exact HC0_2.out);rintro e w17 ⟨v181,rfl,qp,hb⟩;have n0_:=Ha (Kd.R_elder' (by(with_reducible repeat(first|apply Hj|apply Hk|apply Hg));exact qg.out) (Kd.R_base qp) hb);have n1_:=Ha (Kd.R_lower (Kd.R_new' qp (Kd.R_lt (by(with_reducible repeat(first|apply Hj|apply Hk|apply Hg));exact qg.out))) (Hl (by repeat(first|(with_reducible first|exact HB.out|apply He|apply Hc|apply Hd|refine Hf ?_ qd.out|refine Hf ?_ qh.out)|exact HB.out))));have n2_:=Ha (blk_below (g:=qc) (o:=.cells #[.int .i64 a0_0,.int .i64 a0_1,.slice A0_2 l0_2.length c0_2] 27 (0,0)) (by(with_reducible repeat(first|refine Hi ?_ _|refine Hb ?_|refine Hh ?_ _));exact qa.out) hb);have n3_:=Ha (blk_below (g:=qe) (o:=.cells #[.int .i64 a1_0,.int .i64 a1_1,.slice A1_2 l1_2.length c1_2] 27 (0,0)) (by(with_reducible repeat(first|refine Hi ?_ _|refine Hb ?_|refine Hh ?_ _));exact qb.out) hb);have n4_:=Ha (below_step (by repeat(first|(with_reducible first|exact HB.out|apply He|apply Hc|apply Hd|refine Hf ?_ qd.out|refine Hf ?_ qh.out)|exact HB.out)) hb);clear qg;clear qa;clear qb;clear HB;have qg:=n0_;have HO182:=n1_;have qa:=n2_;have qb:=n3_;have HB:=n4_;clear n0_ n1_ n2_ n3_ n4_;(try clear hb);(try clear hb2);(try clear hk);(try clear hi);(try clear qp))))
           go_loopg [15,17] k3 (fun kq v15 v17 w'=>∃ (qo:Int) (qj:Int),v15=.int .i64 qo∧v17=.int .i64 qj∧Aside0 (spec_l14Motion.l3 kq a2 x8_3 x9_3 qn t177 qk qi qf qo t180 qj a0_0 a0_1 l0_2=some (r1,r2))∧Aside0 (kq≤k3)∧Aside0 (Kd.R (Kd.int .i64) 2 w' w.heap.size (fun k_=>some k_≠(v181:Value).ownBlock) v178 t177)∧Aside0 (Kd.R (Kd.int .i64) 2 w' w.heap.size (fun k_=>some k_≠(v178:Value).ownBlock) v181 t180)∧Aside0 (w'.heap[qc]? = some (.cells #[.int .i64 a0_0,.int .i64 a0_1,(.slice A0_2 l0_2.length c0_2)] 27 (0,0)))∧Aside0 (w'.heap[qe]? = some (.cells #[.int .i64 a1_0,.int .i64 a1_1,(.slice A1_2 l1_2.length c1_2)] 27 (0,0)))∧Aside0 (Below w.heap.size w w'))
           case atStart=>exact⟨(0),(0),(by first|rfl|(simp;done)|(simp [*];done)),(by first|rfl|(simp;done)|(simp [*];done)),H',⟨Nat.le_refl _⟩,⟨by(with_reducible repeat(first|apply Hj|apply Hk|apply Hg));exact Kd.R_mono qg.out (fun _ hk=>hk.2)⟩,⟨by(with_reducible repeat(first|apply Hj|apply Hk|apply Hg));exact Kd.R_mono HO182.out (fun _ hk=>hk.2)⟩,⟨by(with_reducible repeat(first|refine Hi ?_ _|refine Hb ?_|refine Hh ?_ _));exact qa.out⟩,⟨by(with_reducible repeat(first|refine Hi ?_ _|refine Hb ?_|refine Hh ?_ _));exact qb.out⟩,⟨by repeat(first|(with_reducible first|exact HB.out|apply He|apply Hc|apply Hd|refine Hf ?_ qd.out|refine Hf ?_ qh.out)|exact HB.out)⟩⟩
           case round=>
            clear H'
            try clear c1
            try clear p2
            try clear c6
            try clear p6
            try clear c7
            try clear c10
            try clear c10b0
            try clear c11
            try clear c11b0
            try clear c12
            try clear c12b0
            try clear c13
            try clear c13b0
            try clear c13b1
            try clear c15
            try clear hcz16_0
            try clear hcz16_1
            try clear hcz16_2
            try clear hcz8_0
            try clear hcz8_1
            try clear hcz8_2
            try clear hfz16_0
            try clear hfz16_1
            try clear hfz16_2
            try clear hfz8_0
            try clear hfz8_1
            try clear hfz8_2
            try clear p2
            obtain⟨qo,qj,rfl,rfl,HA,HK4,qg,HO_16,qa,qb,HB⟩:=hrel
            cases gk with
            | zero => exact absurd HA.out (by simp [spec_l14Motion.l3])
            | succ k4 =>
             have H:=HA.out
             clear HA
             simp only [spec_l14Motion.l3] at H
             by_cases c18:qj < 16
             ·rw [if_pos c18] at H
              have c18b0:decide (qj < 16)=true:=decide_eq_true c18
              clear c18
              by_cases c19:0≤qj
              ·rw [if_pos c19] at H
               have c19b0:decide (0≤qj)=true:=decide_eq_true c19
               clear c19
               by_cases c20:qj < (t177.length:Int)
               ·rw [if_pos c20] at H
                have c20b0:decide (qj < (t177.length:Int))=true:=decide_eq_true c20
                clear c20
                by_cases c21:qj < (t180.length:Int)
                ·rw [if_pos c21] at H
                 have c21b0:decide (qj < (t180.length:Int))=true:=decide_eq_true c21
                 clear c21
                 replace H:=Option.bind_eq_some_iff.mp H
                 obtain⟨t185,A220,H⟩:=H
                 replace H:(spec_l14Motion.l3 k4 a2 x8_3 x9_3 qn t177 qk qi qf (wrap64 (qo+t185)) t180 (wrap64 (qj+1)) a0_0 a0_1 l0_2)=some (r1,r2):=H
                 have A22:=Ha A220
                 clear A220
                 have H':=Ha H
                 clear H
                 obtain⟨Ao23,co23,eo23⟩:=Kd.R_slice qg.out
                 subst eo23
                 have p183:0≤(qj:Int):=of_decide_eq_true (by first|(with_reducible assumption)|assumption)
                 have q183:qj < (t177.length:Int):=of_decide_eq_true (by first|(with_reducible assumption)|assumption)
                 obtain⟨ad183,e183,hx183_0⟩:=Kd.at_int (Kd.R_reads' qg.out).2.2 qj p183 q183
                 cases e183
                 replace p183:=eq_true p183
                 replace q183:=eq_true q183
                 obtain⟨Ao24,co24,eo24⟩:=Kd.R_slice HO_16.out
                 subst eo24
                 have p184:0≤(qj:Int):=of_decide_eq_true (by first|(with_reducible assumption)|assumption)
                 have q184:qj < (t180.length:Int):=of_decide_eq_true (by first|(with_reducible assumption)|assumption)
                 obtain⟨ad184,e184,hx184_0⟩:=Kd.at_int (Kd.R_reads' HO_16.out).2.2 qj p184 q184
                 cases e184
                 replace p184:=eq_true p184
                 replace q184:=eq_true q184
                 go_wp2_with (first|(go_at_call 86;(with_reducible refine(spec_l1Abs.calls (wrap64 ((rd t177 qj) - (rd t180 qj))) t185 _ A22.out).mono ?_);rintro e w' ⟨rfl,⟨nd,rfl⟩⟩;(try first|exact⟨rfl,_,World.drewN_drewN _ _ _⟩|exact⟨rfl,_,Eq.trans (World.drewN_drewN _ _ _) (congrArg (World.drewN _) (Nat.add_assoc _ _ _))⟩)))
                 repeat(go_quiet (first|(go_at_call 86;(with_reducible refine(spec_l1Abs.calls (wrap64 ((rd t177 qj) - (rd t180 qj))) t185 _ A22.out).mono ?_);rintro e w' ⟨rfl,⟨nd,rfl⟩⟩;(try first|exact⟨rfl,_,World.drewN_drewN _ _ _⟩|exact⟨rfl,_,Eq.trans (World.drewN_drewN _ _ _) (congrArg (World.drewN _) (Nat.add_assoc _ _ _))⟩)));try go_wp2_with (first|(go_at_call 86;(with_reducible refine(spec_l1Abs.calls (wrap64 ((rd t177 qj) - (rd t180 qj))) t185 _ A22.out).mono ?_);rintro e w' ⟨rfl,⟨nd,rfl⟩⟩;(try first|exact⟨rfl,_,World.drewN_drewN _ _ _⟩|exact⟨rfl,_,Eq.trans (World.drewN_drewN _ _ _) (congrArg (World.drewN _) (Nat.add_assoc _ _ _))⟩))))
                 go_roundg k4
                 case measure=>have:=HK1.out;have:=HK2.out;have:=HK3.out;have:=HK4.out;omega
                 case rel=>exact⟨(wrap64 (qo+t185)),(wrap64 (qj+1)),(by first|rfl|(simp;done)|(simp [*];done)),(by first|rfl|(simp;done)|(simp [*];done)),H',⟨by have:=HK1.out;have:=HK2.out;have:=HK3.out;have:=HK4.out;omega⟩,⟨by(with_reducible repeat(first|apply Hj|apply Hk|apply Hg));exact qg.out⟩,⟨by(with_reducible repeat(first|apply Hj|apply Hk|apply Hg));exact HO_16.out⟩,⟨by(with_reducible repeat(first|refine Hi ?_ _|refine Hb ?_|refine Hh ?_ _));exact qa.out⟩,⟨by(with_reducible repeat(first|refine Hi ?_ _|refine Hb ?_|refine Hh ?_ _));exact qb.out⟩,⟨by repeat(first|(with_reducible first|exact HB.out|apply He|apply Hc|apply Hd|refine Hf ?_ qd.out|refine Hf ?_ qh.out)|exact HB.out)⟩⟩
                ·rw [if_neg c21] at H
                 exact absurd H (by simp)
               ·rw [if_neg c20] at H
                exact absurd H (by simp)
              ·rw [if_neg c19] at H
               exact absurd H (by simp)
             ·rw [if_neg c18] at H
              have c18b0:decide (qj < 16)=false:=decide_eq_false c18
              clear c18
              by_cases c25:qn < 0
              ·rw [if_pos c25] at H
               have c25b0:decide (qn < 0)=true:=decide_eq_true c25
               clear c25
               have H':=Ha H
               clear H
               go_wp2
               repeat(go_quiet (fail);try go_wp2)
               go_roundg k4
               case measure=>have:=HK1.out;have:=HK2.out;have:=HK3.out;have:=HK4.out;omega
               case rel=>exact⟨(qf),(qi),(qo),(wrap64 (qf+1)),(by first|rfl|(simp;done)|(simp [*];done)),(by first|rfl|(simp;done)|(simp [*];done)),(by first|rfl|(simp;done)|(simp [*];done)),(by first|rfl|(simp;done)|(simp [*];done)),H',⟨by have:=HK1.out;have:=HK2.out;have:=HK3.out;have:=HK4.out;omega⟩,⟨by(with_reducible repeat(first|apply Hj|apply Hk|apply Hg));exact Kd.R_mono qg.out (fun _ hk=>trivial)⟩,⟨by(with_reducible repeat(first|refine Hi ?_ _|refine Hb ?_|refine Hh ?_ _));exact qa.out⟩,⟨by(with_reducible repeat(first|refine Hi ?_ _|refine Hb ?_|refine Hh ?_ _));exact qb.out⟩,⟨by repeat(first|(with_reducible first|exact HB.out|apply He|apply Hc|apply Hd|refine Hf ?_ qd.out|refine Hf ?_ qh.out)|exact HB.out)⟩⟩
              ·rw [if_neg c25] at H
               have c25b0:decide (qn < 0)=false:=decide_eq_false c25
               clear c25
               by_cases c26:qo < qn
               ·rw [if_pos c26] at H
                have c26b0:decide (qo < qn)=true:=decide_eq_true c26
                clear c26
                have H':=Ha H
                clear H
                go_wp2
                repeat(go_quiet (fail);try go_wp2)
                go_roundg k4
                case measure=>have:=HK1.out;have:=HK2.out;have:=HK3.out;have:=HK4.out;omega
                case rel=>exact⟨(qf),(qi),(qo),(wrap64 (qf+1)),(by first|rfl|(simp;done)|(simp [*];done)),(by first|rfl|(simp;done)|(simp [*];done)),(by first|rfl|(simp;done)|(simp [*];done)),(by first|rfl|(simp;done)|(simp [*];done)),H',⟨by have:=HK1.out;have:=HK2.out;have:=HK3.out;have:=HK4.out;omega⟩,⟨by(with_reducible repeat(first|apply Hj|apply Hk|apply Hg));exact Kd.R_mono qg.out (fun _ hk=>trivial)⟩,⟨by(with_reducible repeat(first|refine Hi ?_ _|refine Hb ?_|refine Hh ?_ _));exact qa.out⟩,⟨by(with_reducible repeat(first|refine Hi ?_ _|refine Hb ?_|refine Hh ?_ _));exact qb.out⟩,⟨by repeat(first|(with_reducible first|exact HB.out|apply He|apply Hc|apply Hd|refine Hf ?_ qd.out|refine Hf ?_ qh.out)|exact HB.out)⟩⟩
               ·rw [if_neg c26] at H
                have c26b0:decide (qo < qn)=false:=decide_eq_false c26
                clear c26
                have H':=Ha H
                clear H
                go_wp2
                repeat(go_quiet (fail);try go_wp2)
                go_roundg k4
                case measure=>have:=HK1.out;have:=HK2.out;have:=HK3.out;have:=HK4.out;omega
                case rel=>exact⟨(x8_3),(x9_3),(qn),(wrap64 (qf+1)),(by first|rfl|(simp;done)|(simp [*];done)),(by first|rfl|(simp;done)|(simp [*];done)),(by first|rfl|(simp;done)|(simp [*];done)),(by first|rfl|(simp;done)|(simp [*];done)),H',⟨by have:=HK1.out;have:=HK2.out;have:=HK3.out;have:=HK4.out;omega⟩,⟨by(with_reducible repeat(first|apply Hj|apply Hk|apply Hg));exact Kd.R_mono qg.out (fun _ hk=>trivial)⟩,⟨by(with_reducible repeat(first|refine Hi ?_ _|refine Hb ?_|refine Hh ?_ _));exact qa.out⟩,⟨by(with_reducible repeat(first|refine Hi ?_ _|refine Hb ?_|refine Hh ?_ _));exact qb.out⟩,⟨by repeat(first|(with_reducible first|exact HB.out|apply He|apply Hc|apply Hd|refine Hf ?_ qd.out|refine Hf ?_ qh.out)|exact HB.out)⟩⟩
          ·rw [if_neg c13] at H
           have c13b0:((wrap64 ((wrap64 (qf*qf))+(wrap64 (qi*qi)))) == qk)=false:=beq_eq_false_iff_ne.mpr c13
           have c13b1:((wrap64 ((wrap64 (qf*qf))+(wrap64 (qi*qi)))) != qk)=true:=bne_iff_ne.mpr c13
           have H':=Ha H
           clear H
           go_wp2
           repeat(go_quiet (fail);try go_wp2)
           go_roundg k3
           case measure=>have:=HK1.out;have:=HK2.out;have:=HK3.out;omega
           case rel=>exact⟨(x8_3),(x9_3),(qn),(wrap64 (qf+1)),(by first|rfl|(simp;done)|(simp [*];done)),(by first|rfl|(simp;done)|(simp [*];done)),(by first|rfl|(simp;done)|(simp [*];done)),(by first|rfl|(simp;done)|(simp [*];done)),H',⟨by have:=HK1.out;have:=HK2.out;have:=HK3.out;omega⟩,⟨by(with_reducible repeat(first|apply Hj|apply Hk|apply Hg));exact qg.out⟩,⟨by(with_reducible repeat(first|refine Hi ?_ _|refine Hb ?_|refine Hh ?_ _));exact qa.out⟩,⟨by(with_reducible repeat(first|refine Hi ?_ _|refine Hb ?_|refine Hh ?_ _));exact qb.out⟩,⟨by repeat(first|(with_reducible first|exact HB.out|apply He|apply Hc|apply Hd|refine Hf ?_ qd.out|refine Hf ?_ qh.out)|exact HB.out)⟩⟩
         ·rw [if_neg c12] at H
          have c12b0:decide (qf≤2)=false:=decide_eq_false c12
          clear c12
          have H':=Ha H
          clear H
          go_wp2
          repeat(go_quiet (fail);try go_wp2)
          go_roundg k3
          case measure=>have:=HK1.out;have:=HK2.out;have:=HK3.out;omega
          case rel=>exact⟨(x8_3),(x9_3),(qn),(wrap64 (qi+1)),(by first|rfl|(simp;done)|(simp [*];done)),(by first|rfl|(simp;done)|(simp [*];done)),(by first|rfl|(simp;done)|(simp [*];done)),(by first|rfl|(simp;done)|(simp [*];done)),H',⟨by have:=HK1.out;have:=HK2.out;have:=HK3.out;omega⟩,⟨by(with_reducible repeat(first|apply Hj|apply Hk|apply Hg));exact qg.out⟩,⟨by(with_reducible repeat(first|refine Hi ?_ _|refine Hb ?_|refine Hh ?_ _));exact qa.out⟩,⟨by(with_reducible repeat(first|refine Hi ?_ _|refine Hb ?_|refine Hh ?_ _));exact qb.out⟩,⟨by repeat(first|(with_reducible first|exact HB.out|apply He|apply Hc|apply Hd|refine Hf ?_ qd.out|refine Hf ?_ qh.out)|exact HB.out)⟩⟩
      ·rw [if_neg c11] at H
       have c11b0:decide (qi≤2)=false:=decide_eq_false c11
       clear c11
       have H':=Ha H
       clear H
       go_wp2
       repeat(go_quiet (fail);try go_wp2)
       go_roundg k2
       case measure=>have:=HK1.out;have:=HK2.out;omega
       case rel=>exact⟨(x8_2),(x9_2),(x10_2),(wrap64 (qk+1)),(by first|rfl|(simp;done)|(simp [*];done)),(by first|rfl|(simp;done)|(simp [*];done)),(by first|rfl|(simp;done)|(simp [*];done)),(by first|rfl|(simp;done)|(simp [*];done)),H',⟨by have:=HK1.out;have:=HK2.out;omega⟩,⟨by(with_reducible repeat(first|apply Hj|apply Hk|apply Hg));exact qg.out⟩,⟨by(with_reducible repeat(first|refine Hi ?_ _|refine Hb ?_|refine Hh ?_ _));exact qa.out⟩,⟨by(with_reducible repeat(first|refine Hi ?_ _|refine Hb ?_|refine Hh ?_ _));exact qb.out⟩,⟨by repeat(first|(with_reducible first|exact HB.out|apply He|apply Hc|apply Hd|refine Hf ?_ qd.out|refine Hf ?_ qh.out)|exact HB.out)⟩⟩
   ·rw [if_neg c10] at H
    have c10b0:decide (qk≤8)=false:=decide_eq_false c10
    clear c10
    simp only [Option.some.injEq,Prod.mk.injEq] at H
    obtain⟨rfl,rfl⟩:=H
    go_wp2
    repeat(go_quiet (fail);try go_wp2)
    go_ret2
    exact⟨by first|rfl|(simp [errW_none,errW_some] <;> rfl)|(simp [*,errW_none,errW_some] <;> rfl),by repeat(first|(with_reducible first|exact HB.out|apply He|apply Hc|apply Hd|refine Hf ?_ qd.out|refine Hf ?_ qh.out)|exact HB.out)⟩

/-! ### spec_l8Down: function 96 -/
def spec_l8Down.f (a0 : Int) (a1 : Int) : Option (Int) := if a1 = 0 then (none) else (if (Int.tmod a0 a1) < 0 then (some (wrap64 ((wrap64 (Int.tdiv a0 a1)) - 1))) else (some (wrap64 (Int.tdiv a0 a1))))
set_option maxHeartbeats 8000000 in
set_option maxRecDepth 100000 in
theorem spec_l8Down.calls (a0 : Int) (a1 : Int) (r : Int) (w : World) (h : spec_l8Down.f a0 a1 = some r) :
  Calls Try.prog 96 #[.int .i64 a0,.int .i64 a1] w fun e w'=>e=.returned (.int .i64 r)∧Drawn0 w w':=by
 have H:(if a1=0 then (none) else (if (Int.tmod a0 a1) < 0 then (some (wrap64 ((wrap64 (Int.tdiv a0 a1)) - 1))) else (some (wrap64 (Int.tdiv a0 a1)))))=some r:=h
 clear h
 by_cases c3:a1=0
 ·rw [if_pos c3] at H
  exact absurd H (by simp)
 ·rw [if_neg c3] at H
  have c3b0:(a1 == 0)=false:=beq_eq_false_iff_ne.mpr c3
  have c3b1:(a1 != 0)=true:=bne_iff_ne.mpr c3
  by_cases c4:(Int.tmod a0 a1) < 0
  ·rw [if_pos c4] at H
   have c4b0:decide ((Int.tmod a0 a1) < 0)=true:=decide_eq_true c4
   clear c4
   obtain rfl:=Option.some.inj H
   go_enter Try.func96,Try.ntmps96
   go_wp2
   go_ret
   exact⟨by first|rfl|(simp;done)|(simp [*];done),by repeat(first|exact Drawn0.refl _|apply Drawn0.step)⟩
  ·rw [if_neg c4] at H
   have c4b0:decide ((Int.tmod a0 a1) < 0)=false:=decide_eq_false c4
   clear c4
   obtain rfl:=Option.some.inj H
   go_enter Try.func96,Try.ntmps96
   go_wp2
   go_ret
   exact⟨by first|rfl|(simp;done)|(simp [*];done),by repeat(first|exact Drawn0.refl _|apply Drawn0.step)⟩

end Go.Proofs.Ytbdnpfjjaokdbaa.HFnCoded
