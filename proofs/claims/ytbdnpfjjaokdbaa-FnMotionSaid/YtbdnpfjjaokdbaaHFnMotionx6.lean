-- Laid by myprint.py, a program of this repo, out of the kit's printer and this repo's own texts (wip/hand).
import Derived.Test.YtbdnpfjjaokdbaaHFnMotionx0
import Derived.Test.YtbdnpfjjaokdbaaHFnMotionx1
import Derived.Test.YtbdnpfjjaokdbaaHFnMotionx5
namespace Go.Proofs.Ytbdnpfjjaokdbaa.HFnMotion
open Go.RowKit Go.Proofs.YtbdnpfjjaokdbaaW.PrintWords Go.Proofs.YtbdnpfjjaokdbaaW.PrintLast Go.Proofs.YtbdnpfjjaokdbaaW.PrintMore
attribute [local go_sem] max2_int min2_int max_two min_two max_three min_three max_four min_four   -- for this text's walks alone
set_option linter.unusedVariables false
set_option linter.unusedSimpArgs false
theorem Ga : type_of% @Aside0.mk := @Aside0.mk
theorem Gb : type_of% @IsS84.alloc := @IsS84.alloc
theorem Gc : type_of% @IsS84.drew := @IsS84.drew
theorem Gd : type_of% @IsS84.drewN := @IsS84.drewN
theorem Ge : type_of% @IsS84.far := @IsS84.far
theorem Gf : type_of% @IsS84.set_1 := @IsS84.set_1
theorem Gg : type_of% @IsS84.set_2 := @IsS84.set_2
theorem Gh : type_of% @blk_drew := @blk_drew
theorem Gi : type_of% @keep_drew := @keep_drew
theorem Gj : type_of% @blk_alloc := @blk_alloc
theorem Gk : type_of% @below_set := @below_set
theorem Gl : type_of% @blk_drewN := @blk_drewN
theorem Gm : type_of% @keep_far := @keep_far
theorem Gn : type_of% @KeepBut.set_ := @KeepBut.set_
theorem Gp : type_of% @blk_frozen := @blk_frozen
theorem Gq : type_of% @keep_alloc := @keep_alloc
theorem Gr : type_of% @keep_drewN := @keep_drewN
theorem Gs : type_of% @pw_below_drewN := @pw_below_drewN
theorem Gt : type_of% @blk_cell := @blk_cell
theorem Gu : type_of% @below_alloc := @below_alloc
theorem Gv : type_of% @below_drew1 := @below_drew1

/-! ### spec_l14DrawPicture: function 92 -/
def spec_l14DrawPicture.l0 : Nat → Int → Int → Int → Int → List Int → Int → Int → Int → Int → List Int → Option (Int × Int × List Int × Int × Int)
 | 0, _, _, _, _, _, _, _, _, _, _ => none
 | k + 1, x1, x2, x8, x9, x1000, x1001, x1002, x234000, x234001, x234002 => if x9 < (wrap64 (x1 * x2)) then ((spec_l1Below.f x1000 x1001 x1002 6).bind fun bt237 => (if bt237.1 = 0 then ((spec_l1Below.f x1000 bt237.2.1 bt237.2.2 256).bind fun bt240 => (if x234002.length < 17592186044416 then (spec_l14DrawPicture.l0 k x1 x2 bt240.1 (wrap64 (x9 + 1)) x1000 bt240.2.1 bt240.2.2 x234000 x234001 (x234002 ++ [bt240.1])) else (none))) else (if bt237.1 = 1 then ((spec_l1Min.f 255 (wrap64 (x8 + 9))).bind fun yc => (if x234002.length < 17592186044416 then (spec_l14DrawPicture.l0 k x1 x2 yc (wrap64 (x9 + 1)) x1000 bt237.2.1 bt237.2.2 x234000 x234001 (x234002 ++ [yc])) else (none))) else (if x234002.length < 17592186044416 then (spec_l14DrawPicture.l0 k x1 x2 x8 (wrap64 (x9 + 1)) x1000 bt237.2.1 bt237.2.2 x234000 x234001 (x234002 ++ [x8])) else (none))))) else (some (x234000, x234001, x234002, x1001, x1002))
def spec_l14DrawPicture.f (k : Nat) (s0_0 : List Int) (s0_1 : Int) (s0_2 : Int) (a1 : Int) (a2 : Int) : Option (Int × Int × List Int × Int × Int) := (spec_l1Below.f s0_0 s0_1 s0_2 256).bind fun bt234 => (spec_l14DrawPicture.l0 k a1 a2 bt234.1 0 s0_0 bt234.2.1 bt234.2.2 a1 a2 ([] : List Int))
theorem spec_l14DrawPicture.mono_l : ∀ k, (∀ y0 y1 y2 y3 y4 y5 y6 y7 y8 y9, LeO (spec_l14DrawPicture.l0 k y0 y1 y2 y3 y4 y5 y6 y7 y8 y9) (spec_l14DrawPicture.l0 (k + 1) y0 y1 y2 y3 y4 y5 y6 y7 y8 y9))
 | 0 => fun _ _ _ _ _ _ _ _ _ _ r h => by simp [spec_l14DrawPicture.l0] at h
 | k + 1 => by
  have ih0:=spec_l14DrawPicture.mono_l k
  ·intro y0 y1 y2 y3 y4 y5 y6 y7 y8 y9
   unfold spec_l14DrawPicture.l0
   repeat' first
   | (with_reducible exact ih0 _ _ _ _ _ _ _ _ _ _)
   | (with_reducible exact LeO.refl _)
   | (with_reducible exact LeO.none _)
   | (with_reducible refine LeO.ite ?_ ?_)
   | (with_reducible refine LeO.bind ?_ (fun _ => ?_))
   | exact ih0 _ _ _ _ _ _ _ _ _ _
   | exact LeO.none _
   | refine LeO.ite ?_ ?_
   | refine LeO.bind ?_ (fun _ => ?_)
theorem spec_l14DrawPicture.mono : ∀ a0 a1 a2 a3 a4 k, LeO (spec_l14DrawPicture.f k a0 a1 a2 a3 a4) (spec_l14DrawPicture.f (k + 1) a0 a1 a2 a3 a4) := by
 intro a0 a1 a2 a3 a4 k
 have ih0:=spec_l14DrawPicture.mono_l k
 unfold spec_l14DrawPicture.f
 repeat' first
   | (with_reducible exact ih0 _ _ _ _ _ _ _ _ _ _)
   | (with_reducible exact LeO.refl _)
   | (with_reducible exact LeO.none _)
   | (with_reducible refine LeO.ite ?_ ?_)
   | (with_reducible refine LeO.bind ?_ (fun _ => ?_))
   | exact ih0 _ _ _ _ _ _ _ _ _ _
   | exact LeO.none _
   | refine LeO.ite ?_ ?_
   | refine LeO.bind ?_ (fun _ => ?_)
set_option maxHeartbeats 8000000 in
set_option maxRecDepth 100000 in
theorem spec_l14DrawPicture.calls (k : Nat) (g : Nat) (s0_0 : List Int) (s0_1 : Int) (s0_2 : Int) (a1 : Int) (a2 : Int) (r1 : Int) (r2 : Int) (r3 : List Int) (r4 : Int) (r5 : Int) (w0 w : World) (hI : IsS84 w0 w g s0_0 s0_1 s0_2) (hB : Below w0.heap.size w0 w) (h : spec_l14DrawPicture.f k s0_0 s0_1 s0_2 a1 a2 = some (r1, r2, r3, r4, r5)) :
  Calls Try.prog 92 #[.pointer (some ⟨g,0,none⟩),.int .i64 a1,.int .i64 a2] w fun e w'=>∃ v2_:Value,e=.returned (.agg #[.int .i64 r1,.int .i64 r2,v2_])∧Kd.R (Kd.int .i64) 2 w' w.heap.size (fun _=>True) v2_ r3∧IsS84 w0 w' g s0_0 r4 r5∧Below w0.heap.size w0 w'∧KeepBut w w' g none:=by
 have hu27:=Try.underlying27
 have qi:=Ga hI
 have HK:=Ga (KeepBut.refl w g none)
 have HL:=Ga hB.size
 clear hI
 have HW0:=Ga hB.size
 have HB:=Ga hB
 clear hB
 have H:((spec_l1Below.f s0_0 s0_1 s0_2 256).bind fun bt234=>(spec_l14DrawPicture.l0 k a1 a2 bt234.1 0 s0_0 bt234.2.1 bt234.2.2 a1 a2 ([]:List Int)))=some (r1,r2,r3,r4,r5):=h
 clear h
 replace H:=Option.bind_eq_some_iff.mp H
 obtain⟨⟨t234,t235,t236⟩,A40,H⟩:=H
 replace H:(spec_l14DrawPicture.l0 k a1 a2 t234 0 s0_0 t235 t236 a1 a2 ([]:List Int))=some (r1,r2,r3,r4,r5):=H
 have A4:=Ga A40
 clear A40
 have H':=Ga H
 clear H
 go_enter Try.func92,Try.ntmps92
 go_wp2_with (first|((with_reducible refine gate_dst (N:=6) rfl ?_);refine box_event ?hg (N:=6) ?hd (cs:=#[.int .i64 0,.int .i64 0,.slice none 0 0]) (t:=27) ?hr ?_;(case hd=>rfl);(case hg=>rfl);(case hr=>first|(go_simp;done)|(go_simp;rfl));intro qk hg w5 hbox hb;have qx:=Ga (IsS84.below (by repeat(first|(with_reducible first|exact qi.out|apply Gb|apply Gd|apply Gc|apply Gf|apply Gg)|exact qi.out)) hb);have qy:=Ga (KeepBut.trans (by repeat(first|(with_reducible first|exact HK.out|apply Gn|apply Gr|apply Gi|apply Gq)|exact HK.out)) (KeepBut.of_below hb g none) (.inl rfl));have qv:=Ga (below_step (by repeat(first|(with_reducible first|exact HB.out|apply Gu|apply Gs|apply Gv|refine Gk ?_ (IsS84.ge qi.out))|exact HB.out)) hb);have qz:=Ga (hbox);have qw:=Ga ((by rw [hg];exact(keep_size (w:=w) (g:=g) (row:=none) (by repeat(first|(with_reducible first|exact HK.out|apply Gn|apply Gr|apply Gi|apply Gq)|exact HK.out))):w.heap.size≤qk));have ye:=Ga ((Nat.le_trans HW0.out (by rw [hg];exact(keep_size (w:=w) (g:=g) (row:=none) (by repeat(first|(with_reducible first|exact HK.out|apply Gn|apply Gr|apply Gi|apply Gq)|exact HK.out))):w.heap.size≤qk):w0.heap.size≤qk));have n6_:=Ga ((by rw [hg];exact Nat.ne_of_lt (IsS84.lt (show IsS84 w0 _ g s0_0 s0_1 s0_2 from by repeat(first|(with_reducible first|exact qi.out|apply Gb|apply Gd|apply Gc|apply Gf|apply Gg)|exact qi.out))):g≠qk));have n7_:=Ga ((by rw [hg];exact Nat.ne_of_gt (IsS84.lt (show IsS84 w0 _ g s0_0 s0_1 s0_2 from by repeat(first|(with_reducible first|exact qi.out|apply Gb|apply Gd|apply Gc|apply Gf|apply Gg)|exact qi.out))):qk≠g));clear qi;clear HK;clear HB;have qi:=qx;have HK:=qy;have HB:=qv;have qd:=qz;have ql:=qw;have qq:=ye;have qh:=n6_;have qu:=n7_;clear qx qy qv qz qw ye n6_ n7_;clear hb hbox hg)|((with_reducible refine gate_dst (N:=7) rfl ?_);refine box_event ?hg (N:=7) ?hd (cs:=#[.int .i64 0,.int .i64 0,.slice none 0 0]) (t:=27) ?hr ?_;(case hd=>rfl);(case hg=>rfl);(case hr=>first|(go_simp;done)|(go_simp;rfl));intro qe hg w6 hbox hb;have qx:=Ga (IsS84.below (by repeat(first|(with_reducible first|exact qi.out|apply Gb|apply Gd|apply Gc|apply Gf|apply Gg|refine Ge ?_ qh.out _)|exact qi.out)) hb);have qy:=Ga (blk_below (g:=qk) (o:=.cells #[.int .i64 0,.int .i64 0,.slice none 0 0] 27 (0,0)) (by(with_reducible repeat(first|refine Gl ?_ _|refine Gh ?_|refine Gj ?_ _));exact qd.out) hb);have qv:=Ga (KeepBut.trans (by repeat(first|(with_reducible first|exact HK.out|apply Gn|apply Gr|apply Gi|apply Gq|refine Gm ?_ ql.out _)|exact HK.out)) (KeepBut.of_below hb g none) (.inl rfl));have qz:=Ga (below_step (by repeat(first|(with_reducible first|exact HB.out|apply Gu|apply Gs|apply Gv|refine Gk ?_ (IsS84.ge qi.out)|refine Gk ?_ qq.out)|exact HB.out)) hb);have qw:=Ga (hbox);have ye:=Ga ((by rw [hg];exact(keep_size (w:=w) (g:=g) (row:=none) (by repeat(first|(with_reducible first|exact HK.out|apply Gn|apply Gr|apply Gi|apply Gq|refine Gm ?_ ql.out _)|exact HK.out))):w.heap.size≤qe));have n6_:=Ga ((Nat.le_trans HW0.out (by rw [hg];exact(keep_size (w:=w) (g:=g) (row:=none) (by repeat(first|(with_reducible first|exact HK.out|apply Gn|apply Gr|apply Gi|apply Gq|refine Gm ?_ ql.out _)|exact HK.out))):w.heap.size≤qe):w0.heap.size≤qe));have n7_:=Ga ((by rw [hg];exact Nat.ne_of_lt (blk_lt (g:=qk) (o:=.cells #[.int .i64 0,.int .i64 0,.slice none 0 0] 27 (0,0)) (by(with_reducible repeat(first|refine Gl ?_ _|refine Gh ?_|refine Gj ?_ _));exact qd.out)):qk≠qe));have n8_:=Ga ((by rw [hg];exact Nat.ne_of_gt (blk_lt (g:=qk) (o:=.cells #[.int .i64 0,.int .i64 0,.slice none 0 0] 27 (0,0)) (by(with_reducible repeat(first|refine Gl ?_ _|refine Gh ?_|refine Gj ?_ _));exact qd.out)):qe≠qk));have n9_:=Ga ((by rw [hg];exact Nat.ne_of_lt (IsS84.lt (show IsS84 w0 _ g s0_0 s0_1 s0_2 from by repeat(first|(with_reducible first|exact qi.out|apply Gb|apply Gd|apply Gc|apply Gf|apply Gg|refine Ge ?_ qh.out _)|exact qi.out))):g≠qe));have n10_:=Ga ((by rw [hg];exact Nat.ne_of_gt (IsS84.lt (show IsS84 w0 _ g s0_0 s0_1 s0_2 from by repeat(first|(with_reducible first|exact qi.out|apply Gb|apply Gd|apply Gc|apply Gf|apply Gg|refine Ge ?_ qh.out _)|exact qi.out))):qe≠g));clear qi;clear qd;clear HK;clear HB;have qi:=qx;have qd:=qy;have HK:=qv;have HB:=qz;have qa:=qw;have qn:=ye;have qr:=n6_;have qj:=n7_;have qs:=n8_;have qg:=n9_;have qm:=n10_;clear qx qy qv qz qw ye n6_ n7_ n8_ n9_ n10_;clear hb hbox hg;have hnb7:=qs.out;have hnc7:=qj.out;have hnb8:=qm.out;have hnc8:=qg.out;have hcz9_0:w6.cell? ⟨qe,0,none⟩=some (.int .i64 0):=(Gt qa.out 0).trans rfl;have hcz9_1:w6.cell? ⟨qe,1,none⟩=some (.int .i64 0):=(Gt qa.out 1).trans rfl;have hcz9_2:w6.cell? ⟨qe,2,none⟩=some (.slice none 0 0):=(Gt qa.out 2).trans rfl;have hfz9_0:=Gp qa.out 0;have hfz9_1:=Gp qa.out 1;have hfz9_2:=Gp qa.out 2)|((with_reducible refine gate_callee (f:=65) rfl ?_);refine goesL_ (some 14) rfl rfl Try.func65 (by kernel_rfl) rfl #[.pointer (some ⟨g,0,none⟩),.int .i64 256] rfl (by(try simp only [List.map_toArray,List.map_cons,List.map_nil]);first|done|rfl|(simp only [List.length_drop,List.length_take];rfl)) ?_;(with_reducible refine(spec_l1Below.calls g s0_0 s0_1 s0_2 256 t234 t235 t236 w0 _ ?side1 ?side2 A4.out).mono ?_);(case side1=>repeat(first|(with_reducible first|exact qi.out|apply Gb|apply Gd|apply Gc|apply Gf|apply Gg|refine Ge ?_ qh.out _|refine Ge ?_ qg.out _)|exact qi.out));(case side2=>repeat(first|(with_reducible first|exact HB.out|apply Gu|apply Gs|apply Gv|refine Gk ?_ (IsS84.ge qi.out)|refine Gk ?_ qq.out|refine Gk ?_ qr.out)|exact HB.out));rintro e w10 ⟨rfl,hi,hb,hk⟩;refine⟨_,rfl,?_⟩;have qx:=Ga (KeepBut.blk hk (g':=qk) (o:=.cells #[.int .i64 0,.int .i64 0,.slice none 0 0] 27 (0,0)) (by(with_reducible repeat(first|refine Gl ?_ _|refine Gh ?_|refine Gj ?_ _));refine blk_far ?_ qj.out _;(with_reducible repeat(first|refine Gl ?_ _|refine Gh ?_|refine Gj ?_ _));refine blk_far ?_ qj.out _;(with_reducible repeat(first|refine Gl ?_ _|refine Gh ?_|refine Gj ?_ _));refine blk_far ?_ qj.out _;(with_reducible repeat(first|refine Gl ?_ _|refine Gh ?_|refine Gj ?_ _));exact qd.out) qu.out (by simp));have qy:=Ga (KeepBut.blk hk (g':=qe) (o:=.cells #[.int .i64 a1,.int .i64 a2,.slice none 0 0] 27 (0,0)) (by(with_reducible repeat(first|refine Gl ?_ _|refine Gh ?_|refine Gj ?_ _));refine blk_put (cs:=#[.int .i64 a1,.int .i64 a2,.slice none 0 0]) ?_ 2 _ rfl;(with_reducible repeat(first|refine Gl ?_ _|refine Gh ?_|refine Gj ?_ _));refine blk_put (cs:=#[.int .i64 a1,.int .i64 0,.slice none 0 0]) ?_ 1 _ rfl;(with_reducible repeat(first|refine Gl ?_ _|refine Gh ?_|refine Gj ?_ _));refine blk_put (cs:=#[.int .i64 0,.int .i64 0,.slice none 0 0]) ?_ 0 _ rfl;(with_reducible repeat(first|refine Gl ?_ _|refine Gh ?_|refine Gj ?_ _));exact qa.out) qm.out (by simp));have qv:=Ga (KeepBut.trans (by repeat(first|(with_reducible first|exact HK.out|apply Gn|apply Gr|apply Gi|apply Gq|refine Gm ?_ ql.out _|refine Gm ?_ qn.out _)|exact HK.out)) hk (.inl rfl));have qz:=Ga (hb);have qw:=Ga (hi);clear qd;clear qa;clear HK;clear HB;clear qi;have qd:=qx;have qa:=qy;have HK:=qv;have HB:=qz;have qi:=qw;clear qx qy qv qz qw;(try clear hb);(try clear hb2);(try clear hk);(try clear hi)))
 go_loopg [8,9] k (fun kq v8 v9 w'=>∃ (yf:Int) (qt:Int) (qp:Int) (qo:Int) (qc:List Int) (qf:Value),v8=.int .i64 yf∧v9=.int .i64 qt∧Aside0 (spec_l14DrawPicture.l0 kq a1 a2 yf qt s0_0 qp qo a1 a2 qc=some (r1,r2,r3,r4,r5))∧Aside0 (kq≤k)∧Aside0 (Kd.R (Kd.int .i64) 2 w' w.heap.size (fun _=>True) qf qc)∧Aside0 (w'.heap[qk]? = some (.cells #[.int .i64 0,.int .i64 0,(.slice none 0 0)] 27 (0,0)))∧Aside0 (w'.heap[qe]? = some (.cells #[.int .i64 a1,.int .i64 a2,qf] 27 (0,0)))∧Aside0 (IsS84 w0 w' g s0_0 qp qo)∧Aside0 (KeepBut w w' g none)∧Aside0 (Below w0.heap.size w0 w'))
 case atStart=>exact⟨(t234),(0),(t235),(t236),(([]:List Int)),(.slice none 0 0),(by first|rfl|(simp;done)|(simp [*];done)),(by first|rfl|(simp;done)|(simp [*];done)),H',⟨Nat.le_refl _⟩,⟨by first|exact Kd.R_nil _ _ _ _ _|exact Kd.N_nil _ _ _ _ _|exact Kd.V_nil _ _ _ _ _|exact Kd.Q_nil _ _ _ _ _|exact Kd.S_nil _ _ _ _ _⟩,⟨by(with_reducible repeat(first|refine Gl ?_ _|refine Gh ?_|refine Gj ?_ _));exact qd.out⟩,⟨by(with_reducible repeat(first|refine Gl ?_ _|refine Gh ?_|refine Gj ?_ _));exact qa.out⟩,⟨by repeat(first|(with_reducible first|exact qi.out|apply Gb|apply Gd|apply Gc|apply Gf|apply Gg|refine Ge ?_ qh.out _|refine Ge ?_ qg.out _)|exact qi.out)⟩,⟨by repeat(first|(with_reducible first|exact HK.out|apply Gn|apply Gr|apply Gi|apply Gq|refine Gm ?_ ql.out _|refine Gm ?_ qn.out _)|exact HK.out)⟩,⟨by repeat(first|(with_reducible first|exact HB.out|apply Gu|apply Gs|apply Gv|refine Gk ?_ (IsS84.ge qi.out)|refine Gk ?_ qq.out|refine Gk ?_ qr.out)|exact HB.out)⟩⟩
 case round=>
  clear H'
  try clear p2
  try clear c6
  try clear c7
  try clear c8
  try clear c9
  try clear hcz9_0
  try clear hcz9_1
  try clear hcz9_2
  try clear hfz9_0
  try clear hfz9_1
  try clear hfz9_2
  obtain⟨yf,qt,qp,qo,qc,qf,rfl,rfl,HA,HK1,qb,qd,qa,qi,HK,HB⟩:=hrel
  cases gk with
  | zero => exact absurd HA.out (by simp [spec_l14DrawPicture.l0])
  | succ k1 =>
   have H:=HA.out
   clear HA
   simp only [spec_l14DrawPicture.l0] at H
   by_cases c11:qt < (wrap64 (a1*a2))
   ·rw [if_pos c11] at H
    have c11b0:decide (qt < (wrap64 (a1*a2)))=true:=decide_eq_true c11
    clear c11
    replace H:=Option.bind_eq_some_iff.mp H
    obtain⟨⟨ya,yb,yd⟩,A120,H⟩:=H
    replace H:(if ya=0 then ((spec_l1Below.f s0_0 yb yd 256).bind fun bt240=>(if qc.length < 17592186044416 then (spec_l14DrawPicture.l0 k1 a1 a2 bt240.1 (wrap64 (qt+1)) s0_0 bt240.2.1 bt240.2.2 a1 a2 (qc ++ [bt240.1])) else (none))) else (if ya=1 then ((spec_l1Min.f 255 (wrap64 (yf+9))).bind fun yc=>(if qc.length < 17592186044416 then (spec_l14DrawPicture.l0 k1 a1 a2 yc (wrap64 (qt+1)) s0_0 yb yd a1 a2 (qc ++ [yc])) else (none))) else (if qc.length < 17592186044416 then (spec_l14DrawPicture.l0 k1 a1 a2 yf (wrap64 (qt+1)) s0_0 yb yd a1 a2 (qc ++ [yf])) else (none))))=some (r1,r2,r3,r4,r5):=H
    have A12:=Ga A120
    clear A120
    by_cases c13:ya=0
    ·rw [if_pos c13] at H
     have c13b0:(ya == 0)=true:=beq_iff_eq.mpr c13
     have c13b1:(ya != 0)=false:=bne_eq_false_iff_eq.mpr c13
     clear c13
     replace H:=Option.bind_eq_some_iff.mp H
     obtain⟨⟨t240,t241,t242⟩,A140,H⟩:=H
     replace H:(if qc.length < 17592186044416 then (spec_l14DrawPicture.l0 k1 a1 a2 t240 (wrap64 (qt+1)) s0_0 t241 t242 a1 a2 (qc ++ [t240])) else (none))=some (r1,r2,r3,r4,r5):=H
     have A14:=Ga A140
     clear A140
     by_cases c15:qc.length < 17592186044416
     ·rw [if_pos c15] at H
      have LMc15:=Ga c15
      clear c15
      obtain⟨y243,hy243⟩:∃ y_:List Int,y_=(qc ++ [t240]):=⟨_,rfl⟩
      replace H:(spec_l14DrawPicture.l0 k1 a1 a2 t240 (wrap64 (qt+1)) s0_0 t241 t242 a1 a2 y243)=some (r1,r2,r3,r4,r5):=by first|(rw [hy243];with_reducible exact H)|(have H2_:=(Option.bind_some _ _).symm.trans H;rw [hy243];with_reducible exact H2_)|(have H2_:=(Option.bind_some _ _).symm.trans H;with_reducible exact H2_)|with_reducible exact H|(rw [hy243];exact H)|exact H
      have Ny243:=Ga hy243
      clear hy243
      have H':=Ga H
      clear H
      go_wp2_with (first|((with_reducible refine gate_callee (f:=65) rfl ?_);refine goesL_ (some 23) rfl rfl Try.func65 (by kernel_rfl) rfl #[.pointer (some ⟨g,0,none⟩),.int .i64 6] rfl (by(try simp only [List.map_toArray,List.map_cons,List.map_nil]);first|done|rfl|(simp only [List.length_drop,List.length_take];rfl)) ?_;(with_reducible refine(spec_l1Below.calls g s0_0 qp qo 6 ya yb yd w0 _ ?side1 ?side2 A12.out).mono ?_);(case side1=>repeat(first|(with_reducible first|exact qi.out|apply Gb|apply Gd|apply Gc|apply Gf|apply Gg|refine Ge ?_ qh.out _|refine Ge ?_ qg.out _)|exact qi.out));(case side2=>repeat(first|(with_reducible first|exact HB.out|apply Gu|apply Gs|apply Gv|refine Gk ?_ (IsS84.ge qi.out)|refine Gk ?_ qq.out|refine Gk ?_ qr.out)|exact HB.out));rintro e w16 ⟨rfl,hi,hb,hk⟩;refine⟨_,rfl,?_⟩;have qx:=Ga (Kd.R_mono (Kd.R_keep (IsS84.apart (show IsS84 w0 _ g s0_0 qp qo from by repeat(first|(with_reducible first|exact qi.out|apply Gb|apply Gd|apply Gc|apply Gf|apply Gg|refine Ge ?_ qh.out _|refine Ge ?_ qg.out _)|exact qi.out)) (by(with_reducible repeat(first|apply Kd.R_alloc|apply Kd.R_drewN|apply Kd.R_drew));exact qb.out) (by decide)) hk (fun _ h=>h.2)) (fun _ h=>h.1));have qy:=Ga (KeepBut.blk hk (g':=qk) (o:=.cells #[.int .i64 0,.int .i64 0,.slice none 0 0] 27 (0,0)) (by(with_reducible repeat(first|refine Gl ?_ _|refine Gh ?_|refine Gj ?_ _));exact qd.out) qu.out (by simp));have qv:=Ga (KeepBut.blk hk (g':=qe) (o:=.cells #[.int .i64 a1,.int .i64 a2,qf] 27 (0,0)) (by(with_reducible repeat(first|refine Gl ?_ _|refine Gh ?_|refine Gj ?_ _));exact qa.out) qm.out (by simp));have qz:=Ga (KeepBut.trans (by repeat(first|(with_reducible first|exact HK.out|apply Gn|apply Gr|apply Gi|apply Gq|refine Gm ?_ ql.out _|refine Gm ?_ qn.out _)|exact HK.out)) hk (.inl rfl));have qw:=Ga (hb);have ye:=Ga (hi);clear qb;clear qd;clear qa;clear HK;clear HB;clear qi;have qb:=qx;have qd:=qy;have qa:=qv;have HK:=qz;have HB:=qw;have qi:=ye;clear qx qy qv qz qw ye;(try clear hb);(try clear hb2);(try clear hk);(try clear hi))|((with_reducible refine gate_callee (f:=65) rfl ?_);refine goesL_ (some 27) rfl rfl Try.func65 (by kernel_rfl) rfl #[.pointer (some ⟨g,0,none⟩),.int .i64 256] rfl (by(try simp only [List.map_toArray,List.map_cons,List.map_nil]);first|done|rfl|(simp only [List.length_drop,List.length_take];rfl)) ?_;(with_reducible refine(spec_l1Below.calls g s0_0 yb yd 256 t240 t241 t242 w0 _ ?side1 ?side2 A14.out).mono ?_);(case side1=>repeat(first|(with_reducible first|exact qi.out|apply Gb|apply Gd|apply Gc|apply Gf|apply Gg|refine Ge ?_ qh.out _|refine Ge ?_ qg.out _)|exact qi.out));(case side2=>repeat(first|(with_reducible first|exact HB.out|apply Gu|apply Gs|apply Gv|refine Gk ?_ (IsS84.ge qi.out)|refine Gk ?_ qq.out|refine Gk ?_ qr.out)|exact HB.out));rintro e w17 ⟨rfl,hi,hb,hk⟩;refine⟨_,rfl,?_⟩;have qx:=Ga (Kd.R_mono (Kd.R_keep (IsS84.apart (show IsS84 w0 _ g s0_0 yb yd from by repeat(first|(with_reducible first|exact qi.out|apply Gb|apply Gd|apply Gc|apply Gf|apply Gg|refine Ge ?_ qh.out _|refine Ge ?_ qg.out _)|exact qi.out)) (by(with_reducible repeat(first|apply Kd.R_alloc|apply Kd.R_drewN|apply Kd.R_drew));exact qb.out) (by decide)) hk (fun _ h=>h.2)) (fun _ h=>h.1));have qy:=Ga (KeepBut.blk hk (g':=qk) (o:=.cells #[.int .i64 0,.int .i64 0,.slice none 0 0] 27 (0,0)) (by(with_reducible repeat(first|refine Gl ?_ _|refine Gh ?_|refine Gj ?_ _));exact qd.out) qu.out (by simp));have qv:=Ga (KeepBut.blk hk (g':=qe) (o:=.cells #[.int .i64 a1,.int .i64 a2,qf] 27 (0,0)) (by(with_reducible repeat(first|refine Gl ?_ _|refine Gh ?_|refine Gj ?_ _));exact qa.out) qm.out (by simp));have qz:=Ga (KeepBut.trans (by repeat(first|(with_reducible first|exact HK.out|apply Gn|apply Gr|apply Gi|apply Gq|refine Gm ?_ ql.out _|refine Gm ?_ qn.out _)|exact HK.out)) hk (.inl rfl));have qw:=Ga (hb);have ye:=Ga (hi);clear qb;clear qd;clear qa;clear HK;clear HB;clear qi;have qb:=qx;have qd:=qy;have qa:=qv;have HK:=qz;have HB:=qw;have qi:=ye;clear qx qy qv qz qw ye;(try clear hb);(try clear hb2);(try clear hk);(try clear hi);have hnb18:=qs.out;have hnc18:=qj.out;have hnb19:=qm.out;have hnc19:=qg.out;have hcz20_0:w17.cell? ⟨qe,0,none⟩=some (.int .i64 a1):=(Gt qa.out 0).trans rfl;have hcz20_1:w17.cell? ⟨qe,1,none⟩=some (.int .i64 a2):=(Gt qa.out 1).trans rfl;have hcz20_2:w17.cell? ⟨qe,2,none⟩=some (qf):=(Gt qa.out 2).trans rfl;have hfz20_0:=Gp qa.out 0;have hfz20_1:=Gp qa.out 1;have hfz20_2:=Gp qa.out 2)|((with_reducible refine gate_builtin (b:=.append) (xs:=#[.tmp 34,.tmp 36]) rfl ?_);at_builtin;refine Kd.R_append (Kd.int .i64) w.heap.size rfl (.tmp 34) (.tmp 36) 22 2 (.int .i64 0) 8 rfl Try.underlying22 info2 rfl (by decide) (by omega) qf qc t240 [.int .i64 t240] (fun _=>True) (fun _=>False) rfl rfl ?aP (fun _ hk=>hk.elim) ?aF ?aO (Below.refl _ _) ?aS ?aL ?_;(case aP=>exact rfl);(case aF=>exact(fun _ _=>trivial));(case aO=>exact(by(with_reducible repeat(first|apply Kd.R_alloc|apply Kd.R_drewN|apply Kd.R_drew));exact qb.out));(case aS=>exact(keep_size (w:=w) (g:=g) (row:=none) (by repeat(first|(with_reducible first|exact HK.out|apply Gn|apply Gr|apply Gi|apply Gq|refine Gm ?_ ql.out _|refine Gm ?_ qn.out _)|exact HK.out))));(case aL=>have:=LMc15.out;omega);intro v244 w21 ho hb hg hat;rw [← Ny243.out] at ho;have qx:=Ga (blk_grown (g:=qk) (o:=.cells #[.int .i64 0,.int .i64 0,.slice none 0 0] 27 (0,0)) (by(with_reducible repeat(first|refine Gl ?_ _|refine Gh ?_|refine Gj ?_ _));exact qd.out) hg (Kd.R_ne qb.out qd.out (by decide)));have qy:=Ga (blk_grown (g:=qe) (o:=.cells #[.int .i64 a1,.int .i64 a2,qf] 27 (0,0)) (by(with_reducible repeat(first|refine Gl ?_ _|refine Gh ?_|refine Gj ?_ _));exact qa.out) hg (Kd.R_ne qb.out qa.out (by decide)));have qv:=Ga (IsS84.grown (by repeat(first|(with_reducible first|exact qi.out|apply Gb|apply Gd|apply Gc|apply Gf|apply Gg|refine Ge ?_ qh.out _|refine Ge ?_ qg.out _)|exact qi.out)) hg (IsS84.own_ne qi.out qb.out (by decide)));have qz:=Ga (below_weaken (by repeat(first|(with_reducible first|exact HB.out|apply Gu|apply Gs|apply Gv|refine Gk ?_ (IsS84.ge qi.out)|refine Gk ?_ qq.out|refine Gk ?_ qr.out)|exact HB.out)) HL.out hb);have qw:=Ga (KeepBut.trans (by repeat(first|(with_reducible first|exact HK.out|apply Gn|apply Gr|apply Gi|apply Gq|refine Gm ?_ ql.out _|refine Gm ?_ qn.out _)|exact HK.out)) (KeepBut.of_grown hg g) (Kd.R_base2 qb.out));have ye:=Ga (ho);clear qd;clear qa;clear qi;clear HB;clear HK;clear qb;have qd:=qx;have qa:=qy;have qi:=qv;have HB:=qz;have HK:=qw;have HO245:=ye;clear qx qy qv qz qw ye;clear ho hb hg hat;obtain⟨Ao22,co22,eo22⟩:=Kd.R_slice HO245.out;subst eo22;have hcz23_0:w21.cell? ⟨qe,0,none⟩=some (.int .i64 a1):=(Gt qa.out 0).trans rfl;have hcz23_1:w21.cell? ⟨qe,1,none⟩=some (.int .i64 a2):=(Gt qa.out 1).trans rfl;have hcz23_2:w21.cell? ⟨qe,2,none⟩=some (qf):=(Gt qa.out 2).trans rfl;have hfz23_0:=Gp qa.out 0;have hfz23_1:=Gp qa.out 1;have hfz23_2:=Gp qa.out 2))
      go_roundg k1
      case measure=>have:=HK1.out;omega
      case rel=>exact⟨(t240),(wrap64 (qt+1)),(t241),(t242),(y243),(.slice Ao22 y243.length co22),(by first|rfl|(simp;done)|(simp [*];done)),(by first|rfl|(simp;done)|(simp [*];done)),H',⟨by have:=HK1.out;omega⟩,⟨by(with_reducible repeat(first|apply Kd.R_alloc|apply Kd.R_drewN|apply Kd.R_drew));exact Kd.R_mono (Kd.R_far (p:=⟨qe,2,none⟩) (Kd.R_types HO245.out qa.out (by decide)) (fun _ hk=>hk.2) (.slice Ao22 y243.length co22)) (fun _ hk=>trivial)⟩,⟨by(with_reducible repeat(first|refine Gl ?_ _|refine Gh ?_|refine Gj ?_ _));refine blk_far ?_ qj.out _;(with_reducible repeat(first|refine Gl ?_ _|refine Gh ?_|refine Gj ?_ _));exact qd.out⟩,⟨by(with_reducible repeat(first|refine Gl ?_ _|refine Gh ?_|refine Gj ?_ _));refine blk_put (cs:=#[.int .i64 a1,.int .i64 a2,qf]) ?_ 2 _ rfl;(with_reducible repeat(first|refine Gl ?_ _|refine Gh ?_|refine Gj ?_ _));exact qa.out⟩,⟨by repeat(first|(with_reducible first|exact qi.out|apply Gb|apply Gd|apply Gc|apply Gf|apply Gg|refine Ge ?_ qh.out _|refine Ge ?_ qg.out _)|exact qi.out)⟩,⟨by repeat(first|(with_reducible first|exact HK.out|apply Gn|apply Gr|apply Gi|apply Gq|refine Gm ?_ ql.out _|refine Gm ?_ qn.out _)|exact HK.out)⟩,⟨by repeat(first|(with_reducible first|exact HB.out|apply Gu|apply Gs|apply Gv|refine Gk ?_ (IsS84.ge qi.out)|refine Gk ?_ qq.out|refine Gk ?_ qr.out)|exact HB.out)⟩⟩
     ·rw [if_neg c15] at H
      exact absurd H (by simp)
    ·rw [if_neg c13] at H
     have c13b0:(ya == 0)=false:=beq_eq_false_iff_ne.mpr c13
     have c13b1:(ya != 0)=true:=bne_iff_ne.mpr c13
     by_cases c24:ya=1
     ·rw [if_pos c24] at H
      have c24b0:(ya == 1)=true:=beq_iff_eq.mpr c24
      have c24b1:(ya != 1)=false:=bne_eq_false_iff_eq.mpr c24
      clear c24
      replace H:=Option.bind_eq_some_iff.mp H
      obtain⟨yc,A250,H⟩:=H
      replace H:(if qc.length < 17592186044416 then (spec_l14DrawPicture.l0 k1 a1 a2 yc (wrap64 (qt+1)) s0_0 yb yd a1 a2 (qc ++ [yc])) else (none))=some (r1,r2,r3,r4,r5):=H
      have A25:=Ga A250
      clear A250
      by_cases c26:qc.length < 17592186044416
      ·rw [if_pos c26] at H
       have LMc26:=Ga c26
       clear c26
       obtain⟨y247,hy247⟩:∃ y_:List Int,y_=(qc ++ [yc]):=⟨_,rfl⟩
       replace H:(spec_l14DrawPicture.l0 k1 a1 a2 yc (wrap64 (qt+1)) s0_0 yb yd a1 a2 y247)=some (r1,r2,r3,r4,r5):=by first|(rw [hy247];with_reducible exact H)|(have H2_:=(Option.bind_some _ _).symm.trans H;rw [hy247];with_reducible exact H2_)|(have H2_:=(Option.bind_some _ _).symm.trans H;with_reducible exact H2_)|with_reducible exact H|(rw [hy247];exact H)|exact H
       have Ny247:=Ga hy247
       clear hy247
       have H':=Ga H
       clear H
       go_wp2_with (first|((with_reducible refine gate_callee (f:=65) rfl ?_);refine goesL_ (some 23) rfl rfl Try.func65 (by kernel_rfl) rfl #[.pointer (some ⟨g,0,none⟩),.int .i64 6] rfl (by(try simp only [List.map_toArray,List.map_cons,List.map_nil]);first|done|rfl|(simp only [List.length_drop,List.length_take];rfl)) ?_;(with_reducible refine(spec_l1Below.calls g s0_0 qp qo 6 ya yb yd w0 _ ?side1 ?side2 A12.out).mono ?_);(case side1=>repeat(first|(with_reducible first|exact qi.out|apply Gb|apply Gd|apply Gc|apply Gf|apply Gg|refine Ge ?_ qh.out _|refine Ge ?_ qg.out _)|exact qi.out));(case side2=>repeat(first|(with_reducible first|exact HB.out|apply Gu|apply Gs|apply Gv|refine Gk ?_ (IsS84.ge qi.out)|refine Gk ?_ qq.out|refine Gk ?_ qr.out)|exact HB.out));rintro e w27 ⟨rfl,hi,hb,hk⟩;refine⟨_,rfl,?_⟩;have qx:=Ga (Kd.R_mono (Kd.R_keep (IsS84.apart (show IsS84 w0 _ g s0_0 qp qo from by repeat(first|(with_reducible first|exact qi.out|apply Gb|apply Gd|apply Gc|apply Gf|apply Gg|refine Ge ?_ qh.out _|refine Ge ?_ qg.out _)|exact qi.out)) (by(with_reducible repeat(first|apply Kd.R_alloc|apply Kd.R_drewN|apply Kd.R_drew));exact qb.out) (by decide)) hk (fun _ h=>h.2)) (fun _ h=>h.1));have qy:=Ga (KeepBut.blk hk (g':=qk) (o:=.cells #[.int .i64 0,.int .i64 0,.slice none 0 0] 27 (0,0)) (by(with_reducible repeat(first|refine Gl ?_ _|refine Gh ?_|refine Gj ?_ _));exact qd.out) qu.out (by simp));have qv:=Ga (KeepBut.blk hk (g':=qe) (o:=.cells #[.int .i64 a1,.int .i64 a2,qf] 27 (0,0)) (by(with_reducible repeat(first|refine Gl ?_ _|refine Gh ?_|refine Gj ?_ _));exact qa.out) qm.out (by simp));have qz:=Ga (KeepBut.trans (by repeat(first|(with_reducible first|exact HK.out|apply Gn|apply Gr|apply Gi|apply Gq|refine Gm ?_ ql.out _|refine Gm ?_ qn.out _)|exact HK.out)) hk (.inl rfl));have qw:=Ga (hb);have ye:=Ga (hi);clear qb;clear qd;clear qa;clear HK;clear HB;clear qi;have qb:=qx;have qd:=qy;have qa:=qv;have HK:=qz;have HB:=qw;have qi:=ye;clear qx qy qv qz qw ye;(try clear hb);(try clear hb2);(try clear hk);(try clear hi))|((with_reducible refine gate_callee (f:=59) rfl ?_);refine goesL_ (some 32) rfl rfl Try.func59 (by kernel_rfl) rfl #[.int .i64 255,.int .i64 (wrap64 (yf+9))] rfl (by(try simp only [List.map_toArray,List.map_cons,List.map_nil]);first|done|rfl|(simp only [List.length_drop,List.length_take];rfl)) ?_;(with_reducible refine(spec_l1Min.calls 255 (wrap64 (yf+9)) yc _ A25.out).mono ?_);rintro e w' ⟨rfl,⟨nd,rfl⟩⟩;refine⟨_,rfl,?_⟩;(try(rw [drewN_self w27];generalize hq_:World.drewN w27 _=w27;have qx:Aside0 (Kd.R (Kd.int .i64) 2 w27 w.heap.size (fun _=>True) qf qc):=⟨by rw [← hq_];exact(by(with_reducible repeat(first|apply Kd.R_alloc|apply Kd.R_drewN|apply Kd.R_drew));exact qb.out)⟩;have qy:Aside0 (w27.heap[qk]? = some (.cells #[.int .i64 0,.int .i64 0,.slice none 0 0] 27 (0,0))):=⟨by rw [← hq_];exact(by(with_reducible repeat(first|refine Gl ?_ _|refine Gh ?_|refine Gj ?_ _));exact qd.out)⟩;have qv:Aside0 (w27.heap[qe]? = some (.cells #[.int .i64 a1,.int .i64 a2,qf] 27 (0,0))):=⟨by rw [← hq_];exact(by(with_reducible repeat(first|refine Gl ?_ _|refine Gh ?_|refine Gj ?_ _));exact qa.out)⟩;have qz:Aside0 (IsS84 w0 w27 g s0_0 yb yd):=⟨by rw [← hq_];exact(by repeat(first|(with_reducible first|exact qi.out|apply Gb|apply Gd|apply Gc|apply Gf|apply Gg|refine Ge ?_ qh.out _|refine Ge ?_ qg.out _)|exact qi.out))⟩;have qw:Aside0 (KeepBut w w27 g none):=⟨by rw [← hq_];exact(by repeat(first|(with_reducible first|exact HK.out|apply Gn|apply Gr|apply Gi|apply Gq|refine Gm ?_ ql.out _|refine Gm ?_ qn.out _)|exact HK.out))⟩;have ye:Aside0 (Below w0.heap.size w0 w27):=⟨by rw [← hq_];exact(by repeat(first|(with_reducible first|exact HB.out|apply Gu|apply Gs|apply Gv|refine Gk ?_ (IsS84.ge qi.out)|refine Gk ?_ qq.out|refine Gk ?_ qr.out)|exact HB.out))⟩;clear qb qd qa qi HK HB hq_;have qb:=qx;have qd:=qy;have qa:=qv;have qi:=qz;have HK:=qw;have HB:=ye;clear qx qy qv qz qw ye));have hnb28:=qs.out;have hnc28:=qj.out;have hnb29:=qm.out;have hnc29:=qg.out;have hcz30_0:w27.cell? ⟨qe,0,none⟩=some (.int .i64 a1):=(Gt qa.out 0).trans rfl;have hcz30_1:w27.cell? ⟨qe,1,none⟩=some (.int .i64 a2):=(Gt qa.out 1).trans rfl;have hcz30_2:w27.cell? ⟨qe,2,none⟩=some (qf):=(Gt qa.out 2).trans rfl;have hfz30_0:=Gp qa.out 0;have hfz30_1:=Gp qa.out 1;have hfz30_2:=Gp qa.out 2)|((with_reducible refine gate_builtin (b:=.append) (xs:=#[.tmp 34,.tmp 36]) rfl ?_);at_builtin;refine Kd.R_append (Kd.int .i64) w.heap.size rfl (.tmp 34) (.tmp 36) 22 2 (.int .i64 0) 8 rfl Try.underlying22 info2 rfl (by decide) (by omega) qf qc yc [.int .i64 yc] (fun _=>True) (fun _=>False) rfl rfl ?aP (fun _ hk=>hk.elim) ?aF ?aO (Below.refl _ _) ?aS ?aL ?_;(case aP=>exact rfl);(case aF=>exact(fun _ _=>trivial));(case aO=>exact(by(with_reducible repeat(first|apply Kd.R_alloc|apply Kd.R_drewN|apply Kd.R_drew));exact qb.out));(case aS=>exact(keep_size (w:=w) (g:=g) (row:=none) (by repeat(first|(with_reducible first|exact HK.out|apply Gn|apply Gr|apply Gi|apply Gq|refine Gm ?_ ql.out _|refine Gm ?_ qn.out _)|exact HK.out))));(case aL=>have:=LMc26.out;omega);intro v248 w31 ho hb hg hat;rw [← Ny247.out] at ho;have qx:=Ga (blk_grown (g:=qk) (o:=.cells #[.int .i64 0,.int .i64 0,.slice none 0 0] 27 (0,0)) (by(with_reducible repeat(first|refine Gl ?_ _|refine Gh ?_|refine Gj ?_ _));exact qd.out) hg (Kd.R_ne qb.out qd.out (by decide)));have qy:=Ga (blk_grown (g:=qe) (o:=.cells #[.int .i64 a1,.int .i64 a2,qf] 27 (0,0)) (by(with_reducible repeat(first|refine Gl ?_ _|refine Gh ?_|refine Gj ?_ _));exact qa.out) hg (Kd.R_ne qb.out qa.out (by decide)));have qv:=Ga (IsS84.grown (by repeat(first|(with_reducible first|exact qi.out|apply Gb|apply Gd|apply Gc|apply Gf|apply Gg|refine Ge ?_ qh.out _|refine Ge ?_ qg.out _)|exact qi.out)) hg (IsS84.own_ne qi.out qb.out (by decide)));have qz:=Ga (below_weaken (by repeat(first|(with_reducible first|exact HB.out|apply Gu|apply Gs|apply Gv|refine Gk ?_ (IsS84.ge qi.out)|refine Gk ?_ qq.out|refine Gk ?_ qr.out)|exact HB.out)) HL.out hb);have qw:=Ga (KeepBut.trans (by repeat(first|(with_reducible first|exact HK.out|apply Gn|apply Gr|apply Gi|apply Gq|refine Gm ?_ ql.out _|refine Gm ?_ qn.out _)|exact HK.out)) (KeepBut.of_grown hg g) (Kd.R_base2 qb.out));have ye:=Ga (ho);clear qd;clear qa;clear qi;clear HB;clear HK;clear qb;have qd:=qx;have qa:=qy;have qi:=qv;have HB:=qz;have HK:=qw;have HO249:=ye;clear qx qy qv qz qw ye;clear ho hb hg hat;obtain⟨Ao32,co32,eo32⟩:=Kd.R_slice HO249.out;subst eo32;have hcz33_0:w31.cell? ⟨qe,0,none⟩=some (.int .i64 a1):=(Gt qa.out 0).trans rfl;have hcz33_1:w31.cell? ⟨qe,1,none⟩=some (.int .i64 a2):=(Gt qa.out 1).trans rfl;have hcz33_2:w31.cell? ⟨qe,2,none⟩=some (qf):=(Gt qa.out 2).trans rfl;have hfz33_0:=Gp qa.out 0;have hfz33_1:=Gp qa.out 1;have hfz33_2:=Gp qa.out 2))
       go_roundg k1
       case measure=>have:=HK1.out;omega
       case rel=>exact⟨(yc),(wrap64 (qt+1)),(yb),(yd),(y247),(.slice Ao32 y247.length co32),(by first|rfl|(simp;done)|(simp [*];done)),(by first|rfl|(simp;done)|(simp [*];done)),H',⟨by have:=HK1.out;omega⟩,⟨by(with_reducible repeat(first|apply Kd.R_alloc|apply Kd.R_drewN|apply Kd.R_drew));exact Kd.R_mono (Kd.R_far (p:=⟨qe,2,none⟩) (Kd.R_types HO249.out qa.out (by decide)) (fun _ hk=>hk.2) (.slice Ao32 y247.length co32)) (fun _ hk=>trivial)⟩,⟨by(with_reducible repeat(first|refine Gl ?_ _|refine Gh ?_|refine Gj ?_ _));refine blk_far ?_ qj.out _;(with_reducible repeat(first|refine Gl ?_ _|refine Gh ?_|refine Gj ?_ _));exact qd.out⟩,⟨by(with_reducible repeat(first|refine Gl ?_ _|refine Gh ?_|refine Gj ?_ _));refine blk_put (cs:=#[.int .i64 a1,.int .i64 a2,qf]) ?_ 2 _ rfl;(with_reducible repeat(first|refine Gl ?_ _|refine Gh ?_|refine Gj ?_ _));exact qa.out⟩,⟨by repeat(first|(with_reducible first|exact qi.out|apply Gb|apply Gd|apply Gc|apply Gf|apply Gg|refine Ge ?_ qh.out _|refine Ge ?_ qg.out _)|exact qi.out)⟩,⟨by repeat(first|(with_reducible first|exact HK.out|apply Gn|apply Gr|apply Gi|apply Gq|refine Gm ?_ ql.out _|refine Gm ?_ qn.out _)|exact HK.out)⟩,⟨by repeat(first|(with_reducible first|exact HB.out|apply Gu|apply Gs|apply Gv|refine Gk ?_ (IsS84.ge qi.out)|refine Gk ?_ qq.out|refine Gk ?_ qr.out)|exact HB.out)⟩⟩
      ·rw [if_neg c26] at H
       exact absurd H (by simp)
     ·rw [if_neg c24] at H
      have c24b0:(ya == 1)=false:=beq_eq_false_iff_ne.mpr c24
      have c24b1:(ya != 1)=true:=bne_iff_ne.mpr c24
      by_cases c34:qc.length < 17592186044416
      ·rw [if_pos c34] at H
       have LMc34:=Ga c34
       clear c34
       obtain⟨y250,hy250⟩:∃ y_:List Int,y_=(qc ++ [yf]):=⟨_,rfl⟩
       replace H:(spec_l14DrawPicture.l0 k1 a1 a2 yf (wrap64 (qt+1)) s0_0 yb yd a1 a2 y250)=some (r1,r2,r3,r4,r5):=by first|(rw [hy250];with_reducible exact H)|(have H2_:=(Option.bind_some _ _).symm.trans H;rw [hy250];with_reducible exact H2_)|(have H2_:=(Option.bind_some _ _).symm.trans H;with_reducible exact H2_)|with_reducible exact H|(rw [hy250];exact H)|exact H
       have Ny250:=Ga hy250
       clear hy250
       have H':=Ga H
       clear H
       go_wp2_with (first|((with_reducible refine gate_callee (f:=65) rfl ?_);refine goesL_ (some 23) rfl rfl Try.func65 (by kernel_rfl) rfl #[.pointer (some ⟨g,0,none⟩),.int .i64 6] rfl (by(try simp only [List.map_toArray,List.map_cons,List.map_nil]);first|done|rfl|(simp only [List.length_drop,List.length_take];rfl)) ?_;(with_reducible refine(spec_l1Below.calls g s0_0 qp qo 6 ya yb yd w0 _ ?side1 ?side2 A12.out).mono ?_);(case side1=>repeat(first|(with_reducible first|exact qi.out|apply Gb|apply Gd|apply Gc|apply Gf|apply Gg|refine Ge ?_ qh.out _|refine Ge ?_ qg.out _)|exact qi.out));(case side2=>repeat(first|(with_reducible first|exact HB.out|apply Gu|apply Gs|apply Gv|refine Gk ?_ (IsS84.ge qi.out)|refine Gk ?_ qq.out|refine Gk ?_ qr.out)|exact HB.out));rintro e w35 ⟨rfl,hi,hb,hk⟩;refine⟨_,rfl,?_⟩;have qx:=Ga (Kd.R_mono (Kd.R_keep (IsS84.apart (show IsS84 w0 _ g s0_0 qp qo from by repeat(first|(with_reducible first|exact qi.out|apply Gb|apply Gd|apply Gc|apply Gf|apply Gg|refine Ge ?_ qh.out _|refine Ge ?_ qg.out _)|exact qi.out)) (by(with_reducible repeat(first|apply Kd.R_alloc|apply Kd.R_drewN|apply Kd.R_drew));exact qb.out) (by decide)) hk (fun _ h=>h.2)) (fun _ h=>h.1));have qy:=Ga (KeepBut.blk hk (g':=qk) (o:=.cells #[.int .i64 0,.int .i64 0,.slice none 0 0] 27 (0,0)) (by(with_reducible repeat(first|refine Gl ?_ _|refine Gh ?_|refine Gj ?_ _));exact qd.out) qu.out (by simp));have qv:=Ga (KeepBut.blk hk (g':=qe) (o:=.cells #[.int .i64 a1,.int .i64 a2,qf] 27 (0,0)) (by(with_reducible repeat(first|refine Gl ?_ _|refine Gh ?_|refine Gj ?_ _));exact qa.out) qm.out (by simp));have qz:=Ga (KeepBut.trans (by repeat(first|(with_reducible first|exact HK.out|apply Gn|apply Gr|apply Gi|apply Gq|refine Gm ?_ ql.out _|refine Gm ?_ qn.out _)|exact HK.out)) hk (.inl rfl));have qw:=Ga (hb);have ye:=Ga (hi);clear qb;clear qd;clear qa;clear HK;clear HB;clear qi;have qb:=qx;have qd:=qy;have qa:=qv;have HK:=qz;have HB:=qw;have qi:=ye;clear qx qy qv qz qw ye;(try clear hb);(try clear hb2);(try clear hk);(try clear hi);have hnb36:=qs.out;have hnc36:=qj.out;have hnb37:=qm.out;have hnc37:=qg.out;have hcz38_0:w35.cell? ⟨qe,0,none⟩=some (.int .i64 a1):=(Gt qa.out 0).trans rfl;have hcz38_1:w35.cell? ⟨qe,1,none⟩=some (.int .i64 a2):=(Gt qa.out 1).trans rfl;have hcz38_2:w35.cell? ⟨qe,2,none⟩=some (qf):=(Gt qa.out 2).trans rfl;have hfz38_0:=Gp qa.out 0;have hfz38_1:=Gp qa.out 1;have hfz38_2:=Gp qa.out 2)|((with_reducible refine gate_builtin (b:=.append) (xs:=#[.tmp 34,.tmp 36]) rfl ?_);at_builtin;refine Kd.R_append (Kd.int .i64) w.heap.size rfl (.tmp 34) (.tmp 36) 22 2 (.int .i64 0) 8 rfl Try.underlying22 info2 rfl (by decide) (by omega) qf qc yf [.int .i64 yf] (fun _=>True) (fun _=>False) rfl rfl ?aP (fun _ hk=>hk.elim) ?aF ?aO (Below.refl _ _) ?aS ?aL ?_;(case aP=>exact rfl);(case aF=>exact(fun _ _=>trivial));(case aO=>exact(by(with_reducible repeat(first|apply Kd.R_alloc|apply Kd.R_drewN|apply Kd.R_drew));exact qb.out));(case aS=>exact(keep_size (w:=w) (g:=g) (row:=none) (by repeat(first|(with_reducible first|exact HK.out|apply Gn|apply Gr|apply Gi|apply Gq|refine Gm ?_ ql.out _|refine Gm ?_ qn.out _)|exact HK.out))));(case aL=>have:=LMc34.out;omega);intro v251 w39 ho hb hg hat;rw [← Ny250.out] at ho;have qx:=Ga (blk_grown (g:=qk) (o:=.cells #[.int .i64 0,.int .i64 0,.slice none 0 0] 27 (0,0)) (by(with_reducible repeat(first|refine Gl ?_ _|refine Gh ?_|refine Gj ?_ _));exact qd.out) hg (Kd.R_ne qb.out qd.out (by decide)));have qy:=Ga (blk_grown (g:=qe) (o:=.cells #[.int .i64 a1,.int .i64 a2,qf] 27 (0,0)) (by(with_reducible repeat(first|refine Gl ?_ _|refine Gh ?_|refine Gj ?_ _));exact qa.out) hg (Kd.R_ne qb.out qa.out (by decide)));have qv:=Ga (IsS84.grown (by repeat(first|(with_reducible first|exact qi.out|apply Gb|apply Gd|apply Gc|apply Gf|apply Gg|refine Ge ?_ qh.out _|refine Ge ?_ qg.out _)|exact qi.out)) hg (IsS84.own_ne qi.out qb.out (by decide)));have qz:=Ga (below_weaken (by repeat(first|(with_reducible first|exact HB.out|apply Gu|apply Gs|apply Gv|refine Gk ?_ (IsS84.ge qi.out)|refine Gk ?_ qq.out|refine Gk ?_ qr.out)|exact HB.out)) HL.out hb);have qw:=Ga (KeepBut.trans (by repeat(first|(with_reducible first|exact HK.out|apply Gn|apply Gr|apply Gi|apply Gq|refine Gm ?_ ql.out _|refine Gm ?_ qn.out _)|exact HK.out)) (KeepBut.of_grown hg g) (Kd.R_base2 qb.out));have ye:=Ga (ho);clear qd;clear qa;clear qi;clear HB;clear HK;clear qb;have qd:=qx;have qa:=qy;have qi:=qv;have HB:=qz;have HK:=qw;have HO252:=ye;clear qx qy qv qz qw ye;clear ho hb hg hat;obtain⟨Ao40,co40,eo40⟩:=Kd.R_slice HO252.out;subst eo40;have hcz41_0:w39.cell? ⟨qe,0,none⟩=some (.int .i64 a1):=(Gt qa.out 0).trans rfl;have hcz41_1:w39.cell? ⟨qe,1,none⟩=some (.int .i64 a2):=(Gt qa.out 1).trans rfl;have hcz41_2:w39.cell? ⟨qe,2,none⟩=some (qf):=(Gt qa.out 2).trans rfl;have hfz41_0:=Gp qa.out 0;have hfz41_1:=Gp qa.out 1;have hfz41_2:=Gp qa.out 2))
       go_roundg k1
       case measure=>have:=HK1.out;omega
       case rel=>exact⟨(yf),(wrap64 (qt+1)),(yb),(yd),(y250),(.slice Ao40 y250.length co40),(by first|rfl|(simp;done)|(simp [*];done)),(by first|rfl|(simp;done)|(simp [*];done)),H',⟨by have:=HK1.out;omega⟩,⟨by(with_reducible repeat(first|apply Kd.R_alloc|apply Kd.R_drewN|apply Kd.R_drew));exact Kd.R_mono (Kd.R_far (p:=⟨qe,2,none⟩) (Kd.R_types HO252.out qa.out (by decide)) (fun _ hk=>hk.2) (.slice Ao40 y250.length co40)) (fun _ hk=>trivial)⟩,⟨by(with_reducible repeat(first|refine Gl ?_ _|refine Gh ?_|refine Gj ?_ _));refine blk_far ?_ qj.out _;(with_reducible repeat(first|refine Gl ?_ _|refine Gh ?_|refine Gj ?_ _));exact qd.out⟩,⟨by(with_reducible repeat(first|refine Gl ?_ _|refine Gh ?_|refine Gj ?_ _));refine blk_put (cs:=#[.int .i64 a1,.int .i64 a2,qf]) ?_ 2 _ rfl;(with_reducible repeat(first|refine Gl ?_ _|refine Gh ?_|refine Gj ?_ _));exact qa.out⟩,⟨by repeat(first|(with_reducible first|exact qi.out|apply Gb|apply Gd|apply Gc|apply Gf|apply Gg|refine Ge ?_ qh.out _|refine Ge ?_ qg.out _)|exact qi.out)⟩,⟨by repeat(first|(with_reducible first|exact HK.out|apply Gn|apply Gr|apply Gi|apply Gq|refine Gm ?_ ql.out _|refine Gm ?_ qn.out _)|exact HK.out)⟩,⟨by repeat(first|(with_reducible first|exact HB.out|apply Gu|apply Gs|apply Gv|refine Gk ?_ (IsS84.ge qi.out)|refine Gk ?_ qq.out|refine Gk ?_ qr.out)|exact HB.out)⟩⟩
      ·rw [if_neg c34] at H
       exact absurd H (by simp)
   ·rw [if_neg c11] at H
    have c11b0:decide (qt < (wrap64 (a1*a2)))=false:=decide_eq_false c11
    clear c11
    simp only [Option.some.injEq,Prod.mk.injEq] at H
    obtain⟨rfl,rfl,rfl,rfl,rfl⟩:=H
    have hnb42:=qs.out
    have hnc42:=qj.out
    have hnb43:=qm.out
    have hnc43:=qg.out
    have hcz44_0:wr.cell? ⟨qe,0,none⟩=some (.int .i64 a1):=(Gt qa.out 0).trans rfl
    have hcz44_1:wr.cell? ⟨qe,1,none⟩=some (.int .i64 a2):=(Gt qa.out 1).trans rfl
    have hcz44_2:wr.cell? ⟨qe,2,none⟩=some (qf):=(Gt qa.out 2).trans rfl
    have hfz44_0:=Gp qa.out 0
    have hfz44_1:=Gp qa.out 1
    have hfz44_2:=Gp qa.out 2
    have hnb45:=qu.out
    have hnc45:=qh.out
    have hcz46_0:wr.cell? ⟨qk,0,none⟩=some (.int .i64 0):=(Gt qd.out 0).trans rfl
    have hcz46_1:wr.cell? ⟨qk,1,none⟩=some (.int .i64 0):=(Gt qd.out 1).trans rfl
    have hcz46_2:wr.cell? ⟨qk,2,none⟩=some (.slice none 0 0):=(Gt qd.out 2).trans rfl
    have hfz46_0:=Gp qd.out 0
    have hfz46_1:=Gp qd.out 1
    have hfz46_2:=Gp qd.out 2
    obtain⟨Ao47,co47,eo47⟩:=Kd.R_slice qb.out
    subst eo47
    go_wp2
    refine bodyPost_ret (results_cell_row rfl _ _ qk 27 #[.int .i64 a1,.int .i64 a2,.slice Ao47 qc.length co47] (0,0) _ rfl (by(with_reducible repeat(first|refine Gl ?_ _|refine Gh ?_|refine Gj ?_ _));refine blk_put (cs:=#[.int .i64 a1,.int .i64 a2,.slice none 0 0]) ?_ 2 _ rfl;(with_reducible repeat(first|refine Gl ?_ _|refine Gh ?_|refine Gj ?_ _));refine blk_put (cs:=#[.int .i64 a1,.int .i64 0,.slice none 0 0]) ?_ 1 _ rfl;(with_reducible repeat(first|refine Gl ?_ _|refine Gh ?_|refine Gj ?_ _));refine blk_put (cs:=#[.int .i64 0,.int .i64 0,.slice none 0 0]) ?_ 0 _ rfl;(with_reducible repeat(first|refine Gl ?_ _|refine Gh ?_|refine Gj ?_ _));exact qd.out) Try.underlying27 rfl (by kernel_rfl)) rfl ?_
    exact⟨_,by first|rfl|(simp [errW_none,errW_some] <;> rfl)|(simp [*,errW_none,errW_some] <;> rfl),by(with_reducible repeat(first|apply Kd.R_alloc|apply Kd.R_drewN|apply Kd.R_drew));exact Kd.R_mono (Kd.R_far (p:=⟨qk,2,none⟩) (Kd.R_far (p:=⟨qk,1,none⟩) (Kd.R_far (p:=⟨qk,0,none⟩) (Kd.R_types qb.out qd.out (by decide)) (fun _ hk=>hk.2) (.int .i64 a1)) (fun _ hk=>hk.2) (.int .i64 a2)) (fun _ hk=>hk.2) (.slice Ao47 qc.length co47)) (fun _ hk=>trivial),by repeat(first|(with_reducible first|exact qi.out|apply Gb|apply Gd|apply Gc|apply Gf|apply Gg|refine Ge ?_ qh.out _|refine Ge ?_ qg.out _)|exact qi.out),by repeat(first|(with_reducible first|exact HB.out|apply Gu|apply Gs|apply Gv|refine Gk ?_ (IsS84.ge qi.out)|refine Gk ?_ qq.out|refine Gk ?_ qr.out)|exact HB.out),by repeat(first|(with_reducible first|exact HK.out|apply Gn|apply Gr|apply Gi|apply Gq|refine Gm ?_ ql.out _|refine Gm ?_ qn.out _)|exact HK.out)⟩

end Go.Proofs.Ytbdnpfjjaokdbaa.HFnMotion
