-- Laid by myprint.py, a program of this repo, out of the kit's printer and this repo's own texts (wip/hand).
import Derived.Test.YtbdnpfjjaokdbaaHFnDecodedx0
import Derived.Test.YtbdnpfjjaokdbaaHFnDecodedx1
namespace Go.Proofs.Ytbdnpfjjaokdbaa.HFnDecoded
open Go.RowKit Go.Proofs.YtbdnpfjjaokdbaaW.PrintWords Go.Proofs.YtbdnpfjjaokdbaaW.PrintLast Go.Proofs.YtbdnpfjjaokdbaaW.PrintMore
attribute [local go_sem] max2_int min2_int max_two min_two max_three min_three max_four min_four   -- for this text's walks alone
set_option linter.unusedVariables false
set_option linter.unusedSimpArgs false
theorem Ca : type_of% @Aside0.mk := @Aside0.mk
theorem Cb : type_of% @Kd.R_drew := @Kd.R_drew
theorem Cc : type_of% @Kd.R_alloc := @Kd.R_alloc
theorem Cd : type_of% @Kd.R_drewN := @Kd.R_drewN
theorem Ce : type_of% @pw_below_drewN := @pw_below_drewN
theorem Cf : type_of% @any_of := @any_of
theorem Cg : type_of% @below_drew1 := @below_drew1
theorem Ch : type_of% @below_alloc := @below_alloc

/-! ### spec_l14Turn: function 54 -/
mutual
def spec_l14Turn.l0 : Nat → List Int → List Int → Int → Option (List Int)
 | 0, _, _, _ => none
 | k + 1, x0, x3, x4 => if x4 < 4 then (if 0 ≤ (wrap64 (4 * x4)) then (if (wrap64 (4 * x4)) < (x0.length : Int) then (if 0 ≤ (wrap64 ((wrap64 (4 * x4)) + 1)) then (if (wrap64 ((wrap64 (4 * x4)) + 1)) < (x0.length : Int) then (if 0 ≤ (wrap64 ((wrap64 (4 * x4)) + 2)) then (if (wrap64 ((wrap64 (4 * x4)) + 2)) < (x0.length : Int) then (if 0 ≤ (wrap64 ((wrap64 (4 * x4)) + 3)) then (if (wrap64 ((wrap64 (4 * x4)) + 3)) < (x0.length : Int) then ((spec_l14Four.f (rd x0 (wrap64 (4 * x4))) (rd x0 (wrap64 ((wrap64 (4 * x4)) + 1))) (rd x0 (wrap64 ((wrap64 (4 * x4)) + 2))) (rd x0 (wrap64 ((wrap64 (4 * x4)) + 3)))).bind fun qe => (if x3.length + qe.length < 17592186044416 then (spec_l14Turn.l0 k x0 (x3 ++ qe) (wrap64 (x4 + 1))) else (none))) else (none)) else (none)) else (none)) else (none)) else (none)) else (none)) else (none)) else (none)) else (if 16 ≤ 35184372088832 then (spec_l14Turn.l1 k x3 (List.replicate 16 0) 0) else (none))
def spec_l14Turn.l1 : Nat → List Int → List Int → Int → Option (List Int)
 | 0, _, _, _ => none
 | k + 1, x3, x5, x6 => if x6 < 4 then (if 0 ≤ x6 then (if x6 < (x3.length : Int) then (if 0 ≤ (wrap64 (x6 + 4)) then (if (wrap64 (x6 + 4)) < (x3.length : Int) then (if 0 ≤ (wrap64 (x6 + 8)) then (if (wrap64 (x6 + 8)) < (x3.length : Int) then (if 0 ≤ (wrap64 (x6 + 12)) then (if (wrap64 (x6 + 12)) < (x3.length : Int) then ((spec_l14Four.f (rd x3 x6) (rd x3 (wrap64 (x6 + 4))) (rd x3 (wrap64 (x6 + 8))) (rd x3 (wrap64 (x6 + 12)))).bind fun qd => (spec_l14Turn.l2 k x3 x5 x6 qd 0)) else (none)) else (none)) else (none)) else (none)) else (none)) else (none)) else (none)) else (none)) else (some x5)
def spec_l14Turn.l2 : Nat → List Int → List Int → Int → List Int → Int → Option (List Int)
 | 0, _, _, _, _, _ => none
 | k + 1, x3, x5, x6, x7, x8 => if x8 < 4 then (if 0 ≤ x8 then (if x8 < (x7.length : Int) then (if 0 ≤ (wrap64 ((wrap64 (4 * x8)) + x6)) then (if (wrap64 ((wrap64 (4 * x8)) + x6)) < (x5.length : Int) then (spec_l14Turn.l2 k x3 (x5.set ((wrap64 ((wrap64 (4 * x8)) + x6)) : Int).toNat (rd x7 x8)) x6 x7 (wrap64 (x8 + 1))) else (none)) else (none)) else (none)) else (none)) else (spec_l14Turn.l1 k x3 x5 (wrap64 (x6 + 1)))
end
def spec_l14Turn.f (k : Nat) (l0 : List Int) : Option (List Int) := spec_l14Turn.l0 k l0 (([] : List Int)) 0
theorem spec_l14Turn.mono_l : ∀ k, (∀ y0 y1 y2, LeO (spec_l14Turn.l0 k y0 y1 y2) (spec_l14Turn.l0 (k + 1) y0 y1 y2)) ∧ (∀ y0 y1 y2, LeO (spec_l14Turn.l1 k y0 y1 y2) (spec_l14Turn.l1 (k + 1) y0 y1 y2)) ∧ (∀ y0 y1 y2 y3 y4, LeO (spec_l14Turn.l2 k y0 y1 y2 y3 y4) (spec_l14Turn.l2 (k + 1) y0 y1 y2 y3 y4))
 | 0 => ⟨fun _ _ _ r h => by simp [spec_l14Turn.l0] at h, fun _ _ _ r h => by simp [spec_l14Turn.l1] at h, fun _ _ _ _ _ r h => by simp [spec_l14Turn.l2] at h⟩
 | k + 1 => by
  obtain⟨ih0,ih1,ih2⟩:=spec_l14Turn.mono_l k
  refine⟨?_,?_,?_⟩
  ·intro y0 y1 y2
   unfold spec_l14Turn.l0
   repeat' first
   | (with_reducible exact ih0 _ _ _)
   | (with_reducible exact ih1 _ _ _)
   | (with_reducible exact ih2 _ _ _ _ _)
   | (with_reducible exact LeO.refl _)
   | (with_reducible exact LeO.none _)
   | (with_reducible refine LeO.ite ?_ ?_)
   | (with_reducible refine LeO.bind ?_ (fun _ => ?_))
   | exact ih0 _ _ _
   | exact ih1 _ _ _
   | exact ih2 _ _ _ _ _
   | exact LeO.none _
   | refine LeO.ite ?_ ?_
   | refine LeO.bind ?_ (fun _ => ?_)
  ·intro y0 y1 y2
   unfold spec_l14Turn.l1
   repeat' first
   | (with_reducible exact ih0 _ _ _)
   | (with_reducible exact ih1 _ _ _)
   | (with_reducible exact ih2 _ _ _ _ _)
   | (with_reducible exact LeO.refl _)
   | (with_reducible exact LeO.none _)
   | (with_reducible refine LeO.ite ?_ ?_)
   | (with_reducible refine LeO.bind ?_ (fun _ => ?_))
   | exact ih0 _ _ _
   | exact ih1 _ _ _
   | exact ih2 _ _ _ _ _
   | exact LeO.none _
   | refine LeO.ite ?_ ?_
   | refine LeO.bind ?_ (fun _ => ?_)
  ·intro y0 y1 y2 y3 y4
   unfold spec_l14Turn.l2
   repeat' first
   | (with_reducible exact ih0 _ _ _)
   | (with_reducible exact ih1 _ _ _)
   | (with_reducible exact ih2 _ _ _ _ _)
   | (with_reducible exact LeO.refl _)
   | (with_reducible exact LeO.none _)
   | (with_reducible refine LeO.ite ?_ ?_)
   | (with_reducible refine LeO.bind ?_ (fun _ => ?_))
   | exact ih0 _ _ _
   | exact ih1 _ _ _
   | exact ih2 _ _ _ _ _
   | exact LeO.none _
   | refine LeO.ite ?_ ?_
   | refine LeO.bind ?_ (fun _ => ?_)
theorem spec_l14Turn.mono : ∀ a0 k, LeO (spec_l14Turn.f k a0) (spec_l14Turn.f (k + 1) a0) := by
 intro a0 k
 obtain⟨ih0,ih1,ih2⟩:=spec_l14Turn.mono_l k
 unfold spec_l14Turn.f
 repeat' first
   | (with_reducible exact ih0 _ _ _)
   | (with_reducible exact ih1 _ _ _)
   | (with_reducible exact ih2 _ _ _ _ _)
   | (with_reducible exact LeO.refl _)
   | (with_reducible exact LeO.none _)
   | (with_reducible refine LeO.ite ?_ ?_)
   | (with_reducible refine LeO.bind ?_ (fun _ => ?_))
   | exact ih0 _ _ _
   | exact ih1 _ _ _
   | exact ih2 _ _ _ _ _
   | exact LeO.none _
   | refine LeO.ite ?_ ?_
   | refine LeO.bind ?_ (fun _ => ?_)
def spec_l14Turn.T5 : Bool × List (List Nat × List Nat) := (true, [([], []), ([], []), ([], []), ([2], [2]), ([1, 3], [1, 3]), ([4], [4]), ([], []), ([], []), ([7], [7]), ([8], [8]), ([6, 9], [6, 9]), ([10], [10]), ([], []), ([], []), ([13], [13]), ([14], [14]), ([12, 15], [12, 15]), ([16], [16]), ([], []), ([], []), ([19], [19]), ([20], [20]), ([18, 21], [18, 21]), ([22], [22]), ([5, 11, 17, 23], [5, 11, 17, 23]), ([0, 24, 24], [0, 24]), ([25, 25, 0, 1, 2, 3, 4, 5, 6, 7, 8, 9, 10, 11, 12, 13, 14, 15, 16, 17, 18, 19, 20, 21, 22, 23, 24, 25], [0, 25])])
def spec_l14Turn.B5 : List Nat := [0, 0, 0, 4, 14, 30, 0, 0, 128, 384, 960, 1984, 0, 0, 8192, 24576, 61440, 126976, 0, 0, 524288, 1572864, 3932160, 8126464, 16777214, 33554431, 67108863]
theorem spec_l14Turn.tab5 : rtab .any (opsOf Try.f54 5) = spec_l14Turn.T5 := by kernel_rfl
theorem spec_l14Turn.bits5 : waitsOk spec_l14Turn.T5.2 spec_l14Turn.B5 = true := by kernel_rfl
def spec_l14Turn.T10 : Bool × List (List Nat × List Nat) := (true, [([], []), ([], []), ([0, 1], [0, 1]), ([2], [2]), ([], []), ([], []), ([5], [5]), ([4, 6], [4, 6]), ([7], [7]), ([], []), ([], []), ([10], [10]), ([9, 11], [9, 11]), ([12], [12]), ([], []), ([], []), ([15], [15]), ([14, 16], [14, 16]), ([17], [17]), ([3, 8, 13, 18], [3, 8, 13, 18]), ([19, 19, 0, 1, 2, 3, 4, 5, 6, 7, 8, 9, 10, 11, 12, 13, 14, 15, 16, 17, 18, 19], [19])])
def spec_l14Turn.B10 : List Nat := [0, 0, 3, 7, 0, 0, 32, 112, 240, 0, 0, 1024, 3584, 7680, 0, 0, 32768, 114688, 245760, 524287, 1048575]
theorem spec_l14Turn.tab10 : rtab .any (opsOf Try.f54 10) = spec_l14Turn.T10 := by kernel_rfl
theorem spec_l14Turn.bits10 : waitsOk spec_l14Turn.T10.2 spec_l14Turn.B10 = true := by kernel_rfl
set_option maxHeartbeats 8000000 in
set_option maxRecDepth 100000 in
theorem spec_l14Turn.calls (k : Nat) (A0 : Option Addr) (c0 : Nat) (l0 : List Int) (r : List Int) (w : World) (hr0 : Kd.C (Kd.int .i64) w A0 l0.length l0) (hc0 : l0.length ≤ c0) (h : spec_l14Turn.f k l0 = some r) :
  Calls Try.prog 54 #[.slice A0 l0.length c0] w fun e w'=>∃ v0_:Value,e=.returned (v0_)∧Kd.R (Kd.int .i64) 2 w' w.heap.size (fun _=>True) v0_ r∧Below w.heap.size w w':=by
 have HR0:=Ca hr0
 have HC0:=Ca hc0
 clear hr0 hc0
 have HB:=Ca (Below.refl w.heap.size w)
 have H:(spec_l14Turn.l0 k l0 (([]:List Int)) 0)=some r:=h
 clear h
 obtain⟨y113,hy113⟩:∃ y_:List Int,y_=(([]:List Int)):=⟨_,rfl⟩
 replace H:(spec_l14Turn.l0 k l0 y113 0)=some r:=by first|(rw [hy113];with_reducible exact H)|(have H2_:=(Option.bind_some _ _).symm.trans H;rw [hy113];with_reducible exact H2_)|(have H2_:=(Option.bind_some _ _).symm.trans H;with_reducible exact H2_)|with_reducible exact H|(rw [hy113];exact H)|exact H
 have Ny113:=Ca hy113
 clear hy113
 have H':=Ca H
 clear H
 go_enter Try.func54,Try.ntmps54
 go_wp2_with (first|((with_reducible refine gate_dst (N:=9) rfl ?_);refine Kd.R_lit (Kd.int .i64) _ 2 ?hg (N:=9) ?hd (xs:=([]:List Int)) (inner:=[]) (ok:=fun _=>True) (okp:=fun _=>True) ?hr ?hp (fun _ hk=>hk) trivial (Below.refl _ _) (Nat.le_refl _) (by simp) ?_;(case hd=>rfl);(case hg=>rfl);(case hr=>first|(go_simp;done)|(go_simp;rfl));(case hp=>exact(Reps.none _ _));intro v114 w2 ho3 hb hg_ hnew_;clear hg_ hnew_;(first|rw [← Ny113.out] at ho3|(simp only [Int.reduceToNat] at ho3;rw [← Ny113.out] at ho3));have ya:=Ca (Kd.R_lower ho3 (below_size (by repeat(first|(with_reducible first|exact HB.out|apply Ch|apply Ce|apply Cg)|exact HB.out))));have yb:=Ca (below_step (by repeat(first|(with_reducible first|exact HB.out|apply Ch|apply Ce|apply Cg)|exact HB.out)) hb);clear HB;have HO115:=ya;have HB:=yb;clear ya yb;clear hb ho3))
 go_loopg [3,4] k (fun kq v3 v4 w'=>∃ (qa:List Int) (qw:Int),v4=.int .i64 qw∧Aside0 (spec_l14Turn.l0 kq l0 qa qw=some r)∧Aside0 (kq≤k)∧Aside0 (Kd.R (Kd.int .i64) 2 w' w.heap.size (fun _=>True) v3 qa)∧Aside0 (Below w.heap.size w w'))
 case atStart=>exact⟨(y113),(0),(by first|rfl|(simp;done)|(simp [*];done)),H',⟨Nat.le_refl _⟩,⟨by(with_reducible repeat(first|apply Cc|apply Cd|apply Cb));exact HO115.out⟩,⟨by repeat(first|(with_reducible first|exact HB.out|apply Ch|apply Ce|apply Cg)|exact HB.out)⟩⟩
 case round=>
  clear H'
  try clear p2
  obtain⟨qa,qw,rfl,HA,HK1,qc,HB⟩:=hrel
  cases gk with
  | zero => exact absurd HA.out (by simp [spec_l14Turn.l0])
  | succ k1 =>
   have H:=HA.out
   clear HA
   simp only [spec_l14Turn.l0] at H
   by_cases c4:qw < 4
   ·rw [if_pos c4] at H
    have c4b0:decide (qw < 4)=true:=decide_eq_true c4
    clear c4
    obtain⟨qg,hji5⟩:∃ j_:Int,(wrap64 (4*qw))=j_:=⟨_,rfl⟩
    replace H:(if 0≤(qg) then (if (qg) < (l0.length:Int) then (if 0≤(wrap64 ((qg)+1)) then (if (wrap64 ((qg)+1)) < (l0.length:Int) then (if 0≤(wrap64 ((qg)+2)) then (if (wrap64 ((qg)+2)) < (l0.length:Int) then (if 0≤(wrap64 ((qg)+3)) then (if (wrap64 ((qg)+3)) < (l0.length:Int) then ((spec_l14Four.f (rd l0 (qg)) (rd l0 (wrap64 ((qg)+1))) (rd l0 (wrap64 ((qg)+2))) (rd l0 (wrap64 ((qg)+3)))).bind fun qe=>(if qa.length+qe.length < 17592186044416 then (spec_l14Turn.l0 k1 l0 (qa ++ qe) (wrap64 (qw+1))) else (none))) else (none)) else (none)) else (none)) else (none)) else (none)) else (none)) else (none)) else (none))=some r:=by first|(rw [hji5] at H;exact H)|(simp only [hji5] at H ⊢;exact H)
    have hji5w:(IntKind.i64.wrap (4*qw))=qg:=(i64_w _).trans hji5
    by_cases c6:0≤(qg)
    ·rw [if_pos c6] at H
     have c6b0:decide (0≤(qg))=true:=decide_eq_true c6
     clear c6
     by_cases c7:(qg) < (l0.length:Int)
     ·rw [if_pos c7] at H
      have c7b0:decide ((qg) < (l0.length:Int))=true:=decide_eq_true c7
      clear c7
      obtain⟨ji8,hji8⟩:∃ j_:Int,(wrap64 ((qg)+1))=j_:=⟨_,rfl⟩
      replace H:(if 0≤(ji8) then (if (ji8) < (l0.length:Int) then (if 0≤(wrap64 ((qg)+2)) then (if (wrap64 ((qg)+2)) < (l0.length:Int) then (if 0≤(wrap64 ((qg)+3)) then (if (wrap64 ((qg)+3)) < (l0.length:Int) then ((spec_l14Four.f (rd l0 (qg)) (rd l0 (ji8)) (rd l0 (wrap64 ((qg)+2))) (rd l0 (wrap64 ((qg)+3)))).bind fun qe=>(if qa.length+qe.length < 17592186044416 then (spec_l14Turn.l0 k1 l0 (qa ++ qe) (wrap64 (qw+1))) else (none))) else (none)) else (none)) else (none)) else (none)) else (none)) else (none))=some r:=by first|(rw [hji8] at H;exact H)|(simp only [hji8] at H ⊢;exact H)
      have hji8w:(IntKind.i64.wrap ((qg)+1))=ji8:=(i64_w _).trans hji8
      by_cases c9:0≤(ji8)
      ·rw [if_pos c9] at H
       have c9b0:decide (0≤(ji8))=true:=decide_eq_true c9
       clear c9
       by_cases c10:(ji8) < (l0.length:Int)
       ·rw [if_pos c10] at H
        have c10b0:decide ((ji8) < (l0.length:Int))=true:=decide_eq_true c10
        clear c10
        obtain⟨qs,hji11⟩:∃ j_:Int,(wrap64 ((qg)+2))=j_:=⟨_,rfl⟩
        replace H:(if 0≤(qs) then (if (qs) < (l0.length:Int) then (if 0≤(wrap64 ((qg)+3)) then (if (wrap64 ((qg)+3)) < (l0.length:Int) then ((spec_l14Four.f (rd l0 (qg)) (rd l0 (ji8)) (rd l0 (qs)) (rd l0 (wrap64 ((qg)+3)))).bind fun qe=>(if qa.length+qe.length < 17592186044416 then (spec_l14Turn.l0 k1 l0 (qa ++ qe) (wrap64 (qw+1))) else (none))) else (none)) else (none)) else (none)) else (none))=some r:=by first|(rw [hji11] at H;exact H)|(simp only [hji11] at H ⊢;exact H)
        have hji11w:(IntKind.i64.wrap ((qg)+2))=qs:=(i64_w _).trans hji11
        by_cases c12:0≤(qs)
        ·rw [if_pos c12] at H
         have c12b0:decide (0≤(qs))=true:=decide_eq_true c12
         clear c12
         by_cases c13:(qs) < (l0.length:Int)
         ·rw [if_pos c13] at H
          have c13b0:decide ((qs) < (l0.length:Int))=true:=decide_eq_true c13
          clear c13
          obtain⟨qu,hji14⟩:∃ j_:Int,(wrap64 ((qg)+3))=j_:=⟨_,rfl⟩
          replace H:(if 0≤(qu) then (if (qu) < (l0.length:Int) then ((spec_l14Four.f (rd l0 (qg)) (rd l0 (ji8)) (rd l0 (qs)) (rd l0 (qu))).bind fun qe=>(if qa.length+qe.length < 17592186044416 then (spec_l14Turn.l0 k1 l0 (qa ++ qe) (wrap64 (qw+1))) else (none))) else (none)) else (none))=some r:=by first|(rw [hji14] at H;exact H)|(simp only [hji14] at H ⊢;exact H)
          have hji14w:(IntKind.i64.wrap ((qg)+3))=qu:=(i64_w _).trans hji14
          by_cases c15:0≤(qu)
          ·rw [if_pos c15] at H
           have c15b0:decide (0≤(qu))=true:=decide_eq_true c15
           clear c15
           by_cases c16:(qu) < (l0.length:Int)
           ·rw [if_pos c16] at H
            have c16b0:decide ((qu) < (l0.length:Int))=true:=decide_eq_true c16
            clear c16
            replace H:=Option.bind_eq_some_iff.mp H
            obtain⟨qe,A170,H⟩:=H
            replace H:(if qa.length+qe.length < 17592186044416 then (spec_l14Turn.l0 k1 l0 (qa ++ qe) (wrap64 (qw+1))) else (none))=some r:=H
            have A17:=Ca A170
            clear A170
            by_cases c18:qa.length+qe.length < 17592186044416
            ·rw [if_pos c18] at H
             have LMc18:=Ca c18
             clear c18
             obtain⟨y123,hy123⟩:∃ y_:List Int,y_=(qa ++ qe):=⟨_,rfl⟩
             replace H:(spec_l14Turn.l0 k1 l0 y123 (wrap64 (qw+1)))=some r:=by first|(rw [hy123];with_reducible exact H)|(have H2_:=(Option.bind_some _ _).symm.trans H;rw [hy123];with_reducible exact H2_)|(have H2_:=(Option.bind_some _ _).symm.trans H;with_reducible exact H2_)|with_reducible exact H|(rw [hy123];exact H)|exact H
             have Ny123:=Ca hy123
             clear hy123
             have H':=Ca H
             clear H
             try go_wp2
             have ya:=Ca (Cb qc.out)
             have yb:=Ca (Cg HB.out)
             clear qc
             clear HB
             have qc:=ya
             have HB:=yb
             clear ya yb
             have p116:0≤((qg):Int):=of_decide_eq_true (by first|(with_reducible assumption)|assumption)
             have q116:(qg) < (l0.length:Int):=of_decide_eq_true (by first|(with_reducible assumption)|assumption)
             obtain⟨qz,e116,qh⟩:=Kd.at_int HR0.out (qg) p116 q116
             have qo:=qh
             cases e116
             replace qh:=(HB.out.cell (World.block_lt_of_cell? w _ qh)).trans qh
             replace p116:=eq_true p116
             replace q116:=eq_true q116
             have p117:0≤((ji8):Int):=of_decide_eq_true (by first|(with_reducible assumption)|assumption)
             have q117:(ji8) < (l0.length:Int):=of_decide_eq_true (by first|(with_reducible assumption)|assumption)
             obtain⟨ad117,e117,qi⟩:=Kd.at_int HR0.out (ji8) p117 q117
             have qp:=qi
             obtain rfl:qz=ad117:=(by injection e117)
             replace qi:=(HB.out.cell (World.block_lt_of_cell? w _ qi)).trans qi
             replace p117:=eq_true p117
             replace q117:=eq_true q117
             have p118:0≤((qs):Int):=of_decide_eq_true (by first|(with_reducible assumption)|assumption)
             have q118:(qs) < (l0.length:Int):=of_decide_eq_true (by first|(with_reducible assumption)|assumption)
             obtain⟨ad118,e118,qj⟩:=Kd.at_int HR0.out (qs) p118 q118
             have qq:=qj
             obtain rfl:qz=ad118:=(by injection e118)
             replace qj:=(HB.out.cell (World.block_lt_of_cell? w _ qj)).trans qj
             replace p118:=eq_true p118
             replace q118:=eq_true q118
             have p119:0≤((qu):Int):=of_decide_eq_true (by first|(with_reducible assumption)|assumption)
             have q119:(qu) < (l0.length:Int):=of_decide_eq_true (by first|(with_reducible assumption)|assumption)
             obtain⟨ad119,e119,qk⟩:=Kd.at_int HR0.out (qu) p119 q119
             have qr:=qk
             obtain rfl:qz=ad119:=(by injection e119)
             replace qk:=(HB.out.cell (World.block_lt_of_cell? w _ qk)).trans qk
             replace p119:=eq_true p119
             replace q119:=eq_true q119
             refine start_ (n:=27) (S:=fun w'=>w'.cell? (qz.add ((qg)).toNat)=some (.int .i64 (rd l0 (qg)))∧w'.cell? (qz.add ((ji8)).toNat)=some (.int .i64 (rd l0 (ji8)))∧w'.cell? (qz.add ((qs)).toNat)=some (.int .i64 (rd l0 (qs)))∧w'.cell? (qz.add ((qu)).toNat)=some (.int .i64 (rd l0 (qu)))) (ds:=[]) #[false,false,false,false,false,false,false,false,false,false,false,false,false,false,false,false,false,false,false,false,false,false,false,false,false,false,false] (by kernel_rfl) rfl rfl ⟨((HB.out.cell (World.block_lt_of_cell? w _ qo)).trans qo),((HB.out.cell (World.block_lt_of_cell? w _ qp)).trans qp),((HB.out.cell (World.block_lt_of_cell? w _ qq)).trans qq),((HB.out.cell (World.block_lt_of_cell? w _ qr)).trans qr)⟩ (fun hHeld=>?_);refine with_tabW spec_l14Turn.tab5 spec_l14Turn.bits5 (fun HT_ HW_=>?_)
             generalize wr.drew=w19 at qc HB qh qi qj qk hHeld ⊢
             refine pure_ (i:=0) (N:=some 14) (v:=?_) (a':=?_) #[true,false,false,false,false,false,false,false,false,false,false,false,false,false,false,false,false,false,false,false,false,false,false,false,false,false,false] rfl rfl (Cf HT_.out (by kernel_rfl)) (fun _ _ _ h=>h) (Or.inl ⟨by rfl,?_⟩) ?_ ?_
             rotate_left
             ·intro w'
              go_simp
              with_reducible rfl
             rotate_left
             ·simp only [Act.put,List.setIfInBounds_toArray,List.set_cons_zero,List.set_cons_succ,i64_w,i32_w]
              rfl
             refine pure_ (i:=1) (N:=some 15) (v:=?_) (a':=?_) #[true,true,false,false,false,false,false,false,false,false,false,false,false,false,false,false,false,false,false,false,false,false,false,false,false,false,false] rfl rfl (Cf HT_.out (by kernel_rfl)) (fun _ _ _ h=>h) (Or.inl ⟨by rfl,?_⟩) ?_ ?_
             rotate_left
             ·intro w'
              go_simp
              with_reducible rfl
             rotate_left
             ·simp only [Act.put,List.setIfInBounds_toArray,List.set_cons_zero,List.set_cons_succ,i64_w,i32_w]
              rfl
             refine pure_ (i:=2) (N:=some 16) (v:=?_) (a':=?_) #[true,true,true,false,false,false,false,false,false,false,false,false,false,false,false,false,false,false,false,false,false,false,false,false,false,false,false] rfl rfl (Cf HT_.out (by kernel_rfl)) (fun _ _ _ h=>h) (Or.inl ⟨by rfl,?_⟩) ?_ ?_
             rotate_left
             ·intro w'
              go_simp
              with_reducible rfl
             rotate_left
             ·simp only [Act.put,List.setIfInBounds_toArray,List.set_cons_zero,List.set_cons_succ,i64_w,i32_w]
              rfl
             refine pure_ (i:=3) (N:=some 17) (v:=?_) (a':=?_) #[true,true,true,true,false,false,false,false,false,false,false,false,false,false,false,false,false,false,false,false,false,false,false,false,false,false,false] rfl rfl (Cf HT_.out (by kernel_rfl)) (fun _ _ _ h=>h) (Or.inl ⟨by rfl,?_⟩) ?_ ?_
             rotate_left
             ·intro w'
              go_simp
              with_reducible rfl
             rotate_left
             ·simp only [Act.put,List.setIfInBounds_toArray,List.set_cons_zero,List.set_cons_succ,i64_w,i32_w]
              rfl
             refine pure_ (i:=4) (N:=some 18) (v:=?_) (a':=?_) #[true,true,true,true,true,false,false,false,false,false,false,false,false,false,false,false,false,false,false,false,false,false,false,false,false,false,false] rfl rfl (Cf HT_.out (by kernel_rfl)) (fun _ _ _ h=>h) (Or.inl ⟨by rfl,?_⟩) ?_ ?_
             rotate_left
             ·intro w'
              go_simp
              with_reducible rfl
             rotate_left
             ·simp only [Act.put,List.setIfInBounds_toArray,List.set_cons_zero,List.set_cons_succ,i64_w,i32_w]
              rfl
             refine pure_ (i:=6) (N:=some 20) (v:=?_) (a':=?_) #[true,true,true,true,true,false,true,false,false,false,false,false,false,false,false,false,false,false,false,false,false,false,false,false,false,false,false] rfl rfl (Cf HT_.out (by kernel_rfl)) (fun _ _ _ h=>h) (Or.inl ⟨by rfl,?_⟩) ?_ ?_
             rotate_left
             ·intro w'
              go_simp
              with_reducible rfl
             rotate_left
             ·simp only [Act.put,List.setIfInBounds_toArray,List.set_cons_zero,List.set_cons_succ,i64_w,i32_w]
              rfl
             refine pure_ (i:=7) (N:=some 21) (v:=?_) (a':=?_) #[true,true,true,true,true,false,true,true,false,false,false,false,false,false,false,false,false,false,false,false,false,false,false,false,false,false,false] rfl rfl (Cf HT_.out (by kernel_rfl)) (fun _ _ _ h=>h) (Or.inl ⟨by rfl,?_⟩) ?_ ?_
             rotate_left
             ·intro w'
              go_simp
              with_reducible rfl
             rotate_left
             ·simp only [Act.put,List.setIfInBounds_toArray,List.set_cons_zero,List.set_cons_succ,i64_w,i32_w]
              rfl
             refine pure_ (i:=8) (N:=some 22) (v:=?_) (a':=?_) #[true,true,true,true,true,false,true,true,true,false,false,false,false,false,false,false,false,false,false,false,false,false,false,false,false,false,false] rfl rfl (Cf HT_.out (by kernel_rfl)) (fun _ _ _ h=>h) (Or.inl ⟨by rfl,?_⟩) ?_ ?_
             rotate_left
             ·intro w'
              go_simp
              with_reducible rfl
             rotate_left
             ·simp only [Act.put,List.setIfInBounds_toArray,List.set_cons_zero,List.set_cons_succ,i64_w,i32_w]
              rfl
             refine pure_ (i:=9) (N:=some 23) (v:=?_) (a':=?_) #[true,true,true,true,true,false,true,true,true,true,false,false,false,false,false,false,false,false,false,false,false,false,false,false,false,false,false] rfl rfl (Cf HT_.out (by kernel_rfl)) (fun _ _ _ h=>h) (Or.inl ⟨by rfl,?_⟩) ?_ ?_
             rotate_left
             ·intro w'
              go_simp
              with_reducible rfl
             rotate_left
             ·simp only [Act.put,List.setIfInBounds_toArray,List.set_cons_zero,List.set_cons_succ,i64_w,i32_w]
              rfl
             refine pure_ (i:=10) (N:=some 24) (v:=?_) (a':=?_) #[true,true,true,true,true,false,true,true,true,true,true,false,false,false,false,false,false,false,false,false,false,false,false,false,false,false,false] rfl rfl (Cf HT_.out (by kernel_rfl)) (fun _ _ _ h=>h) (Or.inl ⟨by rfl,?_⟩) ?_ ?_
             rotate_left
             ·intro w'
              go_simp
              with_reducible rfl
             rotate_left
             ·simp only [Act.put,List.setIfInBounds_toArray,List.set_cons_zero,List.set_cons_succ,i64_w,i32_w]
              rfl
             refine pure_ (i:=12) (N:=some 26) (v:=?_) (a':=?_) #[true,true,true,true,true,false,true,true,true,true,true,false,true,false,false,false,false,false,false,false,false,false,false,false,false,false,false] rfl rfl (Cf HT_.out (by kernel_rfl)) (fun _ _ _ h=>h) (Or.inl ⟨by rfl,?_⟩) ?_ ?_
             rotate_left
             ·intro w'
              go_simp
              with_reducible rfl
             rotate_left
             ·simp only [Act.put,List.setIfInBounds_toArray,List.set_cons_zero,List.set_cons_succ,i64_w,i32_w]
              rfl
             refine pure_ (i:=13) (N:=some 27) (v:=?_) (a':=?_) #[true,true,true,true,true,false,true,true,true,true,true,false,true,true,false,false,false,false,false,false,false,false,false,false,false,false,false] rfl rfl (Cf HT_.out (by kernel_rfl)) (fun _ _ _ h=>h) (Or.inl ⟨by rfl,?_⟩) ?_ ?_
             rotate_left
             ·intro w'
              go_simp
              with_reducible rfl
             rotate_left
             ·simp only [Act.put,List.setIfInBounds_toArray,List.set_cons_zero,List.set_cons_succ,i64_w,i32_w]
              rfl
             refine pure_ (i:=14) (N:=some 28) (v:=?_) (a':=?_) #[true,true,true,true,true,false,true,true,true,true,true,false,true,true,true,false,false,false,false,false,false,false,false,false,false,false,false] rfl rfl (Cf HT_.out (by kernel_rfl)) (fun _ _ _ h=>h) (Or.inl ⟨by rfl,?_⟩) ?_ ?_
             rotate_left
             ·intro w'
              go_simp
              with_reducible rfl
             rotate_left
             ·simp only [Act.put,List.setIfInBounds_toArray,List.set_cons_zero,List.set_cons_succ,i64_w,i32_w]
              rfl
             refine pure_ (i:=15) (N:=some 29) (v:=?_) (a':=?_) #[true,true,true,true,true,false,true,true,true,true,true,false,true,true,true,true,false,false,false,false,false,false,false,false,false,false,false] rfl rfl (Cf HT_.out (by kernel_rfl)) (fun _ _ _ h=>h) (Or.inl ⟨by rfl,?_⟩) ?_ ?_
             rotate_left
             ·intro w'
              go_simp
              with_reducible rfl
             rotate_left
             ·simp only [Act.put,List.setIfInBounds_toArray,List.set_cons_zero,List.set_cons_succ,i64_w,i32_w]
              rfl
             refine pure_ (i:=16) (N:=some 30) (v:=?_) (a':=?_) #[true,true,true,true,true,false,true,true,true,true,true,false,true,true,true,true,true,false,false,false,false,false,false,false,false,false,false] rfl rfl (Cf HT_.out (by kernel_rfl)) (fun _ _ _ h=>h) (Or.inl ⟨by rfl,?_⟩) ?_ ?_
             rotate_left
             ·intro w'
              go_simp
              with_reducible rfl
             rotate_left
             ·simp only [Act.put,List.setIfInBounds_toArray,List.set_cons_zero,List.set_cons_succ,i64_w,i32_w]
              rfl
             refine pure_ (i:=18) (N:=some 32) (v:=?_) (a':=?_) #[true,true,true,true,true,false,true,true,true,true,true,false,true,true,true,true,true,false,true,false,false,false,false,false,false,false,false] rfl rfl (Cf HT_.out (by kernel_rfl)) (fun _ _ _ h=>h) (Or.inl ⟨by rfl,?_⟩) ?_ ?_
             rotate_left
             ·intro w'
              go_simp
              with_reducible rfl
             rotate_left
             ·simp only [Act.put,List.setIfInBounds_toArray,List.set_cons_zero,List.set_cons_succ,i64_w,i32_w]
              rfl
             refine pure_ (i:=19) (N:=some 33) (v:=?_) (a':=?_) #[true,true,true,true,true,false,true,true,true,true,true,false,true,true,true,true,true,false,true,true,false,false,false,false,false,false,false] rfl rfl (Cf HT_.out (by kernel_rfl)) (fun _ _ _ h=>h) (Or.inl ⟨by rfl,?_⟩) ?_ ?_
             rotate_left
             ·intro w'
              go_simp
              with_reducible rfl
             rotate_left
             ·simp only [Act.put,List.setIfInBounds_toArray,List.set_cons_zero,List.set_cons_succ,i64_w,i32_w]
              rfl
             refine pure_ (i:=20) (N:=some 34) (v:=?_) (a':=?_) #[true,true,true,true,true,false,true,true,true,true,true,false,true,true,true,true,true,false,true,true,true,false,false,false,false,false,false] rfl rfl (Cf HT_.out (by kernel_rfl)) (fun _ _ _ h=>h) (Or.inl ⟨by rfl,?_⟩) ?_ ?_
             rotate_left
             ·intro w'
              go_simp
              with_reducible rfl
             rotate_left
             ·simp only [Act.put,List.setIfInBounds_toArray,List.set_cons_zero,List.set_cons_succ,i64_w,i32_w]
              rfl
             refine pure_ (i:=21) (N:=some 35) (v:=?_) (a':=?_) #[true,true,true,true,true,false,true,true,true,true,true,false,true,true,true,true,true,false,true,true,true,true,false,false,false,false,false] rfl rfl (Cf HT_.out (by kernel_rfl)) (fun _ _ _ h=>h) (Or.inl ⟨by rfl,?_⟩) ?_ ?_
             rotate_left
             ·intro w'
              go_simp
              with_reducible rfl
             rotate_left
             ·simp only [Act.put,List.setIfInBounds_toArray,List.set_cons_zero,List.set_cons_succ,i64_w,i32_w]
              rfl
             refine pure_ (i:=22) (N:=some 36) (v:=?_) (a':=?_) #[true,true,true,true,true,false,true,true,true,true,true,false,true,true,true,true,true,false,true,true,true,true,true,false,false,false,false] rfl rfl (Cf HT_.out (by kernel_rfl)) (fun _ _ _ h=>h) (Or.inl ⟨by rfl,?_⟩) ?_ ?_
             rotate_left
             ·intro w'
              go_simp
              with_reducible rfl
             rotate_left
             ·simp only [Act.put,List.setIfInBounds_toArray,List.set_cons_zero,List.set_cons_succ,i64_w,i32_w]
              rfl
             refine take_ (i:=5) (N:=some 19) (v:=?_) (a':=?_) #[true,true,true,true,true,true,true,true,true,true,true,false,true,true,true,true,true,false,true,true,true,true,true,false,false,false,false] rfl rfl (take_ofW HT_.out HW_.out (by kernel_rfl)) (fun _ _ _ h=>h) (Or.inl ⟨by rfl,?_⟩) hHeld ?_ ?_
             rotate_left
             ·rintro w' ⟨s0,s1,s2,s3⟩
              go_simp
              with_reducible rfl
             rotate_left
             ·simp only [Act.put,List.setIfInBounds_toArray,List.set_cons_zero,List.set_cons_succ,i64_w,i32_w]
              rfl
             refine take_ (i:=11) (N:=some 25) (v:=?_) (a':=?_) #[true,true,true,true,true,true,true,true,true,true,true,true,true,true,true,true,true,false,true,true,true,true,true,false,false,false,false] rfl rfl (take_ofW HT_.out HW_.out (by kernel_rfl)) (fun _ _ _ h=>h) (Or.inl ⟨by rfl,?_⟩) hHeld ?_ ?_
             rotate_left
             ·rintro w' ⟨s0,s1,s2,s3⟩
              go_simp
              with_reducible rfl
             rotate_left
             ·simp only [Act.put,List.setIfInBounds_toArray,List.set_cons_zero,List.set_cons_succ,i64_w,i32_w]
              rfl
             refine take_ (i:=17) (N:=some 31) (v:=?_) (a':=?_) #[true,true,true,true,true,true,true,true,true,true,true,true,true,true,true,true,true,true,true,true,true,true,true,false,false,false,false] rfl rfl (take_ofW HT_.out HW_.out (by kernel_rfl)) (fun _ _ _ h=>h) (Or.inl ⟨by rfl,?_⟩) hHeld ?_ ?_
             rotate_left
             ·rintro w' ⟨s0,s1,s2,s3⟩
              go_simp
              with_reducible rfl
             rotate_left
             ·simp only [Act.put,List.setIfInBounds_toArray,List.set_cons_zero,List.set_cons_succ,i64_w,i32_w]
              rfl
             refine take_ (i:=23) (N:=some 37) (v:=?_) (a':=?_) #[true,true,true,true,true,true,true,true,true,true,true,true,true,true,true,true,true,true,true,true,true,true,true,true,false,false,false] rfl rfl (take_ofW HT_.out HW_.out (by kernel_rfl)) (fun _ _ _ h=>h) (Or.inl ⟨by rfl,?_⟩) hHeld ?_ ?_
             rotate_left
             ·rintro w' ⟨s0,s1,s2,s3⟩
              go_simp
              with_reducible rfl
             rotate_left
             ·simp only [Act.put,List.setIfInBounds_toArray,List.set_cons_zero,List.set_cons_succ,i64_w,i32_w]
              rfl
             refine one_ (i:=24) (N:=some 38) #[true,true,true,true,true,true,true,true,true,true,true,true,true,true,true,true,true,true,true,true,true,true,true,true,true,false,false] rfl rfl (one_of HT_.out (by kernel_rfl)) (by decide) (fun K hK=>?_)
             refine goes_ Try.func84 (by kernel_rfl) rfl #[.int .i64 (rd l0 (qg)),.int .i64 (rd l0 (ji8)),.int .i64 (rd l0 (qs)),.int .i64 (rd l0 (qu))] (by rfl) rfl rfl (by(try simp only [List.map_toArray,List.map_cons,List.map_nil]);first|done|(simp only [hji11,hji14,hji5,hji8];rfl)|rfl|(simp only [List.length_drop,List.length_take];rfl)) ?_
             with_reducible refine(spec_l14Four.calls (rd l0 (qg)) (rd l0 (ji8)) (rd l0 (qs)) (rd l0 (qu)) qe _ A17.out).mono ?_
             rintro e w20 ⟨v121,rfl,ho0,hb⟩
             refine⟨_,rfl,?_⟩
             have ya:=Ca (Kd.R_elder' (by(with_reducible repeat(first|apply Cc|apply Cd|apply Cb));exact qc.out) (Kd.R_base ho0) hb)
             have yb:=Ca (Kd.R_lower (Kd.R_new' ho0 (Kd.R_lt (by(with_reducible repeat(first|apply Cc|apply Cd|apply Cb));exact qc.out))) (below_size (by repeat(first|(with_reducible first|exact HB.out|apply Ch|apply Ce|apply Cg)|exact HB.out))))
             have n2_:=Ca (below_step (by repeat(first|(with_reducible first|exact HB.out|apply Ch|apply Ce|apply Cg)|exact HB.out)) hb)
             clear qc
             clear HB
             have qc:=ya
             have yc:=yb
             have HB:=n2_
             clear ya yb n2_
             (try clear hb)
             (try clear hb2)
             (try clear hk)
             (try clear hi)
             (try clear ho0)
             obtain⟨Ao22,co22,eo22⟩:=Kd.R_slice yc.out
             (first|subst eo22|(injection eo22 with f1_ f2_ f3_;have f4_:=f1_.symm;have f5_:=f3_.symm;clear f1_ f2_ f3_;subst f4_;subst f5_))
             refine hK.out _ _ ⟨((HB.out.cell (World.block_lt_of_cell? w _ qo)).trans qo),((HB.out.cell (World.block_lt_of_cell? w _ qp)).trans qp),((HB.out.cell (World.block_lt_of_cell? w _ qq)).trans qq),((HB.out.cell (World.block_lt_of_cell? w _ qr)).trans qr)⟩ (fun hHeld=>?_)
             clear hK K
             refine norm_ (a':=?_) ?_ ?_
             rotate_left
             ·show Act.put _ (some 38) _=_
              simp only [Act.put,List.setIfInBounds_toArray,List.set_cons_zero,List.set_cons_succ,i64_w,i32_w]
              rfl
             refine one_ (i:=25) (N:=some 39) #[true,true,true,true,true,true,true,true,true,true,true,true,true,true,true,true,true,true,true,true,true,true,true,true,true,true,false] rfl rfl (one_of HT_.out (by kernel_rfl)) (by decide) (fun K hK=>?_)
             refine Kd.R_append_rows_step (Kd.int .i64) (w0:=w) w.heap.size (by rfl) (.tmp 14) (.tmp 38) 22 2 (.int .i64 0) 8 rfl Try.underlying22 info2 rfl (by decide) (by omega) u3 qa qe _ _ _ (fun k_=>some k_≠(.slice Ao22 qe.length co22:Value).ownBlock) (fun _=>False) rfl rfl ?aO ?aR (fun _ _ h=>h) (fun _ h=>h.elim) ?aF ?aB ?aS ?aL ?_
             (case aR=>repeat(first|exact(Kd.R_reads' yc.out).2.2|(with_reducible refine Kd.C_alloc ?_ _)|(with_reducible refine Kd.C_drewN ?_ _)|(with_reducible refine Kd.C_drew ?_)))
             (case aB=>exact(by repeat(first|(with_reducible first|exact HB.out|apply Ch|apply Ce|apply Cg)|exact HB.out)))
             (case aF=>exact(fun k_ hk=>Kd.fresh' (Kd.R_lt (by(with_reducible repeat(first|apply Cc|apply Cd|apply Cb));exact yc.out)) k_ hk))
             (case aO=>exact(by(with_reducible repeat(first|apply Cc|apply Cd|apply Cb));exact Kd.R_mono qc.out (fun _ hk=>hk.2)))
             (case aS=>exact(below_size (by repeat(first|(with_reducible first|exact HB.out|apply Ch|apply Ce|apply Cg)|exact HB.out))))
             (case aL=>have:=LMc18.out;omega)
             intro v124 w21 ho hb hg hat
             rw [← Ny123.out] at ho
             have ya:=Ca (Kd.R_after (ok:=(fun _=>True)) (by(with_reducible repeat(first|apply Cc|apply Cd|apply Cb));exact yc.out) hg hat)
             have yb:=Ca (hb)
             have n2_:=Ca (ho)
             clear yc
             clear HB
             clear qc
             have yc:=ya
             have HB:=yb
             have HO125:=n2_
             clear ya yb n2_
             clear ho hb hg hat
             refine hK.out _ _ ⟨((HB.out.cell (World.block_lt_of_cell? w _ qo)).trans qo),((HB.out.cell (World.block_lt_of_cell? w _ qp)).trans qp),((HB.out.cell (World.block_lt_of_cell? w _ qq)).trans qq),((HB.out.cell (World.block_lt_of_cell? w _ qr)).trans qr)⟩ (fun hHeld=>?_)
             clear hK K
             refine norm_ (a':=?_) ?_ ?_
             rotate_left
             ·show Act.put _ (some 39) _=_
              simp only [Act.put,List.setIfInBounds_toArray,List.set_cons_zero,List.set_cons_succ,i64_w,i32_w]
              rfl
             refine pure_ (i:=26) (N:=some 3) (v:=?_) (a':=?_) #[true,true,true,true,true,true,true,true,true,true,true,true,true,true,true,true,true,true,true,true,true,true,true,true,true,true,true] rfl rfl (Cf HT_.out (by kernel_rfl)) (fun _ _ _ h=>h) (Or.inl ⟨by rfl,?_⟩) ?_ ?_
             rotate_left
             ·intro w'
              go_simp
              with_reducible rfl
             rotate_left
             ·simp only [Act.put,List.setIfInBounds_toArray,List.set_cons_zero,List.set_cons_succ,i64_w,i32_w]
              rfl
             refine done_ (done_of HT_.out (by kernel_rfl)) ?_
             try go_wp2
             go_roundg k1
             case measure=>have:=HK1.out;omega
             case rel=>exact⟨(y123),(wrap64 (qw+1)),(by first|rfl|(simp;done)|(simp [*];done)),H',⟨by have:=HK1.out;omega⟩,⟨by(with_reducible repeat(first|apply Cc|apply Cd|apply Cb));exact Kd.R_mono HO125.out (fun _ hk=>trivial)⟩,⟨by repeat(first|(with_reducible first|exact HB.out|apply Ch|apply Ce|apply Cg)|exact HB.out)⟩⟩
            ·rw [if_neg c18] at H
             exact absurd H (by simp)
           ·rw [if_neg c16] at H
            exact absurd H (by simp)
          ·rw [if_neg c15] at H
           exact absurd H (by simp)
         ·rw [if_neg c13] at H
          exact absurd H (by simp)
        ·rw [if_neg c12] at H
         exact absurd H (by simp)
       ·rw [if_neg c10] at H
        exact absurd H (by simp)
      ·rw [if_neg c9] at H
       exact absurd H (by simp)
     ·rw [if_neg c7] at H
      exact absurd H (by simp)
    ·rw [if_neg c6] at H
     exact absurd H (by simp)
   ·rw [if_neg c4] at H
    have c4b0:decide (qw < 4)=false:=decide_eq_false c4
    clear c4
    by_cases c23:16≤35184372088832
    ·rw [if_pos c23] at H
     have c23b0:=eq_true c23
     have c23b1:decide (16≤35184372088832)=true:=decide_eq_true c23
     clear c23
     obtain⟨y126,hy126⟩:∃ y_:List Int,y_=(List.replicate 16 0):=⟨_,rfl⟩
     replace H:(spec_l14Turn.l1 k1 qa y126 0)=some r:=by first|(rw [hy126];with_reducible exact H)|(have H2_:=(Option.bind_some _ _).symm.trans H;rw [hy126];with_reducible exact H2_)|(have H2_:=(Option.bind_some _ _).symm.trans H;with_reducible exact H2_)|with_reducible exact H|(rw [hy126];exact H)|exact H
     have Ny126:=Ca hy126
     clear hy126
     have H':=Ca H
     clear H
     go_wp2_with (first|((with_reducible refine gate_dst (N:=40) rfl ?_);refine Kd.R_make (Kd.int .i64) _ 2 rfl (N:=40) rfl 22 _ _ rfl 16 rfl rfl Try.underlying22 (.int .i64 0) 8 info2 rfl (by decide) (by omega) 0 (ok:=fun _=>True) (okp:=fun _=>True) rfl (fun _ hk=>hk) trivial (by omega) (by omega) (Below.refl _ _) (Nat.le_refl _) ?_;intro v127 w24 ho25 hb hg_ hnew_;clear hg_ hnew_;(first|rw [← Ny126.out] at ho25|(simp only [Int.reduceToNat] at ho25;rw [← Ny126.out] at ho25));have ya:=Ca (Kd.R_elder' (by(with_reducible repeat(first|apply Cc|apply Cd|apply Cb));exact qc.out) (Kd.R_base ho25) hb);have yb:=Ca (Kd.R_lower (Kd.R_new' ho25 (Kd.R_lt (by(with_reducible repeat(first|apply Cc|apply Cd|apply Cb));exact qc.out))) (below_size (by repeat(first|(with_reducible first|exact HB.out|apply Ch|apply Ce|apply Cg)|exact HB.out))));have n2_:=Ca (below_step (by repeat(first|(with_reducible first|exact HB.out|apply Ch|apply Ce|apply Cg)|exact HB.out)) hb);clear qc;clear HB;have qc:=ya;have HO128:=yb;have HB:=n2_;clear ya yb n2_;clear hb ho25))
     go_loopg [6] k1 (fun kq v6 w'=>∃ (x5_2:List Int) (qb:Int),v6=.int .i64 qb∧Aside0 (spec_l14Turn.l1 kq qa x5_2 qb=some r)∧Aside0 (kq≤k1)∧Aside0 (Kd.R (Kd.int .i64) 2 w' w.heap.size (fun k_=>some k_≠(v127:Value).ownBlock) u3 qa)∧Aside0 (Kd.R (Kd.int .i64) 2 w' w.heap.size (fun k_=>some k_≠(u3:Value).ownBlock) v127 x5_2)∧Aside0 (Below w.heap.size w w'))
     case atStart=>exact⟨(y126),(0),(by first|rfl|(simp;done)|(simp [*];done)),H',⟨Nat.le_refl _⟩,⟨by(with_reducible repeat(first|apply Cc|apply Cd|apply Cb));exact Kd.R_mono qc.out (fun _ hk=>hk.2)⟩,⟨by(with_reducible repeat(first|apply Cc|apply Cd|apply Cb));exact Kd.R_mono HO128.out (fun _ hk=>hk.2)⟩,⟨by repeat(first|(with_reducible first|exact HB.out|apply Ch|apply Ce|apply Cg)|exact HB.out)⟩⟩
     case round=>
      clear H'
      try clear c1
      try clear p1
      try clear q1
      try clear hx1
      try clear c2
      try clear p2
      try clear c4
      try clear c4b0
      try clear c5
      try clear c6
      try clear c6b0
      try clear p6
      try clear c7
      try clear c7b0
      try clear c8
      try clear c9
      try clear c9b0
      try clear c10
      try clear c10b0
      try clear p11
      try clear q11
      try clear hx11
      try clear c12
      try clear c12b0
      try clear c13
      try clear c13b0
      try clear c15
      try clear c15b0
      try clear c16
      try clear c16b0
      try clear c18
      try clear c23
      try clear c23b0
      try clear c23b1
      try clear qh
      try clear qi
      try clear qj
      try clear qk
      try clear p116
      try clear p117
      try clear p118
      try clear p119
      try clear p2
      try clear q116
      try clear q117
      try clear q118
      try clear q119
      obtain⟨x5_2,qb,rfl,HA,HK2,qc,qm,HB⟩:=hrel
      cases gk with
      | zero => exact absurd HA.out (by simp [spec_l14Turn.l1])
      | succ k2 =>
       have H:=HA.out
       clear HA
       simp only [spec_l14Turn.l1] at H
       by_cases c26:qb < 4
       ·rw [if_pos c26] at H
        have c26b0:decide (qb < 4)=true:=decide_eq_true c26
        clear c26
        by_cases c27:0≤qb
        ·rw [if_pos c27] at H
         have c27b0:decide (0≤qb)=true:=decide_eq_true c27
         clear c27
         by_cases c28:qb < (qa.length:Int)
         ·rw [if_pos c28] at H
          have c28b0:decide (qb < (qa.length:Int))=true:=decide_eq_true c28
          clear c28
          obtain⟨qn,hji29⟩:∃ j_:Int,(wrap64 (qb+4))=j_:=⟨_,rfl⟩
          replace H:(if 0≤(qn) then (if (qn) < (qa.length:Int) then (if 0≤(wrap64 (qb+8)) then (if (wrap64 (qb+8)) < (qa.length:Int) then (if 0≤(wrap64 (qb+12)) then (if (wrap64 (qb+12)) < (qa.length:Int) then ((spec_l14Four.f (rd qa qb) (rd qa (qn)) (rd qa (wrap64 (qb+8))) (rd qa (wrap64 (qb+12)))).bind fun qd=>(spec_l14Turn.l2 k2 qa x5_2 qb qd 0)) else (none)) else (none)) else (none)) else (none)) else (none)) else (none))=some r:=by first|(rw [hji29] at H;exact H)|(simp only [hji29] at H ⊢;exact H)
          have hji29w:(IntKind.i64.wrap (qb+4))=qn:=(i64_w _).trans hji29
          by_cases c30:0≤(qn)
          ·rw [if_pos c30] at H
           have c30b0:decide (0≤(qn))=true:=decide_eq_true c30
           clear c30
           by_cases c31:(qn) < (qa.length:Int)
           ·rw [if_pos c31] at H
            have c31b0:decide ((qn) < (qa.length:Int))=true:=decide_eq_true c31
            clear c31
            obtain⟨qt,hji32⟩:∃ j_:Int,(wrap64 (qb+8))=j_:=⟨_,rfl⟩
            replace H:(if 0≤(qt) then (if (qt) < (qa.length:Int) then (if 0≤(wrap64 (qb+12)) then (if (wrap64 (qb+12)) < (qa.length:Int) then ((spec_l14Four.f (rd qa qb) (rd qa (qn)) (rd qa (qt)) (rd qa (wrap64 (qb+12)))).bind fun qd=>(spec_l14Turn.l2 k2 qa x5_2 qb qd 0)) else (none)) else (none)) else (none)) else (none))=some r:=by first|(rw [hji32] at H;exact H)|(simp only [hji32] at H ⊢;exact H)
            have hji32w:(IntKind.i64.wrap (qb+8))=qt:=(i64_w _).trans hji32
            by_cases c33:0≤(qt)
            ·rw [if_pos c33] at H
             have c33b0:decide (0≤(qt))=true:=decide_eq_true c33
             clear c33
             by_cases c34:(qt) < (qa.length:Int)
             ·rw [if_pos c34] at H
              have c34b0:decide ((qt) < (qa.length:Int))=true:=decide_eq_true c34
              clear c34
              obtain⟨qv,hji35⟩:∃ j_:Int,(wrap64 (qb+12))=j_:=⟨_,rfl⟩
              replace H:(if 0≤(qv) then (if (qv) < (qa.length:Int) then ((spec_l14Four.f (rd qa qb) (rd qa (qn)) (rd qa (qt)) (rd qa (qv))).bind fun qd=>(spec_l14Turn.l2 k2 qa x5_2 qb qd 0)) else (none)) else (none))=some r:=by first|(rw [hji35] at H;exact H)|(simp only [hji35] at H ⊢;exact H)
              have hji35w:(IntKind.i64.wrap (qb+12))=qv:=(i64_w _).trans hji35
              by_cases c36:0≤(qv)
              ·rw [if_pos c36] at H
               have c36b0:decide (0≤(qv))=true:=decide_eq_true c36
               clear c36
               by_cases c37:(qv) < (qa.length:Int)
               ·rw [if_pos c37] at H
                have c37b0:decide ((qv) < (qa.length:Int))=true:=decide_eq_true c37
                clear c37
                replace H:=Option.bind_eq_some_iff.mp H
                obtain⟨qd,A380,H⟩:=H
                replace H:(spec_l14Turn.l2 k2 qa x5_2 qb qd 0)=some r:=H
                have A38:=Ca A380
                clear A380
                have H':=Ca H
                clear H
                try go_wp2
                have ya:=Ca (Cb qc.out)
                have yb:=Ca (Cb qm.out)
                have n2_:=Ca (Cg HB.out)
                clear qc
                clear qm
                clear HB
                have qc:=ya
                have qm:=yb
                have HB:=n2_
                clear ya yb n2_
                obtain⟨Ao40,co40,eo40⟩:=Kd.R_slice qc.out
                (first|subst eo40|(injection eo40 with f1_ f2_ f3_;have f4_:=f1_.symm;have f5_:=f3_.symm;clear f1_ f2_ f3_;subst f4_;subst f5_))
                have p129:0≤(qb:Int):=of_decide_eq_true (by first|(with_reducible assumption)|assumption)
                have q129:qb < (qa.length:Int):=of_decide_eq_true (by first|(with_reducible assumption)|assumption)
                obtain⟨ql,e129,hx129_0⟩:=Kd.at_int (Kd.R_reads' qc.out).2.2 qb p129 q129
                cases e129
                replace p129:=eq_true p129
                replace q129:=eq_true q129
                have p130:0≤((qn):Int):=of_decide_eq_true (by first|(with_reducible assumption)|assumption)
                have q130:(qn) < (qa.length:Int):=of_decide_eq_true (by first|(with_reducible assumption)|assumption)
                obtain⟨ad130,e130,hx130_0⟩:=Kd.at_int (Kd.R_reads' qc.out).2.2 (qn) p130 q130
                obtain rfl:ql=ad130:=(by injection e130)
                replace p130:=eq_true p130
                replace q130:=eq_true q130
                have p131:0≤((qt):Int):=of_decide_eq_true (by first|(with_reducible assumption)|assumption)
                have q131:(qt) < (qa.length:Int):=of_decide_eq_true (by first|(with_reducible assumption)|assumption)
                obtain⟨ad131,e131,hx131_0⟩:=Kd.at_int (Kd.R_reads' qc.out).2.2 (qt) p131 q131
                obtain rfl:ql=ad131:=(by injection e131)
                replace p131:=eq_true p131
                replace q131:=eq_true q131
                have p132:0≤((qv):Int):=of_decide_eq_true (by first|(with_reducible assumption)|assumption)
                have q132:(qv) < (qa.length:Int):=of_decide_eq_true (by first|(with_reducible assumption)|assumption)
                obtain⟨ad132,e132,hx132_0⟩:=Kd.at_int (Kd.R_reads' qc.out).2.2 (qv) p132 q132
                obtain rfl:ql=ad132:=(by injection e132)
                replace p132:=eq_true p132
                replace q132:=eq_true q132
                refine start_ (n:=21) (S:=fun w'=>w'.cell? (ql.add (qb).toNat)=some (.int .i64 (rd qa qb))∧w'.cell? (ql.add ((qn)).toNat)=some (.int .i64 (rd qa (qn)))∧w'.cell? (ql.add ((qt)).toNat)=some (.int .i64 (rd qa (qt)))∧w'.cell? (ql.add ((qv)).toNat)=some (.int .i64 (rd qa (qv)))) (ds:=[]) #[false,false,false,false,false,false,false,false,false,false,false,false,false,false,false,false,false,false,false,false,false] (by kernel_rfl) rfl rfl ⟨hx129_0,hx130_0,hx131_0,hx132_0⟩ (fun hHeld=>?_);refine with_tabW spec_l14Turn.tab10 spec_l14Turn.bits10 (fun HT_ HW_=>?_)
                generalize wr.drew=w39 at qc qm HB hx129_0 hx130_0 hx131_0 hx132_0 hHeld ⊢
                refine pure_ (i:=0) (N:=some 45) (v:=?_) (a':=?_) #[true,false,false,false,false,false,false,false,false,false,false,false,false,false,false,false,false,false,false,false,false] rfl rfl (Cf HT_.out (by kernel_rfl)) (fun _ _ _ h=>h) (Or.inl ⟨by rfl,?_⟩) ?_ ?_
                rotate_left
                ·intro w'
                 go_simp
                 with_reducible rfl
                rotate_left
                ·simp only [Act.put,List.setIfInBounds_toArray,List.set_cons_zero,List.set_cons_succ,i64_w,i32_w]
                 rfl
                refine pure_ (i:=1) (N:=some 46) (v:=?_) (a':=?_) #[true,true,false,false,false,false,false,false,false,false,false,false,false,false,false,false,false,false,false,false,false] rfl rfl (Cf HT_.out (by kernel_rfl)) (fun _ _ _ h=>h) (Or.inl ⟨by rfl,?_⟩) ?_ ?_
                rotate_left
                ·intro w'
                 go_simp
                 with_reducible rfl
                rotate_left
                ·simp only [Act.put,List.setIfInBounds_toArray,List.set_cons_zero,List.set_cons_succ,i64_w,i32_w]
                 rfl
                refine pure_ (i:=2) (N:=some 47) (v:=?_) (a':=?_) #[true,true,true,false,false,false,false,false,false,false,false,false,false,false,false,false,false,false,false,false,false] rfl rfl (Cf HT_.out (by kernel_rfl)) (fun _ _ _ h=>h) (Or.inl ⟨by rfl,?_⟩) ?_ ?_
                rotate_left
                ·intro w'
                 go_simp
                 with_reducible rfl
                rotate_left
                ·simp only [Act.put,List.setIfInBounds_toArray,List.set_cons_zero,List.set_cons_succ,i64_w,i32_w]
                 rfl
                refine pure_ (i:=4) (N:=some 49) (v:=?_) (a':=?_) #[true,true,true,false,true,false,false,false,false,false,false,false,false,false,false,false,false,false,false,false,false] rfl rfl (Cf HT_.out (by kernel_rfl)) (fun _ _ _ h=>h) (Or.inl ⟨by rfl,?_⟩) ?_ ?_
                rotate_left
                ·intro w'
                 go_simp
                 with_reducible rfl
                rotate_left
                ·simp only [Act.put,List.setIfInBounds_toArray,List.set_cons_zero,List.set_cons_succ,i64_w,i32_w]
                 rfl
                refine pure_ (i:=5) (N:=some 50) (v:=?_) (a':=?_) #[true,true,true,false,true,true,false,false,false,false,false,false,false,false,false,false,false,false,false,false,false] rfl rfl (Cf HT_.out (by kernel_rfl)) (fun _ _ _ h=>h) (Or.inl ⟨by rfl,?_⟩) ?_ ?_
                rotate_left
                ·intro w'
                 go_simp
                 with_reducible rfl
                rotate_left
                ·simp only [Act.put,List.setIfInBounds_toArray,List.set_cons_zero,List.set_cons_succ,i64_w,i32_w]
                 rfl
                refine pure_ (i:=6) (N:=some 51) (v:=?_) (a':=?_) #[true,true,true,false,true,true,true,false,false,false,false,false,false,false,false,false,false,false,false,false,false] rfl rfl (Cf HT_.out (by kernel_rfl)) (fun _ _ _ h=>h) (Or.inl ⟨by rfl,?_⟩) ?_ ?_
                rotate_left
                ·intro w'
                 go_simp
                 with_reducible rfl
                rotate_left
                ·simp only [Act.put,List.setIfInBounds_toArray,List.set_cons_zero,List.set_cons_succ,i64_w,i32_w]
                 rfl
                refine pure_ (i:=7) (N:=some 52) (v:=?_) (a':=?_) #[true,true,true,false,true,true,true,true,false,false,false,false,false,false,false,false,false,false,false,false,false] rfl rfl (Cf HT_.out (by kernel_rfl)) (fun _ _ _ h=>h) (Or.inl ⟨by rfl,?_⟩) ?_ ?_
                rotate_left
                ·intro w'
                 go_simp
                 with_reducible rfl
                rotate_left
                ·simp only [Act.put,List.setIfInBounds_toArray,List.set_cons_zero,List.set_cons_succ,i64_w,i32_w]
                 rfl
                refine pure_ (i:=9) (N:=some 54) (v:=?_) (a':=?_) #[true,true,true,false,true,true,true,true,false,true,false,false,false,false,false,false,false,false,false,false,false] rfl rfl (Cf HT_.out (by kernel_rfl)) (fun _ _ _ h=>h) (Or.inl ⟨by rfl,?_⟩) ?_ ?_
                rotate_left
                ·intro w'
                 go_simp
                 with_reducible rfl
                rotate_left
                ·simp only [Act.put,List.setIfInBounds_toArray,List.set_cons_zero,List.set_cons_succ,i64_w,i32_w]
                 rfl
                refine pure_ (i:=10) (N:=some 55) (v:=?_) (a':=?_) #[true,true,true,false,true,true,true,true,false,true,true,false,false,false,false,false,false,false,false,false,false] rfl rfl (Cf HT_.out (by kernel_rfl)) (fun _ _ _ h=>h) (Or.inl ⟨by rfl,?_⟩) ?_ ?_
                rotate_left
                ·intro w'
                 go_simp
                 with_reducible rfl
                rotate_left
                ·simp only [Act.put,List.setIfInBounds_toArray,List.set_cons_zero,List.set_cons_succ,i64_w,i32_w]
                 rfl
                refine pure_ (i:=11) (N:=some 56) (v:=?_) (a':=?_) #[true,true,true,false,true,true,true,true,false,true,true,true,false,false,false,false,false,false,false,false,false] rfl rfl (Cf HT_.out (by kernel_rfl)) (fun _ _ _ h=>h) (Or.inl ⟨by rfl,?_⟩) ?_ ?_
                rotate_left
                ·intro w'
                 go_simp
                 with_reducible rfl
                rotate_left
                ·simp only [Act.put,List.setIfInBounds_toArray,List.set_cons_zero,List.set_cons_succ,i64_w,i32_w]
                 rfl
                refine pure_ (i:=12) (N:=some 57) (v:=?_) (a':=?_) #[true,true,true,false,true,true,true,true,false,true,true,true,true,false,false,false,false,false,false,false,false] rfl rfl (Cf HT_.out (by kernel_rfl)) (fun _ _ _ h=>h) (Or.inl ⟨by rfl,?_⟩) ?_ ?_
                rotate_left
                ·intro w'
                 go_simp
                 with_reducible rfl
                rotate_left
                ·simp only [Act.put,List.setIfInBounds_toArray,List.set_cons_zero,List.set_cons_succ,i64_w,i32_w]
                 rfl
                refine pure_ (i:=14) (N:=some 59) (v:=?_) (a':=?_) #[true,true,true,false,true,true,true,true,false,true,true,true,true,false,true,false,false,false,false,false,false] rfl rfl (Cf HT_.out (by kernel_rfl)) (fun _ _ _ h=>h) (Or.inl ⟨by rfl,?_⟩) ?_ ?_
                rotate_left
                ·intro w'
                 go_simp
                 with_reducible rfl
                rotate_left
                ·simp only [Act.put,List.setIfInBounds_toArray,List.set_cons_zero,List.set_cons_succ,i64_w,i32_w]
                 rfl
                refine pure_ (i:=15) (N:=some 60) (v:=?_) (a':=?_) #[true,true,true,false,true,true,true,true,false,true,true,true,true,false,true,true,false,false,false,false,false] rfl rfl (Cf HT_.out (by kernel_rfl)) (fun _ _ _ h=>h) (Or.inl ⟨by rfl,?_⟩) ?_ ?_
                rotate_left
                ·intro w'
                 go_simp
                 with_reducible rfl
                rotate_left
                ·simp only [Act.put,List.setIfInBounds_toArray,List.set_cons_zero,List.set_cons_succ,i64_w,i32_w]
                 rfl
                refine pure_ (i:=16) (N:=some 61) (v:=?_) (a':=?_) #[true,true,true,false,true,true,true,true,false,true,true,true,true,false,true,true,true,false,false,false,false] rfl rfl (Cf HT_.out (by kernel_rfl)) (fun _ _ _ h=>h) (Or.inl ⟨by rfl,?_⟩) ?_ ?_
                rotate_left
                ·intro w'
                 go_simp
                 with_reducible rfl
                rotate_left
                ·simp only [Act.put,List.setIfInBounds_toArray,List.set_cons_zero,List.set_cons_succ,i64_w,i32_w]
                 rfl
                refine pure_ (i:=17) (N:=some 62) (v:=?_) (a':=?_) #[true,true,true,false,true,true,true,true,false,true,true,true,true,false,true,true,true,true,false,false,false] rfl rfl (Cf HT_.out (by kernel_rfl)) (fun _ _ _ h=>h) (Or.inl ⟨by rfl,?_⟩) ?_ ?_
                rotate_left
                ·intro w'
                 go_simp
                 with_reducible rfl
                rotate_left
                ·simp only [Act.put,List.setIfInBounds_toArray,List.set_cons_zero,List.set_cons_succ,i64_w,i32_w]
                 rfl
                refine take_ (i:=3) (N:=some 48) (v:=?_) (a':=?_) #[true,true,true,true,true,true,true,true,false,true,true,true,true,false,true,true,true,true,false,false,false] rfl rfl (take_ofW HT_.out HW_.out (by kernel_rfl)) (fun _ _ _ h=>h) (Or.inl ⟨by rfl,?_⟩) hHeld ?_ ?_
                rotate_left
                ·rintro w' ⟨s0,s1,s2,s3⟩
                 go_simp
                 with_reducible rfl
                rotate_left
                ·simp only [Act.put,List.setIfInBounds_toArray,List.set_cons_zero,List.set_cons_succ,i64_w,i32_w]
                 rfl
                refine take_ (i:=8) (N:=some 53) (v:=?_) (a':=?_) #[true,true,true,true,true,true,true,true,true,true,true,true,true,false,true,true,true,true,false,false,false] rfl rfl (take_ofW HT_.out HW_.out (by kernel_rfl)) (fun _ _ _ h=>h) (Or.inl ⟨by rfl,?_⟩) hHeld ?_ ?_
                rotate_left
                ·rintro w' ⟨s0,s1,s2,s3⟩
                 go_simp
                 with_reducible rfl
                rotate_left
                ·simp only [Act.put,List.setIfInBounds_toArray,List.set_cons_zero,List.set_cons_succ,i64_w,i32_w]
                 rfl
                refine take_ (i:=13) (N:=some 58) (v:=?_) (a':=?_) #[true,true,true,true,true,true,true,true,true,true,true,true,true,true,true,true,true,true,false,false,false] rfl rfl (take_ofW HT_.out HW_.out (by kernel_rfl)) (fun _ _ _ h=>h) (Or.inl ⟨by rfl,?_⟩) hHeld ?_ ?_
                rotate_left
                ·rintro w' ⟨s0,s1,s2,s3⟩
                 go_simp
                 with_reducible rfl
                rotate_left
                ·simp only [Act.put,List.setIfInBounds_toArray,List.set_cons_zero,List.set_cons_succ,i64_w,i32_w]
                 rfl
                refine take_ (i:=18) (N:=some 63) (v:=?_) (a':=?_) #[true,true,true,true,true,true,true,true,true,true,true,true,true,true,true,true,true,true,true,false,false] rfl rfl (take_ofW HT_.out HW_.out (by kernel_rfl)) (fun _ _ _ h=>h) (Or.inl ⟨by rfl,?_⟩) hHeld ?_ ?_
                rotate_left
                ·rintro w' ⟨s0,s1,s2,s3⟩
                 go_simp
                 with_reducible rfl
                rotate_left
                ·simp only [Act.put,List.setIfInBounds_toArray,List.set_cons_zero,List.set_cons_succ,i64_w,i32_w]
                 rfl
                refine one_ (i:=19) (N:=some 64) #[true,true,true,true,true,true,true,true,true,true,true,true,true,true,true,true,true,true,true,true,false] rfl rfl (one_of HT_.out (by kernel_rfl)) (by decide) (fun K hK=>?_)
                refine goes_ Try.func84 (by kernel_rfl) rfl #[.int .i64 (rd qa qb),.int .i64 (rd qa (qn)),.int .i64 (rd qa (qt)),.int .i64 (rd qa (qv))] (by rfl) rfl rfl (by(try simp only [List.map_toArray,List.map_cons,List.map_nil]);first|done|(simp only [hji29,hji32,hji35];rfl)|rfl|(simp only [List.length_drop,List.length_take];rfl)) ?_
                with_reducible refine(spec_l14Four.calls (rd qa qb) (rd qa (qn)) (rd qa (qt)) (rd qa (qv)) qd _ A38.out).mono ?_
                rintro e w41 ⟨v134,rfl,ho0,hb⟩
                have HS0_:=(hb.cell (World.block_lt_of_cell? _ _ (hHeld.1))).trans (hHeld.1)
                have HS1_:=(hb.cell (World.block_lt_of_cell? _ _ (hHeld.2.1))).trans (hHeld.2.1)
                have HS2_:=(hb.cell (World.block_lt_of_cell? _ _ (hHeld.2.2.1))).trans (hHeld.2.2.1)
                have HS3_:=(hb.cell (World.block_lt_of_cell? _ _ (hHeld.2.2.2))).trans (hHeld.2.2.2)
                refine⟨_,rfl,?_⟩
                have ya:=Ca (Kd.R_elder' (by(with_reducible repeat(first|apply Cc|apply Cd|apply Cb));exact qc.out) (Kd.R_base ho0) hb)
                have yb:=Ca (Kd.R_elder' (by(with_reducible repeat(first|apply Cc|apply Cd|apply Cb));exact qm.out) (Kd.R_base ho0) hb)
                have n2_:=Ca (Kd.R_lower (Kd.R_new' (Kd.R_new' ho0 (Kd.R_lt (by(with_reducible repeat(first|apply Cc|apply Cd|apply Cb));exact qc.out))) (Kd.R_lt (by(with_reducible repeat(first|apply Cc|apply Cd|apply Cb));exact qm.out))) (below_size (by repeat(first|(with_reducible first|exact HB.out|apply Ch|apply Ce|apply Cg)|exact HB.out))))
                have n3_:=Ca (below_step (by repeat(first|(with_reducible first|exact HB.out|apply Ch|apply Ce|apply Cg)|exact HB.out)) hb)
                clear qc
                clear qm
                clear HB
                have qc:=ya
                have qm:=yb
                have HO135:=n2_
                have HB:=n3_
                clear ya yb n2_ n3_
                (try clear hb)
                (try clear hb2)
                (try clear hk)
                (try clear hi)
                (try clear ho0)
                refine hK.out _ _ ⟨HS0_,HS1_,HS2_,HS3_⟩ (fun hHeld=>?_)
                clear hK K
                refine norm_ (a':=?_) ?_ ?_
                rotate_left
                ·show Act.put _ (some 64) _=_
                 simp only [Act.put,List.setIfInBounds_toArray,List.set_cons_zero,List.set_cons_succ,i64_w,i32_w]
                 rfl
                refine pure_ (i:=20) (N:=some 7) (v:=?_) (a':=?_) #[true,true,true,true,true,true,true,true,true,true,true,true,true,true,true,true,true,true,true,true,true] rfl rfl (Cf HT_.out (by kernel_rfl)) (fun _ _ _ h=>h) (Or.inl ⟨by rfl,?_⟩) ?_ ?_
                rotate_left
                ·intro w'
                 go_simp
                 with_reducible rfl
                rotate_left
                ·simp only [Act.put,List.setIfInBounds_toArray,List.set_cons_zero,List.set_cons_succ,i64_w,i32_w]
                 rfl
                refine done_ (done_of HT_.out (by kernel_rfl)) ?_
                try go_wp2
                go_loopg [8] k2 (fun kq v8 w'=>∃ (qx:List Int) (qf:Int),v8=.int .i64 qf∧Aside0 (spec_l14Turn.l2 kq qa qx qb qd qf=some r)∧Aside0 (kq≤k2)∧Aside0 (Kd.R (Kd.int .i64) 2 w' w.heap.size (fun k_=>some k_≠(v127:Value).ownBlock∧some k_≠(v134:Value).ownBlock) (.slice (some ql) qa.length co40) qa)∧Aside0 (Kd.R (Kd.int .i64) 2 w' w.heap.size (fun k_=>some k_≠((.slice (some ql) qa.length co40):Value).ownBlock∧some k_≠(v134:Value).ownBlock) v127 qx)∧Aside0 (Kd.R (Kd.int .i64) 2 w' w.heap.size (fun k_=>some k_≠((.slice (some ql) qa.length co40):Value).ownBlock∧some k_≠(v127:Value).ownBlock) v134 qd)∧Aside0 (Below w.heap.size w w'))
                case atStart=>exact⟨(x5_2),(0),(by first|rfl|(simp;done)|(simp [*];done)),H',⟨Nat.le_refl _⟩,⟨by(with_reducible repeat(first|apply Cc|apply Cd|apply Cb));exact qc.out⟩,⟨by(with_reducible repeat(first|apply Cc|apply Cd|apply Cb));exact qm.out⟩,⟨by(with_reducible repeat(first|apply Cc|apply Cd|apply Cb));exact Kd.R_mono HO135.out (fun _ hk=>⟨hk.1.2,hk.2⟩)⟩,⟨by repeat(first|(with_reducible first|exact HB.out|apply Ch|apply Ce|apply Cg)|exact HB.out)⟩⟩
                case round=>
                 clear H'
                 try clear c1
                 try clear p1
                 try clear q1
                 try clear hx1
                 try clear c2
                 try clear p2
                 try clear c3
                 try clear c4
                 try clear c4b0
                 try clear c5
                 try clear c6
                 try clear c6b0
                 try clear p6
                 try clear c7
                 try clear c7b0
                 try clear c8
                 try clear c9
                 try clear c9b0
                 try clear c10
                 try clear c10b0
                 try clear p11
                 try clear q11
                 try clear hx11
                 try clear c12
                 try clear c12b0
                 try clear p12
                 try clear q12
                 try clear hx12
                 try clear c13
                 try clear c13b0
                 try clear p13
                 try clear q13
                 try clear hx13
                 try clear c15
                 try clear c15b0
                 try clear c16
                 try clear c16b0
                 try clear c18
                 try clear c23
                 try clear c23b0
                 try clear c23b1
                 try clear c26
                 try clear c26b0
                 try clear c27
                 try clear c27b0
                 try clear c28
                 try clear c28b0
                 try clear c30
                 try clear c30b0
                 try clear c31
                 try clear c31b0
                 try clear c33
                 try clear c33b0
                 try clear c34
                 try clear c34b0
                 try clear c36
                 try clear c36b0
                 try clear c37
                 try clear c37b0
                 try clear qh
                 try clear qi
                 try clear qj
                 try clear qk
                 try clear hx129_0
                 try clear hx130_0
                 try clear hx131_0
                 try clear hx132_0
                 try clear p1
                 try clear p11
                 try clear p116
                 try clear p117
                 try clear p118
                 try clear p119
                 try clear p129
                 try clear p130
                 try clear p131
                 try clear p132
                 try clear p2
                 try clear p6
                 try clear q1
                 try clear q11
                 try clear q116
                 try clear q117
                 try clear q118
                 try clear q119
                 try clear q129
                 try clear q130
                 try clear q131
                 try clear q132
                 obtain⟨qx,qf,rfl,HA,HK3,qc,qm,HO_7,HB⟩:=hrel
                 cases gk with
                 | zero => exact absurd HA.out (by simp [spec_l14Turn.l2])
                 | succ k3 =>
                  have H:=HA.out
                  clear HA
                  simp only [spec_l14Turn.l2] at H
                  by_cases c42:qf < 4
                  ·rw [if_pos c42] at H
                   have c42b0:decide (qf < 4)=true:=decide_eq_true c42
                   clear c42
                   by_cases c43:0≤qf
                   ·rw [if_pos c43] at H
                    have c43b0:decide (0≤qf)=true:=decide_eq_true c43
                    clear c43
                    by_cases c44:qf < (qd.length:Int)
                    ·rw [if_pos c44] at H
                     have c44b0:decide (qf < (qd.length:Int))=true:=decide_eq_true c44
                     clear c44
                     obtain⟨qy,hji45⟩:∃ j_:Int,(wrap64 ((wrap64 (4*qf))+qb))=j_:=⟨_,rfl⟩
                     replace H:(if 0≤(qy) then (if (qy) < (qx.length:Int) then (spec_l14Turn.l2 k3 qa (qx.set ((qy):Int).toNat (rd qd qf)) qb qd (wrap64 (qf+1))) else (none)) else (none))=some r:=by first|(rw [hji45] at H;exact H)|(simp only [hji45] at H ⊢;exact H)
                     have hji45w:(IntKind.i64.wrap ((wrap64 (4*qf))+qb))=qy:=(i64_w _).trans hji45
                     by_cases c46:0≤(qy)
                     ·rw [if_pos c46] at H
                      have c46b0:decide (0≤(qy))=true:=decide_eq_true c46
                      clear c46
                      by_cases c47:(qy) < (qx.length:Int)
                      ·rw [if_pos c47] at H
                       have c47b0:decide ((qy) < (qx.length:Int))=true:=decide_eq_true c47
                       clear c47
                       obtain⟨y137,hy137⟩:∃ y_:List Int,y_=(qx.set ((qy):Int).toNat (rd qd qf)):=⟨_,rfl⟩
                       replace H:(spec_l14Turn.l2 k3 qa y137 qb qd (wrap64 (qf+1)))=some r:=by first|(rw [hy137];with_reducible exact H)|(have H2_:=(Option.bind_some _ _).symm.trans H;rw [hy137];with_reducible exact H2_)|(have H2_:=(Option.bind_some _ _).symm.trans H;with_reducible exact H2_)|with_reducible exact H|(rw [hy137];exact H)|exact H
                       have Ny137:=Ca hy137
                       clear hy137
                       have H':=Ca H
                       clear H
                       obtain⟨Ao49,co49,eo49⟩:=Kd.R_slice HO_7.out
                       subst eo49
                       have p136:0≤(qf:Int):=of_decide_eq_true (by first|(with_reducible assumption)|assumption)
                       have q136:qf < (qd.length:Int):=of_decide_eq_true (by first|(with_reducible assumption)|assumption)
                       obtain⟨ad136,e136,hx136_0⟩:=Kd.at_int (Kd.R_reads' HO_7.out).2.2 qf p136 q136
                       cases e136
                       replace p136:=eq_true p136
                       replace q136:=eq_true q136
                       have p48:0≤((qy):Int):=of_decide_eq_true (by first|(with_reducible assumption)|assumption)
                       have q48:((qy):Int) < ((qx.length:Int):Int):=of_decide_eq_true (by first|(with_reducible assumption)|assumption)
                       obtain⟨go48,co48,eo48,gb48,gl48,cl48,HG48⟩:=Kd.R_form qm.out (by omega)
                       (first|cases eo48|(injection eo48 with ea_ en_ ec_;(first|subst ea_|(injection ea_ with ea_;subst ea_));subst ec_;clear en_))
                       have GB48:=Ca gb48
                       have GG48:=Ca HG48
                       clear gb48 gl48 HG48
                       obtain⟨hx48_0,hf48_0⟩:=Kd.R_celln 0 qm.out ((qy):Int) p48 q48
                       replace p48:=eq_true p48
                       replace q48:=eq_true q48
                       have HP50:=Kd.R_putg qm.out ((qy):Int) (rd qd qf)
                       go_wp2_with (first|((with_reducible refine gate_store (t:=2) (p:=78) rfl ?_);refine store_event (t:=2) (p:=78) (v:=?vo_w51) (w1:=(wr.setCell ⟨go48,((qy):Int).toNat,none⟩ (.int .i64 (rd qd qf)))) ?hg ?ho ?hn ?hr ?_;(case ho=>rfl);(case hg=>rfl);(case hn=>rfl);(case hr=>first|(go_simp;done)|(go_simp;rfl));intro w51 hw;have hg:wr.grownBy w51 (some go48):=(by rw [hw];exact HP50.2);have hp_:Kd.R (Kd.int .i64) 2 w51 w.heap.size (fun k_=>some k_≠(.slice (some ql) qa.length co40:Value).ownBlock∧some k_≠(.slice (some ad136) qd.length co49:Value).ownBlock) (.slice (some ⟨go48,0,none⟩) qx.length co48) y137:=(by rw [hw,Ny137.out];exact HP50.1);clear HP50;have ya:=Ca (Kd.R_after (v:=(.slice (some ⟨go48,0,none⟩) qx.length co48)) (v1:=(.slice (some ⟨go48,0,none⟩) qx.length co48)) (ok:=(fun k_=>some k_≠(.slice (some ad136) qd.length co49:Value).ownBlock)) (by(with_reducible repeat(first|apply Cc|apply Cd|apply Cb));exact Kd.R_mono qc.out (fun _ hk=>⟨hk.2,hk.1⟩)) hg (.inl rfl));have yb:=Ca (hp_);have n2_:=Ca (Kd.R_after (v:=(.slice (some ⟨go48,0,none⟩) qx.length co48)) (v1:=(.slice (some ⟨go48,0,none⟩) qx.length co48)) (ok:=(fun k_=>some k_≠(.slice (some ql) qa.length co40:Value).ownBlock)) (by(with_reducible repeat(first|apply Cc|apply Cd|apply Cb));exact HO_7.out) hg (.inl rfl));have n3_:=Ca ((by rw [hw];exact below_set (HB.out) GB48.out:Below w.heap.size w w51));clear qc;clear qm;clear HO_7;clear HB;have qc:=ya;have qm:=yb;have HO_7:=n2_;have HB:=n3_;clear ya yb n2_ n3_;clear hg hw hp_))
                       go_roundg k3
                       case measure=>have:=HK1.out;have:=HK2.out;have:=HK3.out;omega
                       case rel=>exact⟨(y137),(wrap64 (qf+1)),(by first|rfl|(simp;done)|(simp [*];done)),H',⟨by have:=HK1.out;have:=HK2.out;have:=HK3.out;omega⟩,⟨by(with_reducible repeat(first|apply Cc|apply Cd|apply Cb));exact Kd.R_mono qc.out (fun _ hk=>⟨hk.2,hk.1⟩)⟩,⟨by(with_reducible repeat(first|apply Cc|apply Cd|apply Cb));exact qm.out⟩,⟨by(with_reducible repeat(first|apply Cc|apply Cd|apply Cb));exact HO_7.out⟩,⟨by repeat(first|(with_reducible first|exact HB.out|apply Ch|apply Ce|apply Cg)|exact HB.out)⟩⟩
                      ·rw [if_neg c47] at H
                       exact absurd H (by simp)
                     ·rw [if_neg c46] at H
                      exact absurd H (by simp)
                    ·rw [if_neg c44] at H
                     exact absurd H (by simp)
                   ·rw [if_neg c43] at H
                    exact absurd H (by simp)
                  ·rw [if_neg c42] at H
                   have c42b0:decide (qf < 4)=false:=decide_eq_false c42
                   clear c42
                   have H':=Ca H
                   clear H
                   go_wp2
                   go_roundg k3
                   case measure=>have:=HK1.out;have:=HK2.out;have:=HK3.out;omega
                   case rel=>exact⟨(qx),(wrap64 (qb+1)),(by first|rfl|(simp;done)|(simp [*];done)),H',⟨by have:=HK1.out;have:=HK2.out;have:=HK3.out;omega⟩,⟨by(with_reducible repeat(first|apply Cc|apply Cd|apply Cb));exact Kd.R_mono qc.out (fun _ hk=>hk.1)⟩,⟨by(with_reducible repeat(first|apply Cc|apply Cd|apply Cb));exact Kd.R_mono qm.out (fun _ hk=>hk.1)⟩,⟨by repeat(first|(with_reducible first|exact HB.out|apply Ch|apply Ce|apply Cg)|exact HB.out)⟩⟩
               ·rw [if_neg c37] at H
                exact absurd H (by simp)
              ·rw [if_neg c36] at H
               exact absurd H (by simp)
             ·rw [if_neg c34] at H
              exact absurd H (by simp)
            ·rw [if_neg c33] at H
             exact absurd H (by simp)
           ·rw [if_neg c31] at H
            exact absurd H (by simp)
          ·rw [if_neg c30] at H
           exact absurd H (by simp)
         ·rw [if_neg c28] at H
          exact absurd H (by simp)
        ·rw [if_neg c27] at H
         exact absurd H (by simp)
       ·rw [if_neg c26] at H
        have c26b0:decide (qb < 4)=false:=decide_eq_false c26
        clear c26
        obtain rfl:=Option.some.inj H
        go_wp2
        go_ret
        exact⟨_,by first|rfl|(simp [errW_none,errW_some] <;> rfl)|(simp [*,errW_none,errW_some] <;> rfl),by(with_reducible repeat(first|apply Cc|apply Cd|apply Cb));exact Kd.R_mono qm.out (fun _ hk=>trivial),by repeat(first|(with_reducible first|exact HB.out|apply Ch|apply Ce|apply Cg)|exact HB.out)⟩
    ·rw [if_neg c23] at H
     exact absurd H (by simp)

end Go.Proofs.Ytbdnpfjjaokdbaa.HFnDecoded
