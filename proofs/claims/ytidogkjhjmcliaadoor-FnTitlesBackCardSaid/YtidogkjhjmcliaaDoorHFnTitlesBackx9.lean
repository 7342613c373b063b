-- Laid by myprint.py, a program of this repo, out of the kit's printer and this repo's own texts (wip/hand).
import Derived.Test.YtidogkjhjmcliaaDoorHFnTitlesBackx0
import Derived.Test.YtidogkjhjmcliaaDoorHFnTitlesBackx5
import Derived.Test.YtidogkjhjmcliaaDoorHFnTitlesBackx8
import Derived.Test.YtidogkjhjmcliaaDoorCmp
namespace Go.Proofs.YtidogkjhjmcliaaDoor.HFnTitlesBack
open Go.RowKit Go.Proofs.YtidogkjhjmcliaaDoorW.PrintWords Go.Proofs.YtidogkjhjmcliaaDoorW.PrintLast Go.Proofs.YtidogkjhjmcliaaDoorW.PrintMore
attribute [local go_sem] max2_int min2_int max_two min_two max_three min_three max_four min_four   -- for this text's walks alone
set_option linter.unusedVariables false
set_option linter.unusedSimpArgs false
theorem Ja : type_of% @Aside0.mk := @Aside0.mk

/-! ### spec_l12Read: function 31 -/
mutual
def spec_l12Read.l0 : Nat → ByteArray → List Int → Int → Option (Int × Bool)
 | 0, _, _, _ => none
 | k + 1, x0, x4, x5 => if x5 < 12 then (if x5 < 9 then (spec_l12Read.j1 k x0 x4 x5 ((Int.tmod x5 3) == 2)) else (spec_l12Read.j1 k x0 x4 x5 false)) else (if 0 < (x4.length : Int) then (if 1 < (x4.length : Int) then (if 2 < (x4.length : Int) then (if 3 < (x4.length : Int) then (if (wrap64 ((wrap64 ((wrap64 ((wrap64 ((wrap64 ((wrap64 ((rd x4 0) * 60)) + (rd x4 1))) * 60)) + (rd x4 2))) * 1000)) + (rd x4 3))) ≤ 359999999 then ((spec_l12Time.f k (wrap64 ((wrap64 ((wrap64 ((wrap64 ((wrap64 ((wrap64 ((rd x4 0) * 60)) + (rd x4 1))) * 60)) + (rd x4 2))) * 1000)) + (rd x4 3)))).bind fun t166 => (some (wrap64 ((wrap64 ((wrap64 ((wrap64 ((wrap64 ((wrap64 ((rd x4 0) * 60)) + (rd x4 1))) * 60)) + (rd x4 2))) * 1000)) + (rd x4 3)), (t166.toList == x0.toList)))) else (some (wrap64 ((wrap64 ((wrap64 ((wrap64 ((wrap64 ((wrap64 ((rd x4 0) * 60)) + (rd x4 1))) * 60)) + (rd x4 2))) * 1000)) + (rd x4 3)), false))) else (none)) else (none)) else (none)) else (none))
def spec_l12Read.j1 : Nat → ByteArray → List Int → Int → Bool → Option (Int × Bool)
 | 0, _, _, _, _ => none
 | k + 1, x0, x4, x5, x22 => if x22 = true then (spec_l12Read.l0 k x0 x4 (wrap64 (x5 + 1))) else (if 0 ≤ x5 then (if x5 < (x0.size : Int) then (if (bt x0 x5) < 48 then (some (0, false)) else (if (bt x0 x5) > 57 then (some (0, false)) else ((spec_l1Min.f 3 (wrap64 (Int.tdiv x5 3))).bind fun qe => (if 0 ≤ qe then (if qe < (x4.length : Int) then (spec_l12Read.l0 k x0 (x4.set (qe : Int).toNat (wrap64 ((wrap64 ((rd x4 qe) * 10)) + (((bt x0 x5) - 48) % 256)))) (wrap64 (x5 + 1))) else (none)) else (none))))) else (none)) else (none))
end
def spec_l12Read.f (k : Nat) (a0 : ByteArray) : Option (Int × Bool) := if (a0.size : Int) = 12 then (spec_l12Read.l0 k a0 (([0, 0, 0, 0] : List Int)) 0) else (some (0, false))
theorem spec_l12Read.mono_l : ∀ k, (∀ y0 y1 y2, LeO (spec_l12Read.l0 k y0 y1 y2) (spec_l12Read.l0 (k + 1) y0 y1 y2)) ∧ (∀ y0 y1 y2 y3, LeO (spec_l12Read.j1 k y0 y1 y2 y3) (spec_l12Read.j1 (k + 1) y0 y1 y2 y3))
 | 0 => ⟨fun _ _ _ r h => by simp [spec_l12Read.l0] at h, fun _ _ _ _ r h => by simp [spec_l12Read.j1] at h⟩
 | k + 1 => by
  obtain⟨ih0,ih1⟩:=spec_l12Read.mono_l k
  refine⟨?_,?_⟩
  ·intro y0 y1 y2
   unfold spec_l12Read.l0
   repeat' first|(with_reducible first|exact ih0 _ _ _|exact ih1 _ _ _ _|exact spec_l12Time.mono _ _|exact LeO.refl _|exact LeO.none _|refine LeO.ite ?_ ?_|refine LeO.bind ?_ (fun _=>?_))|exact ih0 _ _ _|exact ih1 _ _ _ _|exact spec_l12Time.mono _ _|exact LeO.none _|refine LeO.ite ?_ ?_|refine LeO.bind ?_ (fun _=>?_)
  ·intro y0 y1 y2 y3
   unfold spec_l12Read.j1
   repeat' first|(with_reducible first|exact ih0 _ _ _|exact ih1 _ _ _ _|exact spec_l12Time.mono _ _|exact LeO.refl _|exact LeO.none _|refine LeO.ite ?_ ?_|refine LeO.bind ?_ (fun _=>?_))|exact ih0 _ _ _|exact ih1 _ _ _ _|exact spec_l12Time.mono _ _|exact LeO.none _|refine LeO.ite ?_ ?_|refine LeO.bind ?_ (fun _=>?_)
theorem spec_l12Read.mono : ∀ a0 k, LeO (spec_l12Read.f k a0) (spec_l12Read.f (k + 1) a0) := by
 intro a0 k
 obtain⟨ih0,ih1⟩:=spec_l12Read.mono_l k
 unfold spec_l12Read.f
 repeat' first|(with_reducible first|exact ih0 _ _ _|exact ih1 _ _ _ _|exact spec_l12Time.mono _ _|exact LeO.refl _|exact LeO.none _|refine LeO.ite ?_ ?_|refine LeO.bind ?_ (fun _=>?_))|exact ih0 _ _ _|exact ih1 _ _ _ _|exact spec_l12Time.mono _ _|exact LeO.none _|refine LeO.ite ?_ ?_|refine LeO.bind ?_ (fun _=>?_)
def spec_l12Read.T11 : Bool × List (List Nat × List Nat) := (true, [([], []), ([], []), ([], []), ([], []), ([2, 3], [2, 3]), ([4], [4]), ([5], [5]), ([], []), ([], []), ([7, 8], [7, 8]), ([9], [9]), ([10], [10]), ([6, 11], [6, 11]), ([0, 1, 0, 1, 2, 3, 4, 5, 6, 7, 8, 9, 10, 11, 12], [0, 1]), ([13, 12, 0, 1, 2, 3, 4, 5, 6, 7, 8, 9, 10, 11, 12], [12, 13])])
def spec_l12Read.B11 : List Nat := [0, 0, 0, 0, 12, 28, 60, 0, 0, 384, 896, 1920, 4092, 8191, 16383]
theorem spec_l12Read.tab11 : rtab .any (opsOf Tryd.f31 11) = spec_l12Read.T11 := by kernel_rfl
theorem spec_l12Read.bits11 : waitsOk spec_l12Read.T11.2 spec_l12Read.B11 = true := by kernel_rfl
def spec_l12Read.T12 : Bool × List (List Nat × List Nat) := (true, [([], []), ([0], [0]), ([1], [1]), ([2], [2]), ([], []), ([4], [4]), ([5], [5]), ([3, 6], [3, 6]), ([7], [7]), ([], []), ([9], [9]), ([10], [10]), ([8, 11], [8, 11]), ([12], [12]), ([], []), ([14], [14]), ([15], [15]), ([13, 16], [13, 16]), ([17, 0, 1, 2, 3, 4, 5, 6, 7, 8, 9, 10, 11, 12, 13, 14, 15, 16, 17], [17])])
def spec_l12Read.B12 : List Nat := [0, 1, 3, 7, 0, 16, 48, 127, 255, 0, 512, 1536, 4095, 8191, 0, 16384, 49152, 131071, 262143]
theorem spec_l12Read.tab12 : rtab .any (opsOf Tryd.f31 12) = spec_l12Read.T12 := by kernel_rfl
theorem spec_l12Read.bits12 : waitsOk spec_l12Read.T12.2 spec_l12Read.B12 = true := by kernel_rfl
set_option maxHeartbeats 8000000 in
set_option maxRecDepth 100000 in
theorem spec_l12Read.calls (k : Nat) (a0 : ByteArray) (r1 : Int) (r2 : Bool) (w : World) (h : spec_l12Read.f k a0 = some (r1, r2)) :
  Calls Tryd.prog 31 #[.string a0] w fun e w'=>e=.returned (.tuple #[.int .i64 r1,.bool r2])∧Below w.heap.size w w':=by
 have HB:=Ja (Below.refl w.heap.size w)
 have H:(if (a0.size:Int)=12 then (spec_l12Read.l0 k a0 (([0,0,0,0]:List Int)) 0) else (some (0,false)))=some (r1,r2):=h
 clear h
 by_cases c2:(a0.size:Int)=12
 ·rw [if_pos c2] at H
  have c2b0:((a0.size:Int) == 12)=true:=beq_iff_eq.mpr c2
  have c2b1:((a0.size:Int) != 12)=false:=bne_eq_false_iff_eq.mpr c2
  clear c2
  obtain⟨y159,hy159⟩:∃ y_:List Int,y_=(([0,0,0,0]:List Int)):=⟨_,rfl⟩
  replace H:(spec_l12Read.l0 k a0 y159 0)=some (r1,r2):=by first|(rw [hy159];with_reducible exact H)|(have H2_:=(Option.bind_some _ _).symm.trans H;rw [hy159];with_reducible exact H2_)|(have H2_:=(Option.bind_some _ _).symm.trans H;with_reducible exact H2_)|with_reducible exact H|(rw [hy159];exact H)|exact H
  have Ny159:=Ja hy159
  clear hy159
  have H':=Ja H
  clear H
  go_enter Tryd.func31,Tryd.ntmps31
  go_wp2_with (first|((with_reducible refine gate_dst (N:=11) rfl ?_);refine Kd.R_lit (Kd.int .i64) _ 2 ?hg (N:=11) ?hd (xs:=([0,0,0,0]:List Int)) (inner:=[.int .i64 0,.int .i64 0,.int .i64 0,.int .i64 0]) (ok:=fun _=>True) (okp:=fun _=>True) ?hr ?hp (fun _ hk=>hk) trivial (Below.refl _ _) (Nat.le_refl _) (by simp) ?_;(case hd=>rfl);(case hg=>rfl);(case hr=>first|(go_simp;done)|(go_simp;rfl));(case hp=>exact(Reps.one (show Kd.M (Kd.int .i64) _ _ _ 0 [.int .i64 0] from rfl) (Reps.one (show Kd.M (Kd.int .i64) _ _ _ 0 [.int .i64 0] from rfl) (Reps.one (show Kd.M (Kd.int .i64) _ _ _ 0 [.int .i64 0] from rfl) (Reps.one (show Kd.M (Kd.int .i64) _ _ _ 0 [.int .i64 0] from rfl) (Reps.none _ _))))));intro v160 w3 ho4 hb hg_ hnew_;clear hg_ hnew_;(first|rw [← Ny159.out] at ho4|(simp only [Int.reduceToNat] at ho4;rw [← Ny159.out] at ho4));have n0_:=Ja (Kd.R_lower ho4 (below_size (by repeat(first|(with_reducible first|exact HB.out|apply below_alloc|apply pw_below_drewN|apply below_drew1)|exact HB.out))));have n1_:=Ja (below_step (by repeat(first|(with_reducible first|exact HB.out|apply below_alloc|apply pw_below_drewN|apply below_drew1)|exact HB.out)) hb);clear HB;have HO161:=n0_;have HB:=n1_;clear n0_ n1_;clear hb ho4))
  go_loopg [5] k (fun kq v5 w'=>∃ (qa:List Int) (qb:Int),v5=.int .i64 qb∧Aside0 (spec_l12Read.l0 kq a0 qa qb=some (r1,r2))∧Aside0 (kq≤k)∧Aside0 (Kd.R (Kd.int .i64) 2 w' w.heap.size (fun _=>True) v160 qa)∧Aside0 (Below w.heap.size w w'))
  case atStart=>exact⟨(y159),(0),(by first|rfl|(simp;done)|(simp [*];done)),H',⟨Nat.le_refl _⟩,⟨by(with_reducible repeat(first|apply Kd.R_alloc|apply Kd.R_drewN|apply Kd.R_drew));exact HO161.out⟩,⟨by repeat(first|(with_reducible first|exact HB.out|apply below_alloc|apply pw_below_drewN|apply below_drew1)|exact HB.out)⟩⟩
  case round=>
   clear H';try clear c2;try clear c2b0;try clear c2b1;try clear p2;try clear c3
   obtain⟨qa,qb,rfl,HA,HK1,qc,HB⟩:=hrel
   cases gk with
   | zero => exact absurd HA.out (by simp [spec_l12Read.l0])
   | succ k1 =>
    have H:=HA.out
    clear HA
    simp only [spec_l12Read.l0] at H
    by_cases c5:qb < 12
    ·rw [if_pos c5] at H
     have c5b0:=decide_eq_true c5
     clear c5
     have HC6:=Ja H
     clear H
     go_upto_region 7 with (fail)
     go_cut [22] (fun v22 wc=>∃ (kq:Nat) (x22_5:Bool),v22=.bool x22_5∧Aside0 (spec_l12Read.j1 kq a0 qa qb x22_5=some (r1,r2))∧Aside0 (kq≤k1)∧Aside0 (Kd.R (Kd.int .i64) 2 wc w.heap.size (fun _=>True) v160 qa)∧Aside0 (Below w.heap.size w wc))
     case first=>
      have H:=HC6.out
      clear HC6
      by_cases c7:qb < 9
      ·rw [if_pos c7] at H
       have c7b0:=decide_eq_true c7
       clear c7
       (first|rw [c7b0]|(simp only [i64_w,i32_w];rw [c7b0])|skip)
       have H':=Ja H
       clear H
       go_wp2
       go_meet
       case rel=>exact⟨_,(((Int.tmod qb 3) == 2)),(by first|rfl|(simp;done)|(simp [*];done)),H',⟨by have:=HK1.out;first|omega|exact Nat.le_refl _⟩,⟨by(with_reducible repeat(first|apply Kd.R_alloc|apply Kd.R_drewN|apply Kd.R_drew));exact qc.out⟩,⟨by repeat(first|(with_reducible first|exact HB.out|apply below_alloc|apply pw_below_drewN|apply below_drew1)|exact HB.out)⟩⟩
      ·rw [if_neg c7] at H
       have c7b0:=decide_eq_false c7
       clear c7
       (first|rw [c7b0]|(simp only [i64_w,i32_w];rw [c7b0])|skip)
       have H':=Ja H
       clear H
       go_wp2
       go_meet
       case rel=>exact⟨_,(false),(by first|rfl|(simp;done)|(simp [*];done)),H',⟨by have:=HK1.out;first|omega|exact Nat.le_refl _⟩,⟨by(with_reducible repeat(first|apply Kd.R_alloc|apply Kd.R_drewN|apply Kd.R_drew));exact qc.out⟩,⟨by repeat(first|(with_reducible first|exact HB.out|apply below_alloc|apply pw_below_drewN|apply below_drew1)|exact HB.out)⟩⟩
     case rest=>
      clear HC6;try clear c2;try clear c2b0;try clear c2b1;try clear p2;try clear c3;try clear c5;try clear c5b0;try clear c7;try clear c7b0;try clear p2
      obtain⟨kq,x22_5,rfl,HA,HJ5,qc,HB⟩:=hcut
      cases kq with
      | zero => exact absurd HA.out (by simp [spec_l12Read.j1])
      | succ kj5 =>
       have H:=HA.out
       clear HA
       simp only [spec_l12Read.j1] at H
       by_cases c8:x22_5=true
       ·subst c8
        rw[if_pos rfl] at H
        have H':=Ja H
        clear H
        go_wp2
        go_roundg kj5
        case measure=>have:=HK1.out;have:=HJ5.out;omega
        case rel=>exact⟨(qa),(wrap64 (qb+1)),(by first|rfl|(simp;done)|(simp [*];done)),H',⟨by have:=HK1.out;have:=HJ5.out;omega⟩,⟨by(with_reducible repeat(first|apply Kd.R_alloc|apply Kd.R_drewN|apply Kd.R_drew));exact qc.out⟩,⟨by repeat(first|(with_reducible first|exact HB.out|apply below_alloc|apply pw_below_drewN|apply below_drew1)|exact HB.out)⟩⟩
       ·replace c8:=Bool.eq_false_iff.mpr c8
        subst c8
        have H1:(if 0≤qb then (if qb < (a0.size:Int) then (if (bt a0 qb) < 48 then (some (0,false)) else (if (bt a0 qb) > 57 then (some (0,false)) else ((spec_l1Min.f 3 (wrap64 (Int.tdiv qb 3))).bind fun qe=>(if 0≤qe then (if qe < (qa.length:Int) then (spec_l12Read.l0 kj5 a0 (qa.set (qe:Int).toNat (wrap64 ((wrap64 ((rd qa qe)*10))+(((bt a0 qb) - 48) % 256)))) (wrap64 (qb+1))) else (none)) else (none))))) else (none)) else (none))=some (r1,r2):=by rw [if_neg (show ¬ (false=true) by decide)] at H;exact H
        clear H
        have H:=H1
        clear H1
        by_cases c9:0≤qb
        case neg=>rw[if_neg c9] at H;exact absurd H (by simp)
        rw[if_pos c9] at H
        have c9b0:=decide_eq_true c9
        clear c9
        by_cases c10:qb < (a0.size:Int)
        case neg=>rw[if_neg c10] at H;exact absurd H (by simp)
        rw[if_pos c10] at H
        have c10b0:=decide_eq_true c10
        clear c10
        by_cases c12:(bt a0 qb) < 48
        ·rw [if_pos c12] at H
         have c12b0:=decide_eq_true c12
         clear c12
         simp only [Option.some.injEq,Prod.mk.injEq] at H
         obtain⟨rfl,rfl⟩:=H
         have p11:0≤(qb:Int):=of_decide_eq_true (by first|(with_reducible assumption)|assumption)
         have q11:qb < (a0.size:Int):=of_decide_eq_true (by first|(with_reducible assumption)|assumption)
         have hx11:=bt_at a0 qb
         replace p11:=eq_true p11
         replace q11:=eq_true q11
         go_wp2
         go_ret2
         exact⟨by first|rfl|(simp [errW_none,errW_some] <;> rfl)|(simp [*,errW_none,errW_some] <;> rfl),by repeat(first|(with_reducible first|exact HB.out|apply below_alloc|apply pw_below_drewN|apply below_drew1)|exact HB.out)⟩
        ·rw [if_neg c12] at H
         have c12b0:=decide_eq_false c12
         clear c12
         by_cases c14:(bt a0 qb) > 57
         ·rw [if_pos c14] at H
          have c14b0:=decide_eq_true c14
          clear c14
          simp only [Option.some.injEq,Prod.mk.injEq] at H
          obtain⟨rfl,rfl⟩:=H
          have p11:0≤(qb:Int):=of_decide_eq_true (by first|(with_reducible assumption)|assumption)
          have q11:qb < (a0.size:Int):=of_decide_eq_true (by first|(with_reducible assumption)|assumption)
          have hx11:=bt_at a0 qb
          replace p11:=eq_true p11
          replace q11:=eq_true q11
          have p13:0≤(qb:Int):=of_decide_eq_true (by first|(with_reducible assumption)|assumption)
          have q13:qb < (a0.size:Int):=of_decide_eq_true (by first|(with_reducible assumption)|assumption)
          have hx13:=bt_at a0 qb
          replace p13:=eq_true p13
          replace q13:=eq_true q13
          go_wp2
          go_ret2
          exact⟨by first|rfl|(simp [errW_none,errW_some] <;> rfl)|(simp [*,errW_none,errW_some] <;> rfl),by repeat(first|(with_reducible first|exact HB.out|apply below_alloc|apply pw_below_drewN|apply below_drew1)|exact HB.out)⟩
         ·rw [if_neg c14] at H
          have c14b0:=decide_eq_false c14
          clear c14
          replace H:=Option.bind_eq_some_iff.mp H
          obtain⟨qe,A150,H⟩:=H
          try dsimp only at H
          have A15:=Ja A150
          clear A150
          by_cases c16:0≤qe
          case neg=>rw[if_neg c16] at H;exact absurd H (by simp)
          rw[if_pos c16] at H
          have c16b0:=decide_eq_true c16
          clear c16
          by_cases c17:qe < (qa.length:Int)
          case neg=>rw[if_neg c17] at H;exact absurd H (by simp)
          rw[if_pos c17] at H
          have c17b0:=decide_eq_true c17
          clear c17
          obtain⟨y169,hy169⟩:∃ y_:List Int,y_=(qa.set (qe:Int).toNat (wrap64 ((wrap64 ((rd qa qe)*10))+(((bt a0 qb) - 48) % 256)))):=⟨_,rfl⟩
          replace H:(spec_l12Read.l0 kj5 a0 y169 (wrap64 (qb+1)))=some (r1,r2):=by first|(rw [hy169];with_reducible exact H)|(have H2_:=(Option.bind_some _ _).symm.trans H;rw [hy169];with_reducible exact H2_)|(have H2_:=(Option.bind_some _ _).symm.trans H;with_reducible exact H2_)|with_reducible exact H|(rw [hy169];exact H)|exact H
          have Ny169:=Ja hy169
          clear hy169
          have H':=Ja H
          clear H
          have p11:0≤(qb:Int):=of_decide_eq_true (by first|(with_reducible assumption)|assumption)
          have q11:qb < (a0.size:Int):=of_decide_eq_true (by first|(with_reducible assumption)|assumption)
          have hx11:=bt_at a0 qb
          replace p11:=eq_true p11
          replace q11:=eq_true q11
          have p13:0≤(qb:Int):=of_decide_eq_true (by first|(with_reducible assumption)|assumption)
          have q13:qb < (a0.size:Int):=of_decide_eq_true (by first|(with_reducible assumption)|assumption)
          have hx13:=bt_at a0 qb
          replace p13:=eq_true p13
          replace q13:=eq_true q13
          try go_wp2_with (first|((with_reducible refine gate_callee (f:=45) rfl ?_);refine goesL_ (some 35) rfl rfl Tryd.func45 (by kernel_rfl) rfl #[.int .i64 3,.int .i64 (wrap64 (Int.tdiv qb 3))] rfl (by(try simp only [List.map_toArray,List.map_cons,List.map_nil]);first|done|rfl|(simp only [List.length_drop,List.length_take];rfl)) ?_;(with_reducible refine(spec_l1Min.calls 3 (wrap64 (Int.tdiv qb 3)) qe _ A15.out).mono ?_);rintro e w' ⟨rfl,⟨nd,rfl⟩⟩;refine⟨_,rfl,?_⟩;(try(rw [drewN_self wc];generalize hq_:World.drewN wc _=wc;have n0_:Aside0 (Kd.R (Kd.int .i64) 2 wc w.heap.size (fun _=>True) v160 qa):=⟨by rw [← hq_];exact(by(with_reducible repeat(first|apply Kd.R_alloc|apply Kd.R_drewN|apply Kd.R_drew));exact qc.out)⟩;have n1_:Aside0 (Below w.heap.size w wc):=⟨by rw [← hq_];exact(by repeat(first|(with_reducible first|exact HB.out|apply below_alloc|apply pw_below_drewN|apply below_drew1)|exact HB.out))⟩;clear qc HB hq_;have qc:=n0_;have HB:=n1_;clear n0_ n1_))))
          have n0_:=Ja (Kd.R_drew qc.out)
          have n1_:=Ja (below_drew1 HB.out)
          clear qc HB
          have qc:=n0_
          have HB:=n1_
          clear n0_ n1_
          obtain⟨Ao21,co21,eo21⟩:=Kd.R_slice qc.out
          (first|subst eo21|(injection eo21 with f1_ f2_ f3_;have f4_:=f1_.symm;have f5_:=f3_.symm;clear f1_ f2_ f3_;subst f4_;subst f5_))
          have p168:0≤(qe:Int):=of_decide_eq_true (by first|(with_reducible assumption)|assumption)
          have q168:qe < (qa.length:Int):=of_decide_eq_true (by first|(with_reducible assumption)|assumption)
          obtain⟨ad168,e168,hx168_0⟩:=Kd.at_int (Kd.R_reads' qc.out).2.2 qe p168 q168
          cases e168
          replace p168:=eq_true p168
          replace q168:=eq_true q168
          have p18:0≤(qb:Int):=of_decide_eq_true (by first|(with_reducible assumption)|assumption)
          have q18:qb < (a0.size:Int):=of_decide_eq_true (by first|(with_reducible assumption)|assumption)
          have hx18:=bt_at a0 qb
          replace p18:=eq_true p18
          replace q18:=eq_true q18
          have p19:0≤(qe:Int):=of_decide_eq_true (by first|(with_reducible assumption)|assumption)
          have q19:(qe:Int) < ((qa.length:Int):Int):=of_decide_eq_true (by first|(with_reducible assumption)|assumption)
          obtain⟨go19,co19,eo19,gb19,gl19,cl19,HG19⟩:=Kd.R_form qc.out (by omega)
          (first|cases eo19|(injection eo19 with ea_ en_ ec_;(first|subst ea_|(injection ea_ with ea_;subst ea_));subst ec_;clear en_))
          have GB19:=Ja gb19
          have GG19:=Ja HG19
          clear gb19 gl19 HG19
          (first|simp only [add_plain] at hx168_0|skip)
          obtain⟨hx19_0,hf19_0⟩:=Kd.R_celln 0 qc.out (qe:Int) p19 q19
          replace p19:=eq_true p19
          replace q19:=eq_true q19
          have HP22:=Kd.R_putn qc.out (qe:Int) (wrap64 ((wrap64 ((rd qa qe)*10))+(((bt a0 qb) - 48) % 256)))
          rw [← Ny169.out] at HP22
          have HQ22:=Ja HP22
          clear HP22
          refine start_ (n:=15) (S:=fun w'=>w'.cell? ⟨go19,(qe).toNat,none⟩=some (.int .i64 (rd qa qe))) (ds:=[14]) #[false,false,false,false,false,false,false,false,false,false,false,false,false,false,false] (by kernel_rfl) rfl rfl (hx168_0) (fun hHeld=>?_);refine with_tabW spec_l12Read.tab11 spec_l12Read.bits11 (fun HT_ HW_=>?_)
          generalize wc.drew=w20 at qc HB GG19 HQ22 hf19_0 hx168_0 hx19_0 hHeld ⊢
          refine pz 0 36 (bm 15 1) HT_ ?_
          refine pz 1 37 (bm 15 3) HT_ ?_
          refine pz 2 38 (bm 15 7) HT_ ?_
          refine pz 3 39 (bm 15 15) HT_ ?_
          refine pz 4 40 (bm 15 31) HT_ ?_
          refine pz 7 43 (bm 15 159) HT_ ?_
          refine pz 8 44 (bm 15 415) HT_ ?_
          refine take_ (i:=5) (N:=some 41) (v:=?_) (a':=?_) (bm 15 447) rfl rfl (take_ofW HT_.out HW_.out (by kernel_rfl)) (fun _ _ _ h=>h) (Or.inl ⟨by rfl,?_⟩) hHeld ?_ ?_
          rotate_left
          ·intro w' s0
           go_simp
           with_reducible rfl
          rotate_left
          ·simp only [Act.put,List.setIfInBounds_toArray,List.set_cons_zero,List.set_cons_succ,i64_w,i32_w]
           rfl
          refine pz 6 42 (bm 15 511) HT_ ?_
          refine take_ (i:=9) (N:=some 45) (v:=?_) (a':=?_) (bm 15 1023) rfl rfl (take_ofW HT_.out HW_.out (by kernel_rfl)) (fun _ _ _ h=>h) (Or.inl ⟨by rfl,?_⟩) hHeld ?_ ?_
          rotate_left
          ·intro w' s0
           go_simp
           with_reducible rfl
          rotate_left
          ·simp only [Act.put,List.setIfInBounds_toArray,List.set_cons_zero,List.set_cons_succ,i64_w,i32_w]
           rfl
          refine pz 10 46 (bm 15 2047) HT_ ?_
          refine pz 11 47 (bm 15 4095) HT_ ?_
          refine pz 12 48 (bm 15 8191) HT_ ?_
          refine pz 13 49 (bm 15 16383) HT_ ?_
          refine last_ (i:=14) (N:=none) (bm 15 32767) rfl rfl (one_of HT_.out (by kernel_rfl)) (by decide) (fun K hK=>?_)
          refine skip_ (w1:=?_) (by rfl) rfl ?_ ?_
          rotate_left
          ·go_simp
           rfl
          refine hK.out _ _ ?_
          clear hK K
          refine done_ (done_of HT_.out (by kernel_rfl)) ?_
          try go_wp2
          go_roundg kj5
          case measure=>have:=HK1.out;have:=HJ5.out;omega
          case rel=>exact⟨(y169),(wrap64 (qb+1)),(by first|rfl|(simp;done)|(simp [*];done)),H',⟨by have:=HK1.out;have:=HJ5.out;omega⟩,⟨by(with_reducible repeat(first|apply Kd.R_alloc|apply Kd.R_drewN|apply Kd.R_drew));(first|exact HQ22.out|(rw [show wrap64 ((bt a0 qb - 48) % 256)=(bt a0 qb - 48) % 256 from by unfold wrap64;omega];exact HQ22.out))⟩,⟨by repeat(first|(with_reducible first|exact HB.out|apply below_alloc|apply pw_below_drewN|apply below_drew1|refine below_set ?_ GB19.out)|exact HB.out)⟩⟩
    ·rw [if_neg c5] at H
     have c5b0:=decide_eq_false c5
     clear c5
     by_cases c23:0 < (qa.length:Int)
     case neg=>rw[if_neg c23] at H;exact absurd H (by simp)
     rw[if_pos c23] at H
     have c23b0:=decide_eq_true c23
     have c23b1:decide (0 < qa.length)=true:=decide_eq_true (by omega)
     clear c23
     by_cases c24:1 < (qa.length:Int)
     case neg=>rw[if_neg c24] at H;exact absurd H (by simp)
     rw[if_pos c24] at H
     have c24b0:=decide_eq_true c24
     have c24b1:decide (1 < qa.length)=true:=decide_eq_true (by omega)
     clear c24
     by_cases c25:2 < (qa.length:Int)
     case neg=>rw[if_neg c25] at H;exact absurd H (by simp)
     rw[if_pos c25] at H
     have c25b0:=decide_eq_true c25
     have c25b1:decide (2 < qa.length)=true:=decide_eq_true (by omega)
     clear c25
     by_cases c26:3 < (qa.length:Int)
     case neg=>rw[if_neg c26] at H;exact absurd H (by simp)
     rw[if_pos c26] at H
     have c26b0:=decide_eq_true c26
     have c26b1:decide (3 < qa.length)=true:=decide_eq_true (by omega)
     clear c26
     by_cases c27:(wrap64 ((wrap64 ((wrap64 ((wrap64 ((wrap64 ((wrap64 ((rd qa 0)*60))+(rd qa 1)))*60))+(rd qa 2)))*1000))+(rd qa 3)))≤359999999
     ·rw [if_pos c27] at H
      have c27b0:=decide_eq_true c27
      clear c27
      replace H:=Option.bind_eq_some_iff.mp H
      obtain⟨t166,A280,H⟩:=H
      try dsimp only at H
      have A28:=Ja A280
      clear A280
      simp only [Option.some.injEq,Prod.mk.injEq] at H
      obtain⟨rfl,rfl⟩:=H
      try go_wp2
      have n0_:=Ja (Kd.R_drew qc.out)
      have n1_:=Ja (below_drew1 HB.out)
      clear qc HB
      have qc:=n0_
      have HB:=n1_
      clear n0_ n1_
      obtain⟨Ao30,co30,eo30⟩:=Kd.R_slice qc.out
      (first|subst eo30|(injection eo30 with f1_ f2_ f3_;have f4_:=f1_.symm;have f5_:=f3_.symm;clear f1_ f2_ f3_;subst f4_;subst f5_))
      have p162:0≤(0:Int):=(by omega)
      have q162:0 < (qa.length:Int):=of_decide_eq_true (by first|(with_reducible assumption)|assumption)
      obtain⟨qd,e162,qf⟩:=Kd.at_int (Kd.R_reads' qc.out).2.2 0 p162 q162
      cases e162
      have qi162:(0 < qa.length)=True:=eq_true (by omega)
      (try rw [show((0:Int)).toNat=0 from rfl] at qf)
      (try rw [Addr.add_zero'] at qf)
      replace p162:=eq_true p162
      replace q162:=eq_true q162
      have p163:0≤(1:Int):=(by omega)
      have q163:1 < (qa.length:Int):=of_decide_eq_true (by first|(with_reducible assumption)|assumption)
      obtain⟨ad163,e163,qg⟩:=Kd.at_int (Kd.R_reads' qc.out).2.2 1 p163 q163
      obtain rfl:qd=ad163:=(by injection e163)
      (try simp only [show(1:Int).toNat=1 from rfl,Nat.reduceMul,Nat.reduceEqDiff,Go.Addr.add,↓reduceIte] at qg)
      have qi163:(1 < qa.length)=True:=eq_true (by omega)
      (try rw [show((1:Int)).toNat=1 from rfl] at qg)
      replace p163:=eq_true p163
      replace q163:=eq_true q163
      have p164:0≤(2:Int):=(by omega)
      have q164:2 < (qa.length:Int):=of_decide_eq_true (by first|(with_reducible assumption)|assumption)
      obtain⟨ad164,e164,qh⟩:=Kd.at_int (Kd.R_reads' qc.out).2.2 2 p164 q164
      obtain rfl:qd=ad164:=(by injection e164)
      (try simp only [show(2:Int).toNat=2 from rfl,Nat.reduceMul,Nat.reduceEqDiff,Go.Addr.add,↓reduceIte] at qh)
      have qi164:(2 < qa.length)=True:=eq_true (by omega)
      (try rw [show((2:Int)).toNat=2 from rfl] at qh)
      replace p164:=eq_true p164
      replace q164:=eq_true q164
      have p165:0≤(3:Int):=(by omega)
      have q165:3 < (qa.length:Int):=of_decide_eq_true (by first|(with_reducible assumption)|assumption)
      obtain⟨ad165,e165,qi⟩:=Kd.at_int (Kd.R_reads' qc.out).2.2 3 p165 q165
      obtain rfl:qd=ad165:=(by injection e165)
      (try simp only [show(3:Int).toNat=3 from rfl,Nat.reduceMul,Nat.reduceEqDiff,Go.Addr.add,↓reduceIte] at qi)
      have qi165:(3 < qa.length)=True:=eq_true (by omega)
      (try rw [show((3:Int)).toNat=3 from rfl] at qi)
      replace p165:=eq_true p165
      replace q165:=eq_true q165
      refine start_ (n:=19) (S:=fun w'=>w'.cell? qd=some (.int .i64 (rd qa 0))∧w'.cell? ⟨qd.block,qd.off+1,none⟩=some (.int .i64 (rd qa 1))∧w'.cell? ⟨qd.block,qd.off+2,none⟩=some (.int .i64 (rd qa 2))∧w'.cell? ⟨qd.block,qd.off+3,none⟩=some (.int .i64 (rd qa 3))) (ds:=[]) #[false,false,false,false,false,false,false,false,false,false,false,false,false,false,false,false,false,false,false] (by kernel_rfl) rfl rfl ⟨qf,qg,qh,qi⟩ (fun hHeld=>?_);refine with_tabW spec_l12Read.tab12 spec_l12Read.bits12 (fun HT_ HW_=>?_)
      generalize wr.drew=w29 at qc HB qf qg qh qi hHeld ⊢
      refine pz 0 50 (bm 19 1) HT_ ?_
      refine pz 1 51 (bm 19 3) HT_ ?_
      refine pz 4 54 (bm 19 19) HT_ ?_
      refine pz 5 55 (bm 19 51) HT_ ?_
      refine pz 9 59 (bm 19 563) HT_ ?_
      refine pz 10 60 (bm 19 1587) HT_ ?_
      refine pz 14 64 (bm 19 17971) HT_ ?_
      refine pz 15 65 (bm 19 50739) HT_ ?_
      refine tz 2 52 (bm 19 50743) HT_ HW_ hHeld rfl (by rintro w' ⟨s0,s1,s2,s3⟩;go_simp;with_reducible rfl) ?_
      refine pz 3 53 (bm 19 50751) HT_ ?_
      refine tz 6 56 (bm 19 50815) HT_ HW_ hHeld rfl (by rintro w' ⟨s0,s1,s2,s3⟩;go_simp;with_reducible rfl) ?_
      refine pz 7 57 (bm 19 50943) HT_ ?_
      refine pz 8 58 (bm 19 51199) HT_ ?_
      refine tz 11 61 (bm 19 53247) HT_ HW_ hHeld rfl (by rintro w' ⟨s0,s1,s2,s3⟩;go_simp;with_reducible rfl) ?_
      refine pz 12 62 (bm 19 57343) HT_ ?_
      refine pz 13 63 (bm 19 65535) HT_ ?_
      refine tz 16 66 (bm 19 131071) HT_ HW_ hHeld rfl (by rintro w' ⟨s0,s1,s2,s3⟩;go_simp;with_reducible rfl) ?_
      refine pz 17 67 (bm 19 262143) HT_ ?_
      refine pz 18 7 (bm 19 524287) HT_ ?_
      refine done_ (done_of HT_.out (by kernel_rfl)) ?_
      try go_wp2_with (first|(go_at_call 23;(with_reducible refine(spec_l12Time.calls k1 (wrap64 ((wrap64 ((wrap64 ((wrap64 ((wrap64 ((wrap64 ((rd qa 0)*60))+(rd qa 1)))*60))+(rd qa 2)))*1000))+(rd qa 3))) t166 _ A28.out).mono ?_);rintro e w31 ⟨rfl,hb⟩;have n0_:=Ja (Kd.R_below (by(with_reducible repeat(first|apply Kd.R_alloc|apply Kd.R_drewN|apply Kd.R_drew));exact qc.out) hb);have n1_:=Ja (below_step (by repeat(first|(with_reducible first|exact HB.out|apply below_alloc|apply pw_below_drewN|apply below_drew1)|exact HB.out)) hb);clear qc;clear HB;have qc:=n0_;have HB:=n1_;clear n0_ n1_;(try clear hb);(try clear hb2);(try clear hk);(try clear hi)))
      go_ret2
      exact⟨by first|rfl|(simp [errW_none,errW_some] <;> rfl)|(simp [*,errW_none,errW_some] <;> rfl),by repeat(first|(with_reducible first|exact HB.out|apply below_alloc|apply pw_below_drewN|apply below_drew1)|exact HB.out)⟩
     ·rw [if_neg c27] at H
      have c27b0:=decide_eq_false c27
      clear c27
      simp only [Option.some.injEq,Prod.mk.injEq] at H
      obtain⟨rfl,rfl⟩:=H
      try go_wp2
      have n0_:=Ja (Kd.R_drew qc.out)
      have n1_:=Ja (below_drew1 HB.out)
      clear qc HB
      have qc:=n0_
      have HB:=n1_
      clear n0_ n1_
      obtain⟨Ao33,co33,eo33⟩:=Kd.R_slice qc.out
      (first|subst eo33|(injection eo33 with f1_ f2_ f3_;have f4_:=f1_.symm;have f5_:=f3_.symm;clear f1_ f2_ f3_;subst f4_;subst f5_))
      have p162:0≤(0:Int):=(by omega)
      have q162:0 < (qa.length:Int):=of_decide_eq_true (by first|(with_reducible assumption)|assumption)
      obtain⟨qd,e162,qf⟩:=Kd.at_int (Kd.R_reads' qc.out).2.2 0 p162 q162
      cases e162
      have qi162:(0 < qa.length)=True:=eq_true (by omega)
      (try rw [show((0:Int)).toNat=0 from rfl] at qf)
      (try rw [Addr.add_zero'] at qf)
      replace p162:=eq_true p162
      replace q162:=eq_true q162
      have p163:0≤(1:Int):=(by omega)
      have q163:1 < (qa.length:Int):=of_decide_eq_true (by first|(with_reducible assumption)|assumption)
      obtain⟨ad163,e163,qg⟩:=Kd.at_int (Kd.R_reads' qc.out).2.2 1 p163 q163
      obtain rfl:qd=ad163:=(by injection e163)
      (try simp only [show(1:Int).toNat=1 from rfl,Nat.reduceMul,Nat.reduceEqDiff,Go.Addr.add,↓reduceIte] at qg)
      have qi163:(1 < qa.length)=True:=eq_true (by omega)
      (try rw [show((1:Int)).toNat=1 from rfl] at qg)
      replace p163:=eq_true p163
      replace q163:=eq_true q163
      have p164:0≤(2:Int):=(by omega)
      have q164:2 < (qa.length:Int):=of_decide_eq_true (by first|(with_reducible assumption)|assumption)
      obtain⟨ad164,e164,qh⟩:=Kd.at_int (Kd.R_reads' qc.out).2.2 2 p164 q164
      obtain rfl:qd=ad164:=(by injection e164)
      (try simp only [show(2:Int).toNat=2 from rfl,Nat.reduceMul,Nat.reduceEqDiff,Go.Addr.add,↓reduceIte] at qh)
      have qi164:(2 < qa.length)=True:=eq_true (by omega)
      (try rw [show((2:Int)).toNat=2 from rfl] at qh)
      replace p164:=eq_true p164
      replace q164:=eq_true q164
      have p165:0≤(3:Int):=(by omega)
      have q165:3 < (qa.length:Int):=of_decide_eq_true (by first|(with_reducible assumption)|assumption)
      obtain⟨ad165,e165,qi⟩:=Kd.at_int (Kd.R_reads' qc.out).2.2 3 p165 q165
      obtain rfl:qd=ad165:=(by injection e165)
      (try simp only [show(3:Int).toNat=3 from rfl,Nat.reduceMul,Nat.reduceEqDiff,Go.Addr.add,↓reduceIte] at qi)
      have qi165:(3 < qa.length)=True:=eq_true (by omega)
      (try rw [show((3:Int)).toNat=3 from rfl] at qi)
      replace p165:=eq_true p165
      replace q165:=eq_true q165
      refine start_ (n:=19) (S:=fun w'=>w'.cell? qd=some (.int .i64 (rd qa 0))∧w'.cell? ⟨qd.block,qd.off+1,none⟩=some (.int .i64 (rd qa 1))∧w'.cell? ⟨qd.block,qd.off+2,none⟩=some (.int .i64 (rd qa 2))∧w'.cell? ⟨qd.block,qd.off+3,none⟩=some (.int .i64 (rd qa 3))) (ds:=[]) #[false,false,false,false,false,false,false,false,false,false,false,false,false,false,false,false,false,false,false] (by kernel_rfl) rfl rfl ⟨qf,qg,qh,qi⟩ (fun hHeld=>?_);refine with_tabW spec_l12Read.tab12 spec_l12Read.bits12 (fun HT_ HW_=>?_)
      generalize wr.drew=w32 at qc HB qf qg qh qi hHeld ⊢
      refine pz 0 50 (bm 19 1) HT_ ?_
      refine pz 1 51 (bm 19 3) HT_ ?_
      refine pz 4 54 (bm 19 19) HT_ ?_
      refine pz 5 55 (bm 19 51) HT_ ?_
      refine pz 9 59 (bm 19 563) HT_ ?_
      refine pz 10 60 (bm 19 1587) HT_ ?_
      refine pz 14 64 (bm 19 17971) HT_ ?_
      refine pz 15 65 (bm 19 50739) HT_ ?_
      refine tz 2 52 (bm 19 50743) HT_ HW_ hHeld rfl (by rintro w' ⟨s0,s1,s2,s3⟩;go_simp;with_reducible rfl) ?_
      refine pz 3 53 (bm 19 50751) HT_ ?_
      refine tz 6 56 (bm 19 50815) HT_ HW_ hHeld rfl (by rintro w' ⟨s0,s1,s2,s3⟩;go_simp;with_reducible rfl) ?_
      refine pz 7 57 (bm 19 50943) HT_ ?_
      refine pz 8 58 (bm 19 51199) HT_ ?_
      refine tz 11 61 (bm 19 53247) HT_ HW_ hHeld rfl (by rintro w' ⟨s0,s1,s2,s3⟩;go_simp;with_reducible rfl) ?_
      refine pz 12 62 (bm 19 57343) HT_ ?_
      refine pz 13 63 (bm 19 65535) HT_ ?_
      refine tz 16 66 (bm 19 131071) HT_ HW_ hHeld rfl (by rintro w' ⟨s0,s1,s2,s3⟩;go_simp;with_reducible rfl) ?_
      refine pz 17 67 (bm 19 262143) HT_ ?_
      refine pz 18 7 (bm 19 524287) HT_ ?_
      refine done_ (done_of HT_.out (by kernel_rfl)) ?_
      try go_wp2
      go_ret2
      exact⟨by first|rfl|(simp [errW_none,errW_some] <;> rfl)|(simp [*,errW_none,errW_some] <;> rfl),by repeat(first|(with_reducible first|exact HB.out|apply below_alloc|apply pw_below_drewN|apply below_drew1)|exact HB.out)⟩
 ·rw [if_neg c2] at H
  have c2b0:((a0.size:Int) == 12)=false:=beq_eq_false_iff_ne.mpr c2
  have c2b1:((a0.size:Int) != 12)=true:=bne_iff_ne.mpr c2
  simp only [Option.some.injEq,Prod.mk.injEq] at H
  obtain⟨rfl,rfl⟩:=H
  go_enter Tryd.func31,Tryd.ntmps31
  go_wp2
  go_ret2
  exact⟨by first|rfl|(simp [errW_none,errW_some] <;> rfl)|(simp [*,errW_none,errW_some] <;> rfl),by repeat(first|(with_reducible first|exact HB.out|apply below_alloc|apply pw_below_drewN|apply below_drew1)|exact HB.out)⟩

end Go.Proofs.YtidogkjhjmcliaaDoor.HFnTitlesBack
