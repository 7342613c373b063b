-- Laid by myprint.py, a program of this repo, out of the kit's printer and this repo's own texts (wip/hand).
import Derived.Test.YtidogkjhjmcliaaDoorHFnTitlesBackx0
import Derived.Test.YtidogkjhjmcliaaDoorCmp
namespace Go.Proofs.YtidogkjhjmcliaaDoor.HFnTitlesBack
open Go.RowKit Go.Proofs.YtidogkjhjmcliaaDoorW.PrintWords Go.Proofs.YtidogkjhjmcliaaDoorW.PrintLast Go.Proofs.YtidogkjhjmcliaaDoorW.PrintMore
attribute [local go_sem] max2_int min2_int max_two min_two max_three min_three max_four min_four   -- for this text's walks alone
set_option linter.unusedVariables false
set_option linter.unusedSimpArgs false

/-! ### spec_l12Text: function 32 -/
mutual
def spec_l12Text.j0 : Nat → ByteArray → Int → Bool → Option (Bool)
 | 0, _, _, _ => none
 | k + 1, x0, x3, x24 => if x24 = true then (some false) else (spec_l12Text.l0 k x0 x3 0)
def spec_l12Text.l0 : Nat → ByteArray → Int → Int → Option (Bool)
 | 0, _, _, _ => none
 | k + 1, x0, x3, x4 => if x4 < x3 then (if 0 ≤ x4 then (if x4 < (x0.size : Int) then (if (bt x0 x4) = 10 then (if 0 ≤ (wrap64 (x4 - 1)) then (if (wrap64 (x4 - 1)) < (x0.size : Int) then (if (bt x0 (wrap64 (x4 - 1))) = 10 then (some false) else (if (bt x0 x4) = 127 then (some false) else (spec_l12Text.l0 k x0 x3 (wrap64 (x4 + 1))))) else (none)) else (none)) else (if (bt x0 x4) < 32 then (some false) else (if (bt x0 x4) = 127 then (some false) else (spec_l12Text.l0 k x0 x3 (wrap64 (x4 + 1)))))) else (none)) else (none)) else (some true)
end
def spec_l12Text.f (k : Nat) (a0 : ByteArray) : Option (Bool) := if (a0.size : Int) < 1 then (spec_l12Text.j0 k a0 (a0.size : Int) true) else (if (a0.size : Int) > 200 then (spec_l12Text.j0 k a0 (a0.size : Int) true) else (if 0 < (a0.size : Int) then (if (bt a0 0) = 10 then (spec_l12Text.j0 k a0 (a0.size : Int) true) else (if 0 ≤ (wrap64 ((a0.size : Int) - 1)) then (if (wrap64 ((a0.size : Int) - 1)) < (a0.size : Int) then (spec_l12Text.j0 k a0 (a0.size : Int) ((bt a0 (wrap64 ((a0.size : Int) - 1))) == 10)) else (none)) else (none))) else (none)))
theorem spec_l12Text.mono_l : ∀ k, (∀ y0 y1 y2, LeO (spec_l12Text.j0 k y0 y1 y2) (spec_l12Text.j0 (k + 1) y0 y1 y2)) ∧ (∀ y0 y1 y2, LeO (spec_l12Text.l0 k y0 y1 y2) (spec_l12Text.l0 (k + 1) y0 y1 y2))
 | 0 => ⟨fun _ _ _ r h => by simp [spec_l12Text.j0] at h, fun _ _ _ r h => by simp [spec_l12Text.l0] at h⟩
 | k + 1 => by
  obtain⟨ih0,ih1⟩:=spec_l12Text.mono_l k
  refine⟨?_,?_⟩
  ·intro y0 y1 y2
   unfold spec_l12Text.j0
   repeat' first|(with_reducible first|exact ih0 _ _ _|exact ih1 _ _ _|exact LeO.refl _|exact LeO.none _|refine LeO.ite ?_ ?_|refine LeO.bind ?_ (fun _=>?_))|exact ih0 _ _ _|exact ih1 _ _ _|exact LeO.none _|refine LeO.ite ?_ ?_|refine LeO.bind ?_ (fun _=>?_)
  ·intro y0 y1 y2
   unfold spec_l12Text.l0
   repeat' first|(with_reducible first|exact ih0 _ _ _|exact ih1 _ _ _|exact LeO.refl _|exact LeO.none _|refine LeO.ite ?_ ?_|refine LeO.bind ?_ (fun _=>?_))|exact ih0 _ _ _|exact ih1 _ _ _|exact LeO.none _|refine LeO.ite ?_ ?_|refine LeO.bind ?_ (fun _=>?_)
theorem spec_l12Text.mono : ∀ a0 k, LeO (spec_l12Text.f k a0) (spec_l12Text.f (k + 1) a0) := by
 intro a0 k
 obtain⟨ih0,ih1⟩:=spec_l12Text.mono_l k
 unfold spec_l12Text.f
 repeat' first|(with_reducible first|exact ih0 _ _ _|exact ih1 _ _ _|exact LeO.refl _|exact LeO.none _|refine LeO.ite ?_ ?_|refine LeO.bind ?_ (fun _=>?_))|exact ih0 _ _ _|exact ih1 _ _ _|exact LeO.none _|refine LeO.ite ?_ ?_|refine LeO.bind ?_ (fun _=>?_)
set_option maxHeartbeats 8000000 in
set_option maxRecDepth 100000 in
theorem spec_l12Text.calls (k : Nat) (a0 : ByteArray) (r : Bool) (w : World) (h : spec_l12Text.f k a0 = some r) :
  Calls Tryd.prog 32 #[.string a0] w fun e w'=>e=.returned (.bool r)∧Drawn0 w w':=by
 have H:(if (a0.size:Int) < 1 then (spec_l12Text.j0 k a0 (a0.size:Int) true) else (if (a0.size:Int) > 200 then (spec_l12Text.j0 k a0 (a0.size:Int) true) else (if 0 < (a0.size:Int) then (if (bt a0 0)=10 then (spec_l12Text.j0 k a0 (a0.size:Int) true) else (if 0≤(wrap64 ((a0.size:Int) - 1)) then (if (wrap64 ((a0.size:Int) - 1)) < (a0.size:Int) then (spec_l12Text.j0 k a0 (a0.size:Int) ((bt a0 (wrap64 ((a0.size:Int) - 1))) == 10)) else (none)) else (none))) else (none))))=some r:=h
 clear h
 have HC2:=Aside0.mk H
 clear H
 go_enter Tryd.func32,Tryd.ntmps32
 go_upto_region 2 with (fail)
 go_cut [24] (fun v24 wc=>∃ (kq:Nat) (x24_1:Bool),v24=.bool x24_1∧Aside0 (spec_l12Text.j0 kq a0 (a0.size:Int) x24_1=some r)∧Aside0 (kq≤k)∧Drawn0 w wc)
 case first=>
  have H:=HC2.out
  clear HC2
  by_cases c3:(a0.size:Int) < 1
  ·rw [if_pos c3] at H
   have c3b0:=decide_eq_true c3
   have c3b1:decide (a0.size < 1)=true:=decide_eq_true (by omega)
   clear c3
   (first|rw [c3b0]|(simp only [i64_w,i32_w];rw [c3b0])|skip)
   have H':=Aside0.mk H
   clear H
   go_wp2
   go_meet
   case rel=>exact⟨_,(true),(by first|rfl|(simp;done)|(simp [*];done)),H',⟨by first|omega|exact Nat.le_refl _⟩,by repeat(first|exact Drawn0.refl _|apply Drawn0.step)⟩
  ·rw [if_neg c3] at H
   have c3b0:=decide_eq_false c3
   have c3b1:decide (a0.size < 1)=false:=decide_eq_false (by omega)
   clear c3
   (first|rw [c3b0]|(simp only [i64_w,i32_w];rw [c3b0])|skip)
   by_cases c4:(a0.size:Int) > 200
   ·rw [if_pos c4] at H
    have c4b0:=decide_eq_true c4
    have c4b1:decide (200 < a0.size)=true:=decide_eq_true (by omega)
    clear c4
    have H':=Aside0.mk H
    clear H
    go_wp2
    go_meet
    case rel=>exact⟨_,(true),(by first|rfl|(simp;done)|(simp [*];done)),H',⟨by first|omega|exact Nat.le_refl _⟩,by repeat(first|exact Drawn0.refl _|apply Drawn0.step)⟩
   ·rw [if_neg c4] at H
    have c4b0:=decide_eq_false c4
    have c4b1:decide (200 < a0.size)=false:=decide_eq_false (by omega)
    clear c4
    by_cases c5:0 < (a0.size:Int)
    case neg=>rw[if_neg c5] at H;exact absurd H (by simp)
    rw[if_pos c5] at H
    have c5b0:=decide_eq_true c5
    have c5b1:decide (0 < a0.size)=true:=decide_eq_true (by omega)
    clear c5
    by_cases c7:(bt a0 0)=10
    ·rw [if_pos c7] at H
     have c7b0:((bt a0 0) == 10)=true:=beq_iff_eq.mpr c7
     have c7b1:((bt a0 0) != 10)=false:=bne_eq_false_iff_eq.mpr c7
     clear c7
     have H':=Aside0.mk H
     clear H
     have p6:0≤(0:Int):=(by omega)
     have q6:0 < a0.size:=(by have:(0:Int) < (a0.size:Int):=of_decide_eq_true (by first|(with_reducible assumption)|assumption);omega)
     have hx6:∀ h:0 < a0.size,((a0[0]'h).toNat:Int)=bt a0 0:=bt_at a0 0
     clear p6
     have qi6:(0 < (a0.size:Int))=True:=eq_true (of_decide_eq_true (by first|(with_reducible assumption)|assumption))
     replace q6:=eq_true q6
     go_wp2
     go_meet
     case rel=>exact⟨_,(true),(by first|rfl|(simp;done)|(simp [*];done)),H',⟨by first|omega|exact Nat.le_refl _⟩,by repeat(first|exact Drawn0.refl _|apply Drawn0.step)⟩
    ·rw [if_neg c7] at H
     have c7b0:((bt a0 0) == 10)=false:=beq_eq_false_iff_ne.mpr c7
     have c7b1:((bt a0 0) != 10)=true:=bne_iff_ne.mpr c7
     obtain⟨ji8,hji8⟩:∃ j_:Int,(wrap64 ((a0.size:Int) - 1))=j_:=⟨_,rfl⟩
     replace H:(if 0≤(ji8) then (if (ji8) < (a0.size:Int) then (spec_l12Text.j0 k a0 (a0.size:Int) ((bt a0 (ji8)) == 10)) else (none)) else (none))=some r:=by first|(rw [hji8] at H;exact H)|(simp only [hji8] at H ⊢;exact H)
     have hji8w:(IntKind.i64.wrap ((a0.size:Int) - 1))=ji8:=(i64_w _).trans hji8
     by_cases c9:0≤(ji8)
     case neg=>rw[if_neg c9] at H;exact absurd H (by simp)
     rw[if_pos c9] at H
     have c9b0:=decide_eq_true c9
     clear c9
     by_cases c10:(ji8) < (a0.size:Int)
     case neg=>rw[if_neg c10] at H;exact absurd H (by simp)
     rw[if_pos c10] at H
     have c10b0:=decide_eq_true c10
     clear c10
     have H':=Aside0.mk H
     clear H
     have p6:0≤(0:Int):=(by omega)
     have q6:0 < a0.size:=(by have:(0:Int) < (a0.size:Int):=of_decide_eq_true (by first|(with_reducible assumption)|assumption);omega)
     have hx6:∀ h:0 < a0.size,((a0[0]'h).toNat:Int)=bt a0 0:=bt_at a0 0
     clear p6
     have qi6:(0 < (a0.size:Int))=True:=eq_true (of_decide_eq_true (by first|(with_reducible assumption)|assumption))
     replace q6:=eq_true q6
     have p11:0≤((ji8):Int):=of_decide_eq_true (by first|(with_reducible assumption)|assumption)
     have q11:(ji8) < (a0.size:Int):=of_decide_eq_true (by first|(with_reducible assumption)|assumption)
     have hx11:=bt_at a0 (ji8)
     replace p11:=eq_true p11
     replace q11:=eq_true q11
     go_wp2
     go_meet
     case rel=>exact⟨_,(((bt a0 (ji8)) == 10)),(by first|rfl|(simp;done)|(simp only [← hji8] <;> (first|rfl|simp))|(simp [*];done)),H',⟨by first|omega|exact Nat.le_refl _⟩,by repeat(first|exact Drawn0.refl _|apply Drawn0.step)⟩
 case rest=>
  clear HC2;try clear c1;try clear p1;try clear q1;try clear hx1;try clear p2;try clear c3;try clear c3b0;try clear c3b1;try clear c4;try clear c4b0;try clear c4b1;try clear c5;try clear c5b0;try clear c5b1;try clear p6;try clear q6;try clear hx6;try clear qi6;try clear c7;try clear c7b0;try clear c7b1;try clear c9;try clear c9b0;try clear c10;try clear c10b0;try clear p11;try clear q11;try clear hx11;try clear p11;try clear p6;try clear q11;try clear q6
  obtain⟨kq,x24_1,rfl,HA,HJ1,⟨mc1,rfl⟩⟩:=hcut
  cases kq with
  | zero => exact absurd HA.out (by simp [spec_l12Text.j0])
  | succ kj1 =>
   have H:=HA.out
   clear HA
   simp only [spec_l12Text.j0] at H
   by_cases c12:x24_1=true
   ·subst c12
    rw[if_pos rfl] at H
    obtain rfl:=Option.some.inj H
    go_wp2
    go_ret
    exact⟨by first|rfl|(simp;done)|(simp [*];done),by repeat(first|exact Drawn0.refl _|apply Drawn0.step)⟩
   ·replace c12:=Bool.eq_false_iff.mpr c12
    subst c12
    have H1:(spec_l12Text.l0 kj1 a0 (a0.size:Int) 0)=some r:=by rw [if_neg (show ¬ (false=true) by decide)] at H;exact H
    clear H
    have H:=H1
    clear H1
    have H':=Aside0.mk H
    clear H
    go_wp2
    go_loopg [4] kj1 (fun kq v4 w'=>∃ (qa:Int),v4=.int .i64 qa∧Aside0 (spec_l12Text.l0 kq a0 (a0.size:Int) qa=some r)∧Aside0 (kq≤kj1)∧Drawn0 w w')
    case atStart=>exact⟨(0),(by first|rfl|(simp;done)|(simp [*];done)),H',⟨Nat.le_refl _⟩,by repeat(first|exact Drawn0.refl _|apply Drawn0.step)⟩
    case round=>
     clear H';try clear c1;try clear p1;try clear q1;try clear hx1;try clear p2;try clear c3;try clear c3b0;try clear c3b1;try clear c4;try clear c4b0;try clear c4b1;try clear c5;try clear c5b0;try clear c5b1;try clear p6;try clear q6;try clear hx6;try clear qi6;try clear c7;try clear c7b0;try clear c7b1;try clear c9;try clear c9b0;try clear c10;try clear c10b0;try clear p11;try clear q11;try clear hx11;try clear c12;try clear p1;try clear p11;try clear p2;try clear p6;try clear q1;try clear q11;try clear q6
     obtain⟨qa,rfl,HA,HK2,⟨m2,rfl⟩⟩:=hrel
     cases gk with
     | zero => exact absurd HA.out (by simp [spec_l12Text.l0])
     | succ k2 =>
      have H:=HA.out
      clear HA
      simp only [spec_l12Text.l0] at H
      by_cases c13:qa < (a0.size:Int)
      ·rw [if_pos c13] at H
       have c13b0:=decide_eq_true c13
       clear c13
       by_cases c14:0≤qa
       case neg=>rw[if_neg c14] at H;exact absurd H (by simp)
       rw[if_pos c14] at H
       have c14b0:=decide_eq_true c14
       clear c14
       by_cases c15:qa < (a0.size:Int)
       case neg=>rw[if_neg c15] at H;exact absurd H (by simp)
       rw[if_pos c15] at H
       have c15b0:=decide_eq_true c15
       clear c15
       by_cases c17:(bt a0 qa)=10
       ·rw [if_pos c17] at H
        have c17b0:((bt a0 qa) == 10)=true:=beq_iff_eq.mpr c17
        have c17b1:((bt a0 qa) != 10)=false:=bne_eq_false_iff_eq.mpr c17
        clear c17
        obtain⟨qb,hji18⟩:∃ j_:Int,(wrap64 (qa - 1))=j_:=⟨_,rfl⟩
        replace H:(if 0≤(qb) then (if (qb) < (a0.size:Int) then (if (bt a0 (qb))=10 then (some false) else (if (bt a0 qa)=127 then (some false) else (spec_l12Text.l0 k2 a0 (a0.size:Int) (wrap64 (qa+1))))) else (none)) else (none))=some r:=by first|(rw [hji18] at H;exact H)|(simp only [hji18] at H ⊢;exact H)
        have hji18w:(IntKind.i64.wrap (qa - 1))=qb:=(i64_w _).trans hji18
        by_cases c19:0≤(qb)
        case neg=>rw[if_neg c19] at H;exact absurd H (by simp)
        rw[if_pos c19] at H
        have c19b0:=decide_eq_true c19
        clear c19
        by_cases c20:(qb) < (a0.size:Int)
        case neg=>rw[if_neg c20] at H;exact absurd H (by simp)
        rw[if_pos c20] at H
        have c20b0:=decide_eq_true c20
        clear c20
        by_cases c22:(bt a0 (qb))=10
        ·rw [if_pos c22] at H
         have c22b0:((bt a0 (qb)) == 10)=true:=beq_iff_eq.mpr c22
         have c22b1:((bt a0 (qb)) != 10)=false:=bne_eq_false_iff_eq.mpr c22
         clear c22
         obtain rfl:=Option.some.inj H
         have p16:0≤(qa:Int):=of_decide_eq_true (by first|(with_reducible assumption)|assumption)
         have q16:qa < (a0.size:Int):=of_decide_eq_true (by first|(with_reducible assumption)|assumption)
         have hx16:=bt_at a0 qa
         replace p16:=eq_true p16
         replace q16:=eq_true q16
         have p21:0≤((qb):Int):=of_decide_eq_true (by first|(with_reducible assumption)|assumption)
         have q21:(qb) < (a0.size:Int):=of_decide_eq_true (by first|(with_reducible assumption)|assumption)
         have hx21:=bt_at a0 (qb)
         replace p21:=eq_true p21
         replace q21:=eq_true q21
         go_wp2
         go_ret
         exact⟨by first|rfl|(simp;done)|(simp only [← hji18] <;> (first|rfl|simp))|(simp [*];done),by repeat(first|exact Drawn0.refl _|apply Drawn0.step)⟩
        ·rw [if_neg c22] at H
         have c22b0:((bt a0 (qb)) == 10)=false:=beq_eq_false_iff_ne.mpr c22
         have c22b1:((bt a0 (qb)) != 10)=true:=bne_iff_ne.mpr c22
         by_cases c25:(bt a0 qa)=127
         ·rw [if_pos c25] at H
          have c25b0:((bt a0 qa) == 127)=true:=beq_iff_eq.mpr c25
          have c25b1:((bt a0 qa) != 127)=false:=bne_eq_false_iff_eq.mpr c25
          clear c25
          obtain rfl:=Option.some.inj H
          have p16:0≤(qa:Int):=of_decide_eq_true (by first|(with_reducible assumption)|assumption)
          have q16:qa < (a0.size:Int):=of_decide_eq_true (by first|(with_reducible assumption)|assumption)
          have hx16:=bt_at a0 qa
          replace p16:=eq_true p16
          replace q16:=eq_true q16
          have p21:0≤((qb):Int):=of_decide_eq_true (by first|(with_reducible assumption)|assumption)
          have q21:(qb) < (a0.size:Int):=of_decide_eq_true (by first|(with_reducible assumption)|assumption)
          have hx21:=bt_at a0 (qb)
          replace p21:=eq_true p21
          replace q21:=eq_true q21
          have p23:0≤(qa:Int):=of_decide_eq_true (by first|(with_reducible assumption)|assumption)
          have q23:qa < (a0.size:Int):=of_decide_eq_true (by first|(with_reducible assumption)|assumption)
          have hx23:=bt_at a0 qa
          replace p23:=eq_true p23
          replace q23:=eq_true q23
          have p24:0≤(qa:Int):=of_decide_eq_true (by first|(with_reducible assumption)|assumption)
          have q24:qa < (a0.size:Int):=of_decide_eq_true (by first|(with_reducible assumption)|assumption)
          have hx24:=bt_at a0 qa
          replace p24:=eq_true p24
          replace q24:=eq_true q24
          go_wp2
          go_ret
          exact⟨by first|rfl|(simp;done)|(simp only [← hji18] <;> (first|rfl|simp))|(simp [*];done),by repeat(first|exact Drawn0.refl _|apply Drawn0.step)⟩
         ·rw [if_neg c25] at H
          have c25b0:((bt a0 qa) == 127)=false:=beq_eq_false_iff_ne.mpr c25
          have c25b1:((bt a0 qa) != 127)=true:=bne_iff_ne.mpr c25
          have H':=Aside0.mk H
          clear H
          have p16:0≤(qa:Int):=of_decide_eq_true (by first|(with_reducible assumption)|assumption)
          have q16:qa < (a0.size:Int):=of_decide_eq_true (by first|(with_reducible assumption)|assumption)
          have hx16:=bt_at a0 qa
          replace p16:=eq_true p16
          replace q16:=eq_true q16
          have p21:0≤((qb):Int):=of_decide_eq_true (by first|(with_reducible assumption)|assumption)
          have q21:(qb) < (a0.size:Int):=of_decide_eq_true (by first|(with_reducible assumption)|assumption)
          have hx21:=bt_at a0 (qb)
          replace p21:=eq_true p21
          replace q21:=eq_true q21
          have p23:0≤(qa:Int):=of_decide_eq_true (by first|(with_reducible assumption)|assumption)
          have q23:qa < (a0.size:Int):=of_decide_eq_true (by first|(with_reducible assumption)|assumption)
          have hx23:=bt_at a0 qa
          replace p23:=eq_true p23
          replace q23:=eq_true q23
          have p24:0≤(qa:Int):=of_decide_eq_true (by first|(with_reducible assumption)|assumption)
          have q24:qa < (a0.size:Int):=of_decide_eq_true (by first|(with_reducible assumption)|assumption)
          have hx24:=bt_at a0 qa
          replace p24:=eq_true p24
          replace q24:=eq_true q24
          go_wp2
          go_roundg k2
          case measure=>have:=HJ1.out;have:=HK2.out;omega
          case rel=>exact⟨(wrap64 (qa+1)),(by first|rfl|(simp;done)|(simp [*];done)),H',⟨by have:=HJ1.out;have:=HK2.out;omega⟩,by repeat(first|exact Drawn0.refl _|apply Drawn0.step)⟩
       ·rw [if_neg c17] at H
        have c17b0:((bt a0 qa) == 10)=false:=beq_eq_false_iff_ne.mpr c17
        have c17b1:((bt a0 qa) != 10)=true:=bne_iff_ne.mpr c17
        by_cases c28:(bt a0 qa) < 32
        ·rw [if_pos c28] at H
         have c28b0:=decide_eq_true c28
         clear c28
         obtain rfl:=Option.some.inj H
         have p16:0≤(qa:Int):=of_decide_eq_true (by first|(with_reducible assumption)|assumption)
         have q16:qa < (a0.size:Int):=of_decide_eq_true (by first|(with_reducible assumption)|assumption)
         have hx16:=bt_at a0 qa
         replace p16:=eq_true p16
         replace q16:=eq_true q16
         have p26:0≤(qa:Int):=of_decide_eq_true (by first|(with_reducible assumption)|assumption)
         have q26:qa < (a0.size:Int):=of_decide_eq_true (by first|(with_reducible assumption)|assumption)
         have hx26:=bt_at a0 qa
         replace p26:=eq_true p26
         replace q26:=eq_true q26
         have p27:0≤(qa:Int):=of_decide_eq_true (by first|(with_reducible assumption)|assumption)
         have q27:qa < (a0.size:Int):=of_decide_eq_true (by first|(with_reducible assumption)|assumption)
         have hx27:=bt_at a0 qa
         replace p27:=eq_true p27
         replace q27:=eq_true q27
         go_wp2
         go_ret
         exact⟨by first|rfl|(simp;done)|(simp [*];done),by repeat(first|exact Drawn0.refl _|apply Drawn0.step)⟩
        ·rw [if_neg c28] at H
         have c28b0:=decide_eq_false c28
         clear c28
         by_cases c30:(bt a0 qa)=127
         ·rw [if_pos c30] at H
          have c30b0:((bt a0 qa) == 127)=true:=beq_iff_eq.mpr c30
          have c30b1:((bt a0 qa) != 127)=false:=bne_eq_false_iff_eq.mpr c30
          clear c30
          obtain rfl:=Option.some.inj H
          have p16:0≤(qa:Int):=of_decide_eq_true (by first|(with_reducible assumption)|assumption)
          have q16:qa < (a0.size:Int):=of_decide_eq_true (by first|(with_reducible assumption)|assumption)
          have hx16:=bt_at a0 qa
          replace p16:=eq_true p16
          replace q16:=eq_true q16
          have p26:0≤(qa:Int):=of_decide_eq_true (by first|(with_reducible assumption)|assumption)
          have q26:qa < (a0.size:Int):=of_decide_eq_true (by first|(with_reducible assumption)|assumption)
          have hx26:=bt_at a0 qa
          replace p26:=eq_true p26
          replace q26:=eq_true q26
          have p27:0≤(qa:Int):=of_decide_eq_true (by first|(with_reducible assumption)|assumption)
          have q27:qa < (a0.size:Int):=of_decide_eq_true (by first|(with_reducible assumption)|assumption)
          have hx27:=bt_at a0 qa
          replace p27:=eq_true p27
          replace q27:=eq_true q27
          have p29:0≤(qa:Int):=of_decide_eq_true (by first|(with_reducible assumption)|assumption)
          have q29:qa < (a0.size:Int):=of_decide_eq_true (by first|(with_reducible assumption)|assumption)
          have hx29:=bt_at a0 qa
          replace p29:=eq_true p29
          replace q29:=eq_true q29
          go_wp2
          go_ret
          exact⟨by first|rfl|(simp;done)|(simp [*];done),by repeat(first|exact Drawn0.refl _|apply Drawn0.step)⟩
         ·rw [if_neg c30] at H
          have c30b0:((bt a0 qa) == 127)=false:=beq_eq_false_iff_ne.mpr c30
          have c30b1:((bt a0 qa) != 127)=true:=bne_iff_ne.mpr c30
          have H':=Aside0.mk H
          clear H
          have p16:0≤(qa:Int):=of_decide_eq_true (by first|(with_reducible assumption)|assumption)
          have q16:qa < (a0.size:Int):=of_decide_eq_true (by first|(with_reducible assumption)|assumption)
          have hx16:=bt_at a0 qa
          replace p16:=eq_true p16
          replace q16:=eq_true q16
          have p26:0≤(qa:Int):=of_decide_eq_true (by first|(with_reducible assumption)|assumption)
          have q26:qa < (a0.size:Int):=of_decide_eq_true (by first|(with_reducible assumption)|assumption)
          have hx26:=bt_at a0 qa
          replace p26:=eq_true p26
          replace q26:=eq_true q26
          have p27:0≤(qa:Int):=of_decide_eq_true (by first|(with_reducible assumption)|assumption)
          have q27:qa < (a0.size:Int):=of_decide_eq_true (by first|(with_reducible assumption)|assumption)
          have hx27:=bt_at a0 qa
          replace p27:=eq_true p27
          replace q27:=eq_true q27
          have p29:0≤(qa:Int):=of_decide_eq_true (by first|(with_reducible assumption)|assumption)
          have q29:qa < (a0.size:Int):=of_decide_eq_true (by first|(with_reducible assumption)|assumption)
          have hx29:=bt_at a0 qa
          replace p29:=eq_true p29
          replace q29:=eq_true q29
          go_wp2
          go_roundg k2
          case measure=>have:=HJ1.out;have:=HK2.out;omega
          case rel=>exact⟨(wrap64 (qa+1)),(by first|rfl|(simp;done)|(simp [*];done)),H',⟨by have:=HJ1.out;have:=HK2.out;omega⟩,by repeat(first|exact Drawn0.refl _|apply Drawn0.step)⟩
      ·rw [if_neg c13] at H
       have c13b0:=decide_eq_false c13
       clear c13
       obtain rfl:=Option.some.inj H
       go_wp2
       go_ret
       exact⟨by first|rfl|(simp;done)|(simp [*];done),by repeat(first|exact Drawn0.refl _|apply Drawn0.step)⟩

end Go.Proofs.YtidogkjhjmcliaaDoor.HFnTitlesBack
