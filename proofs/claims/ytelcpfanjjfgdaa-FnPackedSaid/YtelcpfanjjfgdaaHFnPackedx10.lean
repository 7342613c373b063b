-- Laid by myprint.py, a program of this repo, out of the kit's printer and this repo's own texts (wip/hand).
import Derived.Test.YtelcpfanjjfgdaaHFnPackedx0
namespace Go.Proofs.Ytelcpfanjjfgdaa.HFnPacked
open Go.RowKit Go.Proofs.YtelcpfanjjfgdaaW.PrintWords Go.Proofs.YtelcpfanjjfgdaaW.PrintLast Go.Proofs.YtelcpfanjjfgdaaW.PrintMore
attribute [local go_sem] max2_int min2_int max_two min_two max_three min_three max_four min_four   -- for this text's walks alone
set_option linter.unusedVariables false
set_option linter.unusedSimpArgs false
theorem Ka : type_of% @Aside0.mk := @Aside0.mk
theorem Kb : type_of% @Drawn0.refl := @Drawn0.refl
theorem Kc : type_of% @Drawn0.step := @Drawn0.step

/-! ### spec_l15Name: function 59 -/
mutual
def spec_l15Name.j0 : Nat → ByteArray → Bool → Option (Bool)
 | 0, _, _ => none
 | k + 1, x0, x12 => if x12 = true then (some false) else (spec_l15Name.l0 k x0 0)
def spec_l15Name.l0 : Nat → ByteArray → Int → Option (Bool)
 | 0, _, _ => none
 | k + 1, x0, x3 => if x3 < (x0.size : Int) then (if 0 ≤ x3 then (if (bt x0 x3) < 48 then (if (bt x0 x3) < 97 then (if (bt x0 x3) < 65 then (if (bt x0 x3) = 95 then (spec_l15Name.l0 k x0 (wrap64 (x3 + 1))) else (if (bt x0 x3) = 46 then (spec_l15Name.l0 k x0 (wrap64 (x3 + 1))) else (some false))) else (if (bt x0 x3) > 90 then (if (bt x0 x3) = 95 then (spec_l15Name.l0 k x0 (wrap64 (x3 + 1))) else (if (bt x0 x3) = 46 then (spec_l15Name.l0 k x0 (wrap64 (x3 + 1))) else (some false))) else (spec_l15Name.l0 k x0 (wrap64 (x3 + 1))))) else (if (bt x0 x3) > 122 then (if (bt x0 x3) < 65 then (if (bt x0 x3) = 95 then (spec_l15Name.l0 k x0 (wrap64 (x3 + 1))) else (if (bt x0 x3) = 46 then (spec_l15Name.l0 k x0 (wrap64 (x3 + 1))) else (some false))) else (if (bt x0 x3) > 90 then (if (bt x0 x3) = 95 then (spec_l15Name.l0 k x0 (wrap64 (x3 + 1))) else (if (bt x0 x3) = 46 then (spec_l15Name.l0 k x0 (wrap64 (x3 + 1))) else (some false))) else (spec_l15Name.l0 k x0 (wrap64 (x3 + 1))))) else (spec_l15Name.l0 k x0 (wrap64 (x3 + 1))))) else (if (bt x0 x3) > 57 then (if (bt x0 x3) < 97 then (if (bt x0 x3) < 65 then (if (bt x0 x3) = 95 then (spec_l15Name.l0 k x0 (wrap64 (x3 + 1))) else (if (bt x0 x3) = 46 then (spec_l15Name.l0 k x0 (wrap64 (x3 + 1))) else (some false))) else (if (bt x0 x3) > 90 then (if (bt x0 x3) = 95 then (spec_l15Name.l0 k x0 (wrap64 (x3 + 1))) else (if (bt x0 x3) = 46 then (spec_l15Name.l0 k x0 (wrap64 (x3 + 1))) else (some false))) else (spec_l15Name.l0 k x0 (wrap64 (x3 + 1))))) else (if (bt x0 x3) > 122 then (if (bt x0 x3) < 65 then (if (bt x0 x3) = 95 then (spec_l15Name.l0 k x0 (wrap64 (x3 + 1))) else (if (bt x0 x3) = 46 then (spec_l15Name.l0 k x0 (wrap64 (x3 + 1))) else (some false))) else (if (bt x0 x3) > 90 then (if (bt x0 x3) = 95 then (spec_l15Name.l0 k x0 (wrap64 (x3 + 1))) else (if (bt x0 x3) = 46 then (spec_l15Name.l0 k x0 (wrap64 (x3 + 1))) else (some false))) else (spec_l15Name.l0 k x0 (wrap64 (x3 + 1))))) else (spec_l15Name.l0 k x0 (wrap64 (x3 + 1))))) else (spec_l15Name.l0 k x0 (wrap64 (x3 + 1))))) else (none)) else (some true)
end
def spec_l15Name.f (k : Nat) (a0 : ByteArray) : Option (Bool) := if (a0.size : Int) < 1 then (spec_l15Name.j0 k a0 true) else (spec_l15Name.j0 k a0 (decide ((a0.size : Int) > 40)))
theorem spec_l15Name.mono_l : ∀ k, (∀ y0 y1, LeO (spec_l15Name.j0 k y0 y1) (spec_l15Name.j0 (k + 1) y0 y1)) ∧ (∀ y0 y1, LeO (spec_l15Name.l0 k y0 y1) (spec_l15Name.l0 (k + 1) y0 y1))
 | 0 => ⟨fun _ _ r h => by simp [spec_l15Name.j0] at h, fun _ _ r h => by simp [spec_l15Name.l0] at h⟩
 | k + 1 => by
  obtain⟨ih0,ih1⟩:=spec_l15Name.mono_l k
  refine⟨?_,?_⟩
  ·intro y0 y1
   unfold spec_l15Name.j0
   repeat' first
   | (with_reducible exact ih0 _ _)
   | (with_reducible exact ih1 _ _)
   | (with_reducible exact LeO.refl _)
   | (with_reducible exact LeO.none _)
   | (with_reducible refine LeO.ite ?_ ?_)
   | (with_reducible refine LeO.bind ?_ (fun _ => ?_))
   | exact ih0 _ _
   | exact ih1 _ _
   | exact LeO.none _
   | refine LeO.ite ?_ ?_
   | refine LeO.bind ?_ (fun _ => ?_)
  ·intro y0 y1
   unfold spec_l15Name.l0
   repeat' first
   | (with_reducible exact ih0 _ _)
   | (with_reducible exact ih1 _ _)
   | (with_reducible exact LeO.refl _)
   | (with_reducible exact LeO.none _)
   | (with_reducible refine LeO.ite ?_ ?_)
   | (with_reducible refine LeO.bind ?_ (fun _ => ?_))
   | exact ih0 _ _
   | exact ih1 _ _
   | exact LeO.none _
   | refine LeO.ite ?_ ?_
   | refine LeO.bind ?_ (fun _ => ?_)
theorem spec_l15Name.mono : ∀ a0 k, LeO (spec_l15Name.f k a0) (spec_l15Name.f (k + 1) a0) := by
 intro a0 k
 obtain⟨ih0,ih1⟩:=spec_l15Name.mono_l k
 unfold spec_l15Name.f
 repeat' first
   | (with_reducible exact ih0 _ _)
   | (with_reducible exact ih1 _ _)
   | (with_reducible exact LeO.refl _)
   | (with_reducible exact LeO.none _)
   | (with_reducible refine LeO.ite ?_ ?_)
   | (with_reducible refine LeO.bind ?_ (fun _ => ?_))
   | exact ih0 _ _
   | exact ih1 _ _
   | exact LeO.none _
   | refine LeO.ite ?_ ?_
   | refine LeO.bind ?_ (fun _ => ?_)
set_option maxHeartbeats 8000000 in
set_option maxRecDepth 100000 in
theorem spec_l15Name.calls (k : Nat) (a0 : ByteArray) (r : Bool) (w : World) (h : spec_l15Name.f k a0 = some r) :
  Calls Try.prog 59 #[.string a0] w fun e w'=>e=.returned (.bool r)∧Drawn0 w w':=by
 have H:(if (a0.size:Int) < 1 then (spec_l15Name.j0 k a0 true) else (spec_l15Name.j0 k a0 (decide ((a0.size:Int) > 40))))=some r:=h
 clear h
 have HC2:=Ka H
 clear H
 go_enter Try.func59,Try.ntmps59
 go_upto_region 1 with (fail)
 go_cut [12] (fun v12 wc=>∃ (kq:Nat) (x12_1:Bool),v12=.bool x12_1∧Aside0 (spec_l15Name.j0 kq a0 x12_1=some r)∧Aside0 (kq≤k)∧Drawn0 w wc)
 case first=>
  have H:=HC2.out
  clear HC2
  by_cases c3:(a0.size:Int) < 1
  ·rw [if_pos c3] at H
   have c3b0:decide ((a0.size:Int) < 1)=true:=decide_eq_true c3
   have c3b1:decide (a0.size < 1)=true:=decide_eq_true (by omega)
   clear c3
   (first|rw [c3b0]|(simp only [i64_w,i32_w];rw [c3b0])|skip)
   have H':=Ka H
   clear H
   go_wp2
   go_meet
   case rel=>exact⟨_,(true),(by first|rfl|(simp;done)|(simp [*];done)),H',⟨by first|omega|exact Nat.le_refl _⟩,by repeat(first|exact Kb _|apply Kc)⟩
  ·rw [if_neg c3] at H
   have c3b0:decide ((a0.size:Int) < 1)=false:=decide_eq_false c3
   have c3b1:decide (a0.size < 1)=false:=decide_eq_false (by omega)
   clear c3
   (first|rw [c3b0]|(simp only [i64_w,i32_w];rw [c3b0])|skip)
   have H':=Ka H
   clear H
   go_wp2
   go_meet
   case rel=>exact⟨_,(decide ((a0.size:Int) > 40)),(by first|rfl|(simp;done)|(simp [*];done)),H',⟨by first|omega|exact Nat.le_refl _⟩,by repeat(first|exact Kb _|apply Kc)⟩
 case rest=>
  clear HC2
  try clear p2
  try clear c3
  try clear c3b0
  try clear c3b1
  obtain⟨kq,x12_1,rfl,HA,qb,⟨mc1,rfl⟩⟩:=hcut
  cases kq with
  | zero => exact absurd HA.out (by simp [spec_l15Name.j0])
  | succ kj1 =>
   have H:=HA.out
   clear HA
   simp only [spec_l15Name.j0] at H
   by_cases c4:x12_1=true
   ·subst c4
    have H1:(some false)=some r:=by rw [if_pos rfl] at H;exact H
    clear H
    have H:=H1
    clear H1
    obtain rfl:=Option.some.inj H
    go_wp2
    go_ret
    exact⟨by first|rfl|(simp;done)|(simp [*];done),by repeat(first|exact Kb _|apply Kc)⟩
   ·replace c4:=Bool.eq_false_iff.mpr c4
    subst c4
    have H1:(spec_l15Name.l0 kj1 a0 0)=some r:=by rw [if_neg (show ¬ (false=true) by decide)] at H;exact H
    clear H
    have H:=H1
    clear H1
    have H':=Ka H
    clear H
    go_wp2
    go_loopg [3] kj1 (fun kq v3 w'=>∃ (qa:Int),v3=.int .i64 qa∧Aside0 (spec_l15Name.l0 kq a0 qa=some r)∧Aside0 (kq≤kj1)∧Drawn0 w w')
    case atStart=>exact⟨(0),(by first|rfl|(simp;done)|(simp [*];done)),H',⟨Nat.le_refl _⟩,by repeat(first|exact Kb _|apply Kc)⟩
    case round=>
     clear H'
     try clear c1
     try clear p2
     try clear c3
     try clear c3b0
     try clear c3b1
     try clear c4
     try clear p2
     obtain⟨qa,rfl,HA,qc,⟨m2,rfl⟩⟩:=hrel
     cases gk with
     | zero => exact absurd HA.out (by simp [spec_l15Name.l0])
     | succ k2 =>
      have H:=HA.out
      clear HA
      simp only [spec_l15Name.l0] at H
      by_cases c5:qa < (a0.size:Int)
      ·rw [if_pos c5] at H
       have c5b0:decide (qa < (a0.size:Int))=true:=decide_eq_true c5
       clear c5
       by_cases c6:0≤qa
       ·rw [if_pos c6] at H
        have c6b0:decide (0≤qa)=true:=decide_eq_true c6
        clear c6
        by_cases c8:(bt a0 qa) < 48
        ·rw [if_pos c8] at H
         have c8b0:decide ((bt a0 qa) < 48)=true:=decide_eq_true c8
         clear c8
         by_cases c9:(bt a0 qa) < 97
         ·rw [if_pos c9] at H
          have c9b0:decide ((bt a0 qa) < 97)=true:=decide_eq_true c9
          clear c9
          by_cases c10:(bt a0 qa) < 65
          ·rw [if_pos c10] at H
           have c10b0:decide ((bt a0 qa) < 65)=true:=decide_eq_true c10
           clear c10
           by_cases c11:(bt a0 qa)=95
           ·rw [if_pos c11] at H
            have c11b0:((bt a0 qa) == 95)=true:=beq_iff_eq.mpr c11
            have c11b1:((bt a0 qa) != 95)=false:=bne_eq_false_iff_eq.mpr c11
            clear c11
            have H':=Ka H
            clear H
            have p7:0≤(qa:Int):=of_decide_eq_true (by first|(with_reducible assumption)|assumption)
            have q7:qa < (a0.size:Int):=of_decide_eq_true (by first|(with_reducible assumption)|assumption)
            have qd:=bt_at a0 qa
            replace p7:=eq_true p7
            replace q7:=eq_true q7
            go_wp2
            go_roundg k2
            case measure=>have:=qb.out;have:=qc.out;omega
            case rel=>exact⟨(wrap64 (qa+1)),(by first|rfl|(simp;done)|(simp [*];done)),H',⟨by have:=qb.out;have:=qc.out;omega⟩,by repeat(first|exact Kb _|apply Kc)⟩
           ·rw [if_neg c11] at H
            have c11b0:((bt a0 qa) == 95)=false:=beq_eq_false_iff_ne.mpr c11
            have c11b1:((bt a0 qa) != 95)=true:=bne_iff_ne.mpr c11
            by_cases c12:(bt a0 qa)=46
            ·rw [if_pos c12] at H
             have c12b0:((bt a0 qa) == 46)=true:=beq_iff_eq.mpr c12
             have c12b1:((bt a0 qa) != 46)=false:=bne_eq_false_iff_eq.mpr c12
             clear c12
             have H':=Ka H
             clear H
             have p7:0≤(qa:Int):=of_decide_eq_true (by first|(with_reducible assumption)|assumption)
             have q7:qa < (a0.size:Int):=of_decide_eq_true (by first|(with_reducible assumption)|assumption)
             have qd:=bt_at a0 qa
             replace p7:=eq_true p7
             replace q7:=eq_true q7
             go_wp2
             go_roundg k2
             case measure=>have:=qb.out;have:=qc.out;omega
             case rel=>exact⟨(wrap64 (qa+1)),(by first|rfl|(simp;done)|(simp [*];done)),H',⟨by have:=qb.out;have:=qc.out;omega⟩,by repeat(first|exact Kb _|apply Kc)⟩
            ·rw [if_neg c12] at H
             have c12b0:((bt a0 qa) == 46)=false:=beq_eq_false_iff_ne.mpr c12
             have c12b1:((bt a0 qa) != 46)=true:=bne_iff_ne.mpr c12
             obtain rfl:=Option.some.inj H
             have p7:0≤(qa:Int):=of_decide_eq_true (by first|(with_reducible assumption)|assumption)
             have q7:qa < (a0.size:Int):=of_decide_eq_true (by first|(with_reducible assumption)|assumption)
             have qd:=bt_at a0 qa
             replace p7:=eq_true p7
             replace q7:=eq_true q7
             go_wp2
             go_ret
             exact⟨by first|rfl|(simp;done)|(simp [*];done),by repeat(first|exact Kb _|apply Kc)⟩
          ·rw [if_neg c10] at H
           have c10b0:decide ((bt a0 qa) < 65)=false:=decide_eq_false c10
           clear c10
           by_cases c13:(bt a0 qa) > 90
           ·rw [if_pos c13] at H
            have c13b0:decide (90 < (bt a0 qa))=true:=decide_eq_true c13
            clear c13
            by_cases c14:(bt a0 qa)=95
            ·rw [if_pos c14] at H
             have c14b0:((bt a0 qa) == 95)=true:=beq_iff_eq.mpr c14
             have c14b1:((bt a0 qa) != 95)=false:=bne_eq_false_iff_eq.mpr c14
             clear c14
             have H':=Ka H
             clear H
             have p7:0≤(qa:Int):=of_decide_eq_true (by first|(with_reducible assumption)|assumption)
             have q7:qa < (a0.size:Int):=of_decide_eq_true (by first|(with_reducible assumption)|assumption)
             have qd:=bt_at a0 qa
             replace p7:=eq_true p7
             replace q7:=eq_true q7
             go_wp2
             go_roundg k2
             case measure=>have:=qb.out;have:=qc.out;omega
             case rel=>exact⟨(wrap64 (qa+1)),(by first|rfl|(simp;done)|(simp [*];done)),H',⟨by have:=qb.out;have:=qc.out;omega⟩,by repeat(first|exact Kb _|apply Kc)⟩
            ·rw [if_neg c14] at H
             have c14b0:((bt a0 qa) == 95)=false:=beq_eq_false_iff_ne.mpr c14
             have c14b1:((bt a0 qa) != 95)=true:=bne_iff_ne.mpr c14
             by_cases c15:(bt a0 qa)=46
             ·rw [if_pos c15] at H
              have c15b0:((bt a0 qa) == 46)=true:=beq_iff_eq.mpr c15
              have c15b1:((bt a0 qa) != 46)=false:=bne_eq_false_iff_eq.mpr c15
              clear c15
              have H':=Ka H
              clear H
              have p7:0≤(qa:Int):=of_decide_eq_true (by first|(with_reducible assumption)|assumption)
              have q7:qa < (a0.size:Int):=of_decide_eq_true (by first|(with_reducible assumption)|assumption)
              have qd:=bt_at a0 qa
              replace p7:=eq_true p7
              replace q7:=eq_true q7
              go_wp2
              go_roundg k2
              case measure=>have:=qb.out;have:=qc.out;omega
              case rel=>exact⟨(wrap64 (qa+1)),(by first|rfl|(simp;done)|(simp [*];done)),H',⟨by have:=qb.out;have:=qc.out;omega⟩,by repeat(first|exact Kb _|apply Kc)⟩
             ·rw [if_neg c15] at H
              have c15b0:((bt a0 qa) == 46)=false:=beq_eq_false_iff_ne.mpr c15
              have c15b1:((bt a0 qa) != 46)=true:=bne_iff_ne.mpr c15
              obtain rfl:=Option.some.inj H
              have p7:0≤(qa:Int):=of_decide_eq_true (by first|(with_reducible assumption)|assumption)
              have q7:qa < (a0.size:Int):=of_decide_eq_true (by first|(with_reducible assumption)|assumption)
              have qd:=bt_at a0 qa
              replace p7:=eq_true p7
              replace q7:=eq_true q7
              go_wp2
              go_ret
              exact⟨by first|rfl|(simp;done)|(simp [*];done),by repeat(first|exact Kb _|apply Kc)⟩
           ·rw [if_neg c13] at H
            have c13b0:decide (90 < (bt a0 qa))=false:=decide_eq_false c13
            clear c13
            have H':=Ka H
            clear H
            have p7:0≤(qa:Int):=of_decide_eq_true (by first|(with_reducible assumption)|assumption)
            have q7:qa < (a0.size:Int):=of_decide_eq_true (by first|(with_reducible assumption)|assumption)
            have qd:=bt_at a0 qa
            replace p7:=eq_true p7
            replace q7:=eq_true q7
            go_wp2
            go_roundg k2
            case measure=>have:=qb.out;have:=qc.out;omega
            case rel=>exact⟨(wrap64 (qa+1)),(by first|rfl|(simp;done)|(simp [*];done)),H',⟨by have:=qb.out;have:=qc.out;omega⟩,by repeat(first|exact Kb _|apply Kc)⟩
         ·rw [if_neg c9] at H
          have c9b0:decide ((bt a0 qa) < 97)=false:=decide_eq_false c9
          clear c9
          by_cases c16:(bt a0 qa) > 122
          ·rw [if_pos c16] at H
           have c16b0:decide (122 < (bt a0 qa))=true:=decide_eq_true c16
           clear c16
           by_cases c17:(bt a0 qa) < 65
           ·rw [if_pos c17] at H
            have c17b0:decide ((bt a0 qa) < 65)=true:=decide_eq_true c17
            clear c17
            by_cases c18:(bt a0 qa)=95
            ·rw [if_pos c18] at H
             have c18b0:((bt a0 qa) == 95)=true:=beq_iff_eq.mpr c18
             have c18b1:((bt a0 qa) != 95)=false:=bne_eq_false_iff_eq.mpr c18
             clear c18
             have H':=Ka H
             clear H
             have p7:0≤(qa:Int):=of_decide_eq_true (by first|(with_reducible assumption)|assumption)
             have q7:qa < (a0.size:Int):=of_decide_eq_true (by first|(with_reducible assumption)|assumption)
             have qd:=bt_at a0 qa
             replace p7:=eq_true p7
             replace q7:=eq_true q7
             go_wp2
             go_roundg k2
             case measure=>have:=qb.out;have:=qc.out;omega
             case rel=>exact⟨(wrap64 (qa+1)),(by first|rfl|(simp;done)|(simp [*];done)),H',⟨by have:=qb.out;have:=qc.out;omega⟩,by repeat(first|exact Kb _|apply Kc)⟩
            ·rw [if_neg c18] at H
             have c18b0:((bt a0 qa) == 95)=false:=beq_eq_false_iff_ne.mpr c18
             have c18b1:((bt a0 qa) != 95)=true:=bne_iff_ne.mpr c18
             by_cases c19:(bt a0 qa)=46
             ·rw [if_pos c19] at H
              have c19b0:((bt a0 qa) == 46)=true:=beq_iff_eq.mpr c19
              have c19b1:((bt a0 qa) != 46)=false:=bne_eq_false_iff_eq.mpr c19
              clear c19
              have H':=Ka H
              clear H
              have p7:0≤(qa:Int):=of_decide_eq_true (by first|(with_reducible assumption)|assumption)
              have q7:qa < (a0.size:Int):=of_decide_eq_true (by first|(with_reducible assumption)|assumption)
              have qd:=bt_at a0 qa
              replace p7:=eq_true p7
              replace q7:=eq_true q7
              go_wp2
              go_roundg k2
              case measure=>have:=qb.out;have:=qc.out;omega
              case rel=>exact⟨(wrap64 (qa+1)),(by first|rfl|(simp;done)|(simp [*];done)),H',⟨by have:=qb.out;have:=qc.out;omega⟩,by repeat(first|exact Kb _|apply Kc)⟩
             ·rw [if_neg c19] at H
              have c19b0:((bt a0 qa) == 46)=false:=beq_eq_false_iff_ne.mpr c19
              have c19b1:((bt a0 qa) != 46)=true:=bne_iff_ne.mpr c19
              obtain rfl:=Option.some.inj H
              have p7:0≤(qa:Int):=of_decide_eq_true (by first|(with_reducible assumption)|assumption)
              have q7:qa < (a0.size:Int):=of_decide_eq_true (by first|(with_reducible assumption)|assumption)
              have qd:=bt_at a0 qa
              replace p7:=eq_true p7
              replace q7:=eq_true q7
              go_wp2
              go_ret
              exact⟨by first|rfl|(simp;done)|(simp [*];done),by repeat(first|exact Kb _|apply Kc)⟩
           ·rw [if_neg c17] at H
            have c17b0:decide ((bt a0 qa) < 65)=false:=decide_eq_false c17
            clear c17
            by_cases c20:(bt a0 qa) > 90
            ·rw [if_pos c20] at H
             have c20b0:decide (90 < (bt a0 qa))=true:=decide_eq_true c20
             clear c20
             by_cases c21:(bt a0 qa)=95
             ·rw [if_pos c21] at H
              have c21b0:((bt a0 qa) == 95)=true:=beq_iff_eq.mpr c21
              have c21b1:((bt a0 qa) != 95)=false:=bne_eq_false_iff_eq.mpr c21
              clear c21
              have H':=Ka H
              clear H
              have p7:0≤(qa:Int):=of_decide_eq_true (by first|(with_reducible assumption)|assumption)
              have q7:qa < (a0.size:Int):=of_decide_eq_true (by first|(with_reducible assumption)|assumption)
              have qd:=bt_at a0 qa
              replace p7:=eq_true p7
              replace q7:=eq_true q7
              go_wp2
              go_roundg k2
              case measure=>have:=qb.out;have:=qc.out;omega
              case rel=>exact⟨(wrap64 (qa+1)),(by first|rfl|(simp;done)|(simp [*];done)),H',⟨by have:=qb.out;have:=qc.out;omega⟩,by repeat(first|exact Kb _|apply Kc)⟩
             ·rw [if_neg c21] at H
              have c21b0:((bt a0 qa) == 95)=false:=beq_eq_false_iff_ne.mpr c21
              have c21b1:((bt a0 qa) != 95)=true:=bne_iff_ne.mpr c21
              by_cases c22:(bt a0 qa)=46
              ·rw [if_pos c22] at H
               have c22b0:((bt a0 qa) == 46)=true:=beq_iff_eq.mpr c22
               have c22b1:((bt a0 qa) != 46)=false:=bne_eq_false_iff_eq.mpr c22
               clear c22
               have H':=Ka H
               clear H
               have p7:0≤(qa:Int):=of_decide_eq_true (by first|(with_reducible assumption)|assumption)
               have q7:qa < (a0.size:Int):=of_decide_eq_true (by first|(with_reducible assumption)|assumption)
               have qd:=bt_at a0 qa
               replace p7:=eq_true p7
               replace q7:=eq_true q7
               go_wp2
               go_roundg k2
               case measure=>have:=qb.out;have:=qc.out;omega
               case rel=>exact⟨(wrap64 (qa+1)),(by first|rfl|(simp;done)|(simp [*];done)),H',⟨by have:=qb.out;have:=qc.out;omega⟩,by repeat(first|exact Kb _|apply Kc)⟩
              ·rw [if_neg c22] at H
               have c22b0:((bt a0 qa) == 46)=false:=beq_eq_false_iff_ne.mpr c22
               have c22b1:((bt a0 qa) != 46)=true:=bne_iff_ne.mpr c22
               obtain rfl:=Option.some.inj H
               have p7:0≤(qa:Int):=of_decide_eq_true (by first|(with_reducible assumption)|assumption)
               have q7:qa < (a0.size:Int):=of_decide_eq_true (by first|(with_reducible assumption)|assumption)
               have qd:=bt_at a0 qa
               replace p7:=eq_true p7
               replace q7:=eq_true q7
               go_wp2
               go_ret
               exact⟨by first|rfl|(simp;done)|(simp [*];done),by repeat(first|exact Kb _|apply Kc)⟩
            ·rw [if_neg c20] at H
             have c20b0:decide (90 < (bt a0 qa))=false:=decide_eq_false c20
             clear c20
             have H':=Ka H
             clear H
             have p7:0≤(qa:Int):=of_decide_eq_true (by first|(with_reducible assumption)|assumption)
             have q7:qa < (a0.size:Int):=of_decide_eq_true (by first|(with_reducible assumption)|assumption)
             have qd:=bt_at a0 qa
             replace p7:=eq_true p7
             replace q7:=eq_true q7
             go_wp2
             go_roundg k2
             case measure=>have:=qb.out;have:=qc.out;omega
             case rel=>exact⟨(wrap64 (qa+1)),(by first|rfl|(simp;done)|(simp [*];done)),H',⟨by have:=qb.out;have:=qc.out;omega⟩,by repeat(first|exact Kb _|apply Kc)⟩
          ·rw [if_neg c16] at H
           have c16b0:decide (122 < (bt a0 qa))=false:=decide_eq_false c16
           clear c16
           have H':=Ka H
           clear H
           have p7:0≤(qa:Int):=of_decide_eq_true (by first|(with_reducible assumption)|assumption)
           have q7:qa < (a0.size:Int):=of_decide_eq_true (by first|(with_reducible assumption)|assumption)
           have qd:=bt_at a0 qa
           replace p7:=eq_true p7
           replace q7:=eq_true q7
           go_wp2
           go_roundg k2
           case measure=>have:=qb.out;have:=qc.out;omega
           case rel=>exact⟨(wrap64 (qa+1)),(by first|rfl|(simp;done)|(simp [*];done)),H',⟨by have:=qb.out;have:=qc.out;omega⟩,by repeat(first|exact Kb _|apply Kc)⟩
        ·rw [if_neg c8] at H
         have c8b0:decide ((bt a0 qa) < 48)=false:=decide_eq_false c8
         clear c8
         by_cases c23:(bt a0 qa) > 57
         ·rw [if_pos c23] at H
          have c23b0:decide (57 < (bt a0 qa))=true:=decide_eq_true c23
          clear c23
          by_cases c24:(bt a0 qa) < 97
          ·rw [if_pos c24] at H
           have c24b0:decide ((bt a0 qa) < 97)=true:=decide_eq_true c24
           clear c24
           by_cases c25:(bt a0 qa) < 65
           ·rw [if_pos c25] at H
            have c25b0:decide ((bt a0 qa) < 65)=true:=decide_eq_true c25
            clear c25
            by_cases c26:(bt a0 qa)=95
            ·rw [if_pos c26] at H
             have c26b0:((bt a0 qa) == 95)=true:=beq_iff_eq.mpr c26
             have c26b1:((bt a0 qa) != 95)=false:=bne_eq_false_iff_eq.mpr c26
             clear c26
             have H':=Ka H
             clear H
             have p7:0≤(qa:Int):=of_decide_eq_true (by first|(with_reducible assumption)|assumption)
             have q7:qa < (a0.size:Int):=of_decide_eq_true (by first|(with_reducible assumption)|assumption)
             have qd:=bt_at a0 qa
             replace p7:=eq_true p7
             replace q7:=eq_true q7
             go_wp2
             go_roundg k2
             case measure=>have:=qb.out;have:=qc.out;omega
             case rel=>exact⟨(wrap64 (qa+1)),(by first|rfl|(simp;done)|(simp [*];done)),H',⟨by have:=qb.out;have:=qc.out;omega⟩,by repeat(first|exact Kb _|apply Kc)⟩
            ·rw [if_neg c26] at H
             have c26b0:((bt a0 qa) == 95)=false:=beq_eq_false_iff_ne.mpr c26
             have c26b1:((bt a0 qa) != 95)=true:=bne_iff_ne.mpr c26
             by_cases c27:(bt a0 qa)=46
             ·rw [if_pos c27] at H
              have c27b0:((bt a0 qa) == 46)=true:=beq_iff_eq.mpr c27
              have c27b1:((bt a0 qa) != 46)=false:=bne_eq_false_iff_eq.mpr c27
              clear c27
              have H':=Ka H
              clear H
              have p7:0≤(qa:Int):=of_decide_eq_true (by first|(with_reducible assumption)|assumption)
              have q7:qa < (a0.size:Int):=of_decide_eq_true (by first|(with_reducible assumption)|assumption)
              have qd:=bt_at a0 qa
              replace p7:=eq_true p7
              replace q7:=eq_true q7
              go_wp2
              go_roundg k2
              case measure=>have:=qb.out;have:=qc.out;omega
              case rel=>exact⟨(wrap64 (qa+1)),(by first|rfl|(simp;done)|(simp [*];done)),H',⟨by have:=qb.out;have:=qc.out;omega⟩,by repeat(first|exact Kb _|apply Kc)⟩
             ·rw [if_neg c27] at H
              have c27b0:((bt a0 qa) == 46)=false:=beq_eq_false_iff_ne.mpr c27
              have c27b1:((bt a0 qa) != 46)=true:=bne_iff_ne.mpr c27
              obtain rfl:=Option.some.inj H
              have p7:0≤(qa:Int):=of_decide_eq_true (by first|(with_reducible assumption)|assumption)
              have q7:qa < (a0.size:Int):=of_decide_eq_true (by first|(with_reducible assumption)|assumption)
              have qd:=bt_at a0 qa
              replace p7:=eq_true p7
              replace q7:=eq_true q7
              go_wp2
              go_ret
              exact⟨by first|rfl|(simp;done)|(simp [*];done),by repeat(first|exact Kb _|apply Kc)⟩
           ·rw [if_neg c25] at H
            have c25b0:decide ((bt a0 qa) < 65)=false:=decide_eq_false c25
            clear c25
            by_cases c28:(bt a0 qa) > 90
            ·rw [if_pos c28] at H
             have c28b0:decide (90 < (bt a0 qa))=true:=decide_eq_true c28
             clear c28
             by_cases c29:(bt a0 qa)=95
             ·rw [if_pos c29] at H
              have c29b0:((bt a0 qa) == 95)=true:=beq_iff_eq.mpr c29
              have c29b1:((bt a0 qa) != 95)=false:=bne_eq_false_iff_eq.mpr c29
              clear c29
              have H':=Ka H
              clear H
              have p7:0≤(qa:Int):=of_decide_eq_true (by first|(with_reducible assumption)|assumption)
              have q7:qa < (a0.size:Int):=of_decide_eq_true (by first|(with_reducible assumption)|assumption)
              have qd:=bt_at a0 qa
              replace p7:=eq_true p7
              replace q7:=eq_true q7
              go_wp2
              go_roundg k2
              case measure=>have:=qb.out;have:=qc.out;omega
              case rel=>exact⟨(wrap64 (qa+1)),(by first|rfl|(simp;done)|(simp [*];done)),H',⟨by have:=qb.out;have:=qc.out;omega⟩,by repeat(first|exact Kb _|apply Kc)⟩
             ·rw [if_neg c29] at H
              have c29b0:((bt a0 qa) == 95)=false:=beq_eq_false_iff_ne.mpr c29
              have c29b1:((bt a0 qa) != 95)=true:=bne_iff_ne.mpr c29
              by_cases c30:(bt a0 qa)=46
              ·rw [if_pos c30] at H
               have c30b0:((bt a0 qa) == 46)=true:=beq_iff_eq.mpr c30
               have c30b1:((bt a0 qa) != 46)=false:=bne_eq_false_iff_eq.mpr c30
               clear c30
               have H':=Ka H
               clear H
               have p7:0≤(qa:Int):=of_decide_eq_true (by first|(with_reducible assumption)|assumption)
               have q7:qa < (a0.size:Int):=of_decide_eq_true (by first|(with_reducible assumption)|assumption)
               have qd:=bt_at a0 qa
               replace p7:=eq_true p7
               replace q7:=eq_true q7
               go_wp2
               go_roundg k2
               case measure=>have:=qb.out;have:=qc.out;omega
               case rel=>exact⟨(wrap64 (qa+1)),(by first|rfl|(simp;done)|(simp [*];done)),H',⟨by have:=qb.out;have:=qc.out;omega⟩,by repeat(first|exact Kb _|apply Kc)⟩
              ·rw [if_neg c30] at H
               have c30b0:((bt a0 qa) == 46)=false:=beq_eq_false_iff_ne.mpr c30
               have c30b1:((bt a0 qa) != 46)=true:=bne_iff_ne.mpr c30
               obtain rfl:=Option.some.inj H
               have p7:0≤(qa:Int):=of_decide_eq_true (by first|(with_reducible assumption)|assumption)
               have q7:qa < (a0.size:Int):=of_decide_eq_true (by first|(with_reducible assumption)|assumption)
               have qd:=bt_at a0 qa
               replace p7:=eq_true p7
               replace q7:=eq_true q7
               go_wp2
               go_ret
               exact⟨by first|rfl|(simp;done)|(simp [*];done),by repeat(first|exact Kb _|apply Kc)⟩
            ·rw [if_neg c28] at H
             have c28b0:decide (90 < (bt a0 qa))=false:=decide_eq_false c28
             clear c28
             have H':=Ka H
             clear H
             have p7:0≤(qa:Int):=of_decide_eq_true (by first|(with_reducible assumption)|assumption)
             have q7:qa < (a0.size:Int):=of_decide_eq_true (by first|(with_reducible assumption)|assumption)
             have qd:=bt_at a0 qa
             replace p7:=eq_true p7
             replace q7:=eq_true q7
             go_wp2
             go_roundg k2
             case measure=>have:=qb.out;have:=qc.out;omega
             case rel=>exact⟨(wrap64 (qa+1)),(by first|rfl|(simp;done)|(simp [*];done)),H',⟨by have:=qb.out;have:=qc.out;omega⟩,by repeat(first|exact Kb _|apply Kc)⟩
          ·rw [if_neg c24] at H
           have c24b0:decide ((bt a0 qa) < 97)=false:=decide_eq_false c24
           clear c24
           by_cases c31:(bt a0 qa) > 122
           ·rw [if_pos c31] at H
            have c31b0:decide (122 < (bt a0 qa))=true:=decide_eq_true c31
            clear c31
            by_cases c32:(bt a0 qa) < 65
            ·rw [if_pos c32] at H
             have c32b0:decide ((bt a0 qa) < 65)=true:=decide_eq_true c32
             clear c32
             by_cases c33:(bt a0 qa)=95
             ·rw [if_pos c33] at H
              have c33b0:((bt a0 qa) == 95)=true:=beq_iff_eq.mpr c33
              have c33b1:((bt a0 qa) != 95)=false:=bne_eq_false_iff_eq.mpr c33
              clear c33
              have H':=Ka H
              clear H
              have p7:0≤(qa:Int):=of_decide_eq_true (by first|(with_reducible assumption)|assumption)
              have q7:qa < (a0.size:Int):=of_decide_eq_true (by first|(with_reducible assumption)|assumption)
              have qd:=bt_at a0 qa
              replace p7:=eq_true p7
              replace q7:=eq_true q7
              go_wp2
              go_roundg k2
              case measure=>have:=qb.out;have:=qc.out;omega
              case rel=>exact⟨(wrap64 (qa+1)),(by first|rfl|(simp;done)|(simp [*];done)),H',⟨by have:=qb.out;have:=qc.out;omega⟩,by repeat(first|exact Kb _|apply Kc)⟩
             ·rw [if_neg c33] at H
              have c33b0:((bt a0 qa) == 95)=false:=beq_eq_false_iff_ne.mpr c33
              have c33b1:((bt a0 qa) != 95)=true:=bne_iff_ne.mpr c33
              by_cases c34:(bt a0 qa)=46
              ·rw [if_pos c34] at H
               have c34b0:((bt a0 qa) == 46)=true:=beq_iff_eq.mpr c34
               have c34b1:((bt a0 qa) != 46)=false:=bne_eq_false_iff_eq.mpr c34
               clear c34
               have H':=Ka H
               clear H
               have p7:0≤(qa:Int):=of_decide_eq_true (by first|(with_reducible assumption)|assumption)
               have q7:qa < (a0.size:Int):=of_decide_eq_true (by first|(with_reducible assumption)|assumption)
               have qd:=bt_at a0 qa
               replace p7:=eq_true p7
               replace q7:=eq_true q7
               go_wp2
               go_roundg k2
               case measure=>have:=qb.out;have:=qc.out;omega
               case rel=>exact⟨(wrap64 (qa+1)),(by first|rfl|(simp;done)|(simp [*];done)),H',⟨by have:=qb.out;have:=qc.out;omega⟩,by repeat(first|exact Kb _|apply Kc)⟩
              ·rw [if_neg c34] at H
               have c34b0:((bt a0 qa) == 46)=false:=beq_eq_false_iff_ne.mpr c34
               have c34b1:((bt a0 qa) != 46)=true:=bne_iff_ne.mpr c34
               obtain rfl:=Option.some.inj H
               have p7:0≤(qa:Int):=of_decide_eq_true (by first|(with_reducible assumption)|assumption)
               have q7:qa < (a0.size:Int):=of_decide_eq_true (by first|(with_reducible assumption)|assumption)
               have qd:=bt_at a0 qa
               replace p7:=eq_true p7
               replace q7:=eq_true q7
               go_wp2
               go_ret
               exact⟨by first|rfl|(simp;done)|(simp [*];done),by repeat(first|exact Kb _|apply Kc)⟩
            ·rw [if_neg c32] at H
             have c32b0:decide ((bt a0 qa) < 65)=false:=decide_eq_false c32
             clear c32
             by_cases c35:(bt a0 qa) > 90
             ·rw [if_pos c35] at H
              have c35b0:decide (90 < (bt a0 qa))=true:=decide_eq_true c35
              clear c35
              by_cases c36:(bt a0 qa)=95
              ·rw [if_pos c36] at H
               have c36b0:((bt a0 qa) == 95)=true:=beq_iff_eq.mpr c36
               have c36b1:((bt a0 qa) != 95)=false:=bne_eq_false_iff_eq.mpr c36
               clear c36
               have H':=Ka H
               clear H
               have p7:0≤(qa:Int):=of_decide_eq_true (by first|(with_reducible assumption)|assumption)
               have q7:qa < (a0.size:Int):=of_decide_eq_true (by first|(with_reducible assumption)|assumption)
               have qd:=bt_at a0 qa
               replace p7:=eq_true p7
               replace q7:=eq_true q7
               go_wp2
               go_roundg k2
               case measure=>have:=qb.out;have:=qc.out;omega
               case rel=>exact⟨(wrap64 (qa+1)),(by first|rfl|(simp;done)|(simp [*];done)),H',⟨by have:=qb.out;have:=qc.out;omega⟩,by repeat(first|exact Kb _|apply Kc)⟩
              ·rw [if_neg c36] at H
               have c36b0:((bt a0 qa) == 95)=false:=beq_eq_false_iff_ne.mpr c36
               have c36b1:((bt a0 qa) != 95)=true:=bne_iff_ne.mpr c36
               by_cases c37:(bt a0 qa)=46
               ·rw [if_pos c37] at H
                have c37b0:((bt a0 qa) == 46)=true:=beq_iff_eq.mpr c37
                have c37b1:((bt a0 qa) != 46)=false:=bne_eq_false_iff_eq.mpr c37
                clear c37
                have H':=Ka H
                clear H
                have p7:0≤(qa:Int):=of_decide_eq_true (by first|(with_reducible assumption)|assumption)
                have q7:qa < (a0.size:Int):=of_decide_eq_true (by first|(with_reducible assumption)|assumption)
                have qd:=bt_at a0 qa
                replace p7:=eq_true p7
                replace q7:=eq_true q7
                go_wp2
                go_roundg k2
                case measure=>have:=qb.out;have:=qc.out;omega
                case rel=>exact⟨(wrap64 (qa+1)),(by first|rfl|(simp;done)|(simp [*];done)),H',⟨by have:=qb.out;have:=qc.out;omega⟩,by repeat(first|exact Kb _|apply Kc)⟩
               ·rw [if_neg c37] at H
                have c37b0:((bt a0 qa) == 46)=false:=beq_eq_false_iff_ne.mpr c37
                have c37b1:((bt a0 qa) != 46)=true:=bne_iff_ne.mpr c37
                obtain rfl:=Option.some.inj H
                have p7:0≤(qa:Int):=of_decide_eq_true (by first|(with_reducible assumption)|assumption)
                have q7:qa < (a0.size:Int):=of_decide_eq_true (by first|(with_reducible assumption)|assumption)
                have qd:=bt_at a0 qa
                replace p7:=eq_true p7
                replace q7:=eq_true q7
                go_wp2
                go_ret
                exact⟨by first|rfl|(simp;done)|(simp [*];done),by repeat(first|exact Kb _|apply Kc)⟩
             ·rw [if_neg c35] at H
              have c35b0:decide (90 < (bt a0 qa))=false:=decide_eq_false c35
              clear c35
              have H':=Ka H
              clear H
              have p7:0≤(qa:Int):=of_decide_eq_true (by first|(with_reducible assumption)|assumption)
              have q7:qa < (a0.size:Int):=of_decide_eq_true (by first|(with_reducible assumption)|assumption)
              have qd:=bt_at a0 qa
              replace p7:=eq_true p7
              replace q7:=eq_true q7
              go_wp2
              go_roundg k2
              case measure=>have:=qb.out;have:=qc.out;omega
              case rel=>exact⟨(wrap64 (qa+1)),(by first|rfl|(simp;done)|(simp [*];done)),H',⟨by have:=qb.out;have:=qc.out;omega⟩,by repeat(first|exact Kb _|apply Kc)⟩
           ·rw [if_neg c31] at H
            have c31b0:decide (122 < (bt a0 qa))=false:=decide_eq_false c31
            clear c31
            have H':=Ka H
            clear H
            have p7:0≤(qa:Int):=of_decide_eq_true (by first|(with_reducible assumption)|assumption)
            have q7:qa < (a0.size:Int):=of_decide_eq_true (by first|(with_reducible assumption)|assumption)
            have qd:=bt_at a0 qa
            replace p7:=eq_true p7
            replace q7:=eq_true q7
            go_wp2
            go_roundg k2
            case measure=>have:=qb.out;have:=qc.out;omega
            case rel=>exact⟨(wrap64 (qa+1)),(by first|rfl|(simp;done)|(simp [*];done)),H',⟨by have:=qb.out;have:=qc.out;omega⟩,by repeat(first|exact Kb _|apply Kc)⟩
         ·rw [if_neg c23] at H
          have c23b0:decide (57 < (bt a0 qa))=false:=decide_eq_false c23
          clear c23
          have H':=Ka H
          clear H
          have p7:0≤(qa:Int):=of_decide_eq_true (by first|(with_reducible assumption)|assumption)
          have q7:qa < (a0.size:Int):=of_decide_eq_true (by first|(with_reducible assumption)|assumption)
          have qd:=bt_at a0 qa
          replace p7:=eq_true p7
          replace q7:=eq_true q7
          go_wp2
          go_roundg k2
          case measure=>have:=qb.out;have:=qc.out;omega
          case rel=>exact⟨(wrap64 (qa+1)),(by first|rfl|(simp;done)|(simp [*];done)),H',⟨by have:=qb.out;have:=qc.out;omega⟩,by repeat(first|exact Kb _|apply Kc)⟩
       ·rw [if_neg c6] at H
        exact absurd H (by simp)
      ·rw [if_neg c5] at H
       have c5b0:decide (qa < (a0.size:Int))=false:=decide_eq_false c5
       clear c5
       obtain rfl:=Option.some.inj H
       go_wp2
       go_ret
       exact⟨by first|rfl|(simp;done)|(simp [*];done),by repeat(first|exact Kb _|apply Kc)⟩

end Go.Proofs.Ytelcpfanjjfgdaa.HFnPacked
