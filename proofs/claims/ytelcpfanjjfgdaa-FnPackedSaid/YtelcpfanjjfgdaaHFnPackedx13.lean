-- Laid by myprint.py, a program of this repo, out of the kit's printer and this repo's own texts (wip/hand).
import Derived.Test.YtelcpfanjjfgdaaHFnPackedx0
namespace Go.Proofs.Ytelcpfanjjfgdaa.HFnPacked
open Go.RowKit Go.Proofs.YtelcpfanjjfgdaaW.PrintWords Go.Proofs.YtelcpfanjjfgdaaW.PrintLast Go.Proofs.YtelcpfanjjfgdaaW.PrintMore
attribute [local go_sem] max2_int min2_int max_two min_two max_three min_three max_four min_four   -- for this text's walks alone
set_option linter.unusedVariables false
set_option linter.unusedSimpArgs false

/-! ### laws_pick: function 52 -/
def laws_pick.l0 : Nat → List Int → Int → Int → Int → Option (Int)
 | 0, _, _, _, _ => none
 | k + 1, x0, x1, x5, x6 => if x6 < (x0.length : Int) then (if 0 ≤ x6 then (laws_pick.l0 k x0 x1 (Int.tmod (wrap64 ((wrap64 (x5 * 43)) + (wrap64 (rd x0 x6)))) 1000003) (wrap64 (x6 + 1))) else (none)) else (if x1 = 0 then (none) else (some (Int.tmod x5 x1)))
def laws_pick.f (k : Nat) (l0 : List Int) (a1 : Int) : Option (Int) := laws_pick.l0 k l0 a1 (l0.length : Int) 0
theorem laws_pick.mono_l : ∀ k, (∀ y0 y1 y2 y3, LeO (laws_pick.l0 k y0 y1 y2 y3) (laws_pick.l0 (k + 1) y0 y1 y2 y3))
 | 0 => fun _ _ _ _ r h => by simp [laws_pick.l0] at h
 | k + 1 => by
  have ih0:=laws_pick.mono_l k
  ·intro y0 y1 y2 y3
   unfold laws_pick.l0
   repeat' first
   | (with_reducible exact ih0 _ _ _ _)
   | (with_reducible exact LeO.refl _)
   | (with_reducible exact LeO.none _)
   | (with_reducible refine LeO.ite ?_ ?_)
   | (with_reducible refine LeO.bind ?_ (fun _ => ?_))
   | exact ih0 _ _ _ _
   | exact LeO.none _
   | refine LeO.ite ?_ ?_
   | refine LeO.bind ?_ (fun _ => ?_)
theorem laws_pick.mono : ∀ a0 a1 k, LeO (laws_pick.f k a0 a1) (laws_pick.f (k + 1) a0 a1) := by
 intro a0 a1 k
 have ih0:=laws_pick.mono_l k
 unfold laws_pick.f
 repeat' first
   | (with_reducible exact ih0 _ _ _ _)
   | (with_reducible exact LeO.refl _)
   | (with_reducible exact LeO.none _)
   | (with_reducible refine LeO.ite ?_ ?_)
   | (with_reducible refine LeO.bind ?_ (fun _ => ?_))
   | exact ih0 _ _ _ _
   | exact LeO.none _
   | refine LeO.ite ?_ ?_
   | refine LeO.bind ?_ (fun _ => ?_)
set_option maxHeartbeats 8000000 in
set_option maxRecDepth 100000 in
theorem laws_pick.calls (k : Nat) (A0 : Option Addr) (c0 : Nat) (l0 : List Int) (a1 : Int) (r : Int) (w : World) (hr0 : Kd.C (Kd.int .u8) w A0 l0.length l0) (hc0 : l0.length ≤ c0) (h : laws_pick.f k l0 a1 = some r) :
  Calls Try.prog 52 #[.slice A0 l0.length c0,.int .i64 a1] w fun e w'=>e=.returned (.int .i64 r)∧Drawn0 w w':=by
 have HR0:=Aside0.mk hr0
 have HC0:=Aside0.mk hc0
 clear hr0 hc0
 have H:(laws_pick.l0 k l0 a1 (l0.length:Int) 0)=some r:=h
 clear h
 have H':=Aside0.mk H
 clear H
 go_enter Try.func52,Try.ntmps52
 go_wp2
 go_loopg [5,6] k (fun kq v5 v6 w'=>∃ (x5_1:Int) (qa:Int),v5=.int .i64 x5_1∧v6=.int .i64 qa∧Aside0 (laws_pick.l0 kq l0 a1 x5_1 qa=some r)∧Aside0 (kq≤k)∧Drawn0 w w')
 case atStart=>exact⟨((l0.length:Int)),(0),(by first|rfl|(simp;done)|(simp [*];done)),(by first|rfl|(simp;done)|(simp [*];done)),H',⟨Nat.le_refl _⟩,by repeat(first|exact Drawn0.refl _|apply Drawn0.step)⟩
 case round=>
  clear H'
  try clear p2
  obtain⟨x5_1,qa,rfl,rfl,HA,HK1,⟨m1,rfl⟩⟩:=hrel
  cases gk with
  | zero => exact absurd HA.out (by simp [laws_pick.l0])
  | succ k1 =>
   have H:=HA.out
   clear HA
   simp only [laws_pick.l0] at H
   by_cases c3:qa < (l0.length:Int)
   ·rw [if_pos c3] at H
    have c3b0:decide (qa < (l0.length:Int))=true:=decide_eq_true c3
    clear c3
    by_cases c4:0≤qa
    ·rw [if_pos c4] at H
     have c4b0:decide (0≤qa)=true:=decide_eq_true c4
     clear c4
     have H':=Aside0.mk H
     clear H
     have p347:0≤(qa:Int):=of_decide_eq_true (by first|(with_reducible assumption)|assumption)
     have q347:qa < (l0.length:Int):=of_decide_eq_true (by first|(with_reducible assumption)|assumption)
     obtain⟨ad347,e347,hx347_0⟩:=Kd.at_int HR0.out qa p347 q347
     cases e347
     replace p347:=eq_true p347
     replace q347:=eq_true q347
     go_wp2
     go_roundg k1
     case measure=>have:=HK1.out;omega
     case rel=>exact⟨(Int.tmod (wrap64 ((wrap64 (x5_1*43))+(wrap64 (rd l0 qa)))) 1000003),(wrap64 (qa+1)),(by first|rfl|(simp;done)|(simp [*];done)),(by first|rfl|(simp;done)|(simp [*];done)),H',⟨by have:=HK1.out;omega⟩,by repeat(first|exact Drawn0.refl _|apply Drawn0.step)⟩
    ·rw [if_neg c4] at H
     exact absurd H (by simp)
   ·rw [if_neg c3] at H
    have c3b0:decide (qa < (l0.length:Int))=false:=decide_eq_false c3
    clear c3
    by_cases c5:a1=0
    ·rw [if_pos c5] at H
     exact absurd H (by simp)
    ·rw [if_neg c5] at H
     have c5b0:(a1 == 0)=false:=beq_eq_false_iff_ne.mpr c5
     have c5b1:(a1 != 0)=true:=bne_iff_ne.mpr c5
     obtain rfl:=Option.some.inj H
     go_wp2
     go_ret
     exact⟨by first|rfl|(simp;done)|(simp [*];done),by repeat(first|exact Drawn0.refl _|apply Drawn0.step)⟩

end Go.Proofs.Ytelcpfanjjfgdaa.HFnPacked
