-- Laid by myprint.py, a program of this repo, out of the kit's printer and this repo's own texts (wip/hand).
import Derived.Test.YtidogkjhjmcliaaDoorHFnTitlesBackx0
import Derived.Test.YtidogkjhjmcliaaDoorHFnTitlesBackx8
import Derived.Test.YtidogkjhjmcliaaDoorCmp
namespace Go.Proofs.YtidogkjhjmcliaaDoor.HFnTitlesBack
open Go.RowKit Go.Proofs.YtidogkjhjmcliaaDoorW.PrintWords Go.Proofs.YtidogkjhjmcliaaDoorW.PrintLast Go.Proofs.YtidogkjhjmcliaaDoorW.PrintMore
attribute [local go_sem] max2_int min2_int max_two min_two max_three min_three max_four min_four   -- for this text's walks alone
set_option linter.unusedVariables false
set_option linter.unusedSimpArgs false
theorem La : type_of% @Aside0.mk := @Aside0.mk

/-! ### strings_Cut: function 46 -/
def strings_Cut.f (a0 a1 : ByteArray) : Option (ByteArray × ByteArray × Bool) := if a0.size < 4294967281 then some (⟨(Lib.cut a0.data.toList a1.data.toList).1.toArray⟩, ⟨(Lib.cut a0.data.toList a1.data.toList).2.1.toArray⟩, (Lib.cut a0.data.toList a1.data.toList).2.2) else none
theorem strings_Cut.calls (a0 a1 : ByteArray) (r1 r2 : ByteArray) (r3 : Bool) (w : World) (hgl : Glob w) (h : strings_Cut.f a0 a1 = some (r1, r2, r3)) :
  Calls Tryd.prog 46 #[.string a0,.string a1] w fun e w'=>e=.returned (.tuple #[.string r1,.string r2,.bool r3])∧Drawn0 w w':=by
 unfold strings_Cut.f at h
 split at h
 ·rename_i hs
  cases h
  obtain⟨m,hm⟩:=hgl.max
  refine(Tryd.strings_Cut a0 a1 m w hs hm).mono ?_
  rintro e w' ⟨rfl,n,rfl⟩
  exact⟨rfl,⟨⟨n,rfl⟩⟩⟩
 ·cases h


/-! ### impl_digits: function 59 -/
mutual
def impl_digits.j0 : Nat → ByteArray → Int → Bool → Option (Int × Bool)
 | 0, _, _, _ => none
 | k + 1, x0, x4, x12 => if x12 = true then (some (0, false)) else (impl_digits.l0 k x0 x4 (x0.size : Int) 0)
def impl_digits.l0 : Nat → ByteArray → Int → Int → Int → Option (Int × Bool)
 | 0, _, _, _, _ => none
 | k + 1, x0, x4, x14, x15 => if x15 < x14 then (if 0 ≤ x15 then (if x15 < (x0.size : Int) then (if (bt x0 x15) < 48 then (some (0, false)) else (if (bt x0 x15) > 57 then (some (0, false)) else (impl_digits.l0 k x0 (wrap64 ((wrap64 (10 * x4)) + (((bt x0 x15) - 48) % 256))) x14 (wrap64 (x15 + 1))))) else (none)) else (none)) else (some (x4, true))
end
def impl_digits.f (k : Nat) (a0 : ByteArray) : Option (Int × Bool) := if a0.toList = ([] : List UInt8) then (impl_digits.j0 k a0 0 true) else (impl_digits.j0 k a0 0 (decide ((a0.size : Int) > 9)))
theorem impl_digits.mono_l : ∀ k, (∀ y0 y1 y2, LeO (impl_digits.j0 k y0 y1 y2) (impl_digits.j0 (k + 1) y0 y1 y2)) ∧ (∀ y0 y1 y2 y3, LeO (impl_digits.l0 k y0 y1 y2 y3) (impl_digits.l0 (k + 1) y0 y1 y2 y3))
 | 0 => ⟨fun _ _ _ r h => by simp [impl_digits.j0] at h, fun _ _ _ _ r h => by simp [impl_digits.l0] at h⟩
 | k + 1 => by
  obtain⟨ih0,ih1⟩:=impl_digits.mono_l k
  refine⟨?_,?_⟩
  ·intro y0 y1 y2
   unfold impl_digits.j0
   repeat' first|(with_reducible first|exact ih0 _ _ _|exact ih1 _ _ _ _|exact LeO.refl _|exact LeO.none _|refine LeO.ite ?_ ?_|refine LeO.bind ?_ (fun _=>?_))|exact ih0 _ _ _|exact ih1 _ _ _ _|exact LeO.none _|refine LeO.ite ?_ ?_|refine LeO.bind ?_ (fun _=>?_)
  ·intro y0 y1 y2 y3
   unfold impl_digits.l0
   repeat' first|(with_reducible first|exact ih0 _ _ _|exact ih1 _ _ _ _|exact LeO.refl _|exact LeO.none _|refine LeO.ite ?_ ?_|refine LeO.bind ?_ (fun _=>?_))|exact ih0 _ _ _|exact ih1 _ _ _ _|exact LeO.none _|refine LeO.ite ?_ ?_|refine LeO.bind ?_ (fun _=>?_)
theorem impl_digits.mono : ∀ a0 k, LeO (impl_digits.f k a0) (impl_digits.f (k + 1) a0) := by
 intro a0 k
 obtain⟨ih0,ih1⟩:=impl_digits.mono_l k
 unfold impl_digits.f
 repeat' first|(with_reducible first|exact ih0 _ _ _|exact ih1 _ _ _ _|exact LeO.refl _|exact LeO.none _|refine LeO.ite ?_ ?_|refine LeO.bind ?_ (fun _=>?_))|exact ih0 _ _ _|exact ih1 _ _ _ _|exact LeO.none _|refine LeO.ite ?_ ?_|refine LeO.bind ?_ (fun _=>?_)
set_option maxHeartbeats 8000000 in
set_option maxRecDepth 100000 in
theorem impl_digits.calls (k : Nat) (a0 : ByteArray) (r1 : Int) (r2 : Bool) (w : World) (h : impl_digits.f k a0 = some (r1, r2)) :
  Calls Tryd.prog 59 #[.string a0] w fun e w'=>e=.returned (.tuple #[.int .i64 r1,.bool r2])∧Drawn0 w w':=by
 have H:(if a0.toList=([]:List UInt8) then (impl_digits.j0 k a0 0 true) else (impl_digits.j0 k a0 0 (decide ((a0.size:Int) > 9))))=some (r1,r2):=h
 clear h
 have HC2:=La H
 clear H
 go_enter Tryd.func59,Tryd.ntmps59
 go_upto_region 2 with (fail)
 go_cut [12] (fun v12 wc=>∃ (kq:Nat) (x12_1:Bool),v12=.bool x12_1∧Aside0 (impl_digits.j0 kq a0 0 x12_1=some (r1,r2))∧Aside0 (kq≤k)∧Drawn0 w wc)
 case first=>
  have H:=HC2.out
  clear HC2
  by_cases c3:a0.toList=([]:List UInt8)
  ·rw [if_pos c3] at H
   have c3b0:(a0.toList == ([]:List UInt8))=true:=beq_iff_eq.mpr c3
   have c3b1:(a0.toList != ([]:List UInt8))=false:=bne_eq_false_iff_eq.mpr c3
   clear c3
   (first|rw [c3b0]|(simp only [i64_w,i32_w];rw [c3b0])|skip)
   have H':=La H
   clear H
   go_wp2
   go_meet
   case rel=>exact⟨_,(true),(by first|rfl|(simp;done)|(simp [*];done)),H',⟨by first|omega|exact Nat.le_refl _⟩,by repeat(first|exact Drawn0.refl _|apply Drawn0.step)⟩
  ·rw [if_neg c3] at H
   have c3b0:(a0.toList == ([]:List UInt8))=false:=beq_eq_false_iff_ne.mpr c3
   have c3b1:(a0.toList != ([]:List UInt8))=true:=bne_iff_ne.mpr c3
   (first|rw [c3b0]|(simp only [i64_w,i32_w];rw [c3b0])|skip)
   have H':=La H
   clear H
   go_wp2
   go_meet
   case rel=>exact⟨_,(decide ((a0.size:Int) > 9)),(by first|rfl|(simp;done)|(simp [*];done)),H',⟨by first|omega|exact Nat.le_refl _⟩,by repeat(first|exact Drawn0.refl _|apply Drawn0.step)⟩
 case rest=>
  clear HC2;try clear p2;try clear c3;try clear c3b0;try clear c3b1
  obtain⟨kq,x12_1,rfl,HA,HJ1,⟨mc1,rfl⟩⟩:=hcut
  cases kq with
  | zero => exact absurd HA.out (by simp [impl_digits.j0])
  | succ kj1 =>
   have H:=HA.out
   clear HA
   simp only [impl_digits.j0] at H
   by_cases c4:x12_1=true
   ·subst c4
    rw[if_pos rfl] at H
    simp only [Option.some.injEq,Prod.mk.injEq] at H
    obtain⟨rfl,rfl⟩:=H
    go_wp2
    go_ret2
    exact⟨by first|rfl|(simp;done)|(simp [*];done),by repeat(first|exact Drawn0.refl _|apply Drawn0.step)⟩
   ·replace c4:=Bool.eq_false_iff.mpr c4
    subst c4
    have H1:(impl_digits.l0 kj1 a0 0 (a0.size:Int) 0)=some (r1,r2):=by rw [if_neg (show ¬ (false=true) by decide)] at H;exact H
    clear H
    have H:=H1
    clear H1
    have H':=La H
    clear H
    go_wp2
    go_loopg [4,15] kj1 (fun kq v4 v15 w'=>∃ (x4_2:Int) (x15_2:Int),v4=.int .i64 x4_2∧v15=.int .i64 x15_2∧Aside0 (impl_digits.l0 kq a0 x4_2 (a0.size:Int) x15_2=some (r1,r2))∧Aside0 (kq≤kj1)∧Drawn0 w w')
    case atStart=>exact⟨(0),(0),(by first|rfl|(simp;done)|(simp [*];done)),(by first|rfl|(simp;done)|(simp [*];done)),H',⟨Nat.le_refl _⟩,by repeat(first|exact Drawn0.refl _|apply Drawn0.step)⟩
    case round=>
     clear H';try clear c1;try clear p2;try clear c3;try clear c3b0;try clear c3b1;try clear c4;try clear p2
     obtain⟨x4_2,x15_2,rfl,rfl,HA,HK2,⟨m2,rfl⟩⟩:=hrel
     cases gk with
     | zero => exact absurd HA.out (by simp [impl_digits.l0])
     | succ k2 =>
      have H:=HA.out
      clear HA
      simp only [impl_digits.l0] at H
      by_cases c5:x15_2 < (a0.size:Int)
      ·rw [if_pos c5] at H
       have c5b0:=decide_eq_true c5
       clear c5
       by_cases c6:0≤x15_2
       case neg=>rw[if_neg c6] at H;exact absurd H (by simp)
       rw[if_pos c6] at H
       have c6b0:=decide_eq_true c6
       clear c6
       by_cases c7:x15_2 < (a0.size:Int)
       case neg=>rw[if_neg c7] at H;exact absurd H (by simp)
       rw[if_pos c7] at H
       have c7b0:=decide_eq_true c7
       clear c7
       by_cases c9:(bt a0 x15_2) < 48
       ·rw [if_pos c9] at H
        have c9b0:=decide_eq_true c9
        clear c9
        simp only [Option.some.injEq,Prod.mk.injEq] at H
        obtain⟨rfl,rfl⟩:=H
        have p8:0≤(x15_2:Int):=of_decide_eq_true (by first|(with_reducible assumption)|assumption)
        have q8:x15_2 < (a0.size:Int):=of_decide_eq_true (by first|(with_reducible assumption)|assumption)
        have hx8:=bt_at a0 x15_2
        replace p8:=eq_true p8
        replace q8:=eq_true q8
        go_wp2
        go_ret2
        exact⟨by first|rfl|(simp;done)|(simp [*];done),by repeat(first|exact Drawn0.refl _|apply Drawn0.step)⟩
       ·rw [if_neg c9] at H
        have c9b0:=decide_eq_false c9
        clear c9
        by_cases c11:(bt a0 x15_2) > 57
        ·rw [if_pos c11] at H
         have c11b0:=decide_eq_true c11
         clear c11
         simp only [Option.some.injEq,Prod.mk.injEq] at H
         obtain⟨rfl,rfl⟩:=H
         have p8:0≤(x15_2:Int):=of_decide_eq_true (by first|(with_reducible assumption)|assumption)
         have q8:x15_2 < (a0.size:Int):=of_decide_eq_true (by first|(with_reducible assumption)|assumption)
         have hx8:=bt_at a0 x15_2
         replace p8:=eq_true p8
         replace q8:=eq_true q8
         have p10:0≤(x15_2:Int):=of_decide_eq_true (by first|(with_reducible assumption)|assumption)
         have q10:x15_2 < (a0.size:Int):=of_decide_eq_true (by first|(with_reducible assumption)|assumption)
         have hx10:=bt_at a0 x15_2
         replace p10:=eq_true p10
         replace q10:=eq_true q10
         go_wp2
         go_ret2
         exact⟨by first|rfl|(simp;done)|(simp [*];done),by repeat(first|exact Drawn0.refl _|apply Drawn0.step)⟩
        ·rw [if_neg c11] at H
         have c11b0:=decide_eq_false c11
         clear c11
         have H':=La H
         clear H
         have p8:0≤(x15_2:Int):=of_decide_eq_true (by first|(with_reducible assumption)|assumption)
         have q8:x15_2 < (a0.size:Int):=of_decide_eq_true (by first|(with_reducible assumption)|assumption)
         have hx8:=bt_at a0 x15_2
         replace p8:=eq_true p8
         replace q8:=eq_true q8
         have p10:0≤(x15_2:Int):=of_decide_eq_true (by first|(with_reducible assumption)|assumption)
         have q10:x15_2 < (a0.size:Int):=of_decide_eq_true (by first|(with_reducible assumption)|assumption)
         have hx10:=bt_at a0 x15_2
         replace p10:=eq_true p10
         replace q10:=eq_true q10
         have p12:0≤(x15_2:Int):=of_decide_eq_true (by first|(with_reducible assumption)|assumption)
         have q12:x15_2 < (a0.size:Int):=of_decide_eq_true (by first|(with_reducible assumption)|assumption)
         have hx12:=bt_at a0 x15_2
         replace p12:=eq_true p12
         replace q12:=eq_true q12
         go_wp2
         go_roundg k2
         case measure=>have:=HJ1.out;have:=HK2.out;omega
         case rel=>exact⟨(wrap64 ((wrap64 (10*x4_2))+(((bt a0 x15_2) - 48) % 256))),(wrap64 (x15_2+1)),(by first|rfl|(simp;done)|(simp [*];done)),(by first|rfl|(simp;done)|(simp [*];done)),H',⟨by have:=HJ1.out;have:=HK2.out;omega⟩,by repeat(first|exact Drawn0.refl _|apply Drawn0.step)⟩
      ·rw [if_neg c5] at H
       have c5b0:=decide_eq_false c5
       clear c5
       simp only [Option.some.injEq,Prod.mk.injEq] at H
       obtain⟨rfl,rfl⟩:=H
       go_wp2
       go_ret2
       exact⟨by first|rfl|(simp;done)|(simp [*];done),by repeat(first|exact Drawn0.refl _|apply Drawn0.step)⟩

/-! ### impl_milliOf: function 47 -/
def impl_milliOf.l0 : Nat → ByteArray → Int → List ByteArray → Int → Int → Option (Int × Bool)
 | 0, _, _, _, _, _ => none
 | k + 1, x0, x4, x20, x21, x22 => if x22 < x21 then (if 0 ≤ x22 then (if x22 < (x20.length : Int) then ((impl_digits.f k (rdOf ByteArray.empty x20 x22)).bind fun bt223 => (if bt223.2 = true then ((some (([1, 60, 60, 1000] : List Int) : List Int)).bind fun y225 => (if x22 < (y225.length : Int) then (impl_milliOf.l0 k x0 (wrap64 ((wrap64 (x4 * (rd y225 x22))) + bt223.1)) x20 x21 (wrap64 (x22 + 1))) else (none))) else (some (0, false)))) else (none)) else (none)) else ((impl_milliText.f x4).bind fun t229 => (some (x4, (t229.toList == x0.toList))))
def impl_milliOf.f (k : Nat) (a0 : ByteArray) : Option (Int × Bool) := if (a0.size : Int) = 12 then (if 0 ≤ 2 then (if 2 ≤ (a0.size : Int) then (if 3 ≤ 5 then (if 5 ≤ (a0.size : Int) then (if 6 ≤ 8 then (if 8 ≤ (a0.size : Int) then (if 9 ≤ (a0.size : Int) then ((some (([a0.extract 0 2, a0.extract 3 5, a0.extract 6 8, a0.extract 9 a0.size] : List ByteArray) : List ByteArray)).bind fun y219 => (impl_milliOf.l0 k a0 0 y219 (y219.length : Int) 0)) else (none)) else (none)) else (none)) else (none)) else (none)) else (none)) else (none)) else (some (0, false))
theorem impl_milliOf.mono_l : ∀ k, (∀ y0 y1 y2 y3 y4, LeO (impl_milliOf.l0 k y0 y1 y2 y3 y4) (impl_milliOf.l0 (k + 1) y0 y1 y2 y3 y4))
 | 0 => fun _ _ _ _ _ r h => by simp [impl_milliOf.l0] at h
 | k + 1 => by
  have ih0:=impl_milliOf.mono_l k
  ·intro y0 y1 y2 y3 y4
   unfold impl_milliOf.l0
   repeat' first|(with_reducible first|exact ih0 _ _ _ _ _|exact impl_digits.mono _ _|exact LeO.refl _|exact LeO.none _|refine LeO.ite ?_ ?_|refine LeO.bind ?_ (fun _=>?_))|exact ih0 _ _ _ _ _|exact impl_digits.mono _ _|exact LeO.none _|refine LeO.ite ?_ ?_|refine LeO.bind ?_ (fun _=>?_)
theorem impl_milliOf.mono : ∀ a0 k, LeO (impl_milliOf.f k a0) (impl_milliOf.f (k + 1) a0) := by
 intro a0 k
 have ih0:=impl_milliOf.mono_l k
 unfold impl_milliOf.f
 repeat' first|(with_reducible first|exact ih0 _ _ _ _ _|exact impl_digits.mono _ _|exact LeO.refl _|exact LeO.none _|refine LeO.ite ?_ ?_|refine LeO.bind ?_ (fun _=>?_))|exact ih0 _ _ _ _ _|exact impl_digits.mono _ _|exact LeO.none _|refine LeO.ite ?_ ?_|refine LeO.bind ?_ (fun _=>?_)
def impl_milliOf.T4 : Bool × List (List Nat × List Nat) := (true, [([], []), ([0], [0]), ([], []), ([2], [2]), ([], []), ([4], [4]), ([], []), ([6], [6]), ([1, 3, 5, 7], [1, 3, 5, 7]), ([8], [8]), ([], [])])
def impl_milliOf.B4 : List Nat := [0, 1, 0, 4, 0, 16, 0, 64, 255, 511, 0]
theorem impl_milliOf.tab4 : rtab .any (opsOf Tryd.f47 4) = impl_milliOf.T4 := by kernel_rfl
theorem impl_milliOf.bits4 : waitsOk impl_milliOf.T4.2 impl_milliOf.B4 = true := by kernel_rfl
set_option maxHeartbeats 8000000 in
set_option maxRecDepth 100000 in
theorem impl_milliOf.calls (k : Nat) (a0 : ByteArray) (r1 : Int) (r2 : Bool) (w : World) (hgl : Glob w) (h : impl_milliOf.f k a0 = some (r1, r2)) :
  Calls Tryd.prog 47 #[.string a0] w fun e w'=>e=.returned (.tuple #[.int .i64 r1,.bool r2])∧Below w.heap.size w w':=by
 have HGL:=La hgl
 clear hgl
 have HB:=La (Below.refl w.heap.size w)
 have H:(if (a0.size:Int)=12 then (if 0≤2 then (if 2≤(a0.size:Int) then (if 3≤5 then (if 5≤(a0.size:Int) then (if 6≤8 then (if 8≤(a0.size:Int) then (if 9≤(a0.size:Int) then ((some (([a0.extract 0 2,a0.extract 3 5,a0.extract 6 8,a0.extract 9 a0.size]:List ByteArray):List ByteArray)).bind fun y219=>(impl_milliOf.l0 k a0 0 y219 (y219.length:Int) 0)) else (none)) else (none)) else (none)) else (none)) else (none)) else (none)) else (none)) else (some (0,false)))=some (r1,r2):=h
 clear h
 by_cases c2:(a0.size:Int)=12
 ·rw [if_pos c2] at H
  have c2b0:((a0.size:Int) == 12)=true:=beq_iff_eq.mpr c2
  have c2b1:((a0.size:Int) != 12)=false:=bne_eq_false_iff_eq.mpr c2
  clear c2
  by_cases c3:0≤2
  case neg=>rw[if_neg c3] at H;exact absurd H (by simp)
  rw[if_pos c3] at H
  have c3b0:=eq_true c3
  have c3b1:decide (0≤2)=true:=decide_eq_true c3
  clear c3
  by_cases c4:2≤(a0.size:Int)
  case neg=>rw[if_neg c4] at H;exact absurd H (by simp)
  rw[if_pos c4] at H
  have c4b0:=eq_true c4
  have c4b1:decide (2≤(a0.size:Int))=true:=decide_eq_true c4
  clear c4
  by_cases c5:3≤5
  case neg=>rw[if_neg c5] at H;exact absurd H (by simp)
  rw[if_pos c5] at H
  have c5b0:=eq_true c5
  have c5b1:decide (3≤5)=true:=decide_eq_true c5
  clear c5
  by_cases c6:5≤(a0.size:Int)
  case neg=>rw[if_neg c6] at H;exact absurd H (by simp)
  rw[if_pos c6] at H
  have c6b0:=eq_true c6
  have c6b1:decide (5≤(a0.size:Int))=true:=decide_eq_true c6
  clear c6
  by_cases c7:6≤8
  case neg=>rw[if_neg c7] at H;exact absurd H (by simp)
  rw[if_pos c7] at H
  have c7b0:=eq_true c7
  have c7b1:decide (6≤8)=true:=decide_eq_true c7
  clear c7
  by_cases c8:8≤(a0.size:Int)
  case neg=>rw[if_neg c8] at H;exact absurd H (by simp)
  rw[if_pos c8] at H
  have c8b0:=eq_true c8
  have c8b1:decide (8≤(a0.size:Int))=true:=decide_eq_true c8
  clear c8
  by_cases c9:9≤(a0.size:Int)
  case neg=>rw[if_neg c9] at H;exact absurd H (by simp)
  rw[if_pos c9] at H
  have c9b0:=eq_true c9
  have c9b1:decide (9≤(a0.size:Int))=true:=decide_eq_true c9
  clear c9
  obtain⟨y219,hy219⟩:∃ y_:List ByteArray,y_=(([a0.extract 0 2,a0.extract 3 5,a0.extract 6 8,a0.extract 9 a0.size]:List ByteArray)):=⟨_,rfl⟩
  replace H:(impl_milliOf.l0 k a0 0 y219 (y219.length:Int) 0)=some (r1,r2):=by first|(rw [hy219];with_reducible exact H)|(have H2_:=(Option.bind_some _ _).symm.trans H;rw [hy219];with_reducible exact H2_)|(have H2_:=(Option.bind_some _ _).symm.trans H;with_reducible exact H2_)|with_reducible exact H|(rw [hy219];exact H)|exact H
  have Ny219:=La hy219
  clear hy219
  have H':=La H
  clear H
  go_enter Tryd.func47,Tryd.ntmps47
  try go_wp2
  have n0_:=La (below_drew1 HB.out)
  clear HB
  have HB:=n0_
  clear n0_
  refine start_ (n:=11) (S:=fun w'=>True) (ds:=[]) #[false,false,false,false,false,false,false,false,false,false,false] (by kernel_rfl) rfl rfl trivial (fun hHeld=>?_);refine with_tabW impl_milliOf.tab4 impl_milliOf.bits4 (fun HT_ HW_=>?_)
  generalize w.drew=w10 at HB hHeld ⊢
  refine pz 0 12 (bm 11 1) HT_ ?_
  refine pz 1 13 (bm 11 3) HT_ ?_
  refine pz 2 14 (bm 11 7) HT_ ?_
  refine pz 3 15 (bm 11 15) HT_ ?_
  refine pz 4 16 (bm 11 31) HT_ ?_
  refine pz 5 17 (bm 11 63) HT_ ?_
  refine pz 6 18 (bm 11 127) HT_ ?_
  refine pz 7 19 (bm 11 255) HT_ ?_
  refine pz 10 22 (bm 11 1279) HT_ ?_
  refine one_ (i:=8) (N:=some 20) (bm 11 1535) rfl rfl (one_of HT_.out (by kernel_rfl)) (by decide) (fun K hK=>?_)
  refine Kd.R_lit_step Kd.string _ 9 ?hg (N:=20) ?hd (xs:=([a0.extract 0 2,a0.extract 3 5,a0.extract 6 8,a0.extract 9 a0.size]:List ByteArray)) (inner:=[.string (a0.extract 0 2),.string (a0.extract 3 5),.string (a0.extract 6 8),.string (a0.extract 9 a0.size)]) (ok:=fun _=>True) (okp:=fun _=>True) ?hr ?hp (fun _ hk=>hk) trivial (Below.refl _ _) (Nat.le_refl _) (by simp) ?_;(case hd=>rfl);(case hg=>rfl);(case hr=>first|(go_simp;done)|(go_simp;rfl));(case hp=>exact(Reps.one (show Kd.M Kd.string _ _ _ (a0.extract 0 2) [.string (a0.extract 0 2)] from rfl) (Reps.one (show Kd.M Kd.string _ _ _ (a0.extract 3 5) [.string (a0.extract 3 5)] from rfl) (Reps.one (show Kd.M Kd.string _ _ _ (a0.extract 6 8) [.string (a0.extract 6 8)] from rfl) (Reps.one (show Kd.M Kd.string _ _ _ (a0.extract 9 a0.size) [.string (a0.extract 9 a0.size)] from rfl) (Reps.none _ _))))))
  intro v220 w11 ho12 hb hg_ hnew_
  clear hg_ hnew_
  (first|rw [← Ny219.out] at ho12|(simp only [Int.reduceToNat] at ho12;rw [← Ny219.out] at ho12))
  have n0_:=La (Kd.R_lower ho12 (below_size (by repeat(first|(with_reducible first|exact HB.out|apply below_alloc|apply pw_below_drewN|apply below_drew1)|exact HB.out))))
  have n1_:=La (below_step (by repeat(first|(with_reducible first|exact HB.out|apply below_alloc|apply pw_below_drewN|apply below_drew1)|exact HB.out)) hb)
  clear HB
  have HO221:=n0_
  have HB:=n1_
  clear n0_ n1_
  clear hb ho12
  obtain⟨Ao13,co13,eo13⟩:=Kd.R_slice HO221.out
  (first|subst eo13|(injection eo13 with f1_ f2_ f3_;have f4_:=f1_.symm;have f5_:=f3_.symm;clear f1_ f2_ f3_;subst f4_;subst f5_))
  refine hK.out _ _ trivial (fun hHeld=>?_)
  clear hK K
  refine norm_ (a':=?_) ?_ ?_;rotate_left;(show Act.put _ (some 20) _=_;simp only[pw];rfl)
  refine pz 9 21 (bm 11 2047) HT_ ?_
  refine done_ (done_of HT_.out (by kernel_rfl)) ?_
  try go_wp2
  go_loopg [4,22] k (fun kq v4 v22 w'=>∃ (x4_1:Int) (qa:Int),v4=.int .i64 x4_1∧v22=.int .i64 qa∧Aside0 (impl_milliOf.l0 kq a0 x4_1 y219 (y219.length:Int) qa=some (r1,r2))∧Aside0 (kq≤k)∧Aside0 (Kd.R Kd.string 9 w' w.heap.size (fun _=>True) (.slice Ao13 y219.length co13) y219)∧Aside0 (Below w.heap.size w w'))
  case atStart=>exact⟨(0),(0),(by first|rfl|(simp;done)|(simp [*];done)),(by first|rfl|(simp;done)|(simp [*];done)),H',⟨Nat.le_refl _⟩,⟨by(with_reducible repeat(first|apply Kd.R_alloc|apply Kd.R_drewN|apply Kd.R_drew));exact HO221.out⟩,⟨by repeat(first|(with_reducible first|exact HB.out|apply below_alloc|apply pw_below_drewN|apply below_drew1)|exact HB.out)⟩⟩
  case round=>
   clear H';try clear c2;try clear c2b0;try clear c2b1;try clear p2;try clear c3;try clear c3b0;try clear c3b1;try clear c4;try clear c4b0;try clear c4b1;try clear c5;try clear c5b0;try clear c5b1;try clear c6;try clear c6b0;try clear c6b1;try clear c7;try clear c7b0;try clear c7b1;try clear c8;try clear c8b0;try clear c8b1;try clear c9;try clear c9b0;try clear c9b1
   obtain⟨x4_1,qa,rfl,rfl,HA,HK1,qb,HB⟩:=hrel
   cases gk with
   | zero => exact absurd HA.out (by simp [impl_milliOf.l0])
   | succ k1 =>
    have H:=HA.out
    clear HA
    simp only [impl_milliOf.l0] at H
    by_cases c14:qa < (y219.length:Int)
    ·rw [if_pos c14] at H
     have c14b0:=decide_eq_true c14
     clear c14
     by_cases c15:0≤qa
     case neg=>rw[if_neg c15] at H;exact absurd H (by simp)
     rw[if_pos c15] at H
     have c15b0:=decide_eq_true c15
     clear c15
     by_cases c16:qa < (y219.length:Int)
     case neg=>rw[if_neg c16] at H;exact absurd H (by simp)
     rw[if_pos c16] at H
     have c16b0:=decide_eq_true c16
     clear c16
     replace H:=Option.bind_eq_some_iff.mp H
     obtain⟨⟨t223,t224⟩,A170,H⟩:=H
     try dsimp only at H
     have A17:=La A170
     clear A170
     by_cases c18:t224=true
     ·subst c18
      rw[if_pos rfl] at H
      obtain⟨y225,hy225⟩:∃ y_:List Int,y_=(([1,60,60,1000]:List Int)):=⟨_,rfl⟩
      replace H:(if qa < (y225.length:Int) then (impl_milliOf.l0 k1 a0 (wrap64 ((wrap64 (x4_1*(rd y225 qa)))+t223)) y219 (y219.length:Int) (wrap64 (qa+1))) else (none))=some (r1,r2):=by first|(rw [hy225];with_reducible exact H)|(have H2_:=(Option.bind_some _ _).symm.trans H;rw [hy225];with_reducible exact H2_)|(have H2_:=(Option.bind_some _ _).symm.trans H;with_reducible exact H2_)|with_reducible exact H|(rw [hy225];exact H)|exact H
      have Ny225:=La hy225
      clear hy225
      by_cases c19:qa < (y225.length:Int)
      case neg=>rw[if_neg c19] at H;exact absurd H (by simp)
      rw[if_pos c19] at H
      have c19b0:=decide_eq_true c19
      clear c19
      have H':=La H
      clear H
      have p222:0≤(qa:Int):=of_decide_eq_true (by first|(with_reducible assumption)|assumption)
      have q222:qa < (y219.length:Int):=of_decide_eq_true (by first|(with_reducible assumption)|assumption)
      obtain⟨ad222,e222,hx222_0⟩:=Kd.at_string (Kd.R_reads' qb.out).2.2 qa p222 q222
      cases e222
      replace p222:=eq_true p222
      replace q222:=eq_true q222
      go_wp2_with (first|((with_reducible refine gate_callee (f:=59) rfl ?_);refine goesL_ (some 29) rfl rfl Tryd.func59 (by kernel_rfl) rfl #[.string (rdOf ByteArray.empty y219 qa)] rfl (by(try simp only [List.map_toArray,List.map_cons,List.map_nil]);first|done|rfl|(simp only [List.length_drop,List.length_take];rfl)) ?_;(with_reducible refine(impl_digits.calls k1 (rdOf ByteArray.empty y219 qa) t223 true _ A17.out).mono ?_);rintro e w' ⟨rfl,⟨nd,rfl⟩⟩;refine⟨_,rfl,?_⟩)|((with_reducible refine gate_dst (N:=35) rfl ?_);refine Kd.R_lit (Kd.int .i64) _ 2 ?hg (N:=35) ?hd (xs:=([1,60,60,1000]:List Int)) (inner:=[.int .i64 1,.int .i64 60,.int .i64 60,.int .i64 1000]) (ok:=fun _=>True) (okp:=fun _=>True) ?hr ?hp (fun _ hk=>hk) trivial (Below.refl _ _) (Nat.le_refl _) (by simp) ?_;(case hd=>rfl);(case hg=>rfl);(case hr=>first|(go_simp;done)|(go_simp;rfl));(case hp=>exact(Reps.one (show Kd.M (Kd.int .i64) _ _ _ 1 [.int .i64 1] from rfl) (Reps.one (show Kd.M (Kd.int .i64) _ _ _ 60 [.int .i64 60] from rfl) (Reps.one (show Kd.M (Kd.int .i64) _ _ _ 60 [.int .i64 60] from rfl) (Reps.one (show Kd.M (Kd.int .i64) _ _ _ 1000 [.int .i64 1000] from rfl) (Reps.none _ _))))));intro v226 w20 ho21 hb hg_ hnew_;clear hg_ hnew_;(first|rw [← Ny225.out] at ho21|(simp only [Int.reduceToNat] at ho21;rw [← Ny225.out] at ho21));have n0_:=La (Kd.R_below (by(with_reducible repeat(first|apply Kd.R_alloc|apply Kd.R_drewN|apply Kd.R_drew));exact qb.out) hb);have n1_:=La (Kd.R_lower ho21 (below_size (by repeat(first|(with_reducible first|exact HB.out|apply below_alloc|apply pw_below_drewN|apply below_drew1)|exact HB.out))));have n2_:=La (below_step (by repeat(first|(with_reducible first|exact HB.out|apply below_alloc|apply pw_below_drewN|apply below_drew1)|exact HB.out)) hb);clear qb;clear HB;have qb:=n0_;have HO227:=n1_;have HB:=n2_;clear n0_ n1_ n2_;clear hb ho21;obtain⟨Ao22,co22,eo22⟩:=Kd.R_slice HO227.out;subst eo22;have p228:0≤(qa:Int):=of_decide_eq_true (by first|(with_reducible assumption)|assumption);have q228:qa < (y225.length:Int):=of_decide_eq_true (by first|(with_reducible assumption)|assumption);obtain⟨ad228,e228,hx228_0⟩:=Kd.at_int (Kd.R_reads' HO227.out).2.2 qa p228 q228;cases e228;replace p228:=eq_true p228;replace q228:=eq_true q228))
      go_roundg k1
      case measure=>have:=HK1.out;omega
      case rel=>exact⟨(wrap64 ((wrap64 (x4_1*(rd y225 qa)))+t223)),(wrap64 (qa+1)),(by first|rfl|(simp;done)|(simp [*];done)),(by first|rfl|(simp;done)|(simp [*];done)),H',⟨by have:=HK1.out;omega⟩,⟨by(with_reducible repeat(first|apply Kd.R_alloc|apply Kd.R_drewN|apply Kd.R_drew));exact qb.out⟩,⟨by repeat(first|(with_reducible first|exact HB.out|apply below_alloc|apply pw_below_drewN|apply below_drew1)|exact HB.out)⟩⟩
     ·replace c18:=Bool.eq_false_iff.mpr c18
      subst c18
      have H1:(some (0,false))=some (r1,r2):=by rw [if_neg (show ¬ (false=true) by decide)] at H;exact H
      clear H
      have H:=H1
      clear H1
      simp only [Option.some.injEq,Prod.mk.injEq] at H
      obtain⟨rfl,rfl⟩:=H
      have p222:0≤(qa:Int):=of_decide_eq_true (by first|(with_reducible assumption)|assumption)
      have q222:qa < (y219.length:Int):=of_decide_eq_true (by first|(with_reducible assumption)|assumption)
      obtain⟨ad222,e222,hx222_0⟩:=Kd.at_string (Kd.R_reads' qb.out).2.2 qa p222 q222
      cases e222
      replace p222:=eq_true p222
      replace q222:=eq_true q222
      go_wp2_with (first|((with_reducible refine gate_callee (f:=59) rfl ?_);refine goesL_ (some 29) rfl rfl Tryd.func59 (by kernel_rfl) rfl #[.string (rdOf ByteArray.empty y219 qa)] rfl (by(try simp only [List.map_toArray,List.map_cons,List.map_nil]);first|done|rfl|(simp only [List.length_drop,List.length_take];rfl)) ?_;(with_reducible refine(impl_digits.calls k1 (rdOf ByteArray.empty y219 qa) t223 false _ A17.out).mono ?_);rintro e w' ⟨rfl,⟨nd,rfl⟩⟩;refine⟨_,rfl,?_⟩))
      go_ret2
      exact⟨by first|rfl|(simp [errW_none,errW_some] <;> rfl)|(simp [*,errW_none,errW_some] <;> rfl),by repeat(first|(with_reducible first|exact HB.out|apply below_alloc|apply pw_below_drewN|apply below_drew1)|exact HB.out)⟩
    ·rw [if_neg c14] at H
     have c14b0:=decide_eq_false c14
     clear c14
     replace H:=Option.bind_eq_some_iff.mp H
     obtain⟨t229,A230,H⟩:=H
     try dsimp only at H
     have A23:=La A230
     clear A230
     simp only [Option.some.injEq,Prod.mk.injEq] at H
     obtain⟨rfl,rfl⟩:=H
     go_wp2_with (first|((with_reducible refine gate_callee (f:=27) rfl ?_);refine goesL_ (some 45) rfl rfl Tryd.func27 (by kernel_rfl) rfl #[.int .i64 x4_1] rfl (by(try simp only [List.map_toArray,List.map_cons,List.map_nil]);first|done|rfl|(simp only [List.length_drop,List.length_take];rfl)) ?_;(with_reducible refine(impl_milliText.calls x4_1 t229 _ (by first|exact HGL.out|((repeat(with_reducible refine Glob.drewN ?_));exact HGL.out)|exact Glob.below HGL.out (by repeat(first|(with_reducible first|exact HB.out|apply below_alloc|apply pw_below_drewN|apply below_drew1)|exact HB.out))) A23.out).mono ?_);rintro e w24 ⟨rfl,hb⟩;refine⟨_,rfl,?_⟩;have n0_:=La (Kd.R_below (by(with_reducible repeat(first|apply Kd.R_alloc|apply Kd.R_drewN|apply Kd.R_drew));exact qb.out) hb);have n1_:=La (below_step (by repeat(first|(with_reducible first|exact HB.out|apply below_alloc|apply pw_below_drewN|apply below_drew1)|exact HB.out)) hb);clear qb;clear HB;have qb:=n0_;have HB:=n1_;clear n0_ n1_;(try clear hb);(try clear hb2);(try clear hk);(try clear hi)))
     go_ret2
     exact⟨by first|rfl|(simp [errW_none,errW_some] <;> rfl)|(simp [*,errW_none,errW_some] <;> rfl),by repeat(first|(with_reducible first|exact HB.out|apply below_alloc|apply pw_below_drewN|apply below_drew1)|exact HB.out)⟩
 ·rw [if_neg c2] at H
  have c2b0:((a0.size:Int) == 12)=false:=beq_eq_false_iff_ne.mpr c2
  have c2b1:((a0.size:Int) != 12)=true:=bne_iff_ne.mpr c2
  simp only [Option.some.injEq,Prod.mk.injEq] at H
  obtain⟨rfl,rfl⟩:=H
  go_enter Tryd.func47,Tryd.ntmps47
  go_wp2
  go_ret2
  exact⟨by first|rfl|(simp [errW_none,errW_some] <;> rfl)|(simp [*,errW_none,errW_some] <;> rfl),by repeat(first|(with_reducible first|exact HB.out|apply below_alloc|apply pw_below_drewN|apply below_drew1)|exact HB.out)⟩

end Go.Proofs.YtidogkjhjmcliaaDoor.HFnTitlesBack
