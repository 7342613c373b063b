-- Laid by myprint.py, a program of this repo, out of the kit's printer and this repo's own texts (wip/hand).
import Derived.Test.YtelcpfanjjfgdaaHFnPackedx0
namespace Go.Proofs.Ytelcpfanjjfgdaa.HFnPacked
open Go.RowKit Go.Proofs.YtelcpfanjjfgdaaW.PrintWords Go.Proofs.YtelcpfanjjfgdaaW.PrintLast Go.Proofs.YtelcpfanjjfgdaaW.PrintMore
attribute [local go_sem] max2_int min2_int max_two min_two max_three min_three max_four min_four   -- for this text's walks alone
set_option linter.unusedVariables false
set_option linter.unusedSimpArgs false
theorem Ca : type_of% @Drawn0.refl := @Drawn0.refl
theorem Cb : type_of% @Drawn0.step := @Drawn0.step

/-! ### impl_in: function 56 -/
def impl_in.f (a0 : Int) (a1 : Int) (a2 : Int) : Option (Bool) := if a1 ≤ a0 then (some (decide (a0 ≤ a2))) else (some false)
set_option maxHeartbeats 8000000 in
set_option maxRecDepth 100000 in
theorem impl_in.calls (a0 : Int) (a1 : Int) (a2 : Int) (r : Bool) (w : World) (h : impl_in.f a0 a1 a2 = some r) :
  Calls Try.prog 56 #[.int .i64 a0,.int .i64 a1,.int .i64 a2] w fun e w'=>e=.returned (.bool r)∧Drawn0 w w':=by
 have H:(if a1≤a0 then (some (decide (a0≤a2))) else (some false))=some r:=h
 clear h
 by_cases c4:a1≤a0
 ·rw [if_pos c4] at H
  have c4b0:decide (a1≤a0)=true:=decide_eq_true c4
  clear c4
  obtain rfl:=Option.some.inj H
  go_enter Try.func56,Try.ntmps56
  go_wp2
  go_ret
  exact⟨by first|rfl|(simp;done)|(simp [*];done),by repeat(first|exact Ca _|apply Cb)⟩
 ·rw [if_neg c4] at H
  have c4b0:decide (a1≤a0)=false:=decide_eq_false c4
  clear c4
  obtain rfl:=Option.some.inj H
  go_enter Try.func56,Try.ntmps56
  go_wp2
  go_ret
  exact⟨by first|rfl|(simp;done)|(simp [*];done),by repeat(first|exact Ca _|apply Cb)⟩

/-! ### impl_isLetter: function 83 -/
def impl_isLetter.f (a0 : Int) : Option (Bool) := if 97 ≤ a0 then (if a0 ≤ 122 then (some true) else (if 65 ≤ a0 then (some (decide (a0 ≤ 90))) else (some false))) else (if 65 ≤ a0 then (some (decide (a0 ≤ 90))) else (some false))
set_option maxHeartbeats 8000000 in
set_option maxRecDepth 100000 in
theorem impl_isLetter.calls (a0 : Int) (r : Bool) (w : World) (h : impl_isLetter.f a0 = some r) :
  Calls Try.prog 83 #[.int .u8 a0] w fun e w'=>e=.returned (.bool r)∧Drawn0 w w':=by
 have H:(if 97≤a0 then (if a0≤122 then (some true) else (if 65≤a0 then (some (decide (a0≤90))) else (some false))) else (if 65≤a0 then (some (decide (a0≤90))) else (some false)))=some r:=h
 clear h
 by_cases c2:97≤a0
 ·rw [if_pos c2] at H
  have c2b0:decide (97≤a0)=true:=decide_eq_true c2
  clear c2
  by_cases c3:a0≤122
  ·rw [if_pos c3] at H
   have c3b0:decide (a0≤122)=true:=decide_eq_true c3
   clear c3
   obtain rfl:=Option.some.inj H
   go_enter Try.func83,Try.ntmps83
   go_wp2
   go_ret
   exact⟨by first|rfl|(simp;done)|(simp [*];done),by repeat(first|exact Ca _|apply Cb)⟩
  ·rw [if_neg c3] at H
   have c3b0:decide (a0≤122)=false:=decide_eq_false c3
   clear c3
   by_cases c4:65≤a0
   ·rw [if_pos c4] at H
    have c4b0:decide (65≤a0)=true:=decide_eq_true c4
    clear c4
    obtain rfl:=Option.some.inj H
    go_enter Try.func83,Try.ntmps83
    go_wp2
    go_ret
    exact⟨by first|rfl|(simp;done)|(simp [*];done),by repeat(first|exact Ca _|apply Cb)⟩
   ·rw [if_neg c4] at H
    have c4b0:decide (65≤a0)=false:=decide_eq_false c4
    clear c4
    obtain rfl:=Option.some.inj H
    go_enter Try.func83,Try.ntmps83
    go_wp2
    go_ret
    exact⟨by first|rfl|(simp;done)|(simp [*];done),by repeat(first|exact Ca _|apply Cb)⟩
 ·rw [if_neg c2] at H
  have c2b0:decide (97≤a0)=false:=decide_eq_false c2
  clear c2
  by_cases c5:65≤a0
  ·rw [if_pos c5] at H
   have c5b0:decide (65≤a0)=true:=decide_eq_true c5
   clear c5
   obtain rfl:=Option.some.inj H
   go_enter Try.func83,Try.ntmps83
   go_wp2
   go_ret
   exact⟨by first|rfl|(simp;done)|(simp [*];done),by repeat(first|exact Ca _|apply Cb)⟩
  ·rw [if_neg c5] at H
   have c5b0:decide (65≤a0)=false:=decide_eq_false c5
   clear c5
   obtain rfl:=Option.some.inj H
   go_enter Try.func83,Try.ntmps83
   go_wp2
   go_ret
   exact⟨by first|rfl|(simp;done)|(simp [*];done),by repeat(first|exact Ca _|apply Cb)⟩

/-! ### impl_isDigit: function 84 -/
def impl_isDigit.f (a0 : Int) : Option (Bool) := if 48 ≤ a0 then (some (decide (a0 ≤ 57))) else (some false)
set_option maxHeartbeats 8000000 in
set_option maxRecDepth 100000 in
theorem impl_isDigit.calls (a0 : Int) (r : Bool) (w : World) (h : impl_isDigit.f a0 = some r) :
  Calls Try.prog 84 #[.int .u8 a0] w fun e w'=>e=.returned (.bool r)∧Drawn0 w w':=by
 have H:(if 48≤a0 then (some (decide (a0≤57))) else (some false))=some r:=h
 clear h
 by_cases c2:48≤a0
 ·rw [if_pos c2] at H
  have c2b0:decide (48≤a0)=true:=decide_eq_true c2
  clear c2
  obtain rfl:=Option.some.inj H
  go_enter Try.func84,Try.ntmps84
  go_wp2
  go_ret
  exact⟨by first|rfl|(simp;done)|(simp [*];done),by repeat(first|exact Ca _|apply Cb)⟩
 ·rw [if_neg c2] at H
  have c2b0:decide (48≤a0)=false:=decide_eq_false c2
  clear c2
  obtain rfl:=Option.some.inj H
  go_enter Try.func84,Try.ntmps84
  go_wp2
  go_ret
  exact⟨by first|rfl|(simp;done)|(simp [*];done),by repeat(first|exact Ca _|apply Cb)⟩

/-! ### impl_assetName: function 62 -/
def impl_assetName.l0 : Nat → ByteArray → Int → Int → Option (Bool)
 | 0, _, _, _ => none
 | k + 1, x0, x10, x11 => if x11 < x10 then (if 0 ≤ x11 then (if x11 < (x0.size : Int) then ((impl_isLetter.f (bt x0 x11)).bind fun t102 => (if t102 = true then (impl_assetName.l0 k x0 x10 (wrap64 (x11 + 1))) else ((impl_isDigit.f (bt x0 x11)).bind fun t103 => (if t103 = true then (impl_assetName.l0 k x0 x10 (wrap64 (x11 + 1))) else (if (bt x0 x11) = 95 then (impl_assetName.l0 k x0 x10 (wrap64 (x11 + 1))) else (if (bt x0 x11) = 46 then (impl_assetName.l0 k x0 x10 (wrap64 (x11 + 1))) else (some false))))))) else (none)) else (none)) else (some true)
def impl_assetName.f (k : Nat) (a0 : ByteArray) : Option (Bool) := (impl_in.f (a0.size : Int) 1 40).bind fun t101 => (if t101 = true then (impl_assetName.l0 k a0 (a0.size : Int) 0) else (some false))
theorem impl_assetName.mono_l : ∀ k, (∀ y0 y1 y2, LeO (impl_assetName.l0 k y0 y1 y2) (impl_assetName.l0 (k + 1) y0 y1 y2))
 | 0 => fun _ _ _ r h => by simp [impl_assetName.l0] at h
 | k + 1 => by
  have ih0:=impl_assetName.mono_l k
  ·intro y0 y1 y2
   unfold impl_assetName.l0
   repeat' first
   | (with_reducible exact ih0 _ _ _)
   | (with_reducible exact LeO.refl _)
   | (with_reducible exact LeO.none _)
   | (with_reducible refine LeO.ite ?_ ?_)
   | (with_reducible refine LeO.bind ?_ (fun _ => ?_))
   | exact ih0 _ _ _
   | exact LeO.none _
   | refine LeO.ite ?_ ?_
   | refine LeO.bind ?_ (fun _ => ?_)
theorem impl_assetName.mono : ∀ a0 k, LeO (impl_assetName.f k a0) (impl_assetName.f (k + 1) a0) := by
 intro a0 k
 have ih0:=impl_assetName.mono_l k
 unfold impl_assetName.f
 repeat' first
   | (with_reducible exact ih0 _ _ _)
   | (with_reducible exact LeO.refl _)
   | (with_reducible exact LeO.none _)
   | (with_reducible refine LeO.ite ?_ ?_)
   | (with_reducible refine LeO.bind ?_ (fun _ => ?_))
   | exact ih0 _ _ _
   | exact LeO.none _
   | refine LeO.ite ?_ ?_
   | refine LeO.bind ?_ (fun _ => ?_)
set_option maxHeartbeats 8000000 in
set_option maxRecDepth 100000 in
theorem impl_assetName.calls (k : Nat) (a0 : ByteArray) (r : Bool) (w : World) (h : impl_assetName.f k a0 = some r) :
  Calls Try.prog 62 #[.string a0] w fun e w'=>e=.returned (.bool r)∧Drawn0 w w':=by
 have H:((impl_in.f (a0.size:Int) 1 40).bind fun t101=>(if t101=true then (impl_assetName.l0 k a0 (a0.size:Int) 0) else (some false)))=some r:=h
 clear h
 replace H:=Option.bind_eq_some_iff.mp H
 obtain⟨t101,A20,H⟩:=H
 replace H:(if t101=true then (impl_assetName.l0 k a0 (a0.size:Int) 0) else (some false))=some r:=H
 have A2:=Aside0.mk A20
 clear A20
 by_cases c3:t101=true
 ·subst c3
  have H1:(impl_assetName.l0 k a0 (a0.size:Int) 0)=some r:=by rw [if_pos rfl] at H;exact H
  clear H
  have H:=H1
  clear H1
  have H':=Aside0.mk H
  clear H
  go_enter Try.func62,Try.ntmps62
  go_wp2_with (first|((with_reducible refine gate_callee (f:=56) rfl ?_);refine goesL_ (some 7) rfl rfl Try.func56 (by kernel_rfl) rfl #[.int .i64 (a0.size:Int),.int .i64 1,.int .i64 40] rfl (by(try simp only [List.map_toArray,List.map_cons,List.map_nil]);first|done|rfl|(simp only [List.length_drop,List.length_take];rfl)) ?_;(with_reducible refine(impl_in.calls (a0.size:Int) 1 40 true _ A2.out).mono ?_);rintro e w' ⟨rfl,⟨nd,rfl⟩⟩;refine⟨_,rfl,?_⟩))
  go_loopg [11] k (fun kq v11 w'=>∃ (qa:Int),v11=.int .i64 qa∧Aside0 (impl_assetName.l0 kq a0 (a0.size:Int) qa=some r)∧Aside0 (kq≤k)∧Drawn0 w w')
  case atStart=>exact⟨(0),(by first|rfl|(simp;done)|(simp [*];done)),H',⟨Nat.le_refl _⟩,by repeat(first|exact Ca _|apply Cb)⟩
  case round=>
   clear H'
   try clear p2
   try clear c3
   obtain⟨qa,rfl,HA,HK1,⟨m1,rfl⟩⟩:=hrel
   cases gk with
   | zero => exact absurd HA.out (by simp [impl_assetName.l0])
   | succ k1 =>
    have H:=HA.out
    clear HA
    simp only [impl_assetName.l0] at H
    by_cases c4:qa < (a0.size:Int)
    ·rw [if_pos c4] at H
     have c4b0:decide (qa < (a0.size:Int))=true:=decide_eq_true c4
     clear c4
     by_cases c5:0≤qa
     ·rw [if_pos c5] at H
      have c5b0:decide (0≤qa)=true:=decide_eq_true c5
      clear c5
      by_cases c6:qa < (a0.size:Int)
      ·rw [if_pos c6] at H
       have c6b0:decide (qa < (a0.size:Int))=true:=decide_eq_true c6
       clear c6
       replace H:=Option.bind_eq_some_iff.mp H
       obtain⟨t102,A80,H⟩:=H
       replace H:(if t102=true then (impl_assetName.l0 k1 a0 (a0.size:Int) (wrap64 (qa+1))) else ((impl_isDigit.f (bt a0 qa)).bind fun t103=>(if t103=true then (impl_assetName.l0 k1 a0 (a0.size:Int) (wrap64 (qa+1))) else (if (bt a0 qa)=95 then (impl_assetName.l0 k1 a0 (a0.size:Int) (wrap64 (qa+1))) else (if (bt a0 qa)=46 then (impl_assetName.l0 k1 a0 (a0.size:Int) (wrap64 (qa+1))) else (some false))))))=some r:=H
       have A8:=Aside0.mk A80
       clear A80
       by_cases c9:t102=true
       ·subst c9
        have H1:(impl_assetName.l0 k1 a0 (a0.size:Int) (wrap64 (qa+1)))=some r:=by rw [if_pos rfl] at H;exact H
        clear H
        have H:=H1
        clear H1
        have H':=Aside0.mk H
        clear H
        have p7:0≤(qa:Int):=of_decide_eq_true (by first|(with_reducible assumption)|assumption)
        have q7:qa < (a0.size:Int):=of_decide_eq_true (by first|(with_reducible assumption)|assumption)
        have hx7:=bt_at a0 qa
        replace p7:=eq_true p7
        replace q7:=eq_true q7
        go_wp2_with (first|((with_reducible refine gate_callee (f:=83) rfl ?_);refine goesL_ (some 18) rfl rfl Try.func83 (by kernel_rfl) rfl #[.int .u8 (bt a0 qa)] rfl (by(try simp only [List.map_toArray,List.map_cons,List.map_nil]);first|done|rfl|(simp only [List.length_drop,List.length_take];rfl)) ?_;(with_reducible refine(impl_isLetter.calls (bt a0 qa) true _ A8.out).mono ?_);rintro e w' ⟨rfl,⟨nd,rfl⟩⟩;refine⟨_,rfl,?_⟩))
        go_roundg k1
        case measure=>have:=HK1.out;omega
        case rel=>exact⟨(wrap64 (qa+1)),(by first|rfl|(simp;done)|(simp [*];done)),H',⟨by have:=HK1.out;omega⟩,by repeat(first|exact Ca _|apply Cb)⟩
       ·replace c9:=Bool.eq_false_iff.mpr c9
        subst c9
        have H1:((impl_isDigit.f (bt a0 qa)).bind fun t103=>(if t103=true then (impl_assetName.l0 k1 a0 (a0.size:Int) (wrap64 (qa+1))) else (if (bt a0 qa)=95 then (impl_assetName.l0 k1 a0 (a0.size:Int) (wrap64 (qa+1))) else (if (bt a0 qa)=46 then (impl_assetName.l0 k1 a0 (a0.size:Int) (wrap64 (qa+1))) else (some false)))))=some r:=by rw [if_neg (show ¬ (false=true) by decide)] at H;exact H
        clear H
        have H:=H1
        clear H1
        replace H:=Option.bind_eq_some_iff.mp H
        obtain⟨t103,A100,H⟩:=H
        replace H:(if t103=true then (impl_assetName.l0 k1 a0 (a0.size:Int) (wrap64 (qa+1))) else (if (bt a0 qa)=95 then (impl_assetName.l0 k1 a0 (a0.size:Int) (wrap64 (qa+1))) else (if (bt a0 qa)=46 then (impl_assetName.l0 k1 a0 (a0.size:Int) (wrap64 (qa+1))) else (some false))))=some r:=H
        have A10:=Aside0.mk A100
        clear A100
        by_cases c11:t103=true
        ·subst c11
         have H1:(impl_assetName.l0 k1 a0 (a0.size:Int) (wrap64 (qa+1)))=some r:=by rw [if_pos rfl] at H;exact H
         clear H
         have H:=H1
         clear H1
         have H':=Aside0.mk H
         clear H
         have p7:0≤(qa:Int):=of_decide_eq_true (by first|(with_reducible assumption)|assumption)
         have q7:qa < (a0.size:Int):=of_decide_eq_true (by first|(with_reducible assumption)|assumption)
         have hx7:=bt_at a0 qa
         replace p7:=eq_true p7
         replace q7:=eq_true q7
         go_wp2_with (first|((with_reducible refine gate_callee (f:=83) rfl ?_);refine goesL_ (some 18) rfl rfl Try.func83 (by kernel_rfl) rfl #[.int .u8 (bt a0 qa)] rfl (by(try simp only [List.map_toArray,List.map_cons,List.map_nil]);first|done|rfl|(simp only [List.length_drop,List.length_take];rfl)) ?_;(with_reducible refine(impl_isLetter.calls (bt a0 qa) false _ A8.out).mono ?_);rintro e w' ⟨rfl,⟨nd,rfl⟩⟩;refine⟨_,rfl,?_⟩)|(go_at_call 84;(with_reducible refine(impl_isDigit.calls (bt a0 qa) true _ A10.out).mono ?_);rintro e w' ⟨rfl,⟨nd,rfl⟩⟩))
         go_roundg k1
         case measure=>have:=HK1.out;omega
         case rel=>exact⟨(wrap64 (qa+1)),(by first|rfl|(simp;done)|(simp [*];done)),H',⟨by have:=HK1.out;omega⟩,by repeat(first|exact Ca _|apply Cb)⟩
        ·replace c11:=Bool.eq_false_iff.mpr c11
         subst c11
         have H1:(if (bt a0 qa)=95 then (impl_assetName.l0 k1 a0 (a0.size:Int) (wrap64 (qa+1))) else (if (bt a0 qa)=46 then (impl_assetName.l0 k1 a0 (a0.size:Int) (wrap64 (qa+1))) else (some false)))=some r:=by rw [if_neg (show ¬ (false=true) by decide)] at H;exact H
         clear H
         have H:=H1
         clear H1
         by_cases c12:(bt a0 qa)=95
         ·rw [if_pos c12] at H
          have c12b0:((bt a0 qa) == 95)=true:=beq_iff_eq.mpr c12
          have c12b1:((bt a0 qa) != 95)=false:=bne_eq_false_iff_eq.mpr c12
          clear c12
          have H':=Aside0.mk H
          clear H
          have p7:0≤(qa:Int):=of_decide_eq_true (by first|(with_reducible assumption)|assumption)
          have q7:qa < (a0.size:Int):=of_decide_eq_true (by first|(with_reducible assumption)|assumption)
          have hx7:=bt_at a0 qa
          replace p7:=eq_true p7
          replace q7:=eq_true q7
          go_wp2_with (first|((with_reducible refine gate_callee (f:=83) rfl ?_);refine goesL_ (some 18) rfl rfl Try.func83 (by kernel_rfl) rfl #[.int .u8 (bt a0 qa)] rfl (by(try simp only [List.map_toArray,List.map_cons,List.map_nil]);first|done|rfl|(simp only [List.length_drop,List.length_take];rfl)) ?_;(with_reducible refine(impl_isLetter.calls (bt a0 qa) false _ A8.out).mono ?_);rintro e w' ⟨rfl,⟨nd,rfl⟩⟩;refine⟨_,rfl,?_⟩)|(go_at_call 84;(with_reducible refine(impl_isDigit.calls (bt a0 qa) false _ A10.out).mono ?_);rintro e w' ⟨rfl,⟨nd,rfl⟩⟩))
          go_roundg k1
          case measure=>have:=HK1.out;omega
          case rel=>exact⟨(wrap64 (qa+1)),(by first|rfl|(simp;done)|(simp [*];done)),H',⟨by have:=HK1.out;omega⟩,by repeat(first|exact Ca _|apply Cb)⟩
         ·rw [if_neg c12] at H
          have c12b0:((bt a0 qa) == 95)=false:=beq_eq_false_iff_ne.mpr c12
          have c12b1:((bt a0 qa) != 95)=true:=bne_iff_ne.mpr c12
          by_cases c13:(bt a0 qa)=46
          ·rw [if_pos c13] at H
           have c13b0:((bt a0 qa) == 46)=true:=beq_iff_eq.mpr c13
           have c13b1:((bt a0 qa) != 46)=false:=bne_eq_false_iff_eq.mpr c13
           clear c13
           have H':=Aside0.mk H
           clear H
           have p7:0≤(qa:Int):=of_decide_eq_true (by first|(with_reducible assumption)|assumption)
           have q7:qa < (a0.size:Int):=of_decide_eq_true (by first|(with_reducible assumption)|assumption)
           have hx7:=bt_at a0 qa
           replace p7:=eq_true p7
           replace q7:=eq_true q7
           go_wp2_with (first|((with_reducible refine gate_callee (f:=83) rfl ?_);refine goesL_ (some 18) rfl rfl Try.func83 (by kernel_rfl) rfl #[.int .u8 (bt a0 qa)] rfl (by(try simp only [List.map_toArray,List.map_cons,List.map_nil]);first|done|rfl|(simp only [List.length_drop,List.length_take];rfl)) ?_;(with_reducible refine(impl_isLetter.calls (bt a0 qa) false _ A8.out).mono ?_);rintro e w' ⟨rfl,⟨nd,rfl⟩⟩;refine⟨_,rfl,?_⟩)|(go_at_call 84;(with_reducible refine(impl_isDigit.calls (bt a0 qa) false _ A10.out).mono ?_);rintro e w' ⟨rfl,⟨nd,rfl⟩⟩))
           go_roundg k1
           case measure=>have:=HK1.out;omega
           case rel=>exact⟨(wrap64 (qa+1)),(by first|rfl|(simp;done)|(simp [*];done)),H',⟨by have:=HK1.out;omega⟩,by repeat(first|exact Ca _|apply Cb)⟩
          ·rw [if_neg c13] at H
           have c13b0:((bt a0 qa) == 46)=false:=beq_eq_false_iff_ne.mpr c13
           have c13b1:((bt a0 qa) != 46)=true:=bne_iff_ne.mpr c13
           obtain rfl:=Option.some.inj H
           have p7:0≤(qa:Int):=of_decide_eq_true (by first|(with_reducible assumption)|assumption)
           have q7:qa < (a0.size:Int):=of_decide_eq_true (by first|(with_reducible assumption)|assumption)
           have hx7:=bt_at a0 qa
           replace p7:=eq_true p7
           replace q7:=eq_true q7
           go_wp2_with (first|((with_reducible refine gate_callee (f:=83) rfl ?_);refine goesL_ (some 18) rfl rfl Try.func83 (by kernel_rfl) rfl #[.int .u8 (bt a0 qa)] rfl (by(try simp only [List.map_toArray,List.map_cons,List.map_nil]);first|done|rfl|(simp only [List.length_drop,List.length_take];rfl)) ?_;(with_reducible refine(impl_isLetter.calls (bt a0 qa) false _ A8.out).mono ?_);rintro e w' ⟨rfl,⟨nd,rfl⟩⟩;refine⟨_,rfl,?_⟩)|(go_at_call 84;(with_reducible refine(impl_isDigit.calls (bt a0 qa) false _ A10.out).mono ?_);rintro e w' ⟨rfl,⟨nd,rfl⟩⟩))
           go_ret
           exact⟨by first|rfl|(simp;done)|(simp [*];done),by repeat(first|exact Ca _|apply Cb)⟩
      ·rw [if_neg c6] at H
       exact absurd H (by simp)
     ·rw [if_neg c5] at H
      exact absurd H (by simp)
    ·rw [if_neg c4] at H
     have c4b0:decide (qa < (a0.size:Int))=false:=decide_eq_false c4
     clear c4
     obtain rfl:=Option.some.inj H
     go_wp2
     go_ret
     exact⟨by first|rfl|(simp;done)|(simp [*];done),by repeat(first|exact Ca _|apply Cb)⟩
 ·replace c3:=Bool.eq_false_iff.mpr c3
  subst c3
  have H1:(some false)=some r:=by rw [if_neg (show ¬ (false=true) by decide)] at H;exact H
  clear H
  have H:=H1
  clear H1
  obtain rfl:=Option.some.inj H
  go_enter Try.func62,Try.ntmps62
  go_wp2_with (first|((with_reducible refine gate_callee (f:=56) rfl ?_);refine goesL_ (some 7) rfl rfl Try.func56 (by kernel_rfl) rfl #[.int .i64 (a0.size:Int),.int .i64 1,.int .i64 40] rfl (by(try simp only [List.map_toArray,List.map_cons,List.map_nil]);first|done|rfl|(simp only [List.length_drop,List.length_take];rfl)) ?_;(with_reducible refine(impl_in.calls (a0.size:Int) 1 40 false _ A2.out).mono ?_);rintro e w' ⟨rfl,⟨nd,rfl⟩⟩;refine⟨_,rfl,?_⟩))
  go_ret
  exact⟨by first|rfl|(simp;done)|(simp [*];done),by repeat(first|exact Ca _|apply Cb)⟩

end Go.Proofs.Ytelcpfanjjfgdaa.HFnPacked
