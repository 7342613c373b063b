-- Laid by myprint.py, a program of this repo, out of the kit's printer and this repo's own texts (wip/hand).
import Derived.Test.YtidogkjhjmcliaaDoorHFnTitlesBackx0
import Derived.Test.YtidogkjhjmcliaaDoorHFnTitlesBackx7
import Derived.Test.YtidogkjhjmcliaaDoorCmp
namespace Go.Proofs.YtidogkjhjmcliaaDoor.HFnTitlesBack
open Go.RowKit Go.Proofs.YtidogkjhjmcliaaDoorW.PrintWords Go.Proofs.YtidogkjhjmcliaaDoorW.PrintLast Go.Proofs.YtidogkjhjmcliaaDoorW.PrintMore
attribute [local go_sem] max2_int min2_int max_two min_two max_three min_three max_four min_four   -- for this text's walks alone
set_option linter.unusedVariables false
set_option linter.unusedSimpArgs false
theorem Ia : type_of% @Aside0.mk := @Aside0.mk

-- NOT PRINTED: function 54 (abi_NoEscape)

-- NOT PRINTED: function 42 (strings_Builder_copyCheck)

-- NOT PRINTED: function 25 (strings_Builder_WriteString)

/-! ### strconv_Itoa_26: function 26 -/
def strconv_Itoa_26.f (a0 : Int) : Option (ByteArray) := if -9223372036854775808 ≤ a0 ∧ a0 ≤ 9223372036854775807 then some ⟨(Lib.itoa a0).toArray⟩ else none
theorem strconv_Itoa_26.calls (a0 : Int) (r : ByteArray) (w : World) (hgl : Glob w) (h : strconv_Itoa_26.f a0 = some r) :
  Calls Tryd.prog 26 #[.int .i64 a0] w fun e w'=>e=.returned (.string r)∧Below w.heap.size w w':=by
 unfold strconv_Itoa_26.f at h
 split at h
 ·rename_i hs
  obtain⟨h0,h1⟩:=hs
  cases h
  refine(Tryd.strconv_Itoa a0 h0 h1 w hgl.tab).mono ?_
  rintro e w' ⟨rfl,k,os,rfl⟩
  exact⟨rfl,below_grow_title w k os⟩
 ·cases h


/-! ### strconv_FormatInt_56: function 56 -/
def strconv_FormatInt_56.f (a0 a1 : Int) : Option (ByteArray) := if a1 = 10 ∧ -9223372036854775808 ≤ a0 ∧ a0 ≤ 9223372036854775807 then some ⟨(Lib.itoa a0).toArray⟩ else none
theorem strconv_FormatInt_56.calls (a0 a1 : Int) (r : ByteArray) (w : World) (hgl : Glob w) (h : strconv_FormatInt_56.f a0 a1 = some r) :
  Calls Tryd.prog 56 #[.int .i64 a0,.int .i64 a1] w fun e w'=>e=.returned (.string r)∧Below w.heap.size w w':=by
 unfold strconv_FormatInt_56.f at h
 split at h
 ·rename_i hs
  obtain⟨rfl,h0,h1⟩:=hs
  cases h
  refine(Tryd.strconv_FormatInt_10 a0 h0 h1 w hgl.tab).mono ?_
  rintro e w' ⟨rfl,k,os,rfl⟩
  exact⟨rfl,below_grow_title w k os⟩
 ·cases h


/-! ### strings_Repeat: function 57 -/
def strings_Repeat.f (a0 : ByteArray) (a1 : Int) : Option (ByteArray) := if 0 ≤ a1 ∧ a1 ≤ 9223372036854775807 ∧ a0.size * a1.toNat ≤ 140737488355328 then some ⟨(Lib.repeatL a0.data.toList a1.toNat).toArray⟩ else none
theorem strings_Repeat.calls (a0 : ByteArray) (a1 : Int) (r : ByteArray) (w : World) (h : strings_Repeat.f a0 a1 = some r) :
  Calls Tryd.prog 57 #[.string a0,.int .i64 a1] w fun e w'=>e=.returned (.string r)∧Below w.heap.size w w':=by
 unfold strings_Repeat.f at h
 split at h
 ·rename_i hs
  obtain⟨h0,h1,h2⟩:=hs
  cases h
  obtain⟨c,rfl⟩:=Int.eq_ofNat_of_zero_le h0
  exact Tryd.strings_Repeat a0 c w (by omega) h2
 ·cases h


/-! ### impl_padded: function 44 -/
def impl_padded.f (a0 : Int) (a1 : Int) : Option (ByteArray) := (strconv_FormatInt_56.f a0 10).bind fun t141 => ((strings_Repeat.f (⟨#[48]⟩ : ByteArray) (mx (wrap64 (a1 - (t141.size : Int))) 0)).bind fun t142 => (if t142.size + t141.size ≤ 9223372036854775807 then (some (t142 ++ t141)) else (none)))
set_option maxHeartbeats 8000000 in
set_option maxRecDepth 100000 in
theorem impl_padded.calls (a0 : Int) (a1 : Int) (r : ByteArray) (w : World) (hgl : Glob w) (h : impl_padded.f a0 a1 = some r) :
  Calls Tryd.prog 44 #[.int .i64 a0,.int .i64 a1] w fun e w'=>e=.returned (.string r)∧Below w.heap.size w w':=by
 have HGL:=Ia hgl
 clear hgl
 have HB:=Ia (Below.refl w.heap.size w)
 have H:((strconv_FormatInt_56.f a0 10).bind fun t141=>((strings_Repeat.f (⟨#[48]⟩:ByteArray) (mx (wrap64 (a1 - (t141.size:Int))) 0)).bind fun t142=>(if t142.size+t141.size≤9223372036854775807 then (some (t142 ++ t141)) else (none))))=some r:=h
 clear h
 replace H:=Option.bind_eq_some_iff.mp H
 obtain⟨t141,A30,H⟩:=H
 try dsimp only at H
 have A3:=Ia A30
 clear A30
 obtain⟨ji4,hji4⟩:∃ j_:Int,(mx (wrap64 (a1 - (t141.size:Int))) 0)=j_:=⟨_,rfl⟩
 replace H:((strings_Repeat.f (⟨#[48]⟩:ByteArray) (ji4)).bind fun t142=>(if t142.size+t141.size≤9223372036854775807 then (some (t142 ++ t141)) else (none)))=some r:=by first|(rw [hji4] at H;exact H)|(simp only [hji4] at H ⊢;exact H)
 (try rw [hji4] at A3)
 (try(have hji4l:0≤ji4:=by(rw [← hji4];unfold mx;(repeat' split) <;> omega)))
 (try(have hji4m:0≤ji4:=by omega))
 have hji4_:(if (wrap64 (a1 - (t141.size:Int))) < 0 then 0 else (wrap64 (a1 - (t141.size:Int))))=ji4:=hji4
 replace H:=Option.bind_eq_some_iff.mp H
 obtain⟨t142,A50,H⟩:=H
 try dsimp only at H
 have A5:=Ia A50
 clear A50
 by_cases c6:t142.size+t141.size≤9223372036854775807
 case neg=>rw[if_neg c6] at H;exact absurd H (by simp)
 rw[if_pos c6] at H
 have c6b0:=eq_true c6
 have c6b1:decide (t142.size+t141.size≤9223372036854775807)=true:=decide_eq_true c6
 try have c6b2:(9223372036854775807 < t142.size+t141.size)=False:=eq_false (Nat.not_lt.2 c6)
 obtain rfl:=Option.some.inj H
 go_enter Tryd.func44,Tryd.ntmps44
 go_wp2_with (first|((with_reducible refine gate_callee (f:=56) rfl ?_);refine goesL_ (some 7) rfl rfl Tryd.func56 (by kernel_rfl) rfl #[.int .i64 a0,.int .i64 10] rfl (by(try simp only [List.map_toArray,List.map_cons,List.map_nil]);first|done|rfl|(simp only [List.length_drop,List.length_take];rfl)) ?_;(with_reducible refine(strconv_FormatInt_56.calls a0 10 t141 _ (by first|exact HGL.out|((repeat(with_reducible refine Glob.drewN ?_));exact HGL.out)|exact Glob.below HGL.out (by repeat(first|(with_reducible first|exact HB.out|apply below_alloc|apply pw_below_drewN|apply below_drew1)|exact HB.out))) A3.out).mono ?_);rintro e w7 ⟨rfl,hb⟩;refine⟨_,rfl,?_⟩;have n0_:=Ia (below_step (by repeat(first|(with_reducible first|exact HB.out|apply below_alloc|apply pw_below_drewN|apply below_drew1)|exact HB.out)) hb);clear HB;have HB:=n0_;clear n0_;(try clear hb);(try clear hb2);(try clear hk);(try clear hi))|((with_reducible refine gate_callee (f:=57) rfl ?_);refine goesL_ (some 13) rfl rfl Tryd.func57 (by kernel_rfl) rfl #[.string (⟨#[48]⟩:ByteArray),.int .i64 ji4] rfl (by(try simp only [List.map_toArray,List.map_cons,List.map_nil]);first|done|(simp only [hji4];rfl)|rfl|(simp only [List.length_drop,List.length_take];rfl)) ?_;(with_reducible refine(strings_Repeat.calls (⟨#[48]⟩:ByteArray) ji4 t142 _ A5.out).mono ?_);rintro e w8 ⟨rfl,hb⟩;refine⟨_,rfl,?_⟩;have n0_:=Ia (below_step (by repeat(first|(with_reducible first|exact HB.out|apply below_alloc|apply pw_below_drewN|apply below_drew1)|exact HB.out)) hb);clear HB;have HB:=n0_;clear n0_;(try clear hb);(try clear hb2);(try clear hk);(try clear hi)))
 go_ret
 exact⟨by first|rfl|(simp [errW_none,errW_some] <;> rfl)|(simp only [← hji4];first|rfl|(simp [errW_none,errW_some] <;> rfl))|(simp [*,errW_none,errW_some] <;> rfl),by repeat(first|(with_reducible first|exact HB.out|apply below_alloc|apply pw_below_drewN|apply below_drew1)|exact HB.out)⟩

/-! ### impl_milliText: function 27 -/
def impl_milliText.f (a0 : Int) : Option (ByteArray) := (impl_padded.f (wrap64 (Int.tdiv (wrap64 (Int.tdiv a0 1000)) 3600)) 2).bind fun t143 => (if t143.size + 1 ≤ 9223372036854775807 then ((impl_padded.f (Int.tmod (wrap64 (Int.tdiv (wrap64 (Int.tdiv a0 1000)) 60)) 60) 2).bind fun t144 => (if (t143 ++ (⟨#[58]⟩ : ByteArray)).size + t144.size ≤ 9223372036854775807 then (if ((t143 ++ (⟨#[58]⟩ : ByteArray)) ++ t144).size + 1 ≤ 9223372036854775807 then ((impl_padded.f (Int.tmod (wrap64 (Int.tdiv a0 1000)) 60) 2).bind fun t145 => (if (((t143 ++ (⟨#[58]⟩ : ByteArray)) ++ t144) ++ (⟨#[58]⟩ : ByteArray)).size + t145.size ≤ 9223372036854775807 then (if ((((t143 ++ (⟨#[58]⟩ : ByteArray)) ++ t144) ++ (⟨#[58]⟩ : ByteArray)) ++ t145).size + 1 ≤ 9223372036854775807 then ((impl_padded.f (Int.tmod a0 1000) 3).bind fun t146 => (if (((((t143 ++ (⟨#[58]⟩ : ByteArray)) ++ t144) ++ (⟨#[58]⟩ : ByteArray)) ++ t145) ++ (⟨#[44]⟩ : ByteArray)).size + t146.size ≤ 9223372036854775807 then (some ((((((t143 ++ (⟨#[58]⟩ : ByteArray)) ++ t144) ++ (⟨#[58]⟩ : ByteArray)) ++ t145) ++ (⟨#[44]⟩ : ByteArray)) ++ t146)) else (none))) else (none)) else (none))) else (none)) else (none))) else (none))
set_option maxHeartbeats 8000000 in
set_option maxRecDepth 100000 in
theorem impl_milliText.calls (a0 : Int) (r : ByteArray) (w : World) (hgl : Glob w) (h : impl_milliText.f a0 = some r) :
  Calls Tryd.prog 27 #[.int .i64 a0] w fun e w'=>e=.returned (.string r)∧Below w.heap.size w w':=by
 have HGL:=Ia hgl
 clear hgl
 have HB:=Ia (Below.refl w.heap.size w)
 have H:((impl_padded.f (wrap64 (Int.tdiv (wrap64 (Int.tdiv a0 1000)) 3600)) 2).bind fun t143=>(if t143.size+1≤9223372036854775807 then ((impl_padded.f (Int.tmod (wrap64 (Int.tdiv (wrap64 (Int.tdiv a0 1000)) 60)) 60) 2).bind fun t144=>(if (t143 ++ (⟨#[58]⟩:ByteArray)).size+t144.size≤9223372036854775807 then (if ((t143 ++ (⟨#[58]⟩:ByteArray)) ++ t144).size+1≤9223372036854775807 then ((impl_padded.f (Int.tmod (wrap64 (Int.tdiv a0 1000)) 60) 2).bind fun t145=>(if (((t143 ++ (⟨#[58]⟩:ByteArray)) ++ t144) ++ (⟨#[58]⟩:ByteArray)).size+t145.size≤9223372036854775807 then (if ((((t143 ++ (⟨#[58]⟩:ByteArray)) ++ t144) ++ (⟨#[58]⟩:ByteArray)) ++ t145).size+1≤9223372036854775807 then ((impl_padded.f (Int.tmod a0 1000) 3).bind fun t146=>(if (((((t143 ++ (⟨#[58]⟩:ByteArray)) ++ t144) ++ (⟨#[58]⟩:ByteArray)) ++ t145) ++ (⟨#[44]⟩:ByteArray)).size+t146.size≤9223372036854775807 then (some ((((((t143 ++ (⟨#[58]⟩:ByteArray)) ++ t144) ++ (⟨#[58]⟩:ByteArray)) ++ t145) ++ (⟨#[44]⟩:ByteArray)) ++ t146)) else (none))) else (none)) else (none))) else (none)) else (none))) else (none)))=some r:=h
 clear h
 replace H:=Option.bind_eq_some_iff.mp H
 obtain⟨t143,A20,H⟩:=H
 try dsimp only at H
 have A2:=Ia A20
 clear A20
 by_cases c3:t143.size+1≤9223372036854775807
 case neg=>rw[if_neg c3] at H;exact absurd H (by simp)
 rw[if_pos c3] at H
 have c3b0:=eq_true c3
 have c3b1:decide (t143.size+1≤9223372036854775807)=true:=decide_eq_true c3
 try have c3b2:(9223372036854775807 < t143.size+1)=False:=eq_false (Nat.not_lt.2 c3)
 replace H:=Option.bind_eq_some_iff.mp H
 obtain⟨t144,A40,H⟩:=H
 try dsimp only at H
 have A4:=Ia A40
 clear A40
 by_cases c5:(t143 ++ (⟨#[58]⟩:ByteArray)).size+t144.size≤9223372036854775807
 case neg=>rw[if_neg c5] at H;exact absurd H (by simp)
 rw[if_pos c5] at H
 have c5b0:=eq_true c5
 have c5b1:decide ((t143 ++ (⟨#[58]⟩:ByteArray)).size+t144.size≤9223372036854775807)=true:=decide_eq_true c5
 try have c5b2:(9223372036854775807 < (t143 ++ (⟨#[58]⟩:ByteArray)).size+t144.size)=False:=eq_false (Nat.not_lt.2 c5)
 try have c5b3:(9223372036854775807 < t143.size+1+t144.size)=False:=eq_false (Nat.not_lt.2 (by have h_:=c5;simp only [ByteArray.size_append] at h_;exact h_))
 by_cases c6:((t143 ++ (⟨#[58]⟩:ByteArray)) ++ t144).size+1≤9223372036854775807
 case neg=>rw[if_neg c6] at H;exact absurd H (by simp)
 rw[if_pos c6] at H
 have c6b0:=eq_true c6
 have c6b1:decide (((t143 ++ (⟨#[58]⟩:ByteArray)) ++ t144).size+1≤9223372036854775807)=true:=decide_eq_true c6
 try have c6b2:(9223372036854775807 < ((t143 ++ (⟨#[58]⟩:ByteArray)) ++ t144).size+1)=False:=eq_false (Nat.not_lt.2 c6)
 try have c6b3:(9223372036854775807 < t143.size+1+t144.size+1)=False:=eq_false (Nat.not_lt.2 (by have h_:=c6;simp only [ByteArray.size_append] at h_;exact h_))
 replace H:=Option.bind_eq_some_iff.mp H
 obtain⟨t145,A70,H⟩:=H
 try dsimp only at H
 have A7:=Ia A70
 clear A70
 by_cases c8:(((t143 ++ (⟨#[58]⟩:ByteArray)) ++ t144) ++ (⟨#[58]⟩:ByteArray)).size+t145.size≤9223372036854775807
 case neg=>rw[if_neg c8] at H;exact absurd H (by simp)
 rw[if_pos c8] at H
 have c8b0:=eq_true c8
 have c8b1:decide ((((t143 ++ (⟨#[58]⟩:ByteArray)) ++ t144) ++ (⟨#[58]⟩:ByteArray)).size+t145.size≤9223372036854775807)=true:=decide_eq_true c8
 try have c8b2:(9223372036854775807 < (((t143 ++ (⟨#[58]⟩:ByteArray)) ++ t144) ++ (⟨#[58]⟩:ByteArray)).size+t145.size)=False:=eq_false (Nat.not_lt.2 c8)
 try have c8b3:(9223372036854775807 < t143.size+1+t144.size+1+t145.size)=False:=eq_false (Nat.not_lt.2 (by have h_:=c8;simp only [ByteArray.size_append] at h_;exact h_))
 by_cases c9:((((t143 ++ (⟨#[58]⟩:ByteArray)) ++ t144) ++ (⟨#[58]⟩:ByteArray)) ++ t145).size+1≤9223372036854775807
 case neg=>rw[if_neg c9] at H;exact absurd H (by simp)
 rw[if_pos c9] at H
 have c9b0:=eq_true c9
 have c9b1:decide (((((t143 ++ (⟨#[58]⟩:ByteArray)) ++ t144) ++ (⟨#[58]⟩:ByteArray)) ++ t145).size+1≤9223372036854775807)=true:=decide_eq_true c9
 try have c9b2:(9223372036854775807 < ((((t143 ++ (⟨#[58]⟩:ByteArray)) ++ t144) ++ (⟨#[58]⟩:ByteArray)) ++ t145).size+1)=False:=eq_false (Nat.not_lt.2 c9)
 try have c9b3:(9223372036854775807 < t143.size+1+t144.size+1+t145.size+1)=False:=eq_false (Nat.not_lt.2 (by have h_:=c9;simp only [ByteArray.size_append] at h_;exact h_))
 replace H:=Option.bind_eq_some_iff.mp H
 obtain⟨t146,A100,H⟩:=H
 try dsimp only at H
 have A10:=Ia A100
 clear A100
 by_cases c11:(((((t143 ++ (⟨#[58]⟩:ByteArray)) ++ t144) ++ (⟨#[58]⟩:ByteArray)) ++ t145) ++ (⟨#[44]⟩:ByteArray)).size+t146.size≤9223372036854775807
 case neg=>rw[if_neg c11] at H;exact absurd H (by simp)
 rw[if_pos c11] at H
 have c11b0:=eq_true c11
 have c11b1:decide ((((((t143 ++ (⟨#[58]⟩:ByteArray)) ++ t144) ++ (⟨#[58]⟩:ByteArray)) ++ t145) ++ (⟨#[44]⟩:ByteArray)).size+t146.size≤9223372036854775807)=true:=decide_eq_true c11
 try have c11b2:(9223372036854775807 < (((((t143 ++ (⟨#[58]⟩:ByteArray)) ++ t144) ++ (⟨#[58]⟩:ByteArray)) ++ t145) ++ (⟨#[44]⟩:ByteArray)).size+t146.size)=False:=eq_false (Nat.not_lt.2 c11)
 try have c11b3:(9223372036854775807 < t143.size+1+t144.size+1+t145.size+1+t146.size)=False:=eq_false (Nat.not_lt.2 (by have h_:=c11;simp only [ByteArray.size_append] at h_;exact h_))
 obtain rfl:=Option.some.inj H
 go_enter Tryd.func27,Tryd.ntmps27
 go_wp2_with (first|((with_reducible refine gate_callee (f:=44) rfl ?_);refine goesL_ (some 8) rfl rfl Tryd.func44 (by kernel_rfl) rfl #[.int .i64 (wrap64 (Int.tdiv (wrap64 (Int.tdiv a0 1000)) 3600)),.int .i64 2] rfl (by(try simp only [List.map_toArray,List.map_cons,List.map_nil]);first|done|rfl|(simp only [List.length_drop,List.length_take];rfl)) ?_;(with_reducible refine(impl_padded.calls (wrap64 (Int.tdiv (wrap64 (Int.tdiv a0 1000)) 3600)) 2 t143 _ (by first|exact HGL.out|((repeat(with_reducible refine Glob.drewN ?_));exact HGL.out)|exact Glob.below HGL.out (by repeat(first|(with_reducible first|exact HB.out|apply below_alloc|apply pw_below_drewN|apply below_drew1)|exact HB.out))) A2.out).mono ?_);rintro e w12 ⟨rfl,hb⟩;refine⟨_,rfl,?_⟩;have n0_:=Ia (below_step (by repeat(first|(with_reducible first|exact HB.out|apply below_alloc|apply pw_below_drewN|apply below_drew1)|exact HB.out)) hb);clear HB;have HB:=n0_;clear n0_;(try clear hb);(try clear hb2);(try clear hk);(try clear hi))|((with_reducible refine gate_callee (f:=44) rfl ?_);refine goesL_ (some 13) rfl rfl Tryd.func44 (by kernel_rfl) rfl #[.int .i64 (Int.tmod (wrap64 (Int.tdiv (wrap64 (Int.tdiv a0 1000)) 60)) 60),.int .i64 2] rfl (by(try simp only [List.map_toArray,List.map_cons,List.map_nil]);first|done|rfl|(simp only [List.length_drop,List.length_take];rfl)) ?_;(with_reducible refine(impl_padded.calls (Int.tmod (wrap64 (Int.tdiv (wrap64 (Int.tdiv a0 1000)) 60)) 60) 2 t144 _ (by first|exact HGL.out|((repeat(with_reducible refine Glob.drewN ?_));exact HGL.out)|exact Glob.below HGL.out (by repeat(first|(with_reducible first|exact HB.out|apply below_alloc|apply pw_below_drewN|apply below_drew1)|exact HB.out))) A4.out).mono ?_);rintro e w13 ⟨rfl,hb⟩;refine⟨_,rfl,?_⟩;have n0_:=Ia (below_step (by repeat(first|(with_reducible first|exact HB.out|apply below_alloc|apply pw_below_drewN|apply below_drew1)|exact HB.out)) hb);clear HB;have HB:=n0_;clear n0_;(try clear hb);(try clear hb2);(try clear hk);(try clear hi))|((with_reducible refine gate_callee (f:=44) rfl ?_);refine goesL_ (some 18) rfl rfl Tryd.func44 (by kernel_rfl) rfl #[.int .i64 (Int.tmod (wrap64 (Int.tdiv a0 1000)) 60),.int .i64 2] rfl (by(try simp only [List.map_toArray,List.map_cons,List.map_nil]);first|done|rfl|(simp only [List.length_drop,List.length_take];rfl)) ?_;(with_reducible refine(impl_padded.calls (Int.tmod (wrap64 (Int.tdiv a0 1000)) 60) 2 t145 _ (by first|exact HGL.out|((repeat(with_reducible refine Glob.drewN ?_));exact HGL.out)|exact Glob.below HGL.out (by repeat(first|(with_reducible first|exact HB.out|apply below_alloc|apply pw_below_drewN|apply below_drew1)|exact HB.out))) A7.out).mono ?_);rintro e w14 ⟨rfl,hb⟩;refine⟨_,rfl,?_⟩;have n0_:=Ia (below_step (by repeat(first|(with_reducible first|exact HB.out|apply below_alloc|apply pw_below_drewN|apply below_drew1)|exact HB.out)) hb);clear HB;have HB:=n0_;clear n0_;(try clear hb);(try clear hb2);(try clear hk);(try clear hi))|((with_reducible refine gate_callee (f:=44) rfl ?_);refine goesL_ (some 23) rfl rfl Tryd.func44 (by kernel_rfl) rfl #[.int .i64 (Int.tmod a0 1000),.int .i64 3] rfl (by(try simp only [List.map_toArray,List.map_cons,List.map_nil]);first|done|rfl|(simp only [List.length_drop,List.length_take];rfl)) ?_;(with_reducible refine(impl_padded.calls (Int.tmod a0 1000) 3 t146 _ (by first|exact HGL.out|((repeat(with_reducible refine Glob.drewN ?_));exact HGL.out)|exact Glob.below HGL.out (by repeat(first|(with_reducible first|exact HB.out|apply below_alloc|apply pw_below_drewN|apply below_drew1)|exact HB.out))) A10.out).mono ?_);rintro e w15 ⟨rfl,hb⟩;refine⟨_,rfl,?_⟩;have n0_:=Ia (below_step (by repeat(first|(with_reducible first|exact HB.out|apply below_alloc|apply pw_below_drewN|apply below_drew1)|exact HB.out)) hb);clear HB;have HB:=n0_;clear n0_;(try clear hb);(try clear hb2);(try clear hk);(try clear hi)))
 go_ret
 exact⟨by first|rfl|(simp [errW_none,errW_some] <;> rfl)|(simp [*,errW_none,errW_some] <;> rfl),by repeat(first|(with_reducible first|exact HB.out|apply below_alloc|apply pw_below_drewN|apply below_drew1)|exact HB.out)⟩

-- NOT PRINTED: function 28 (strings_Builder_String)

/-! ### impl_ShowTitles: function 9 -/
def impl_ShowTitles.l0 : Nat → List Int → List (S40) → Int → Int → Option (ByteArray)
 | 0, _, _, _, _ => none
 | k + 1, x3, x10, x11, x12 => if x12 < x11 then (if 0 ≤ x12 then (if x12 < (x10.length : Int) then ((strconv_Itoa_26.f (wrap64 (x12 + 1))).bind fun t153 => (if t153.size + 1 ≤ 9223372036854775807 then ((impl_milliText.f ((rd_T40 x10 x12).f0)).bind fun t154 => (if (t153 ++ (⟨#[10]⟩ : ByteArray)).size + t154.size ≤ 9223372036854775807 then (if ((t153 ++ (⟨#[10]⟩ : ByteArray)) ++ t154).size + 5 ≤ 9223372036854775807 then ((impl_milliText.f ((rd_T40 x10 x12).f1)).bind fun t155 => (if (((t153 ++ (⟨#[10]⟩ : ByteArray)) ++ t154) ++ (⟨#[32, 45, 45, 62, 32]⟩ : ByteArray)).size + t155.size ≤ 9223372036854775807 then (if ((((t153 ++ (⟨#[10]⟩ : ByteArray)) ++ t154) ++ (⟨#[32, 45, 45, 62, 32]⟩ : ByteArray)) ++ t155).size + 1 ≤ 9223372036854775807 then (if (((((t153 ++ (⟨#[10]⟩ : ByteArray)) ++ t154) ++ (⟨#[32, 45, 45, 62, 32]⟩ : ByteArray)) ++ t155) ++ (⟨#[10]⟩ : ByteArray)).size + ((rd_T40 x10 x12).f2).size ≤ 9223372036854775807 then (if ((((((t153 ++ (⟨#[10]⟩ : ByteArray)) ++ t154) ++ (⟨#[32, 45, 45, 62, 32]⟩ : ByteArray)) ++ t155) ++ (⟨#[10]⟩ : ByteArray)) ++ ((rd_T40 x10 x12).f2)).size + 2 ≤ 9223372036854775807 then (if x3.length + (((((((t153 ++ (⟨#[10]⟩ : ByteArray)) ++ t154) ++ (⟨#[32, 45, 45, 62, 32]⟩ : ByteArray)) ++ t155) ++ (⟨#[10]⟩ : ByteArray)) ++ ((rd_T40 x10 x12).f2)) ++ (⟨#[10, 10]⟩ : ByteArray)).size < 140737488355328 then (impl_ShowTitles.l0 k (x3 ++ bytesOf (((((((t153 ++ (⟨#[10]⟩ : ByteArray)) ++ t154) ++ (⟨#[32, 45, 45, 62, 32]⟩ : ByteArray)) ++ t155) ++ (⟨#[10]⟩ : ByteArray)) ++ ((rd_T40 x10 x12).f2)) ++ (⟨#[10, 10]⟩ : ByteArray))) x10 x11 (wrap64 (x12 + 1))) else (none)) else (none)) else (none)) else (none)) else (none))) else (none)) else (none))) else (none))) else (none)) else (none)) else (some (strOfNums x3))
def impl_ShowTitles.f (k : Nat) (l0 : List (S40)) : Option (ByteArray) := (impl_TitlesOk.f k l0).bind fun t147 => (if t147 = true then (impl_ShowTitles.l0 k (([] : List Int)) l0 (l0.length : Int) 0) else (some (⟨#[]⟩ : ByteArray)))
theorem impl_ShowTitles.mono_l : ∀ k, (∀ y0 y1 y2 y3, LeO (impl_ShowTitles.l0 k y0 y1 y2 y3) (impl_ShowTitles.l0 (k + 1) y0 y1 y2 y3))
 | 0 => fun _ _ _ _ r h => by simp [impl_ShowTitles.l0] at h
 | k + 1 => by
  have ih0:=impl_ShowTitles.mono_l k
  ·intro y0 y1 y2 y3
   unfold impl_ShowTitles.l0
   repeat' first|(with_reducible first|exact ih0 _ _ _ _|exact impl_TitlesOk.mono _ _|exact LeO.refl _|exact LeO.none _|refine LeO.ite ?_ ?_|refine LeO.bind ?_ (fun _=>?_))|exact ih0 _ _ _ _|exact impl_TitlesOk.mono _ _|exact LeO.none _|refine LeO.ite ?_ ?_|refine LeO.bind ?_ (fun _=>?_)
theorem impl_ShowTitles.mono : ∀ a0 k, LeO (impl_ShowTitles.f k a0) (impl_ShowTitles.f (k + 1) a0) := by
 intro a0 k
 have ih0:=impl_ShowTitles.mono_l k
 unfold impl_ShowTitles.f
 repeat' first|(with_reducible first|exact ih0 _ _ _ _|exact impl_TitlesOk.mono _ _|exact LeO.refl _|exact LeO.none _|refine LeO.ite ?_ ?_|refine LeO.bind ?_ (fun _=>?_))|exact ih0 _ _ _ _|exact impl_TitlesOk.mono _ _|exact LeO.none _|refine LeO.ite ?_ ?_|refine LeO.bind ?_ (fun _=>?_)
def impl_ShowTitles.T7 : Bool × List (List Nat × List Nat) := (true, [([], []), ([0], [0]), ([1], [1]), ([2], [2]), ([], []), ([4], [4]), ([5, 2], [5]), ([3, 6], [3, 6]), ([7], [7]), ([], []), ([9], [9]), ([10, 6], [10]), ([8, 11], [8, 11]), ([12], [12]), ([], []), ([14], [14]), ([13, 15], [13, 15]), ([16], [16]), ([17, 11], [17])])
def impl_ShowTitles.B7 : List Nat := [0, 1, 3, 7, 0, 16, 55, 127, 255, 0, 512, 1655, 4095, 8191, 0, 16384, 65535, 131071, 262143]
theorem impl_ShowTitles.tab7 : rtab .any (opsOf Tryd.f9 7) = impl_ShowTitles.T7 := by kernel_rfl
theorem impl_ShowTitles.bits7 : waitsOk impl_ShowTitles.T7.2 impl_ShowTitles.B7 = true := by kernel_rfl
set_option maxHeartbeats 8000000 in
set_option maxRecDepth 100000 in
theorem impl_ShowTitles.calls (k : Nat) (A0 : Option Addr) (c0 : Nat) (l0 : List (S40)) (r : ByteArray) (w : World) (hgl : Glob w) (hr0 : Kd.C k40 w A0 l0.length l0) (hc0 : l0.length ≤ c0) (h : impl_ShowTitles.f k l0 = some r) :
  Calls Tryd.prog 9 #[.slice A0 l0.length c0] w fun e w'=>e=.returned (.string r)∧Below w.heap.size w w':=by
 have HGL:=Ia hgl
 clear hgl
 have hu40:=Tryd.underlying40
 have HR0:=Ia hr0
 have HC0:=Ia hc0
 clear hr0 hc0
 have HB:=Ia (Below.refl w.heap.size w)
 have H:((impl_TitlesOk.f k l0).bind fun t147=>(if t147=true then (impl_ShowTitles.l0 k (([]:List Int)) l0 (l0.length:Int) 0) else (some (⟨#[]⟩:ByteArray))))=some r:=h
 clear h
 replace H:=Option.bind_eq_some_iff.mp H
 obtain⟨t147,A20,H⟩:=H
 try dsimp only at H
 have A2:=Ia A20
 clear A20
 by_cases c3:t147=true
 ·subst c3
  rw[if_pos rfl] at H
  obtain⟨y148,hy148⟩:∃ y_:List Int,y_=(([]:List Int)):=⟨_,rfl⟩
  replace H:(impl_ShowTitles.l0 k y148 l0 (l0.length:Int) 0)=some r:=by first|(rw [hy148];with_reducible exact H)|(have H2_:=(Option.bind_some _ _).symm.trans H;rw [hy148];with_reducible exact H2_)|(have H2_:=(Option.bind_some _ _).symm.trans H;with_reducible exact H2_)|with_reducible exact H|(rw [hy148];exact H)|exact H
  have Ny148:=Ia hy148
  clear hy148
  have H':=Ia H
  clear H
  go_enter Tryd.func9,Tryd.ntmps9
  go_wp2_with (first|((with_reducible refine gate_callee (f:=19) rfl ?_);refine goesL_ (some 7) rfl rfl Tryd.func19 (by kernel_rfl) rfl #[.slice A0 l0.length c0] rfl (by(try simp only [List.map_toArray,List.map_cons,List.map_nil]);first|done|rfl|(simp only [List.length_drop,List.length_take];rfl)) ?_;(with_reducible refine(impl_TitlesOk.calls k _ _ l0 true _ (by first|exact HGL.out|((repeat(with_reducible refine Glob.drewN ?_));exact HGL.out)|exact Glob.below HGL.out (by repeat(first|(with_reducible first|exact HB.out|apply below_alloc|apply pw_below_drewN|apply below_drew1|refine below_set ?_ GE152.out)|exact HB.out))) ?side1 ?side2 A2.out).mono ?_);(case side1=>repeat(first|exact HR0.out|(with_reducible refine Kd.C_alloc ?_ _)|(with_reducible refine Kd.C_drewN ?_ _)|(with_reducible refine Kd.C_drew ?_)));(case side2=>exact HC0.out);rintro e w4 ⟨rfl,hb⟩;refine⟨_,rfl,?_⟩;have n0_:=Ia (below_step (by repeat(first|(with_reducible first|exact HB.out|apply below_alloc|apply pw_below_drewN|apply below_drew1)|exact HB.out)) hb);clear HB;have HB:=n0_;clear n0_;(try clear hb);(try clear hb2);(try clear hk);(try clear hi))|((with_reducible refine gate_dst (N:=3) rfl ?_);refine box_event ?hg (N:=3) ?hd (cs:=#[.pointer none,.slice none 0 0]) (t:=49) ?hr ?_;(case hd=>rfl);(case hg=>rfl);(case hr=>first|(go_simp;done)|(go_simp;rfl));intro gb0 hg w5 hbox hb;have n0_:=Ia (below_step (by repeat(first|(with_reducible first|exact HB.out|apply below_alloc|apply pw_below_drewN|apply below_drew1)|exact HB.out)) hb);have n1_:=Ia (hbox);have n2_:=Ia ((by rw [hg];exact(below_size (by repeat(first|(with_reducible first|exact HB.out|apply below_alloc|apply pw_below_drewN|apply below_drew1)|exact HB.out))):w.heap.size≤gb0));clear HB;have HB:=n0_;have BK0:=n1_;have GE0:=n2_;clear n0_ n1_ n2_;clear hb hbox hg;have hcz0_0:w5.cell? ⟨gb0,0,none⟩=some (.pointer none):=(blk_cell BK0.out 0).trans rfl;have hcz0_1:w5.cell? ⟨gb0,1,none⟩=some (.slice none 0 0):=(blk_cell BK0.out 1).trans rfl;have hfz0_0:=blk_frozen BK0.out 0;have hfz0_1:=blk_frozen BK0.out 1))
  have n0_:Aside0 (((w5.setCell ⟨gb0,0,none⟩ (.pointer none)).setCell ⟨gb0,1,none⟩ (.slice none 0 0)).heap[gb0]? = some (.cells #[.pointer none,.slice none 0 0] 49 (0,0))):=⟨by refine blk_put (cs:=#[.pointer none,.slice none 0 0]) ?_ 1 _ rfl;refine blk_put (cs:=#[.pointer none,.slice none 0 0]) ?_ 0 _ rfl;exact BK0.out⟩
  have n1_:Aside0 (Below w.heap.size w ((w5.setCell ⟨gb0,0,none⟩ (.pointer none)).setCell ⟨gb0,1,none⟩ (.slice none 0 0))):=⟨below_set (below_set HB.out GE0.out) GE0.out⟩
  (try clear hcz0_0 hcz0_1 hfz0_0 hfz0_1)
  (try clear BK0)
  (try clear HB)
  generalize ((w5.setCell ⟨gb0,0,none⟩ (.pointer none)).setCell ⟨gb0,1,none⟩ (.slice none 0 0))=w6 at n0_ n1_ ⊢
  have HO150:=Ia (show BdR w6 w.heap.size gb0 y148 by rw [Ny148.out];exact BdR_new GE0.out n0_.out)
  have HB:=n1_
  clear n0_ n1_
  go_loopg [12] k (fun kq v12 w'=>∃ (x3_1:List Int) (x12_1:Int),v12=.int .i64 x12_1∧Aside0 (impl_ShowTitles.l0 kq x3_1 l0 (l0.length:Int) x12_1=some r)∧Aside0 (kq≤k)∧Aside0 (BdR w' w.heap.size gb0 x3_1)∧Aside0 (Below w.heap.size w w'))
  case atStart=>exact⟨(y148),(0),(by first|rfl|(simp;done)|(simp [*];done)),H',⟨Nat.le_refl _⟩,⟨by(with_reducible repeat(first|apply BdR_alloc|apply BdR_drewN|apply BdR_drew));exact HO150.out⟩,⟨by repeat(first|(with_reducible first|exact HB.out|apply below_alloc|apply pw_below_drewN|apply below_drew1)|exact HB.out)⟩⟩
  case round=>
   clear H';try clear c1;try clear p2;try clear c3
   obtain⟨x3_1,x12_1,rfl,HA,HK1,HO_3,HB⟩:=hrel
   cases gk with
   | zero => exact absurd HA.out (by simp [impl_ShowTitles.l0])
   | succ k1 =>
    have H:=HA.out
    clear HA
    simp only [impl_ShowTitles.l0] at H
    by_cases c7:x12_1 < (l0.length:Int)
    ·rw [if_pos c7] at H
     have c7b0:=decide_eq_true c7
     clear c7
     by_cases c8:0≤x12_1
     case neg=>rw[if_neg c8] at H;exact absurd H (by simp)
     rw[if_pos c8] at H
     have c8b0:=decide_eq_true c8
     clear c8
     by_cases c9:x12_1 < (l0.length:Int)
     case neg=>rw[if_neg c9] at H;exact absurd H (by simp)
     rw[if_pos c9] at H
     have c9b0:=decide_eq_true c9
     clear c9
     replace H:=Option.bind_eq_some_iff.mp H
     obtain⟨t153,A100,H⟩:=H
     try dsimp only at H
     have A10:=Ia A100
     clear A100
     by_cases c11:t153.size+1≤9223372036854775807
     case neg=>rw[if_neg c11] at H;exact absurd H (by simp)
     rw[if_pos c11] at H
     have c11b0:=eq_true c11
     have c11b1:decide (t153.size+1≤9223372036854775807)=true:=decide_eq_true c11
     try have c11b2:(9223372036854775807 < t153.size+1)=False:=eq_false (Nat.not_lt.2 c11)
     replace H:=Option.bind_eq_some_iff.mp H
     obtain⟨t154,A120,H⟩:=H
     try dsimp only at H
     have A12:=Ia A120
     clear A120
     by_cases c13:(t153 ++ (⟨#[10]⟩:ByteArray)).size+t154.size≤9223372036854775807
     case neg=>rw[if_neg c13] at H;exact absurd H (by simp)
     rw[if_pos c13] at H
     have c13b0:=eq_true c13
     have c13b1:decide ((t153 ++ (⟨#[10]⟩:ByteArray)).size+t154.size≤9223372036854775807)=true:=decide_eq_true c13
     try have c13b2:(9223372036854775807 < (t153 ++ (⟨#[10]⟩:ByteArray)).size+t154.size)=False:=eq_false (Nat.not_lt.2 c13)
     try have c13b3:(9223372036854775807 < t153.size+1+t154.size)=False:=eq_false (Nat.not_lt.2 (by have h_:=c13;simp only [ByteArray.size_append] at h_;exact h_))
     by_cases c14:((t153 ++ (⟨#[10]⟩:ByteArray)) ++ t154).size+5≤9223372036854775807
     case neg=>rw[if_neg c14] at H;exact absurd H (by simp)
     rw[if_pos c14] at H
     have c14b0:=eq_true c14
     have c14b1:decide (((t153 ++ (⟨#[10]⟩:ByteArray)) ++ t154).size+5≤9223372036854775807)=true:=decide_eq_true c14
     try have c14b2:(9223372036854775807 < ((t153 ++ (⟨#[10]⟩:ByteArray)) ++ t154).size+5)=False:=eq_false (Nat.not_lt.2 c14)
     try have c14b3:(9223372036854775807 < t153.size+1+t154.size+5)=False:=eq_false (Nat.not_lt.2 (by have h_:=c14;simp only [ByteArray.size_append] at h_;exact h_))
     replace H:=Option.bind_eq_some_iff.mp H
     obtain⟨t155,A150,H⟩:=H
     try dsimp only at H
     have A15:=Ia A150
     clear A150
     by_cases c16:(((t153 ++ (⟨#[10]⟩:ByteArray)) ++ t154) ++ (⟨#[32,45,45,62,32]⟩:ByteArray)).size+t155.size≤9223372036854775807
     case neg=>rw[if_neg c16] at H;exact absurd H (by simp)
     rw[if_pos c16] at H
     have c16b0:=eq_true c16
     have c16b1:decide ((((t153 ++ (⟨#[10]⟩:ByteArray)) ++ t154) ++ (⟨#[32,45,45,62,32]⟩:ByteArray)).size+t155.size≤9223372036854775807)=true:=decide_eq_true c16
     try have c16b2:(9223372036854775807 < (((t153 ++ (⟨#[10]⟩:ByteArray)) ++ t154) ++ (⟨#[32,45,45,62,32]⟩:ByteArray)).size+t155.size)=False:=eq_false (Nat.not_lt.2 c16)
     try have c16b3:(9223372036854775807 < t153.size+1+t154.size+5+t155.size)=False:=eq_false (Nat.not_lt.2 (by have h_:=c16;simp only [ByteArray.size_append] at h_;exact h_))
     by_cases c17:((((t153 ++ (⟨#[10]⟩:ByteArray)) ++ t154) ++ (⟨#[32,45,45,62,32]⟩:ByteArray)) ++ t155).size+1≤9223372036854775807
     case neg=>rw[if_neg c17] at H;exact absurd H (by simp)
     rw[if_pos c17] at H
     have c17b0:=eq_true c17
     have c17b1:decide (((((t153 ++ (⟨#[10]⟩:ByteArray)) ++ t154) ++ (⟨#[32,45,45,62,32]⟩:ByteArray)) ++ t155).size+1≤9223372036854775807)=true:=decide_eq_true c17
     try have c17b2:(9223372036854775807 < ((((t153 ++ (⟨#[10]⟩:ByteArray)) ++ t154) ++ (⟨#[32,45,45,62,32]⟩:ByteArray)) ++ t155).size+1)=False:=eq_false (Nat.not_lt.2 c17)
     try have c17b3:(9223372036854775807 < t153.size+1+t154.size+5+t155.size+1)=False:=eq_false (Nat.not_lt.2 (by have h_:=c17;simp only [ByteArray.size_append] at h_;exact h_))
     by_cases c18:(((((t153 ++ (⟨#[10]⟩:ByteArray)) ++ t154) ++ (⟨#[32,45,45,62,32]⟩:ByteArray)) ++ t155) ++ (⟨#[10]⟩:ByteArray)).size+((rd_T40 l0 x12_1).f2).size≤9223372036854775807
     case neg=>rw[if_neg c18] at H;exact absurd H (by simp)
     rw[if_pos c18] at H
     have c18b0:=eq_true c18
     have c18b1:decide ((((((t153 ++ (⟨#[10]⟩:ByteArray)) ++ t154) ++ (⟨#[32,45,45,62,32]⟩:ByteArray)) ++ t155) ++ (⟨#[10]⟩:ByteArray)).size+((rd_T40 l0 x12_1).f2).size≤9223372036854775807)=true:=decide_eq_true c18
     try have c18b2:(9223372036854775807 < (((((t153 ++ (⟨#[10]⟩:ByteArray)) ++ t154) ++ (⟨#[32,45,45,62,32]⟩:ByteArray)) ++ t155) ++ (⟨#[10]⟩:ByteArray)).size+((rd_T40 l0 x12_1).f2).size)=False:=eq_false (Nat.not_lt.2 c18)
     try have c18b3:(9223372036854775807 < t153.size+1+t154.size+5+t155.size+1+(rd_T40 l0 x12_1).f2.size)=False:=eq_false (Nat.not_lt.2 (by have h_:=c18;simp only [ByteArray.size_append] at h_;exact h_))
     by_cases c19:((((((t153 ++ (⟨#[10]⟩:ByteArray)) ++ t154) ++ (⟨#[32,45,45,62,32]⟩:ByteArray)) ++ t155) ++ (⟨#[10]⟩:ByteArray)) ++ ((rd_T40 l0 x12_1).f2)).size+2≤9223372036854775807
     case neg=>rw[if_neg c19] at H;exact absurd H (by simp)
     rw[if_pos c19] at H
     have c19b0:=eq_true c19
     have c19b1:decide (((((((t153 ++ (⟨#[10]⟩:ByteArray)) ++ t154) ++ (⟨#[32,45,45,62,32]⟩:ByteArray)) ++ t155) ++ (⟨#[10]⟩:ByteArray)) ++ ((rd_T40 l0 x12_1).f2)).size+2≤9223372036854775807)=true:=decide_eq_true c19
     try have c19b2:(9223372036854775807 < ((((((t153 ++ (⟨#[10]⟩:ByteArray)) ++ t154) ++ (⟨#[32,45,45,62,32]⟩:ByteArray)) ++ t155) ++ (⟨#[10]⟩:ByteArray)) ++ ((rd_T40 l0 x12_1).f2)).size+2)=False:=eq_false (Nat.not_lt.2 c19)
     try have c19b3:(9223372036854775807 < t153.size+1+t154.size+5+t155.size+1+(rd_T40 l0 x12_1).f2.size+2)=False:=eq_false (Nat.not_lt.2 (by have h_:=c19;simp only [ByteArray.size_append] at h_;exact h_))
     by_cases c20:x3_1.length+(((((((t153 ++ (⟨#[10]⟩:ByteArray)) ++ t154) ++ (⟨#[32,45,45,62,32]⟩:ByteArray)) ++ t155) ++ (⟨#[10]⟩:ByteArray)) ++ ((rd_T40 l0 x12_1).f2)) ++ (⟨#[10,10]⟩:ByteArray)).size < 140737488355328
     case neg=>rw[if_neg c20] at H;exact absurd H (by simp)
     rw[if_pos c20] at H
     have LMc20:=Ia c20
     clear c20
     obtain⟨y156,hy156⟩:∃ y_:List Int,y_=(x3_1 ++ bytesOf (((((((t153 ++ (⟨#[10]⟩:ByteArray)) ++ t154) ++ (⟨#[32,45,45,62,32]⟩:ByteArray)) ++ t155) ++ (⟨#[10]⟩:ByteArray)) ++ ((rd_T40 l0 x12_1).f2)) ++ (⟨#[10,10]⟩:ByteArray))):=⟨_,rfl⟩
     replace H:(impl_ShowTitles.l0 k1 y156 l0 (l0.length:Int) (wrap64 (x12_1+1)))=some r:=by first|(rw [hy156];with_reducible exact H)|(have H2_:=(Option.bind_some _ _).symm.trans H;rw [hy156];with_reducible exact H2_)|(have H2_:=(Option.bind_some _ _).symm.trans H;with_reducible exact H2_)|with_reducible exact H|(rw [hy156];exact H)|exact H
     have Ny156:=Ia hy156
     clear hy156
     have H':=Ia H
     clear H
     have p151:0≤(x12_1:Int):=of_decide_eq_true (by first|(with_reducible assumption)|assumption)
     have q151:x12_1 < (l0.length:Int):=of_decide_eq_true (by first|(with_reducible assumption)|assumption)
     obtain⟨ad151,e151,hx151_0,hx151_1,hx151_2⟩:=at_T40 HR0.out x12_1 p151 q151
     cases e151
     replace hx151_0:=(HB.out.cell (World.block_lt_of_cell? w _ hx151_0)).trans hx151_0
     replace hx151_1:=(HB.out.cell (World.block_lt_of_cell? w _ hx151_1)).trans hx151_1
     replace hx151_2:=(HB.out.cell (World.block_lt_of_cell? w _ hx151_2)).trans hx151_2
     replace p151:=eq_true p151
     replace q151:=eq_true q151
     try go_wp2_with (first|((with_reducible refine gate_dst (N:=5) rfl ?_);refine box_event ?hg (N:=5) ?hd (cs:=#[.int .i64 0,.int .i64 0,.string (⟨#[]⟩:ByteArray)]) (t:=40) ?hr ?_;(case hd=>rfl);(case hg=>rfl);(case hr=>first|(go_simp;done)|(go_simp;rfl));intro gb152 hg w21 hbox hb;have n0_:=Ia (BdR_below (by(with_reducible repeat(first|apply BdR_alloc|apply BdR_drewN|apply BdR_drew));exact HO_3.out) hb);have n1_:=Ia (below_step (by repeat(first|(with_reducible first|exact HB.out|apply below_alloc|apply pw_below_drewN|apply below_drew1)|exact HB.out)) hb);have n2_:=Ia (hbox);have n3_:=Ia ((by rw [hg];exact(below_size (by repeat(first|(with_reducible first|exact HB.out|apply below_alloc|apply pw_below_drewN|apply below_drew1)|exact HB.out))):w.heap.size≤gb152));have n4_:=Ia ((by rw [hg];exact(below_size (by repeat(first|(with_reducible first|exact HB.out|apply below_alloc|apply pw_below_drewN|apply below_drew1)|exact HB.out))):w.heap.size≤gb152));clear HO_3;clear HB;have HO_3:=n0_;have HB:=n1_;have BK152:=n2_;have GW152:=n3_;have GE152:=n4_;clear n0_ n1_ n2_ n3_ n4_;clear hb hbox hg;have hcz22_0:w21.cell? ⟨gb152,0,none⟩=some (.int .i64 0):=(blk_cell BK152.out 0).trans rfl;have hcz22_1:w21.cell? ⟨gb152,1,none⟩=some (.int .i64 0):=(blk_cell BK152.out 1).trans rfl;have hcz22_2:w21.cell? ⟨gb152,2,none⟩=some (.string (⟨#[]⟩:ByteArray)):=(blk_cell BK152.out 2).trans rfl;have hfz22_0:=blk_frozen BK152.out 0;have hfz22_1:=blk_frozen BK152.out 1;have hfz22_2:=blk_frozen BK152.out 2))
     have n0_:Aside0 (BdR (((w21.setCell ⟨gb152,0,none⟩ (.int .i64 ((rd_T40 l0 x12_1).f0))).setCell ⟨gb152,1,none⟩ (.int .i64 ((rd_T40 l0 x12_1).f1))).setCell ⟨gb152,2,none⟩ (.string ((rd_T40 l0 x12_1).f2))) w.heap.size gb0 x3_1):=⟨by(with_reducible repeat(first|apply BdR_alloc|apply BdR_drewN|apply BdR_drew));exact BdR_set3 HO_3.out BK152.out⟩
     have n1_:Aside0 ((((w21.setCell ⟨gb152,0,none⟩ (.int .i64 ((rd_T40 l0 x12_1).f0))).setCell ⟨gb152,1,none⟩ (.int .i64 ((rd_T40 l0 x12_1).f1))).setCell ⟨gb152,2,none⟩ (.string ((rd_T40 l0 x12_1).f2))).heap[gb152]? = some (.cells #[.int .i64 ((rd_T40 l0 x12_1).f0),.int .i64 ((rd_T40 l0 x12_1).f1),.string ((rd_T40 l0 x12_1).f2)] 40 (0,0))):=⟨by(with_reducible repeat(first|refine blk_drewN ?_ _|refine blk_drew ?_|refine blk_alloc ?_ _));refine blk_put (cs:=#[.int .i64 ((rd_T40 l0 x12_1).f0),.int .i64 ((rd_T40 l0 x12_1).f1),.string (⟨#[]⟩:ByteArray)]) ?_ 2 _ rfl;(with_reducible repeat(first|refine blk_drewN ?_ _|refine blk_drew ?_|refine blk_alloc ?_ _));refine blk_put (cs:=#[.int .i64 ((rd_T40 l0 x12_1).f0),.int .i64 0,.string (⟨#[]⟩:ByteArray)]) ?_ 1 _ rfl;(with_reducible repeat(first|refine blk_drewN ?_ _|refine blk_drew ?_|refine blk_alloc ?_ _));refine blk_put (cs:=#[.int .i64 0,.int .i64 0,.string (⟨#[]⟩:ByteArray)]) ?_ 0 _ rfl;(with_reducible repeat(first|refine blk_drewN ?_ _|refine blk_drew ?_|refine blk_alloc ?_ _));exact BK152.out⟩
     have n2_:Aside0 (Below w.heap.size w (((w21.setCell ⟨gb152,0,none⟩ (.int .i64 ((rd_T40 l0 x12_1).f0))).setCell ⟨gb152,1,none⟩ (.int .i64 ((rd_T40 l0 x12_1).f1))).setCell ⟨gb152,2,none⟩ (.string ((rd_T40 l0 x12_1).f2)))):=⟨by repeat(first|(with_reducible first|exact HB.out|apply below_alloc|apply pw_below_drewN|apply below_drew1|refine below_set ?_ GE152.out)|exact HB.out)⟩
     (try clear HO_3)
     (try clear BK152)
     (try clear HB)
     generalize (((w21.setCell ⟨gb152,0,none⟩ (.int .i64 ((rd_T40 l0 x12_1).f0))).setCell ⟨gb152,1,none⟩ (.int .i64 ((rd_T40 l0 x12_1).f1))).setCell ⟨gb152,2,none⟩ (.string ((rd_T40 l0 x12_1).f2)))=w23 at n0_ n1_ n2_ ⊢
     have HO_3:=n0_
     have BK152:=n1_
     have HB:=n2_
     clear n0_ n1_ n2_
     have n0_:=Ia (BdR_drew HO_3.out)
     have n1_:=Ia (blk_drew BK152.out)
     have n2_:=Ia (below_drew1 HB.out)
     clear HO_3 BK152
     clear HB
     have HO_3:=n0_
     have BK152:=n1_
     have HB:=n2_
     clear n0_ n1_ n2_
     refine start_ (n:=19) (S:=fun w'=>w'.cell? ⟨gb152,0,none⟩=some (.int .i64 ((rd_T40 l0 x12_1).f0))∧w'.cell? ⟨gb152,1,none⟩=some (.int .i64 ((rd_T40 l0 x12_1).f1))∧w'.cell? ⟨gb152,2,none⟩=some (.string ((rd_T40 l0 x12_1).f2))) (ds:=[18]) #[false,false,false,false,false,false,false,false,false,false,false,false,false,false,false,false,false,false,false] (by kernel_rfl) rfl rfl ⟨(blk_cell BK152.out 0).trans rfl,(blk_cell BK152.out 1).trans rfl,(blk_cell BK152.out 2).trans rfl⟩ (fun hHeld=>?_);refine with_tabW impl_ShowTitles.tab7 impl_ShowTitles.bits7 (fun HT_ HW_=>?_)
     generalize w23.drew=w24 at HO_3 BK152 HB hHeld ⊢
     refine pz 0 17 (bm 19 1) HT_ ?_
     refine pz 1 18 (bm 19 3) HT_ ?_
     refine pz 4 21 (bm 19 19) HT_ ?_
     refine pz 9 26 (bm 19 531) HT_ ?_
     refine pz 14 31 (bm 19 16915) HT_ ?_
     refine tz 5 22 (bm 19 16947) HT_ HW_ hHeld rfl (by rintro w' ⟨s0,s1,s2⟩;go_simp;with_reducible rfl) ?_
     refine tz 10 27 (bm 19 17971) HT_ HW_ hHeld rfl (by rintro w' ⟨s0,s1,s2⟩;go_simp;with_reducible rfl) ?_
     refine tz 15 32 (bm 19 50739) HT_ HW_ hHeld rfl (by rintro w' ⟨s0,s1,s2⟩;go_simp;with_reducible rfl) ?_
     refine one_ (i:=2) (N:=some 19) (bm 19 50743) rfl rfl (one_of HT_.out (by kernel_rfl)) (by decide) (fun K hK=>?_)
     refine goes_ Tryd.func26 (by kernel_rfl) rfl #[.int .i64 (wrap64 (x12_1+1))] (by rfl) rfl rfl (by(try simp only [List.map_toArray,List.map_cons,List.map_nil]);first|done|rfl|(simp only [List.length_drop,List.length_take];rfl)) ?_
     with_reducible refine(strconv_Itoa_26.calls (wrap64 (x12_1+1)) t153 _ (by first|exact HGL.out|((repeat(with_reducible refine Glob.drewN ?_));exact HGL.out)|exact Glob.below HGL.out (by repeat(first|(with_reducible first|exact HB.out|apply below_alloc|apply pw_below_drewN|apply below_drew1|refine below_set ?_ GE152.out)|exact HB.out))) A10.out).mono ?_
     rintro e w25 ⟨rfl,hb⟩
     refine⟨_,rfl,?_⟩
     have n0_:=Ia (BdR_below (by(with_reducible repeat(first|apply BdR_alloc|apply BdR_drewN|apply BdR_drew));exact HO_3.out) hb)
     have n1_:=Ia (blk_below (g:=gb152) (o:=.cells #[.int .i64 ((rd_T40 l0 x12_1).f0),.int .i64 ((rd_T40 l0 x12_1).f1),.string ((rd_T40 l0 x12_1).f2)] 40 (0,0)) (by(with_reducible repeat(first|refine blk_drewN ?_ _|refine blk_drew ?_|refine blk_alloc ?_ _));exact BK152.out) hb)
     have n2_:=Ia (below_step (by repeat(first|(with_reducible first|exact HB.out|apply below_alloc|apply pw_below_drewN|apply below_drew1|refine below_set ?_ GE152.out)|exact HB.out)) hb)
     clear HO_3 BK152
     clear HB
     have HO_3:=n0_
     have BK152:=n1_
     have HB:=n2_
     clear n0_ n1_ n2_
     (try clear hb)
     (try clear hb2)
     (try clear hk)
     (try clear hi)
     refine hK.out _ _ ⟨(blk_cell BK152.out 0).trans rfl,(blk_cell BK152.out 1).trans rfl,(blk_cell BK152.out 2).trans rfl⟩ (fun hHeld=>?_)
     clear hK K
     refine norm_ (a':=?_) ?_ ?_;rotate_left;(show Act.put _ (some 19) _=_;simp only[pw];rfl)
     refine pz 3 20 (bm 19 50751) HT_ ?_
     refine one_ (i:=6) (N:=some 23) (bm 19 50815) rfl rfl (one_of HT_.out (by kernel_rfl)) (by decide) (fun K hK=>?_)
     refine goes_ Tryd.func27 (by kernel_rfl) rfl #[.int .i64 ((rd_T40 l0 x12_1).f0)] (by rfl) rfl rfl (by(try simp only [List.map_toArray,List.map_cons,List.map_nil]);first|done|rfl|(simp only [List.length_drop,List.length_take];rfl)) ?_
     with_reducible refine(impl_milliText.calls ((rd_T40 l0 x12_1).f0) t154 _ (by first|exact HGL.out|((repeat(with_reducible refine Glob.drewN ?_));exact HGL.out)|exact Glob.below HGL.out (by repeat(first|(with_reducible first|exact HB.out|apply below_alloc|apply pw_below_drewN|apply below_drew1|refine below_set ?_ GE152.out)|exact HB.out))) A12.out).mono ?_
     rintro e w26 ⟨rfl,hb⟩
     refine⟨_,rfl,?_⟩
     have n0_:=Ia (BdR_below (by(with_reducible repeat(first|apply BdR_alloc|apply BdR_drewN|apply BdR_drew));exact HO_3.out) hb)
     have n1_:=Ia (blk_below (g:=gb152) (o:=.cells #[.int .i64 ((rd_T40 l0 x12_1).f0),.int .i64 ((rd_T40 l0 x12_1).f1),.string ((rd_T40 l0 x12_1).f2)] 40 (0,0)) (by(with_reducible repeat(first|refine blk_drewN ?_ _|refine blk_drew ?_|refine blk_alloc ?_ _));exact BK152.out) hb)
     have n2_:=Ia (below_step (by repeat(first|(with_reducible first|exact HB.out|apply below_alloc|apply pw_below_drewN|apply below_drew1|refine below_set ?_ GE152.out)|exact HB.out)) hb)
     clear HO_3 BK152
     clear HB
     have HO_3:=n0_
     have BK152:=n1_
     have HB:=n2_
     clear n0_ n1_ n2_
     (try clear hb)
     (try clear hb2)
     (try clear hk)
     (try clear hi)
     refine hK.out _ _ ⟨(blk_cell BK152.out 0).trans rfl,(blk_cell BK152.out 1).trans rfl,(blk_cell BK152.out 2).trans rfl⟩ (fun hHeld=>?_)
     clear hK K
     refine norm_ (a':=?_) ?_ ?_;rotate_left;(show Act.put _ (some 23) _=_;simp only[pw];rfl)
     refine pz 7 24 (bm 19 50943) HT_ ?_
     refine pz 8 25 (bm 19 51199) HT_ ?_
     refine one_ (i:=11) (N:=some 28) (bm 19 53247) rfl rfl (one_of HT_.out (by kernel_rfl)) (by decide) (fun K hK=>?_)
     refine goes_ Tryd.func27 (by kernel_rfl) rfl #[.int .i64 ((rd_T40 l0 x12_1).f1)] (by rfl) rfl rfl (by(try simp only [List.map_toArray,List.map_cons,List.map_nil]);first|done|rfl|(simp only [List.length_drop,List.length_take];rfl)) ?_
     with_reducible refine(impl_milliText.calls ((rd_T40 l0 x12_1).f1) t155 _ (by first|exact HGL.out|((repeat(with_reducible refine Glob.drewN ?_));exact HGL.out)|exact Glob.below HGL.out (by repeat(first|(with_reducible first|exact HB.out|apply below_alloc|apply pw_below_drewN|apply below_drew1|refine below_set ?_ GE152.out)|exact HB.out))) A15.out).mono ?_
     rintro e w27 ⟨rfl,hb⟩
     refine⟨_,rfl,?_⟩
     have n0_:=Ia (BdR_below (by(with_reducible repeat(first|apply BdR_alloc|apply BdR_drewN|apply BdR_drew));exact HO_3.out) hb)
     have n1_:=Ia (blk_below (g:=gb152) (o:=.cells #[.int .i64 ((rd_T40 l0 x12_1).f0),.int .i64 ((rd_T40 l0 x12_1).f1),.string ((rd_T40 l0 x12_1).f2)] 40 (0,0)) (by(with_reducible repeat(first|refine blk_drewN ?_ _|refine blk_drew ?_|refine blk_alloc ?_ _));exact BK152.out) hb)
     have n2_:=Ia (below_step (by repeat(first|(with_reducible first|exact HB.out|apply below_alloc|apply pw_below_drewN|apply below_drew1|refine below_set ?_ GE152.out)|exact HB.out)) hb)
     clear HO_3 BK152
     clear HB
     have HO_3:=n0_
     have BK152:=n1_
     have HB:=n2_
     clear n0_ n1_ n2_
     (try clear hb)
     (try clear hb2)
     (try clear hk)
     (try clear hi)
     refine hK.out _ _ ⟨(blk_cell BK152.out 0).trans rfl,(blk_cell BK152.out 1).trans rfl,(blk_cell BK152.out 2).trans rfl⟩ (fun hHeld=>?_)
     clear hK K
     refine norm_ (a':=?_) ?_ ?_;rotate_left;(show Act.put _ (some 28) _=_;simp only[pw];rfl)
     refine pz 12 29 (bm 19 57343) HT_ ?_
     refine pz 13 30 (bm 19 65535) HT_ ?_
     refine pz 16 33 (bm 19 131071) HT_ ?_
     refine pz 17 34 (bm 19 262143) HT_ ?_
     refine last_ (i:=18) (N:=some 35) (bm 19 524287) rfl rfl (one_of HT_.out (by kernel_rfl)) (by decide) (fun K hK=>?_)
     refine goes_ Tryd.func25 (by kernel_rfl) rfl #[.pointer (some ⟨gb0,0,none⟩),.string (((((((t153 ++ (⟨#[10]⟩:ByteArray)) ++ t154) ++ (⟨#[32,45,45,62,32]⟩:ByteArray)) ++ t155) ++ (⟨#[10]⟩:ByteArray)) ++ ((rd_T40 l0 x12_1).f2)) ++ (⟨#[10,10]⟩:ByteArray))] (by rfl) rfl rfl (by(try simp only [List.map_toArray,List.map_cons,List.map_nil]);first|done|rfl|(simp only [List.length_drop,List.length_take];rfl)) ?_
     refine(BdR_write w.heap.size gb0 x3_1 (((((((t153 ++ (⟨#[10]⟩:ByteArray)) ++ t154) ++ (⟨#[32,45,45,62,32]⟩:ByteArray)) ++ t155) ++ (⟨#[10]⟩:ByteArray)) ++ ((rd_T40 l0 x12_1).f2)) ++ (⟨#[10,10]⟩:ByteArray)) _ (by(with_reducible repeat(first|apply BdR_alloc|apply BdR_drewN|apply BdR_drew));exact HO_3.out) (by have:=LMc20.out;omega) (below_size (by repeat(first|(with_reducible first|exact HB.out|apply below_alloc|apply pw_below_drewN|apply below_drew1|refine below_set ?_ GE152.out)|exact HB.out)))).mono ?_
     rintro e w28 ⟨rfl,ho,hb⟩
     refine⟨_,rfl,?_⟩
     rw [← Ny156.out] at ho
     have HO158:=Ia ho
     have n1_:=Ia (Below.trans (by repeat(first|(with_reducible first|exact HB.out|apply below_alloc|apply pw_below_drewN|apply below_drew1|refine below_set ?_ GE152.out)|exact HB.out)) hb)
     clear HB
     have HB:=n1_
     clear n1_ ho hb
     refine hK.out _ _ ?_
     clear hK K
     refine norm_ (a':=?_) ?_ ?_;rotate_left;(show Act.put _ (some 35) _=_;simp only[pw];rfl)
     refine done_ (done_of HT_.out (by kernel_rfl)) ?_
     go_wp2
     go_roundg k1
     case measure=>have:=HK1.out;omega
     case rel=>exact⟨(y156),(wrap64 (x12_1+1)),(by first|rfl|(simp;done)|(simp [*];done)),H',⟨by have:=HK1.out;omega⟩,⟨by(with_reducible repeat(first|apply BdR_alloc|apply BdR_drewN|apply BdR_drew));exact HO158.out⟩,⟨by repeat(first|(with_reducible first|exact HB.out|apply below_alloc|apply pw_below_drewN|apply below_drew1|refine below_set ?_ GE152.out)|exact HB.out)⟩⟩
    ·rw [if_neg c7] at H
     have c7b0:=decide_eq_false c7
     clear c7
     obtain rfl:=Option.some.inj H
     go_wp2_with (first|(go_at_call 28;refine(BdR_string w.heap.size gb0 x3_1 _ (by(with_reducible repeat(first|apply BdR_alloc|apply BdR_drewN|apply BdR_drew));exact HO_3.out) (below_size (by repeat(first|(with_reducible first|exact HB.out|apply below_alloc|apply pw_below_drewN|apply below_drew1)|exact HB.out)))).mono ?_;rintro e w29 ⟨rfl,hb⟩;have n0_:=Ia (Below.trans (by repeat(first|(with_reducible first|exact HB.out|apply below_alloc|apply pw_below_drewN|apply below_drew1)|exact HB.out)) hb);clear HB;have HB:=n0_;clear n0_ hb))
     go_ret
     exact⟨by first|rfl|(simp [errW_none,errW_some] <;> rfl)|(simp [*,errW_none,errW_some] <;> rfl),by repeat(first|(with_reducible first|exact HB.out|apply below_alloc|apply pw_below_drewN|apply below_drew1)|exact HB.out)⟩
 ·replace c3:=Bool.eq_false_iff.mpr c3
  subst c3
  have H1:(some (⟨#[]⟩:ByteArray))=some r:=by rw [if_neg (show ¬ (false=true) by decide)] at H;exact H
  clear H
  have H:=H1
  clear H1
  obtain rfl:=Option.some.inj H
  go_enter Tryd.func9,Tryd.ntmps9
  go_wp2_with (first|((with_reducible refine gate_callee (f:=19) rfl ?_);refine goesL_ (some 7) rfl rfl Tryd.func19 (by kernel_rfl) rfl #[.slice A0 l0.length c0] rfl (by(try simp only [List.map_toArray,List.map_cons,List.map_nil]);first|done|rfl|(simp only [List.length_drop,List.length_take];rfl)) ?_;(with_reducible refine(impl_TitlesOk.calls k _ _ l0 false _ (by first|exact HGL.out|((repeat(with_reducible refine Glob.drewN ?_));exact HGL.out)|exact Glob.below HGL.out (by repeat(first|(with_reducible first|exact HB.out|apply below_alloc|apply pw_below_drewN|apply below_drew1|refine below_set ?_ GE152.out)|exact HB.out))) ?side1 ?side2 A2.out).mono ?_);(case side1=>repeat(first|exact HR0.out|(with_reducible refine Kd.C_alloc ?_ _)|(with_reducible refine Kd.C_drewN ?_ _)|(with_reducible refine Kd.C_drew ?_)));(case side2=>exact HC0.out);rintro e w30 ⟨rfl,hb⟩;refine⟨_,rfl,?_⟩;have n0_:=Ia (below_step (by repeat(first|(with_reducible first|exact HB.out|apply below_alloc|apply pw_below_drewN|apply below_drew1)|exact HB.out)) hb);clear HB;have HB:=n0_;clear n0_;(try clear hb);(try clear hb2);(try clear hk);(try clear hi)))
  go_ret
  exact⟨by first|rfl|(simp [errW_none,errW_some] <;> rfl)|(simp [*,errW_none,errW_some] <;> rfl),by repeat(first|(with_reducible first|exact HB.out|apply below_alloc|apply pw_below_drewN|apply below_drew1)|exact HB.out)⟩

/-! ### spec_l12Line: function 30 -/
def spec_l12Line.l0 : Nat → ByteArray → Int → Int → Option (ByteArray × Int × Bool)
 | 0, _, _, _ => none
 | k + 1, x0, x1, x7 => if x7 < (x0.size : Int) then (if 0 ≤ x7 then (if (bt x0 x7) = 10 then (if 0 ≤ x1 then (if x1 ≤ x7 then (if x7 ≤ (x0.size : Int) then (some (x0.extract (x1 : Int).toNat (x7 : Int).toNat, wrap64 (x7 + 1), true)) else (none)) else (none)) else (none)) else (spec_l12Line.l0 k x0 x1 (wrap64 (x7 + 1)))) else (none)) else (some ((⟨#[]⟩ : ByteArray), x1, false))
def spec_l12Line.f (k : Nat) (a0 : ByteArray) (a1 : Int) : Option (ByteArray × Int × Bool) := spec_l12Line.l0 k a0 a1 a1
theorem spec_l12Line.mono_l : ∀ k, (∀ y0 y1 y2, LeO (spec_l12Line.l0 k y0 y1 y2) (spec_l12Line.l0 (k + 1) y0 y1 y2))
 | 0 => fun _ _ _ r h => by simp [spec_l12Line.l0] at h
 | k + 1 => by
  have ih0:=spec_l12Line.mono_l k
  ·intro y0 y1 y2
   unfold spec_l12Line.l0
   repeat' first|(with_reducible first|exact ih0 _ _ _|exact LeO.refl _|exact LeO.none _|refine LeO.ite ?_ ?_|refine LeO.bind ?_ (fun _=>?_))|exact ih0 _ _ _|exact LeO.none _|refine LeO.ite ?_ ?_|refine LeO.bind ?_ (fun _=>?_)
theorem spec_l12Line.mono : ∀ a0 a1 k, LeO (spec_l12Line.f k a0 a1) (spec_l12Line.f (k + 1) a0 a1) := by
 intro a0 a1 k
 have ih0:=spec_l12Line.mono_l k
 unfold spec_l12Line.f
 repeat' first|(with_reducible first|exact ih0 _ _ _|exact LeO.refl _|exact LeO.none _|refine LeO.ite ?_ ?_|refine LeO.bind ?_ (fun _=>?_))|exact ih0 _ _ _|exact LeO.none _|refine LeO.ite ?_ ?_|refine LeO.bind ?_ (fun _=>?_)
set_option maxHeartbeats 8000000 in
set_option maxRecDepth 100000 in
theorem spec_l12Line.calls (k : Nat) (a0 : ByteArray) (a1 : Int) (r1 : ByteArray) (r2 : Int) (r3 : Bool) (w : World) (h : spec_l12Line.f k a0 a1 = some (r1, r2, r3)) :
  Calls Tryd.prog 30 #[.string a0,.int .i64 a1] w fun e w'=>e=.returned (.tuple #[.string r1,.int .i64 r2,.bool r3])∧Drawn0 w w':=by
 have H:(spec_l12Line.l0 k a0 a1 a1)=some (r1,r2,r3):=h
 clear h
 have H':=Ia H
 clear H
 go_enter Tryd.func30,Tryd.ntmps30
 go_wp2
 go_loopg [7] k (fun kq v7 w'=>∃ (qa:Int),v7=.int .i64 qa∧Aside0 (spec_l12Line.l0 kq a0 a1 qa=some (r1,r2,r3))∧Aside0 (kq≤k)∧Drawn0 w w')
 case atStart=>exact⟨(a1),(by first|rfl|(simp;done)|(simp [*];done)),H',⟨Nat.le_refl _⟩,by repeat(first|exact Drawn0.refl _|apply Drawn0.step)⟩
 case round=>
  clear H';try clear p2
  obtain⟨qa,rfl,HA,HK1,⟨m1,rfl⟩⟩:=hrel
  cases gk with
  | zero => exact absurd HA.out (by simp [spec_l12Line.l0])
  | succ k1 =>
   have H:=HA.out
   clear HA
   simp only [spec_l12Line.l0] at H
   by_cases c3:qa < (a0.size:Int)
   ·rw [if_pos c3] at H
    have c3b0:=decide_eq_true c3
    clear c3
    by_cases c4:0≤qa
    case neg=>rw[if_neg c4] at H;exact absurd H (by simp)
    rw[if_pos c4] at H
    have c4b0:=decide_eq_true c4
    clear c4
    by_cases c6:(bt a0 qa)=10
    ·rw [if_pos c6] at H
     have c6b0:((bt a0 qa) == 10)=true:=beq_iff_eq.mpr c6
     have c6b1:((bt a0 qa) != 10)=false:=bne_eq_false_iff_eq.mpr c6
     clear c6
     by_cases c7:0≤a1
     case neg=>rw[if_neg c7] at H;exact absurd H (by simp)
     rw[if_pos c7] at H
     have c7b0:=eq_true c7
     have c7b1:decide (0≤a1)=true:=decide_eq_true c7
     clear c7
     by_cases c8:a1≤qa
     case neg=>rw[if_neg c8] at H;exact absurd H (by simp)
     rw[if_pos c8] at H
     have c8b0:=eq_true c8
     have c8b1:decide (a1≤qa)=true:=decide_eq_true c8
     clear c8
     by_cases c9:qa≤(a0.size:Int)
     case neg=>rw[if_neg c9] at H;exact absurd H (by simp)
     rw[if_pos c9] at H
     have c9b0:=eq_true c9
     have c9b1:decide (qa≤(a0.size:Int))=true:=decide_eq_true c9
     clear c9
     simp only [Option.some.injEq,Prod.mk.injEq] at H
     obtain⟨rfl,rfl,rfl⟩:=H
     have p5:0≤(qa:Int):=of_decide_eq_true (by first|(with_reducible assumption)|assumption)
     have q5:qa < (a0.size:Int):=of_decide_eq_true (by first|(with_reducible assumption)|assumption)
     have hx5:=bt_at a0 qa
     replace p5:=eq_true p5
     replace q5:=eq_true q5
     go_wp2
     go_ret3
     exact⟨by first|rfl|(simp;done)|(simp [*];done),by repeat(first|exact Drawn0.refl _|apply Drawn0.step)⟩
    ·rw [if_neg c6] at H
     have c6b0:((bt a0 qa) == 10)=false:=beq_eq_false_iff_ne.mpr c6
     have c6b1:((bt a0 qa) != 10)=true:=bne_iff_ne.mpr c6
     have H':=Ia H
     clear H
     have p5:0≤(qa:Int):=of_decide_eq_true (by first|(with_reducible assumption)|assumption)
     have q5:qa < (a0.size:Int):=of_decide_eq_true (by first|(with_reducible assumption)|assumption)
     have hx5:=bt_at a0 qa
     replace p5:=eq_true p5
     replace q5:=eq_true q5
     go_wp2
     go_roundg k1
     case measure=>have:=HK1.out;omega
     case rel=>exact⟨(wrap64 (qa+1)),(by first|rfl|(simp;done)|(simp [*];done)),H',⟨by have:=HK1.out;omega⟩,by repeat(first|exact Drawn0.refl _|apply Drawn0.step)⟩
   ·rw [if_neg c3] at H
    have c3b0:=decide_eq_false c3
    clear c3
    simp only [Option.some.injEq,Prod.mk.injEq] at H
    obtain⟨rfl,rfl,rfl⟩:=H
    go_wp2
    go_ret3
    exact⟨by first|rfl|(simp;done)|(simp [*];done),by repeat(first|exact Drawn0.refl _|apply Drawn0.step)⟩

/-! ### spec_l1Min: function 45 -/
def spec_l1Min.f (a0 : Int) (a1 : Int) : Option (Int) := if a0 < a1 then (some a0) else (some a1)
set_option maxHeartbeats 8000000 in
set_option maxRecDepth 100000 in
theorem spec_l1Min.calls (a0 : Int) (a1 : Int) (r : Int) (w : World) (h : spec_l1Min.f a0 a1 = some r) :
  Calls Tryd.prog 45 #[.int .i64 a0,.int .i64 a1] w fun e w'=>e=.returned (.int .i64 r)∧Drawn0 w w':=by
 have H:(if a0 < a1 then (some a0) else (some a1))=some r:=h
 clear h
 by_cases c3:a0 < a1
 ·rw [if_pos c3] at H
  have c3b0:=decide_eq_true c3
  clear c3
  obtain rfl:=Option.some.inj H
  go_enter Tryd.func45,Tryd.ntmps45
  go_wp2
  go_ret
  exact⟨by first|rfl|(simp;done)|(simp [*];done),by repeat(first|exact Drawn0.refl _|apply Drawn0.step)⟩
 ·rw [if_neg c3] at H
  have c3b0:=decide_eq_false c3
  clear c3
  obtain rfl:=Option.some.inj H
  go_enter Tryd.func45,Tryd.ntmps45
  go_wp2
  go_ret
  exact⟨by first|rfl|(simp;done)|(simp [*];done),by repeat(first|exact Drawn0.refl _|apply Drawn0.step)⟩

end Go.Proofs.YtidogkjhjmcliaaDoor.HFnTitlesBack
