-- Laid by myprint.py, a program of this repo, out of the kit's printer and this repo's own texts (wip/hand).
import Derived.Test.YtidogkjhjmcliaaDoorHFnExactShowTitlesx0
import Derived.Test.YtidogkjhjmcliaaDoorHFnExactShowTitlesx5
namespace Go.Proofs.YtidogkjhjmcliaaDoor.HFnExactShowTitles
open Go.RowKit Go.Proofs.YtidogkjhjmcliaaDoorW.PrintWords Go.Proofs.YtidogkjhjmcliaaDoorW.PrintLast Go.Proofs.YtidogkjhjmcliaaDoorW.PrintMore
attribute [local go_sem] max2_int min2_int max_two min_two max_three min_three max_four min_four   -- for this text's walks alone
set_option linter.unusedVariables false
set_option linter.unusedSimpArgs false
theorem Ga : type_of% @Aside0.mk := @Aside0.mk
theorem Gb : type_of% @pw_below_drewN := @pw_below_drewN
theorem Gc : type_of% @below_drew1 := @below_drew1
theorem Gd : type_of% @below_alloc := @below_alloc
theorem Ge : type_of% @blk_cell := @blk_cell
theorem Gf : type_of% @below_set := @below_set
theorem Gg : type_of% @blk_frozen := @blk_frozen
theorem Gh : type_of% @below_size := @below_size
theorem Gi : type_of% @below_step := @below_step

-- NOT PRINTED: function 54 (abi_NoEscape)

-- NOT PRINTED: function 42 (strings_Builder_copyCheck)

-- NOT PRINTED: function 25 (strings_Builder_WriteString)

/-! ### strconv_Itoa_26: function 26 -/
def strconv_Itoa_26.f (a0 : Int) : Option (ByteArray) := if -9223372036854775808 ≤ a0 ∧ a0 ≤ 9223372036854775807 then some ⟨(Lib.itoa a0).toArray⟩ else none
theorem strconv_Itoa_26.calls (a0 : Int) (r : ByteArray) (w : World) (hgl : Glob w) (h : strconv_Itoa_26.f a0 = some r) :
  Calls Tryd.prog 26 #[.int .i64 a0] w fun e w'=>e=.returned (.string r)∧Below w.heap.size w w':=by
 unfold strconv_Itoa_26.f at h
 split at h
 ·rename_i hs
  obtain⟨h0,h1⟩:=hs
  cases h
  refine(Tryd.strconv_Itoa a0 h0 h1 w hgl.tab).mono ?_
  rintro e w' ⟨rfl,k,os,rfl⟩
  exact⟨rfl,below_grow_title w k os⟩
 ·cases h


/-! ### strconv_FormatInt_56: function 56 -/
def strconv_FormatInt_56.f (a0 a1 : Int) : Option (ByteArray) := if a1 = 10 ∧ -9223372036854775808 ≤ a0 ∧ a0 ≤ 9223372036854775807 then some ⟨(Lib.itoa a0).toArray⟩ else none
theorem strconv_FormatInt_56.calls (a0 a1 : Int) (r : ByteArray) (w : World) (hgl : Glob w) (h : strconv_FormatInt_56.f a0 a1 = some r) :
  Calls Tryd.prog 56 #[.int .i64 a0,.int .i64 a1] w fun e w'=>e=.returned (.string r)∧Below w.heap.size w w':=by
 unfold strconv_FormatInt_56.f at h
 split at h
 ·rename_i hs
  obtain⟨rfl,h0,h1⟩:=hs
  cases h
  refine(Tryd.strconv_FormatInt_10 a0 h0 h1 w hgl.tab).mono ?_
  rintro e w' ⟨rfl,k,os,rfl⟩
  exact⟨rfl,below_grow_title w k os⟩
 ·cases h


/-! ### strings_Repeat: function 57 -/
def strings_Repeat.f (a0 : ByteArray) (a1 : Int) : Option (ByteArray) := if 0 ≤ a1 ∧ a1 ≤ 9223372036854775807 ∧ a0.size * a1.toNat ≤ 140737488355328 then some ⟨(Lib.repeatL a0.data.toList a1.toNat).toArray⟩ else none
theorem strings_Repeat.calls (a0 : ByteArray) (a1 : Int) (r : ByteArray) (w : World) (h : strings_Repeat.f a0 a1 = some r) :
  Calls Tryd.prog 57 #[.string a0,.int .i64 a1] w fun e w'=>e=.returned (.string r)∧Below w.heap.size w w':=by
 unfold strings_Repeat.f at h
 split at h
 ·rename_i hs
  obtain⟨h0,h1,h2⟩:=hs
  cases h
  obtain⟨c,rfl⟩:=Int.eq_ofNat_of_zero_le h0
  exact Tryd.strings_Repeat a0 c w (by omega) h2
 ·cases h


/-! ### impl_padded: function 44 -/
def impl_padded.f (a0 : Int) (a1 : Int) : Option (ByteArray) := (strconv_FormatInt_56.f a0 10).bind fun t155 => ((strings_Repeat.f (⟨#[48]⟩ : ByteArray) (mx (wrap64 (a1 - (t155.size : Int))) 0)).bind fun t156 => (if t156.size + t155.size ≤ 9223372036854775807 then (some (t156 ++ t155)) else (none)))
set_option maxHeartbeats 8000000 in
set_option maxRecDepth 100000 in
theorem impl_padded.calls (a0 : Int) (a1 : Int) (r : ByteArray) (w : World) (hgl : Glob w) (h : impl_padded.f a0 a1 = some r) :
  Calls Tryd.prog 44 #[.int .i64 a0,.int .i64 a1] w fun e w'=>e=.returned (.string r)∧Below w.heap.size w w':=by
 have HGL:=Ga hgl
 clear hgl
 have HB:=Ga (Below.refl w.heap.size w)
 have H:((strconv_FormatInt_56.f a0 10).bind fun t155=>((strings_Repeat.f (⟨#[48]⟩:ByteArray) (mx (wrap64 (a1 - (t155.size:Int))) 0)).bind fun t156=>(if t156.size+t155.size≤9223372036854775807 then (some (t156 ++ t155)) else (none))))=some r:=h
 clear h
 replace H:=Option.bind_eq_some_iff.mp H
 obtain⟨t155,A30,H⟩:=H
 replace H:((strings_Repeat.f (⟨#[48]⟩:ByteArray) (mx (wrap64 (a1 - (t155.size:Int))) 0)).bind fun t156=>(if t156.size+t155.size≤9223372036854775807 then (some (t156 ++ t155)) else (none)))=some r:=H
 have A3:=Ga A30
 clear A30
 obtain⟨ji4,hji4⟩:∃ j_:Int,(mx (wrap64 (a1 - (t155.size:Int))) 0)=j_:=⟨_,rfl⟩
 replace H:((strings_Repeat.f (⟨#[48]⟩:ByteArray) (ji4)).bind fun t156=>(if t156.size+t155.size≤9223372036854775807 then (some (t156 ++ t155)) else (none)))=some r:=by first|(rw [hji4] at H;exact H)|(simp only [hji4] at H ⊢;exact H)
 (try rw [hji4] at A3)
 (try(have hji4l:0≤ji4:=by(rw [← hji4];unfold mx;(repeat' split) <;> omega)))
 (try(have hji4m:0≤ji4:=by omega))
 have hji4_:(if (wrap64 (a1 - (t155.size:Int))) < 0 then 0 else (wrap64 (a1 - (t155.size:Int))))=ji4:=hji4
 replace H:=Option.bind_eq_some_iff.mp H
 obtain⟨t156,A50,H⟩:=H
 replace H:(if t156.size+t155.size≤9223372036854775807 then (some (t156 ++ t155)) else (none))=some r:=H
 have A5:=Ga A50
 clear A50
 by_cases c6:t156.size+t155.size≤9223372036854775807
 ·rw [if_pos c6] at H
  have c6b0:=eq_true c6
  have c6b1:decide (t156.size+t155.size≤9223372036854775807)=true:=decide_eq_true c6
  try have c6b2:(9223372036854775807 < t156.size+t155.size)=False:=eq_false (Nat.not_lt.2 c6)
  obtain rfl:=Option.some.inj H
  go_enter Tryd.func44,Tryd.ntmps44
  go_wp2_with (first|((with_reducible refine gate_callee (f:=56) rfl ?_);refine goesL_ (some 7) rfl rfl Tryd.func56 (by kernel_rfl) rfl #[.int .i64 a0,.int .i64 10] rfl (by(try simp only [List.map_toArray,List.map_cons,List.map_nil]);first|done|rfl|(simp only [List.length_drop,List.length_take];rfl)) ?_;(with_reducible refine(strconv_FormatInt_56.calls a0 10 t155 _ (by first|exact HGL.out|((repeat(with_reducible refine Glob.drewN ?_));exact HGL.out)|exact Glob.below HGL.out (by repeat(first|(with_reducible first|exact HB.out|apply Gd|apply Gb|apply Gc)|exact HB.out))) A3.out).mono ?_);rintro e w7 ⟨rfl,hb⟩;refine⟨_,rfl,?_⟩;have n0_:=Ga (Gi (by repeat(first|(with_reducible first|exact HB.out|apply Gd|apply Gb|apply Gc)|exact HB.out)) hb);clear HB;have HB:=n0_;clear n0_;(try clear hb);(try clear hb2);(try clear hk);(try clear hi))|((with_reducible refine gate_callee (f:=57) rfl ?_);refine goesL_ (some 13) rfl rfl Tryd.func57 (by kernel_rfl) rfl #[.string (⟨#[48]⟩:ByteArray),.int .i64 ji4] rfl (by(try simp only [List.map_toArray,List.map_cons,List.map_nil]);first|done|(simp only [hji4];rfl)|rfl|(simp only [List.length_drop,List.length_take];rfl)) ?_;(with_reducible refine(strings_Repeat.calls (⟨#[48]⟩:ByteArray) ji4 t156 _ A5.out).mono ?_);rintro e w8 ⟨rfl,hb⟩;refine⟨_,rfl,?_⟩;have n0_:=Ga (Gi (by repeat(first|(with_reducible first|exact HB.out|apply Gd|apply Gb|apply Gc)|exact HB.out)) hb);clear HB;have HB:=n0_;clear n0_;(try clear hb);(try clear hb2);(try clear hk);(try clear hi)))
  go_ret
  exact⟨by first|rfl|(simp [errW_none,errW_some] <;> rfl)|(simp only [← hji4];first|rfl|(simp [errW_none,errW_some] <;> rfl))|(simp [*,errW_none,errW_some] <;> rfl),by repeat(first|(with_reducible first|exact HB.out|apply Gd|apply Gb|apply Gc)|exact HB.out)⟩
 ·rw [if_neg c6] at H
  exact absurd H (by simp)

/-! ### impl_milliText: function 27 -/
def impl_milliText.f (a0 : Int) : Option (ByteArray) := (impl_padded.f (wrap64 (Int.tdiv (wrap64 (Int.tdiv a0 1000)) 3600)) 2).bind fun t157 => (if t157.size + 1 ≤ 9223372036854775807 then ((impl_padded.f (Int.tmod (wrap64 (Int.tdiv (wrap64 (Int.tdiv a0 1000)) 60)) 60) 2).bind fun t158 => (if (t157 ++ (⟨#[58]⟩ : ByteArray)).size + t158.size ≤ 9223372036854775807 then (if ((t157 ++ (⟨#[58]⟩ : ByteArray)) ++ t158).size + 1 ≤ 9223372036854775807 then ((impl_padded.f (Int.tmod (wrap64 (Int.tdiv a0 1000)) 60) 2).bind fun t159 => (if (((t157 ++ (⟨#[58]⟩ : ByteArray)) ++ t158) ++ (⟨#[58]⟩ : ByteArray)).size + t159.size ≤ 9223372036854775807 then (if ((((t157 ++ (⟨#[58]⟩ : ByteArray)) ++ t158) ++ (⟨#[58]⟩ : ByteArray)) ++ t159).size + 1 ≤ 9223372036854775807 then ((impl_padded.f (Int.tmod a0 1000) 3).bind fun t160 => (if (((((t157 ++ (⟨#[58]⟩ : ByteArray)) ++ t158) ++ (⟨#[58]⟩ : ByteArray)) ++ t159) ++ (⟨#[44]⟩ : ByteArray)).size + t160.size ≤ 9223372036854775807 then (some ((((((t157 ++ (⟨#[58]⟩ : ByteArray)) ++ t158) ++ (⟨#[58]⟩ : ByteArray)) ++ t159) ++ (⟨#[44]⟩ : ByteArray)) ++ t160)) else (none))) else (none)) else (none))) else (none)) else (none))) else (none))
set_option maxHeartbeats 8000000 in
set_option maxRecDepth 100000 in
theorem impl_milliText.calls (a0 : Int) (r : ByteArray) (w : World) (hgl : Glob w) (h : impl_milliText.f a0 = some r) :
  Calls Tryd.prog 27 #[.int .i64 a0] w fun e w'=>e=.returned (.string r)∧Below w.heap.size w w':=by
 have HGL:=Ga hgl
 clear hgl
 have HB:=Ga (Below.refl w.heap.size w)
 have H:((impl_padded.f (wrap64 (Int.tdiv (wrap64 (Int.tdiv a0 1000)) 3600)) 2).bind fun t157=>(if t157.size+1≤9223372036854775807 then ((impl_padded.f (Int.tmod (wrap64 (Int.tdiv (wrap64 (Int.tdiv a0 1000)) 60)) 60) 2).bind fun t158=>(if (t157 ++ (⟨#[58]⟩:ByteArray)).size+t158.size≤9223372036854775807 then (if ((t157 ++ (⟨#[58]⟩:ByteArray)) ++ t158).size+1≤9223372036854775807 then ((impl_padded.f (Int.tmod (wrap64 (Int.tdiv a0 1000)) 60) 2).bind fun t159=>(if (((t157 ++ (⟨#[58]⟩:ByteArray)) ++ t158) ++ (⟨#[58]⟩:ByteArray)).size+t159.size≤9223372036854775807 then (if ((((t157 ++ (⟨#[58]⟩:ByteArray)) ++ t158) ++ (⟨#[58]⟩:ByteArray)) ++ t159).size+1≤9223372036854775807 then ((impl_padded.f (Int.tmod a0 1000) 3).bind fun t160=>(if (((((t157 ++ (⟨#[58]⟩:ByteArray)) ++ t158) ++ (⟨#[58]⟩:ByteArray)) ++ t159) ++ (⟨#[44]⟩:ByteArray)).size+t160.size≤9223372036854775807 then (some ((((((t157 ++ (⟨#[58]⟩:ByteArray)) ++ t158) ++ (⟨#[58]⟩:ByteArray)) ++ t159) ++ (⟨#[44]⟩:ByteArray)) ++ t160)) else (none))) else (none)) else (none))) else (none)) else (none))) else (none)))=some r:=h
 clear h
 replace H:=Option.bind_eq_some_iff.mp H
 obtain⟨t157,A20,H⟩:=H
 replace H:(if t157.size+1≤9223372036854775807 then ((impl_padded.f (Int.tmod (wrap64 (Int.tdiv (wrap64 (Int.tdiv a0 1000)) 60)) 60) 2).bind fun t158=>(if (t157 ++ (⟨#[58]⟩:ByteArray)).size+t158.size≤9223372036854775807 then (if ((t157 ++ (⟨#[58]⟩:ByteArray)) ++ t158).size+1≤9223372036854775807 then ((impl_padded.f (Int.tmod (wrap64 (Int.tdiv a0 1000)) 60) 2).bind fun t159=>(if (((t157 ++ (⟨#[58]⟩:ByteArray)) ++ t158) ++ (⟨#[58]⟩:ByteArray)).size+t159.size≤9223372036854775807 then (if ((((t157 ++ (⟨#[58]⟩:ByteArray)) ++ t158) ++ (⟨#[58]⟩:ByteArray)) ++ t159).size+1≤9223372036854775807 then ((impl_padded.f (Int.tmod a0 1000) 3).bind fun t160=>(if (((((t157 ++ (⟨#[58]⟩:ByteArray)) ++ t158) ++ (⟨#[58]⟩:ByteArray)) ++ t159) ++ (⟨#[44]⟩:ByteArray)).size+t160.size≤9223372036854775807 then (some ((((((t157 ++ (⟨#[58]⟩:ByteArray)) ++ t158) ++ (⟨#[58]⟩:ByteArray)) ++ t159) ++ (⟨#[44]⟩:ByteArray)) ++ t160)) else (none))) else (none)) else (none))) else (none)) else (none))) else (none))=some r:=H
 have A2:=Ga A20
 clear A20
 by_cases c3:t157.size+1≤9223372036854775807
 ·rw [if_pos c3] at H
  have c3b0:=eq_true c3
  have c3b1:decide (t157.size+1≤9223372036854775807)=true:=decide_eq_true c3
  try have c3b2:(9223372036854775807 < t157.size+1)=False:=eq_false (Nat.not_lt.2 c3)
  replace H:=Option.bind_eq_some_iff.mp H
  obtain⟨t158,A40,H⟩:=H
  replace H:(if (t157 ++ (⟨#[58]⟩:ByteArray)).size+t158.size≤9223372036854775807 then (if ((t157 ++ (⟨#[58]⟩:ByteArray)) ++ t158).size+1≤9223372036854775807 then ((impl_padded.f (Int.tmod (wrap64 (Int.tdiv a0 1000)) 60) 2).bind fun t159=>(if (((t157 ++ (⟨#[58]⟩:ByteArray)) ++ t158) ++ (⟨#[58]⟩:ByteArray)).size+t159.size≤9223372036854775807 then (if ((((t157 ++ (⟨#[58]⟩:ByteArray)) ++ t158) ++ (⟨#[58]⟩:ByteArray)) ++ t159).size+1≤9223372036854775807 then ((impl_padded.f (Int.tmod a0 1000) 3).bind fun t160=>(if (((((t157 ++ (⟨#[58]⟩:ByteArray)) ++ t158) ++ (⟨#[58]⟩:ByteArray)) ++ t159) ++ (⟨#[44]⟩:ByteArray)).size+t160.size≤9223372036854775807 then (some ((((((t157 ++ (⟨#[58]⟩:ByteArray)) ++ t158) ++ (⟨#[58]⟩:ByteArray)) ++ t159) ++ (⟨#[44]⟩:ByteArray)) ++ t160)) else (none))) else (none)) else (none))) else (none)) else (none))=some r:=H
  have A4:=Ga A40
  clear A40
  by_cases c5:(t157 ++ (⟨#[58]⟩:ByteArray)).size+t158.size≤9223372036854775807
  ·rw [if_pos c5] at H
   have c5b0:=eq_true c5
   have c5b1:decide ((t157 ++ (⟨#[58]⟩:ByteArray)).size+t158.size≤9223372036854775807)=true:=decide_eq_true c5
   try have c5b2:(9223372036854775807 < (t157 ++ (⟨#[58]⟩:ByteArray)).size+t158.size)=False:=eq_false (Nat.not_lt.2 c5)
   try have c5b3:(9223372036854775807 < t157.size+1+t158.size)=False:=eq_false (Nat.not_lt.2 (by have h_:=c5;simp only [ByteArray.size_append] at h_;exact h_))
   by_cases c6:((t157 ++ (⟨#[58]⟩:ByteArray)) ++ t158).size+1≤9223372036854775807
   ·rw [if_pos c6] at H
    have c6b0:=eq_true c6
    have c6b1:decide (((t157 ++ (⟨#[58]⟩:ByteArray)) ++ t158).size+1≤9223372036854775807)=true:=decide_eq_true c6
    try have c6b2:(9223372036854775807 < ((t157 ++ (⟨#[58]⟩:ByteArray)) ++ t158).size+1)=False:=eq_false (Nat.not_lt.2 c6)
    try have c6b3:(9223372036854775807 < t157.size+1+t158.size+1)=False:=eq_false (Nat.not_lt.2 (by have h_:=c6;simp only [ByteArray.size_append] at h_;exact h_))
    replace H:=Option.bind_eq_some_iff.mp H
    obtain⟨t159,A70,H⟩:=H
    replace H:(if (((t157 ++ (⟨#[58]⟩:ByteArray)) ++ t158) ++ (⟨#[58]⟩:ByteArray)).size+t159.size≤9223372036854775807 then (if ((((t157 ++ (⟨#[58]⟩:ByteArray)) ++ t158) ++ (⟨#[58]⟩:ByteArray)) ++ t159).size+1≤9223372036854775807 then ((impl_padded.f (Int.tmod a0 1000) 3).bind fun t160=>(if (((((t157 ++ (⟨#[58]⟩:ByteArray)) ++ t158) ++ (⟨#[58]⟩:ByteArray)) ++ t159) ++ (⟨#[44]⟩:ByteArray)).size+t160.size≤9223372036854775807 then (some ((((((t157 ++ (⟨#[58]⟩:ByteArray)) ++ t158) ++ (⟨#[58]⟩:ByteArray)) ++ t159) ++ (⟨#[44]⟩:ByteArray)) ++ t160)) else (none))) else (none)) else (none))=some r:=H
    have A7:=Ga A70
    clear A70
    by_cases c8:(((t157 ++ (⟨#[58]⟩:ByteArray)) ++ t158) ++ (⟨#[58]⟩:ByteArray)).size+t159.size≤9223372036854775807
    ·rw [if_pos c8] at H
     have c8b0:=eq_true c8
     have c8b1:decide ((((t157 ++ (⟨#[58]⟩:ByteArray)) ++ t158) ++ (⟨#[58]⟩:ByteArray)).size+t159.size≤9223372036854775807)=true:=decide_eq_true c8
     try have c8b2:(9223372036854775807 < (((t157 ++ (⟨#[58]⟩:ByteArray)) ++ t158) ++ (⟨#[58]⟩:ByteArray)).size+t159.size)=False:=eq_false (Nat.not_lt.2 c8)
     try have c8b3:(9223372036854775807 < t157.size+1+t158.size+1+t159.size)=False:=eq_false (Nat.not_lt.2 (by have h_:=c8;simp only [ByteArray.size_append] at h_;exact h_))
     by_cases c9:((((t157 ++ (⟨#[58]⟩:ByteArray)) ++ t158) ++ (⟨#[58]⟩:ByteArray)) ++ t159).size+1≤9223372036854775807
     ·rw [if_pos c9] at H
      have c9b0:=eq_true c9
      have c9b1:decide (((((t157 ++ (⟨#[58]⟩:ByteArray)) ++ t158) ++ (⟨#[58]⟩:ByteArray)) ++ t159).size+1≤9223372036854775807)=true:=decide_eq_true c9
      try have c9b2:(9223372036854775807 < ((((t157 ++ (⟨#[58]⟩:ByteArray)) ++ t158) ++ (⟨#[58]⟩:ByteArray)) ++ t159).size+1)=False:=eq_false (Nat.not_lt.2 c9)
      try have c9b3:(9223372036854775807 < t157.size+1+t158.size+1+t159.size+1)=False:=eq_false (Nat.not_lt.2 (by have h_:=c9;simp only [ByteArray.size_append] at h_;exact h_))
      replace H:=Option.bind_eq_some_iff.mp H
      obtain⟨t160,A100,H⟩:=H
      replace H:(if (((((t157 ++ (⟨#[58]⟩:ByteArray)) ++ t158) ++ (⟨#[58]⟩:ByteArray)) ++ t159) ++ (⟨#[44]⟩:ByteArray)).size+t160.size≤9223372036854775807 then (some ((((((t157 ++ (⟨#[58]⟩:ByteArray)) ++ t158) ++ (⟨#[58]⟩:ByteArray)) ++ t159) ++ (⟨#[44]⟩:ByteArray)) ++ t160)) else (none))=some r:=H
      have A10:=Ga A100
      clear A100
      by_cases c11:(((((t157 ++ (⟨#[58]⟩:ByteArray)) ++ t158) ++ (⟨#[58]⟩:ByteArray)) ++ t159) ++ (⟨#[44]⟩:ByteArray)).size+t160.size≤9223372036854775807
      ·rw [if_pos c11] at H
       have c11b0:=eq_true c11
       have c11b1:decide ((((((t157 ++ (⟨#[58]⟩:ByteArray)) ++ t158) ++ (⟨#[58]⟩:ByteArray)) ++ t159) ++ (⟨#[44]⟩:ByteArray)).size+t160.size≤9223372036854775807)=true:=decide_eq_true c11
       try have c11b2:(9223372036854775807 < (((((t157 ++ (⟨#[58]⟩:ByteArray)) ++ t158) ++ (⟨#[58]⟩:ByteArray)) ++ t159) ++ (⟨#[44]⟩:ByteArray)).size+t160.size)=False:=eq_false (Nat.not_lt.2 c11)
       try have c11b3:(9223372036854775807 < t157.size+1+t158.size+1+t159.size+1+t160.size)=False:=eq_false (Nat.not_lt.2 (by have h_:=c11;simp only [ByteArray.size_append] at h_;exact h_))
       obtain rfl:=Option.some.inj H
       go_enter Tryd.func27,Tryd.ntmps27
       go_wp2_with (first|((with_reducible refine gate_callee (f:=44) rfl ?_);refine goesL_ (some 8) rfl rfl Tryd.func44 (by kernel_rfl) rfl #[.int .i64 (wrap64 (Int.tdiv (wrap64 (Int.tdiv a0 1000)) 3600)),.int .i64 2] rfl (by(try simp only [List.map_toArray,List.map_cons,List.map_nil]);first|done|rfl|(simp only [List.length_drop,List.length_take];rfl)) ?_;(with_reducible refine(impl_padded.calls (wrap64 (Int.tdiv (wrap64 (Int.tdiv a0 1000)) 3600)) 2 t157 _ (by first|exact HGL.out|((repeat(with_reducible refine Glob.drewN ?_));exact HGL.out)|exact Glob.below HGL.out (by repeat(first|(with_reducible first|exact HB.out|apply Gd|apply Gb|apply Gc)|exact HB.out))) A2.out).mono ?_);rintro e w12 ⟨rfl,hb⟩;refine⟨_,rfl,?_⟩;have n0_:=Ga (Gi (by repeat(first|(with_reducible first|exact HB.out|apply Gd|apply Gb|apply Gc)|exact HB.out)) hb);clear HB;have HB:=n0_;clear n0_;(try clear hb);(try clear hb2);(try clear hk);(try clear hi))|((with_reducible refine gate_callee (f:=44) rfl ?_);refine goesL_ (some 13) rfl rfl Tryd.func44 (by kernel_rfl) rfl #[.int .i64 (Int.tmod (wrap64 (Int.tdiv (wrap64 (Int.tdiv a0 1000)) 60)) 60),.int .i64 2] rfl (by(try simp only [List.map_toArray,List.map_cons,List.map_nil]);first|done|rfl|(simp only [List.length_drop,List.length_take];rfl)) ?_;(with_reducible refine(impl_padded.calls (Int.tmod (wrap64 (Int.tdiv (wrap64 (Int.tdiv a0 1000)) 60)) 60) 2 t158 _ (by first|exact HGL.out|((repeat(with_reducible refine Glob.drewN ?_));exact HGL.out)|exact Glob.below HGL.out (by repeat(first|(with_reducible first|exact HB.out|apply Gd|apply Gb|apply Gc)|exact HB.out))) A4.out).mono ?_);rintro e w13 ⟨rfl,hb⟩;refine⟨_,rfl,?_⟩;have n0_:=Ga (Gi (by repeat(first|(with_reducible first|exact HB.out|apply Gd|apply Gb|apply Gc)|exact HB.out)) hb);clear HB;have HB:=n0_;clear n0_;(try clear hb);(try clear hb2);(try clear hk);(try clear hi))|((with_reducible refine gate_callee (f:=44) rfl ?_);refine goesL_ (some 18) rfl rfl Tryd.func44 (by kernel_rfl) rfl #[.int .i64 (Int.tmod (wrap64 (Int.tdiv a0 1000)) 60),.int .i64 2] rfl (by(try simp only [List.map_toArray,List.map_cons,List.map_nil]);first|done|rfl|(simp only [List.length_drop,List.length_take];rfl)) ?_;(with_reducible refine(impl_padded.calls (Int.tmod (wrap64 (Int.tdiv a0 1000)) 60) 2 t159 _ (by first|exact HGL.out|((repeat(with_reducible refine Glob.drewN ?_));exact HGL.out)|exact Glob.below HGL.out (by repeat(first|(with_reducible first|exact HB.out|apply Gd|apply Gb|apply Gc)|exact HB.out))) A7.out).mono ?_);rintro e w14 ⟨rfl,hb⟩;refine⟨_,rfl,?_⟩;have n0_:=Ga (Gi (by repeat(first|(with_reducible first|exact HB.out|apply Gd|apply Gb|apply Gc)|exact HB.out)) hb);clear HB;have HB:=n0_;clear n0_;(try clear hb);(try clear hb2);(try clear hk);(try clear hi))|((with_reducible refine gate_callee (f:=44) rfl ?_);refine goesL_ (some 23) rfl rfl Tryd.func44 (by kernel_rfl) rfl #[.int .i64 (Int.tmod a0 1000),.int .i64 3] rfl (by(try simp only [List.map_toArray,List.map_cons,List.map_nil]);first|done|rfl|(simp only [List.length_drop,List.length_take];rfl)) ?_;(with_reducible refine(impl_padded.calls (Int.tmod a0 1000) 3 t160 _ (by first|exact HGL.out|((repeat(with_reducible refine Glob.drewN ?_));exact HGL.out)|exact Glob.below HGL.out (by repeat(first|(with_reducible first|exact HB.out|apply Gd|apply Gb|apply Gc)|exact HB.out))) A10.out).mono ?_);rintro e w15 ⟨rfl,hb⟩;refine⟨_,rfl,?_⟩;have n0_:=Ga (Gi (by repeat(first|(with_reducible first|exact HB.out|apply Gd|apply Gb|apply Gc)|exact HB.out)) hb);clear HB;have HB:=n0_;clear n0_;(try clear hb);(try clear hb2);(try clear hk);(try clear hi)))
       go_ret
       exact⟨by first|rfl|(simp [errW_none,errW_some] <;> rfl)|(simp [*,errW_none,errW_some] <;> rfl),by repeat(first|(with_reducible first|exact HB.out|apply Gd|apply Gb|apply Gc)|exact HB.out)⟩
      ·rw [if_neg c11] at H
       exact absurd H (by simp)
     ·rw [if_neg c9] at H
      exact absurd H (by simp)
    ·rw [if_neg c8] at H
     exact absurd H (by simp)
   ·rw [if_neg c6] at H
    exact absurd H (by simp)
  ·rw [if_neg c5] at H
   exact absurd H (by simp)
 ·rw [if_neg c3] at H
  exact absurd H (by simp)

-- NOT PRINTED: function 28 (strings_Builder_String)

/-! ### impl_ShowTitles: function 9 -/
def impl_ShowTitles.l0 : Nat → List Int → List (S40) → Int → Int → Option (ByteArray)
 | 0, _, _, _, _ => none
 | k + 1, x3, x10, x11, x12 => if x12 < x11 then (if 0 ≤ x12 then (if x12 < (x10.length : Int) then ((strconv_Itoa_26.f (wrap64 (x12 + 1))).bind fun t167 => (if t167.size + 1 ≤ 9223372036854775807 then ((impl_milliText.f ((rd_T40 x10 x12).f0)).bind fun t168 => (if (t167 ++ (⟨#[10]⟩ : ByteArray)).size + t168.size ≤ 9223372036854775807 then (if ((t167 ++ (⟨#[10]⟩ : ByteArray)) ++ t168).size + 5 ≤ 9223372036854775807 then ((impl_milliText.f ((rd_T40 x10 x12).f1)).bind fun t169 => (if (((t167 ++ (⟨#[10]⟩ : ByteArray)) ++ t168) ++ (⟨#[32, 45, 45, 62, 32]⟩ : ByteArray)).size + t169.size ≤ 9223372036854775807 then (if ((((t167 ++ (⟨#[10]⟩ : ByteArray)) ++ t168) ++ (⟨#[32, 45, 45, 62, 32]⟩ : ByteArray)) ++ t169).size + 1 ≤ 9223372036854775807 then (if (((((t167 ++ (⟨#[10]⟩ : ByteArray)) ++ t168) ++ (⟨#[32, 45, 45, 62, 32]⟩ : ByteArray)) ++ t169) ++ (⟨#[10]⟩ : ByteArray)).size + ((rd_T40 x10 x12).f2).size ≤ 9223372036854775807 then (if ((((((t167 ++ (⟨#[10]⟩ : ByteArray)) ++ t168) ++ (⟨#[32, 45, 45, 62, 32]⟩ : ByteArray)) ++ t169) ++ (⟨#[10]⟩ : ByteArray)) ++ ((rd_T40 x10 x12).f2)).size + 2 ≤ 9223372036854775807 then (if x3.length + (((((((t167 ++ (⟨#[10]⟩ : ByteArray)) ++ t168) ++ (⟨#[32, 45, 45, 62, 32]⟩ : ByteArray)) ++ t169) ++ (⟨#[10]⟩ : ByteArray)) ++ ((rd_T40 x10 x12).f2)) ++ (⟨#[10, 10]⟩ : ByteArray)).size < 140737488355328 then (impl_ShowTitles.l0 k (x3 ++ bytesOf (((((((t167 ++ (⟨#[10]⟩ : ByteArray)) ++ t168) ++ (⟨#[32, 45, 45, 62, 32]⟩ : ByteArray)) ++ t169) ++ (⟨#[10]⟩ : ByteArray)) ++ ((rd_T40 x10 x12).f2)) ++ (⟨#[10, 10]⟩ : ByteArray))) x10 x11 (wrap64 (x12 + 1))) else (none)) else (none)) else (none)) else (none)) else (none))) else (none)) else (none))) else (none))) else (none)) else (none)) else (some (strOfNums x3))
def impl_ShowTitles.f (k : Nat) (l0 : List (S40)) : Option (ByteArray) := (impl_TitlesOk.f k l0).bind fun t161 => (if t161 = true then (impl_ShowTitles.l0 k (([] : List Int)) l0 (l0.length : Int) 0) else (some (⟨#[]⟩ : ByteArray)))
theorem impl_ShowTitles.mono_l : ∀ k, (∀ y0 y1 y2 y3, LeO (impl_ShowTitles.l0 k y0 y1 y2 y3) (impl_ShowTitles.l0 (k + 1) y0 y1 y2 y3))
 | 0 => fun _ _ _ _ r h => by simp [impl_ShowTitles.l0] at h
 | k + 1 => by
  have ih0:=impl_ShowTitles.mono_l k
  ·intro y0 y1 y2 y3
   unfold impl_ShowTitles.l0
   repeat' first
   | (with_reducible exact ih0 _ _ _ _)
   | (with_reducible exact impl_TitlesOk.mono _ _)
   | (with_reducible exact LeO.refl _)
   | (with_reducible exact LeO.none _)
   | (with_reducible refine LeO.ite ?_ ?_)
   | (with_reducible refine LeO.bind ?_ (fun _ => ?_))
   | exact ih0 _ _ _ _
   | exact impl_TitlesOk.mono _ _
   | exact LeO.none _
   | refine LeO.ite ?_ ?_
   | refine LeO.bind ?_ (fun _ => ?_)
theorem impl_ShowTitles.mono : ∀ a0 k, LeO (impl_ShowTitles.f k a0) (impl_ShowTitles.f (k + 1) a0) := by
 intro a0 k
 have ih0:=impl_ShowTitles.mono_l k
 unfold impl_ShowTitles.f
 repeat' first
   | (with_reducible exact ih0 _ _ _ _)
   | (with_reducible exact impl_TitlesOk.mono _ _)
   | (with_reducible exact LeO.refl _)
   | (with_reducible exact LeO.none _)
   | (with_reducible refine LeO.ite ?_ ?_)
   | (with_reducible refine LeO.bind ?_ (fun _ => ?_))
   | exact ih0 _ _ _ _
   | exact impl_TitlesOk.mono _ _
   | exact LeO.none _
   | refine LeO.ite ?_ ?_
   | refine LeO.bind ?_ (fun _ => ?_)
def impl_ShowTitles.T7 : Bool × List (List Nat × List Nat) := (true, [([], []), ([0], [0]), ([1], [1]), ([2], [2]), ([], []), ([4], [4]), ([5, 2], [5]), ([3, 6], [3, 6]), ([7], [7]), ([], []), ([9], [9]), ([10, 6], [10]), ([8, 11], [8, 11]), ([12], [12]), ([], []), ([14], [14]), ([13, 15], [13, 15]), ([16], [16]), ([17, 11], [17])])
def impl_ShowTitles.B7 : List Nat := [0, 1, 3, 7, 0, 16, 55, 127, 255, 0, 512, 1655, 4095, 8191, 0, 16384, 65535, 131071, 262143]
theorem impl_ShowTitles.tab7 : rtab .any (opsOf Tryd.f9 7) = impl_ShowTitles.T7 := by kernel_rfl
theorem impl_ShowTitles.bits7 : waitsOk impl_ShowTitles.T7.2 impl_ShowTitles.B7 = true := by kernel_rfl
set_option maxHeartbeats 8000000 in
set_option maxRecDepth 100000 in
theorem impl_ShowTitles.calls (k : Nat) (A0 : Option Addr) (c0 : Nat) (l0 : List (S40)) (r : ByteArray) (w : World) (hgl : Glob w) (hr0 : Kd.C k40 w A0 l0.length l0) (hc0 : l0.length ≤ c0) (h : impl_ShowTitles.f k l0 = some r) :
  Calls Tryd.prog 9 #[.slice A0 l0.length c0] w fun e w'=>e=.returned (.string r)∧Below w.heap.size w w':=by
 have HGL:=Ga hgl
 clear hgl
 have hu40:=Tryd.underlying40
 have HR0:=Ga hr0
 have HC0:=Ga hc0
 clear hr0 hc0
 have HB:=Ga (Below.refl w.heap.size w)
 have H:((impl_TitlesOk.f k l0).bind fun t161=>(if t161=true then (impl_ShowTitles.l0 k (([]:List Int)) l0 (l0.length:Int) 0) else (some (⟨#[]⟩:ByteArray))))=some r:=h
 clear h
 replace H:=Option.bind_eq_some_iff.mp H
 obtain⟨t161,A20,H⟩:=H
 replace H:(if t161=true then (impl_ShowTitles.l0 k (([]:List Int)) l0 (l0.length:Int) 0) else (some (⟨#[]⟩:ByteArray)))=some r:=H
 have A2:=Ga A20
 clear A20
 by_cases c3:t161=true
 ·subst c3
  have H1:(impl_ShowTitles.l0 k (([]:List Int)) l0 (l0.length:Int) 0)=some r:=by rw [if_pos rfl] at H;exact H
  clear H
  have H:=H1
  clear H1
  obtain⟨y162,hy162⟩:∃ y_:List Int,y_=(([]:List Int)):=⟨_,rfl⟩
  replace H:(impl_ShowTitles.l0 k y162 l0 (l0.length:Int) 0)=some r:=by first|(rw [hy162];with_reducible exact H)|(have H2_:=(Option.bind_some _ _).symm.trans H;rw [hy162];with_reducible exact H2_)|(have H2_:=(Option.bind_some _ _).symm.trans H;with_reducible exact H2_)|with_reducible exact H|(rw [hy162];exact H)|exact H
  have Ny162:=Ga hy162
  clear hy162
  have H':=Ga H
  clear H
  go_enter Tryd.func9,Tryd.ntmps9
  go_wp2_with (first|((with_reducible refine gate_callee (f:=19) rfl ?_);refine goesL_ (some 7) rfl rfl Tryd.func19 (by kernel_rfl) rfl #[.slice A0 l0.length c0] rfl (by(try simp only [List.map_toArray,List.map_cons,List.map_nil]);first|done|rfl|(simp only [List.length_drop,List.length_take];rfl)) ?_;(with_reducible refine(impl_TitlesOk.calls k _ _ l0 true _ (by first|exact HGL.out|((repeat(with_reducible refine Glob.drewN ?_));exact HGL.out)|exact Glob.below HGL.out (by repeat(first|(with_reducible first|exact HB.out|apply Gd|apply Gb|apply Gc|refine Gf ?_ qn.out)|exact HB.out))) ?side1 ?side2 A2.out).mono ?_);(case side1=>repeat(first|exact HR0.out|(with_reducible refine Kd.C_alloc ?_ _)|(with_reducible refine Kd.C_drewN ?_ _)|(with_reducible refine Kd.C_drew ?_)));(case side2=>exact HC0.out);rintro e w4 ⟨rfl,hb⟩;refine⟨_,rfl,?_⟩;have n0_:=Ga (Gi (by repeat(first|(with_reducible first|exact HB.out|apply Gd|apply Gb|apply Gc)|exact HB.out)) hb);clear HB;have HB:=n0_;clear n0_;(try clear hb);(try clear hb2);(try clear hk);(try clear hi))|((with_reducible refine gate_dst (N:=3) rfl ?_);refine box_event ?hg (N:=3) ?hd (cs:=#[.pointer none,.slice none 0 0]) (t:=49) ?hr ?_;(case hd=>rfl);(case hg=>rfl);(case hr=>first|(go_simp;done)|(go_simp;rfl));intro gb0 hg w5 hbox hb;have n0_:=Ga (Gi (by repeat(first|(with_reducible first|exact HB.out|apply Gd|apply Gb|apply Gc)|exact HB.out)) hb);have qk:=Ga (hbox);have ql:=Ga ((by rw [hg];exact(Gh (by repeat(first|(with_reducible first|exact HB.out|apply Gd|apply Gb|apply Gc)|exact HB.out))):w.heap.size≤gb0));clear HB;have HB:=n0_;have BK0:=qk;have GE0:=ql;clear n0_ qk ql;clear hb hbox hg;have hcz0_0:w5.cell? ⟨gb0,0,none⟩=some (.pointer none):=(Ge BK0.out 0).trans rfl;have hcz0_1:w5.cell? ⟨gb0,1,none⟩=some (.slice none 0 0):=(Ge BK0.out 1).trans rfl;have hfz0_0:=Gg BK0.out 0;have hfz0_1:=Gg BK0.out 1))
  have n0_:Aside0 (((w5.setCell ⟨gb0,0,none⟩ (.pointer none)).setCell ⟨gb0,1,none⟩ (.slice none 0 0)).heap[gb0]? = some (.cells #[.pointer none,.slice none 0 0] 49 (0,0))):=⟨by refine blk_put (cs:=#[.pointer none,.slice none 0 0]) ?_ 1 _ rfl;refine blk_put (cs:=#[.pointer none,.slice none 0 0]) ?_ 0 _ rfl;exact BK0.out⟩
  have qk:Aside0 (Below w.heap.size w ((w5.setCell ⟨gb0,0,none⟩ (.pointer none)).setCell ⟨gb0,1,none⟩ (.slice none 0 0))):=⟨Gf (Gf HB.out GE0.out) GE0.out⟩
  (try clear hcz0_0 hcz0_1 hfz0_0 hfz0_1)
  (try clear BK0)
  (try clear HB)
  generalize ((w5.setCell ⟨gb0,0,none⟩ (.pointer none)).setCell ⟨gb0,1,none⟩ (.slice none 0 0))=w6 at n0_ qk ⊢
  have HO164:=Ga (show BdR w6 w.heap.size gb0 y162 by rw [Ny162.out];exact BdR_new GE0.out n0_.out)
  have HB:=qk
  clear n0_ qk
  go_loopg [12] k (fun kq v12 w'=>∃ (qo:List Int) (qa:Int),v12=.int .i64 qa∧Aside0 (impl_ShowTitles.l0 kq qo l0 (l0.length:Int) qa=some r)∧Aside0 (kq≤k)∧Aside0 (BdR w' w.heap.size gb0 qo)∧Aside0 (Below w.heap.size w w'))
  case atStart=>exact⟨(y162),(0),(by first|rfl|(simp;done)|(simp [*];done)),H',⟨Nat.le_refl _⟩,⟨by(with_reducible repeat(first|apply BdR_alloc|apply BdR_drewN|apply BdR_drew));exact HO164.out⟩,⟨by repeat(first|(with_reducible first|exact HB.out|apply Gd|apply Gb|apply Gc)|exact HB.out)⟩⟩
  case round=>
   clear H'
   try clear c1
   try clear p2
   try clear c3
   obtain⟨qo,qa,rfl,HA,HK1,qm,HB⟩:=hrel
   cases gk with
   | zero => exact absurd HA.out (by simp [impl_ShowTitles.l0])
   | succ k1 =>
    have H:=HA.out
    clear HA
    simp only [impl_ShowTitles.l0] at H
    by_cases c7:qa < (l0.length:Int)
    ·rw [if_pos c7] at H
     have c7b0:decide (qa < (l0.length:Int))=true:=decide_eq_true c7
     clear c7
     by_cases c8:0≤qa
     ·rw [if_pos c8] at H
      have c8b0:decide (0≤qa)=true:=decide_eq_true c8
      clear c8
      by_cases c9:qa < (l0.length:Int)
      ·rw [if_pos c9] at H
       have c9b0:decide (qa < (l0.length:Int))=true:=decide_eq_true c9
       clear c9
       replace H:=Option.bind_eq_some_iff.mp H
       obtain⟨t167,A100,H⟩:=H
       replace H:(if t167.size+1≤9223372036854775807 then ((impl_milliText.f ((rd_T40 l0 qa).f0)).bind fun t168=>(if (t167 ++ (⟨#[10]⟩:ByteArray)).size+t168.size≤9223372036854775807 then (if ((t167 ++ (⟨#[10]⟩:ByteArray)) ++ t168).size+5≤9223372036854775807 then ((impl_milliText.f ((rd_T40 l0 qa).f1)).bind fun t169=>(if (((t167 ++ (⟨#[10]⟩:ByteArray)) ++ t168) ++ (⟨#[32,45,45,62,32]⟩:ByteArray)).size+t169.size≤9223372036854775807 then (if ((((t167 ++ (⟨#[10]⟩:ByteArray)) ++ t168) ++ (⟨#[32,45,45,62,32]⟩:ByteArray)) ++ t169).size+1≤9223372036854775807 then (if (((((t167 ++ (⟨#[10]⟩:ByteArray)) ++ t168) ++ (⟨#[32,45,45,62,32]⟩:ByteArray)) ++ t169) ++ (⟨#[10]⟩:ByteArray)).size+((rd_T40 l0 qa).f2).size≤9223372036854775807 then (if ((((((t167 ++ (⟨#[10]⟩:ByteArray)) ++ t168) ++ (⟨#[32,45,45,62,32]⟩:ByteArray)) ++ t169) ++ (⟨#[10]⟩:ByteArray)) ++ ((rd_T40 l0 qa).f2)).size+2≤9223372036854775807 then (if qo.length+(((((((t167 ++ (⟨#[10]⟩:ByteArray)) ++ t168) ++ (⟨#[32,45,45,62,32]⟩:ByteArray)) ++ t169) ++ (⟨#[10]⟩:ByteArray)) ++ ((rd_T40 l0 qa).f2)) ++ (⟨#[10,10]⟩:ByteArray)).size < 140737488355328 then (impl_ShowTitles.l0 k1 (qo ++ bytesOf (((((((t167 ++ (⟨#[10]⟩:ByteArray)) ++ t168) ++ (⟨#[32,45,45,62,32]⟩:ByteArray)) ++ t169) ++ (⟨#[10]⟩:ByteArray)) ++ ((rd_T40 l0 qa).f2)) ++ (⟨#[10,10]⟩:ByteArray))) l0 (l0.length:Int) (wrap64 (qa+1))) else (none)) else (none)) else (none)) else (none)) else (none))) else (none)) else (none))) else (none))=some r:=H
       have A10:=Ga A100
       clear A100
       by_cases c11:t167.size+1≤9223372036854775807
       ·rw [if_pos c11] at H
        have c11b0:=eq_true c11
        have c11b1:decide (t167.size+1≤9223372036854775807)=true:=decide_eq_true c11
        try have c11b2:(9223372036854775807 < t167.size+1)=False:=eq_false (Nat.not_lt.2 c11)
        replace H:=Option.bind_eq_some_iff.mp H
        obtain⟨t168,A120,H⟩:=H
        replace H:(if (t167 ++ (⟨#[10]⟩:ByteArray)).size+t168.size≤9223372036854775807 then (if ((t167 ++ (⟨#[10]⟩:ByteArray)) ++ t168).size+5≤9223372036854775807 then ((impl_milliText.f ((rd_T40 l0 qa).f1)).bind fun t169=>(if (((t167 ++ (⟨#[10]⟩:ByteArray)) ++ t168) ++ (⟨#[32,45,45,62,32]⟩:ByteArray)).size+t169.size≤9223372036854775807 then (if ((((t167 ++ (⟨#[10]⟩:ByteArray)) ++ t168) ++ (⟨#[32,45,45,62,32]⟩:ByteArray)) ++ t169).size+1≤9223372036854775807 then (if (((((t167 ++ (⟨#[10]⟩:ByteArray)) ++ t168) ++ (⟨#[32,45,45,62,32]⟩:ByteArray)) ++ t169) ++ (⟨#[10]⟩:ByteArray)).size+((rd_T40 l0 qa).f2).size≤9223372036854775807 then (if ((((((t167 ++ (⟨#[10]⟩:ByteArray)) ++ t168) ++ (⟨#[32,45,45,62,32]⟩:ByteArray)) ++ t169) ++ (⟨#[10]⟩:ByteArray)) ++ ((rd_T40 l0 qa).f2)).size+2≤9223372036854775807 then (if qo.length+(((((((t167 ++ (⟨#[10]⟩:ByteArray)) ++ t168) ++ (⟨#[32,45,45,62,32]⟩:ByteArray)) ++ t169) ++ (⟨#[10]⟩:ByteArray)) ++ ((rd_T40 l0 qa).f2)) ++ (⟨#[10,10]⟩:ByteArray)).size < 140737488355328 then (impl_ShowTitles.l0 k1 (qo ++ bytesOf (((((((t167 ++ (⟨#[10]⟩:ByteArray)) ++ t168) ++ (⟨#[32,45,45,62,32]⟩:ByteArray)) ++ t169) ++ (⟨#[10]⟩:ByteArray)) ++ ((rd_T40 l0 qa).f2)) ++ (⟨#[10,10]⟩:ByteArray))) l0 (l0.length:Int) (wrap64 (qa+1))) else (none)) else (none)) else (none)) else (none)) else (none))) else (none)) else (none))=some r:=H
        have A12:=Ga A120
        clear A120
        by_cases c13:(t167 ++ (⟨#[10]⟩:ByteArray)).size+t168.size≤9223372036854775807
        ·rw [if_pos c13] at H
         have c13b0:=eq_true c13
         have c13b1:decide ((t167 ++ (⟨#[10]⟩:ByteArray)).size+t168.size≤9223372036854775807)=true:=decide_eq_true c13
         try have c13b2:(9223372036854775807 < (t167 ++ (⟨#[10]⟩:ByteArray)).size+t168.size)=False:=eq_false (Nat.not_lt.2 c13)
         try have c13b3:(9223372036854775807 < t167.size+1+t168.size)=False:=eq_false (Nat.not_lt.2 (by have h_:=c13;simp only [ByteArray.size_append] at h_;exact h_))
         by_cases c14:((t167 ++ (⟨#[10]⟩:ByteArray)) ++ t168).size+5≤9223372036854775807
         ·rw [if_pos c14] at H
          have c14b0:=eq_true c14
          have c14b1:decide (((t167 ++ (⟨#[10]⟩:ByteArray)) ++ t168).size+5≤9223372036854775807)=true:=decide_eq_true c14
          try have c14b2:(9223372036854775807 < ((t167 ++ (⟨#[10]⟩:ByteArray)) ++ t168).size+5)=False:=eq_false (Nat.not_lt.2 c14)
          try have c14b3:(9223372036854775807 < t167.size+1+t168.size+5)=False:=eq_false (Nat.not_lt.2 (by have h_:=c14;simp only [ByteArray.size_append] at h_;exact h_))
          replace H:=Option.bind_eq_some_iff.mp H
          obtain⟨t169,A150,H⟩:=H
          replace H:(if (((t167 ++ (⟨#[10]⟩:ByteArray)) ++ t168) ++ (⟨#[32,45,45,62,32]⟩:ByteArray)).size+t169.size≤9223372036854775807 then (if ((((t167 ++ (⟨#[10]⟩:ByteArray)) ++ t168) ++ (⟨#[32,45,45,62,32]⟩:ByteArray)) ++ t169).size+1≤9223372036854775807 then (if (((((t167 ++ (⟨#[10]⟩:ByteArray)) ++ t168) ++ (⟨#[32,45,45,62,32]⟩:ByteArray)) ++ t169) ++ (⟨#[10]⟩:ByteArray)).size+((rd_T40 l0 qa).f2).size≤9223372036854775807 then (if ((((((t167 ++ (⟨#[10]⟩:ByteArray)) ++ t168) ++ (⟨#[32,45,45,62,32]⟩:ByteArray)) ++ t169) ++ (⟨#[10]⟩:ByteArray)) ++ ((rd_T40 l0 qa).f2)).size+2≤9223372036854775807 then (if qo.length+(((((((t167 ++ (⟨#[10]⟩:ByteArray)) ++ t168) ++ (⟨#[32,45,45,62,32]⟩:ByteArray)) ++ t169) ++ (⟨#[10]⟩:ByteArray)) ++ ((rd_T40 l0 qa).f2)) ++ (⟨#[10,10]⟩:ByteArray)).size < 140737488355328 then (impl_ShowTitles.l0 k1 (qo ++ bytesOf (((((((t167 ++ (⟨#[10]⟩:ByteArray)) ++ t168) ++ (⟨#[32,45,45,62,32]⟩:ByteArray)) ++ t169) ++ (⟨#[10]⟩:ByteArray)) ++ ((rd_T40 l0 qa).f2)) ++ (⟨#[10,10]⟩:ByteArray))) l0 (l0.length:Int) (wrap64 (qa+1))) else (none)) else (none)) else (none)) else (none)) else (none))=some r:=H
          have A15:=Ga A150
          clear A150
          by_cases c16:(((t167 ++ (⟨#[10]⟩:ByteArray)) ++ t168) ++ (⟨#[32,45,45,62,32]⟩:ByteArray)).size+t169.size≤9223372036854775807
          ·rw [if_pos c16] at H
           have c16b0:=eq_true c16
           have c16b1:decide ((((t167 ++ (⟨#[10]⟩:ByteArray)) ++ t168) ++ (⟨#[32,45,45,62,32]⟩:ByteArray)).size+t169.size≤9223372036854775807)=true:=decide_eq_true c16
           try have c16b2:(9223372036854775807 < (((t167 ++ (⟨#[10]⟩:ByteArray)) ++ t168) ++ (⟨#[32,45,45,62,32]⟩:ByteArray)).size+t169.size)=False:=eq_false (Nat.not_lt.2 c16)
           try have c16b3:(9223372036854775807 < t167.size+1+t168.size+5+t169.size)=False:=eq_false (Nat.not_lt.2 (by have h_:=c16;simp only [ByteArray.size_append] at h_;exact h_))
           by_cases c17:((((t167 ++ (⟨#[10]⟩:ByteArray)) ++ t168) ++ (⟨#[32,45,45,62,32]⟩:ByteArray)) ++ t169).size+1≤9223372036854775807
           ·rw [if_pos c17] at H
            have c17b0:=eq_true c17
            have c17b1:decide (((((t167 ++ (⟨#[10]⟩:ByteArray)) ++ t168) ++ (⟨#[32,45,45,62,32]⟩:ByteArray)) ++ t169).size+1≤9223372036854775807)=true:=decide_eq_true c17
            try have c17b2:(9223372036854775807 < ((((t167 ++ (⟨#[10]⟩:ByteArray)) ++ t168) ++ (⟨#[32,45,45,62,32]⟩:ByteArray)) ++ t169).size+1)=False:=eq_false (Nat.not_lt.2 c17)
            try have c17b3:(9223372036854775807 < t167.size+1+t168.size+5+t169.size+1)=False:=eq_false (Nat.not_lt.2 (by have h_:=c17;simp only [ByteArray.size_append] at h_;exact h_))
            by_cases c18:(((((t167 ++ (⟨#[10]⟩:ByteArray)) ++ t168) ++ (⟨#[32,45,45,62,32]⟩:ByteArray)) ++ t169) ++ (⟨#[10]⟩:ByteArray)).size+((rd_T40 l0 qa).f2).size≤9223372036854775807
            ·rw [if_pos c18] at H
             have c18b0:=eq_true c18
             have c18b1:decide ((((((t167 ++ (⟨#[10]⟩:ByteArray)) ++ t168) ++ (⟨#[32,45,45,62,32]⟩:ByteArray)) ++ t169) ++ (⟨#[10]⟩:ByteArray)).size+((rd_T40 l0 qa).f2).size≤9223372036854775807)=true:=decide_eq_true c18
             try have c18b2:(9223372036854775807 < (((((t167 ++ (⟨#[10]⟩:ByteArray)) ++ t168) ++ (⟨#[32,45,45,62,32]⟩:ByteArray)) ++ t169) ++ (⟨#[10]⟩:ByteArray)).size+((rd_T40 l0 qa).f2).size)=False:=eq_false (Nat.not_lt.2 c18)
             try have c18b3:(9223372036854775807 < t167.size+1+t168.size+5+t169.size+1+(rd_T40 l0 qa).f2.size)=False:=eq_false (Nat.not_lt.2 (by have h_:=c18;simp only [ByteArray.size_append] at h_;exact h_))
             by_cases c19:((((((t167 ++ (⟨#[10]⟩:ByteArray)) ++ t168) ++ (⟨#[32,45,45,62,32]⟩:ByteArray)) ++ t169) ++ (⟨#[10]⟩:ByteArray)) ++ ((rd_T40 l0 qa).f2)).size+2≤9223372036854775807
             ·rw [if_pos c19] at H
              have c19b0:=eq_true c19
              have c19b1:decide (((((((t167 ++ (⟨#[10]⟩:ByteArray)) ++ t168) ++ (⟨#[32,45,45,62,32]⟩:ByteArray)) ++ t169) ++ (⟨#[10]⟩:ByteArray)) ++ ((rd_T40 l0 qa).f2)).size+2≤9223372036854775807)=true:=decide_eq_true c19
              try have c19b2:(9223372036854775807 < ((((((t167 ++ (⟨#[10]⟩:ByteArray)) ++ t168) ++ (⟨#[32,45,45,62,32]⟩:ByteArray)) ++ t169) ++ (⟨#[10]⟩:ByteArray)) ++ ((rd_T40 l0 qa).f2)).size+2)=False:=eq_false (Nat.not_lt.2 c19)
              try have c19b3:(9223372036854775807 < t167.size+1+t168.size+5+t169.size+1+(rd_T40 l0 qa).f2.size+2)=False:=eq_false (Nat.not_lt.2 (by have h_:=c19;simp only [ByteArray.size_append] at h_;exact h_))
              by_cases c20:qo.length+(((((((t167 ++ (⟨#[10]⟩:ByteArray)) ++ t168) ++ (⟨#[32,45,45,62,32]⟩:ByteArray)) ++ t169) ++ (⟨#[10]⟩:ByteArray)) ++ ((rd_T40 l0 qa).f2)) ++ (⟨#[10,10]⟩:ByteArray)).size < 140737488355328
              ·rw [if_pos c20] at H
               have LMc20:=Ga c20
               clear c20
               obtain⟨y170,hy170⟩:∃ y_:List Int,y_=(qo ++ bytesOf (((((((t167 ++ (⟨#[10]⟩:ByteArray)) ++ t168) ++ (⟨#[32,45,45,62,32]⟩:ByteArray)) ++ t169) ++ (⟨#[10]⟩:ByteArray)) ++ ((rd_T40 l0 qa).f2)) ++ (⟨#[10,10]⟩:ByteArray))):=⟨_,rfl⟩
               replace H:(impl_ShowTitles.l0 k1 y170 l0 (l0.length:Int) (wrap64 (qa+1)))=some r:=by first|(rw [hy170];with_reducible exact H)|(have H2_:=(Option.bind_some _ _).symm.trans H;rw [hy170];with_reducible exact H2_)|(have H2_:=(Option.bind_some _ _).symm.trans H;with_reducible exact H2_)|with_reducible exact H|(rw [hy170];exact H)|exact H
               have Ny170:=Ga hy170
               clear hy170
               have H':=Ga H
               clear H
               have p165:0≤(qa:Int):=of_decide_eq_true (by first|(with_reducible assumption)|assumption)
               have q165:qa < (l0.length:Int):=of_decide_eq_true (by first|(with_reducible assumption)|assumption)
               obtain⟨ad165,e165,hx165_0,hx165_1,hx165_2⟩:=at_T40 HR0.out qa p165 q165
               cases e165
               replace hx165_0:=(HB.out.cell (World.block_lt_of_cell? w _ hx165_0)).trans hx165_0
               replace hx165_1:=(HB.out.cell (World.block_lt_of_cell? w _ hx165_1)).trans hx165_1
               replace hx165_2:=(HB.out.cell (World.block_lt_of_cell? w _ hx165_2)).trans hx165_2
               replace p165:=eq_true p165
               replace q165:=eq_true q165
               try go_wp2_with (first|((with_reducible refine gate_dst (N:=5) rfl ?_);refine box_event ?hg (N:=5) ?hd (cs:=#[.int .i64 0,.int .i64 0,.string (⟨#[]⟩:ByteArray)]) (t:=40) ?hr ?_;(case hd=>rfl);(case hg=>rfl);(case hr=>first|(go_simp;done)|(go_simp;rfl));intro qg hg w21 hbox hb;have n0_:=Ga (BdR_below (by(with_reducible repeat(first|apply BdR_alloc|apply BdR_drewN|apply BdR_drew));exact qm.out) hb);have qk:=Ga (Gi (by repeat(first|(with_reducible first|exact HB.out|apply Gd|apply Gb|apply Gc)|exact HB.out)) hb);have ql:=Ga (hbox);have qp:=Ga ((by rw [hg];exact(Gh (by repeat(first|(with_reducible first|exact HB.out|apply Gd|apply Gb|apply Gc)|exact HB.out))):w.heap.size≤qg));have n4_:=Ga ((by rw [hg];exact(Gh (by repeat(first|(with_reducible first|exact HB.out|apply Gd|apply Gb|apply Gc)|exact HB.out))):w.heap.size≤qg));clear qm;clear HB;have qm:=n0_;have HB:=qk;have qd:=ql;have GW166:=qp;have qn:=n4_;clear n0_ qk ql qp n4_;clear hb hbox hg;have hcz22_0:w21.cell? ⟨qg,0,none⟩=some (.int .i64 0):=(Ge qd.out 0).trans rfl;have hcz22_1:w21.cell? ⟨qg,1,none⟩=some (.int .i64 0):=(Ge qd.out 1).trans rfl;have hcz22_2:w21.cell? ⟨qg,2,none⟩=some (.string (⟨#[]⟩:ByteArray)):=(Ge qd.out 2).trans rfl;have hfz22_0:=Gg qd.out 0;have hfz22_1:=Gg qd.out 1;have hfz22_2:=Gg qd.out 2))
               have n0_:Aside0 (BdR (((w21.setCell ⟨qg,0,none⟩ (.int .i64 ((rd_T40 l0 qa).f0))).setCell ⟨qg,1,none⟩ (.int .i64 ((rd_T40 l0 qa).f1))).setCell ⟨qg,2,none⟩ (.string ((rd_T40 l0 qa).f2))) w.heap.size gb0 qo):=⟨by(with_reducible repeat(first|apply BdR_alloc|apply BdR_drewN|apply BdR_drew));exact BdR_set3 qm.out qd.out⟩
               have qk:Aside0 ((((w21.setCell ⟨qg,0,none⟩ (.int .i64 ((rd_T40 l0 qa).f0))).setCell ⟨qg,1,none⟩ (.int .i64 ((rd_T40 l0 qa).f1))).setCell ⟨qg,2,none⟩ (.string ((rd_T40 l0 qa).f2))).heap[qg]? = some (.cells #[.int .i64 ((rd_T40 l0 qa).f0),.int .i64 ((rd_T40 l0 qa).f1),.string ((rd_T40 l0 qa).f2)] 40 (0,0))):=⟨by(with_reducible repeat(first|refine blk_drewN ?_ _|refine blk_drew ?_|refine blk_alloc ?_ _));refine blk_put (cs:=#[.int .i64 ((rd_T40 l0 qa).f0),.int .i64 ((rd_T40 l0 qa).f1),.string (⟨#[]⟩:ByteArray)]) ?_ 2 _ rfl;(with_reducible repeat(first|refine blk_drewN ?_ _|refine blk_drew ?_|refine blk_alloc ?_ _));refine blk_put (cs:=#[.int .i64 ((rd_T40 l0 qa).f0),.int .i64 0,.string (⟨#[]⟩:ByteArray)]) ?_ 1 _ rfl;(with_reducible repeat(first|refine blk_drewN ?_ _|refine blk_drew ?_|refine blk_alloc ?_ _));refine blk_put (cs:=#[.int .i64 0,.int .i64 0,.string (⟨#[]⟩:ByteArray)]) ?_ 0 _ rfl;(with_reducible repeat(first|refine blk_drewN ?_ _|refine blk_drew ?_|refine blk_alloc ?_ _));exact qd.out⟩
               have ql:Aside0 (Below w.heap.size w (((w21.setCell ⟨qg,0,none⟩ (.int .i64 ((rd_T40 l0 qa).f0))).setCell ⟨qg,1,none⟩ (.int .i64 ((rd_T40 l0 qa).f1))).setCell ⟨qg,2,none⟩ (.string ((rd_T40 l0 qa).f2)))):=⟨by repeat(first|(with_reducible first|exact HB.out|apply Gd|apply Gb|apply Gc|refine Gf ?_ qn.out)|exact HB.out)⟩
               (try clear qm)
               (try clear qd)
               (try clear HB)
               generalize (((w21.setCell ⟨qg,0,none⟩ (.int .i64 ((rd_T40 l0 qa).f0))).setCell ⟨qg,1,none⟩ (.int .i64 ((rd_T40 l0 qa).f1))).setCell ⟨qg,2,none⟩ (.string ((rd_T40 l0 qa).f2)))=w23 at n0_ qk ql ⊢
               have qm:=n0_
               have qd:=qk
               have HB:=ql
               clear n0_ qk ql
               have n0_:=Ga (BdR_drew qm.out)
               have qk:=Ga (blk_drew qd.out)
               have ql:=Ga (Gc HB.out)
               clear qm
               clear qd
               clear HB
               have qm:=n0_
               have qd:=qk
               have HB:=ql
               clear n0_ qk ql
               refine start_ (n:=19) (S:=fun w'=>w'.cell? ⟨qg,0,none⟩=some (.int .i64 ((rd_T40 l0 qa).f0))∧w'.cell? ⟨qg,1,none⟩=some (.int .i64 ((rd_T40 l0 qa).f1))∧w'.cell? ⟨qg,2,none⟩=some (.string ((rd_T40 l0 qa).f2))) (ds:=[18]) #[false,false,false,false,false,false,false,false,false,false,false,false,false,false,false,false,false,false,false] (by kernel_rfl) rfl rfl ⟨(Ge qd.out 0).trans rfl,(Ge qd.out 1).trans rfl,(Ge qd.out 2).trans rfl⟩ (fun hHeld=>?_);refine with_tabW impl_ShowTitles.tab7 impl_ShowTitles.bits7 (fun HT_ HW_=>?_)
               generalize w23.drew=w24 at qm qd HB hHeld ⊢
               refine pure_ (i:=0) (N:=some 17) (v:=?_) (a':=?_) #[true,false,false,false,false,false,false,false,false,false,false,false,false,false,false,false,false,false,false] rfl rfl (any_of HT_.out (by kernel_rfl)) (fun _ _ _ h=>h) (Or.inl ⟨by rfl,?_⟩) ?_ ?_
               rotate_left
               ·intro w'
                go_simp
                with_reducible rfl
               rotate_left
               ·simp only [Act.put,List.setIfInBounds_toArray,List.set_cons_zero,List.set_cons_succ,i64_w,i32_w]
                rfl
               refine pure_ (i:=1) (N:=some 18) (v:=?_) (a':=?_) #[true,true,false,false,false,false,false,false,false,false,false,false,false,false,false,false,false,false,false] rfl rfl (any_of HT_.out (by kernel_rfl)) (fun _ _ _ h=>h) (Or.inl ⟨by rfl,?_⟩) ?_ ?_
               rotate_left
               ·intro w'
                go_simp
                with_reducible rfl
               rotate_left
               ·simp only [Act.put,List.setIfInBounds_toArray,List.set_cons_zero,List.set_cons_succ,i64_w,i32_w]
                rfl
               refine pure_ (i:=4) (N:=some 21) (v:=?_) (a':=?_) #[true,true,false,false,true,false,false,false,false,false,false,false,false,false,false,false,false,false,false] rfl rfl (any_of HT_.out (by kernel_rfl)) (fun _ _ _ h=>h) (Or.inl ⟨by rfl,?_⟩) ?_ ?_
               rotate_left
               ·intro w'
                go_simp
                with_reducible rfl
               rotate_left
               ·simp only [Act.put,List.setIfInBounds_toArray,List.set_cons_zero,List.set_cons_succ,i64_w,i32_w]
                rfl
               refine pure_ (i:=9) (N:=some 26) (v:=?_) (a':=?_) #[true,true,false,false,true,false,false,false,false,true,false,false,false,false,false,false,false,false,false] rfl rfl (any_of HT_.out (by kernel_rfl)) (fun _ _ _ h=>h) (Or.inl ⟨by rfl,?_⟩) ?_ ?_
               rotate_left
               ·intro w'
                go_simp
                with_reducible rfl
               rotate_left
               ·simp only [Act.put,List.setIfInBounds_toArray,List.set_cons_zero,List.set_cons_succ,i64_w,i32_w]
                rfl
               refine pure_ (i:=14) (N:=some 31) (v:=?_) (a':=?_) #[true,true,false,false,true,false,false,false,false,true,false,false,false,false,true,false,false,false,false] rfl rfl (any_of HT_.out (by kernel_rfl)) (fun _ _ _ h=>h) (Or.inl ⟨by rfl,?_⟩) ?_ ?_
               rotate_left
               ·intro w'
                go_simp
                with_reducible rfl
               rotate_left
               ·simp only [Act.put,List.setIfInBounds_toArray,List.set_cons_zero,List.set_cons_succ,i64_w,i32_w]
                rfl
               refine take_ (i:=5) (N:=some 22) (v:=?_) (a':=?_) #[true,true,false,false,true,true,false,false,false,true,false,false,false,false,true,false,false,false,false] rfl rfl (take_ofW HT_.out HW_.out (by kernel_rfl)) (fun _ _ _ h=>h) (Or.inl ⟨by rfl,?_⟩) hHeld ?_ ?_
               rotate_left
               ·rintro w' ⟨s0,s1,s2⟩
                go_simp
                with_reducible rfl
               rotate_left
               ·simp only [Act.put,List.setIfInBounds_toArray,List.set_cons_zero,List.set_cons_succ,i64_w,i32_w]
                rfl
               refine take_ (i:=10) (N:=some 27) (v:=?_) (a':=?_) #[true,true,false,false,true,true,false,false,false,true,true,false,false,false,true,false,false,false,false] rfl rfl (take_ofW HT_.out HW_.out (by kernel_rfl)) (fun _ _ _ h=>h) (Or.inl ⟨by rfl,?_⟩) hHeld ?_ ?_
               rotate_left
               ·rintro w' ⟨s0,s1,s2⟩
                go_simp
                with_reducible rfl
               rotate_left
               ·simp only [Act.put,List.setIfInBounds_toArray,List.set_cons_zero,List.set_cons_succ,i64_w,i32_w]
                rfl
               refine take_ (i:=15) (N:=some 32) (v:=?_) (a':=?_) #[true,true,false,false,true,true,false,false,false,true,true,false,false,false,true,true,false,false,false] rfl rfl (take_ofW HT_.out HW_.out (by kernel_rfl)) (fun _ _ _ h=>h) (Or.inl ⟨by rfl,?_⟩) hHeld ?_ ?_
               rotate_left
               ·rintro w' ⟨s0,s1,s2⟩
                go_simp
                with_reducible rfl
               rotate_left
               ·simp only [Act.put,List.setIfInBounds_toArray,List.set_cons_zero,List.set_cons_succ,i64_w,i32_w]
                rfl
               refine one_ (i:=2) (N:=some 19) #[true,true,true,false,true,true,false,false,false,true,true,false,false,false,true,true,false,false,false] rfl rfl (one_of HT_.out (by kernel_rfl)) (by decide) (fun K hK=>?_)
               refine goes_ Tryd.func26 (by kernel_rfl) rfl #[.int .i64 (wrap64 (qa+1))] (by rfl) rfl rfl (by(try simp only [List.map_toArray,List.map_cons,List.map_nil]);first|done|rfl|(simp only [List.length_drop,List.length_take];rfl)) ?_
               with_reducible refine(strconv_Itoa_26.calls (wrap64 (qa+1)) t167 _ (by first|exact HGL.out|((repeat(with_reducible refine Glob.drewN ?_));exact HGL.out)|exact Glob.below HGL.out (by repeat(first|(with_reducible first|exact HB.out|apply Gd|apply Gb|apply Gc|refine Gf ?_ qn.out)|exact HB.out))) A10.out).mono ?_
               rintro e w25 ⟨rfl,hb⟩
               refine⟨_,rfl,?_⟩
               have n0_:=Ga (BdR_below (by(with_reducible repeat(first|apply BdR_alloc|apply BdR_drewN|apply BdR_drew));exact qm.out) hb)
               have qk:=Ga (blk_below (g:=qg) (o:=.cells #[.int .i64 ((rd_T40 l0 qa).f0),.int .i64 ((rd_T40 l0 qa).f1),.string ((rd_T40 l0 qa).f2)] 40 (0,0)) (by(with_reducible repeat(first|refine blk_drewN ?_ _|refine blk_drew ?_|refine blk_alloc ?_ _));exact qd.out) hb)
               have ql:=Ga (Gi (by repeat(first|(with_reducible first|exact HB.out|apply Gd|apply Gb|apply Gc|refine Gf ?_ qn.out)|exact HB.out)) hb)
               clear qm
               clear qd
               clear HB
               have qm:=n0_
               have qd:=qk
               have HB:=ql
               clear n0_ qk ql
               (try clear hb)
               (try clear hb2)
               (try clear hk)
               (try clear hi)
               refine hK.out _ _ ⟨(Ge qd.out 0).trans rfl,(Ge qd.out 1).trans rfl,(Ge qd.out 2).trans rfl⟩ (fun hHeld=>?_)
               clear hK K
               refine norm_ (a':=?_) ?_ ?_
               rotate_left
               ·show Act.put _ (some 19) _=_
                simp only [Act.put,List.setIfInBounds_toArray,List.set_cons_zero,List.set_cons_succ,i64_w,i32_w]
                rfl
               refine pure_ (i:=3) (N:=some 20) (v:=?_) (a':=?_) #[true,true,true,true,true,true,false,false,false,true,true,false,false,false,true,true,false,false,false] rfl rfl (any_of HT_.out (by kernel_rfl)) (fun _ _ _ h=>h) (Or.inl ⟨by rfl,?_⟩) ?_ ?_
               rotate_left
               ·intro w'
                go_simp
                with_reducible rfl
               rotate_left
               ·simp only [Act.put,List.setIfInBounds_toArray,List.set_cons_zero,List.set_cons_succ,i64_w,i32_w]
                rfl
               refine one_ (i:=6) (N:=some 23) #[true,true,true,true,true,true,true,false,false,true,true,false,false,false,true,true,false,false,false] rfl rfl (one_of HT_.out (by kernel_rfl)) (by decide) (fun K hK=>?_)
               refine goes_ Tryd.func27 (by kernel_rfl) rfl #[.int .i64 ((rd_T40 l0 qa).f0)] (by rfl) rfl rfl (by(try simp only [List.map_toArray,List.map_cons,List.map_nil]);first|done|rfl|(simp only [List.length_drop,List.length_take];rfl)) ?_
               with_reducible refine(impl_milliText.calls ((rd_T40 l0 qa).f0) t168 _ (by first|exact HGL.out|((repeat(with_reducible refine Glob.drewN ?_));exact HGL.out)|exact Glob.below HGL.out (by repeat(first|(with_reducible first|exact HB.out|apply Gd|apply Gb|apply Gc|refine Gf ?_ qn.out)|exact HB.out))) A12.out).mono ?_
               rintro e w26 ⟨rfl,hb⟩
               refine⟨_,rfl,?_⟩
               have n0_:=Ga (BdR_below (by(with_reducible repeat(first|apply BdR_alloc|apply BdR_drewN|apply BdR_drew));exact qm.out) hb)
               have qk:=Ga (blk_below (g:=qg) (o:=.cells #[.int .i64 ((rd_T40 l0 qa).f0),.int .i64 ((rd_T40 l0 qa).f1),.string ((rd_T40 l0 qa).f2)] 40 (0,0)) (by(with_reducible repeat(first|refine blk_drewN ?_ _|refine blk_drew ?_|refine blk_alloc ?_ _));exact qd.out) hb)
               have ql:=Ga (Gi (by repeat(first|(with_reducible first|exact HB.out|apply Gd|apply Gb|apply Gc|refine Gf ?_ qn.out)|exact HB.out)) hb)
               clear qm
               clear qd
               clear HB
               have qm:=n0_
               have qd:=qk
               have HB:=ql
               clear n0_ qk ql
               (try clear hb)
               (try clear hb2)
               (try clear hk)
               (try clear hi)
               refine hK.out _ _ ⟨(Ge qd.out 0).trans rfl,(Ge qd.out 1).trans rfl,(Ge qd.out 2).trans rfl⟩ (fun hHeld=>?_)
               clear hK K
               refine norm_ (a':=?_) ?_ ?_
               rotate_left
               ·show Act.put _ (some 23) _=_
                simp only [Act.put,List.setIfInBounds_toArray,List.set_cons_zero,List.set_cons_succ,i64_w,i32_w]
                rfl
               refine pure_ (i:=7) (N:=some 24) (v:=?_) (a':=?_) #[true,true,true,true,true,true,true,true,false,true,true,false,false,false,true,true,false,false,false] rfl rfl (any_of HT_.out (by kernel_rfl)) (fun _ _ _ h=>h) (Or.inl ⟨by rfl,?_⟩) ?_ ?_
               rotate_left
               ·intro w'
                go_simp
                with_reducible rfl
               rotate_left
               ·simp only [Act.put,List.setIfInBounds_toArray,List.set_cons_zero,List.set_cons_succ,i64_w,i32_w]
                rfl
               refine pure_ (i:=8) (N:=some 25) (v:=?_) (a':=?_) #[true,true,true,true,true,true,true,true,true,true,true,false,false,false,true,true,false,false,false] rfl rfl (any_of HT_.out (by kernel_rfl)) (fun _ _ _ h=>h) (Or.inl ⟨by rfl,?_⟩) ?_ ?_
               rotate_left
               ·intro w'
                go_simp
                with_reducible rfl
               rotate_left
               ·simp only [Act.put,List.setIfInBounds_toArray,List.set_cons_zero,List.set_cons_succ,i64_w,i32_w]
                rfl
               refine one_ (i:=11) (N:=some 28) #[true,true,true,true,true,true,true,true,true,true,true,true,false,false,true,true,false,false,false] rfl rfl (one_of HT_.out (by kernel_rfl)) (by decide) (fun K hK=>?_)
               refine goes_ Tryd.func27 (by kernel_rfl) rfl #[.int .i64 ((rd_T40 l0 qa).f1)] (by rfl) rfl rfl (by(try simp only [List.map_toArray,List.map_cons,List.map_nil]);first|done|rfl|(simp only [List.length_drop,List.length_take];rfl)) ?_
               with_reducible refine(impl_milliText.calls ((rd_T40 l0 qa).f1) t169 _ (by first|exact HGL.out|((repeat(with_reducible refine Glob.drewN ?_));exact HGL.out)|exact Glob.below HGL.out (by repeat(first|(with_reducible first|exact HB.out|apply Gd|apply Gb|apply Gc|refine Gf ?_ qn.out)|exact HB.out))) A15.out).mono ?_
               rintro e w27 ⟨rfl,hb⟩
               refine⟨_,rfl,?_⟩
               have n0_:=Ga (BdR_below (by(with_reducible repeat(first|apply BdR_alloc|apply BdR_drewN|apply BdR_drew));exact qm.out) hb)
               have qk:=Ga (blk_below (g:=qg) (o:=.cells #[.int .i64 ((rd_T40 l0 qa).f0),.int .i64 ((rd_T40 l0 qa).f1),.string ((rd_T40 l0 qa).f2)] 40 (0,0)) (by(with_reducible repeat(first|refine blk_drewN ?_ _|refine blk_drew ?_|refine blk_alloc ?_ _));exact qd.out) hb)
               have ql:=Ga (Gi (by repeat(first|(with_reducible first|exact HB.out|apply Gd|apply Gb|apply Gc|refine Gf ?_ qn.out)|exact HB.out)) hb)
               clear qm
               clear qd
               clear HB
               have qm:=n0_
               have qd:=qk
               have HB:=ql
               clear n0_ qk ql
               (try clear hb)
               (try clear hb2)
               (try clear hk)
               (try clear hi)
               refine hK.out _ _ ⟨(Ge qd.out 0).trans rfl,(Ge qd.out 1).trans rfl,(Ge qd.out 2).trans rfl⟩ (fun hHeld=>?_)
               clear hK K
               refine norm_ (a':=?_) ?_ ?_
               rotate_left
               ·show Act.put _ (some 28) _=_
                simp only [Act.put,List.setIfInBounds_toArray,List.set_cons_zero,List.set_cons_succ,i64_w,i32_w]
                rfl
               refine pure_ (i:=12) (N:=some 29) (v:=?_) (a':=?_) #[true,true,true,true,true,true,true,true,true,true,true,true,true,false,true,true,false,false,false] rfl rfl (any_of HT_.out (by kernel_rfl)) (fun _ _ _ h=>h) (Or.inl ⟨by rfl,?_⟩) ?_ ?_
               rotate_left
               ·intro w'
                go_simp
                with_reducible rfl
               rotate_left
               ·simp only [Act.put,List.setIfInBounds_toArray,List.set_cons_zero,List.set_cons_succ,i64_w,i32_w]
                rfl
               refine pure_ (i:=13) (N:=some 30) (v:=?_) (a':=?_) #[true,true,true,true,true,true,true,true,true,true,true,true,true,true,true,true,false,false,false] rfl rfl (any_of HT_.out (by kernel_rfl)) (fun _ _ _ h=>h) (Or.inl ⟨by rfl,?_⟩) ?_ ?_
               rotate_left
               ·intro w'
                go_simp
                with_reducible rfl
               rotate_left
               ·simp only [Act.put,List.setIfInBounds_toArray,List.set_cons_zero,List.set_cons_succ,i64_w,i32_w]
                rfl
               refine pure_ (i:=16) (N:=some 33) (v:=?_) (a':=?_) #[true,true,true,true,true,true,true,true,true,true,true,true,true,true,true,true,true,false,false] rfl rfl (any_of HT_.out (by kernel_rfl)) (fun _ _ _ h=>h) (Or.inl ⟨by rfl,?_⟩) ?_ ?_
               rotate_left
               ·intro w'
                go_simp
                with_reducible rfl
               rotate_left
               ·simp only [Act.put,List.setIfInBounds_toArray,List.set_cons_zero,List.set_cons_succ,i64_w,i32_w]
                rfl
               refine pure_ (i:=17) (N:=some 34) (v:=?_) (a':=?_) #[true,true,true,true,true,true,true,true,true,true,true,true,true,true,true,true,true,true,false] rfl rfl (any_of HT_.out (by kernel_rfl)) (fun _ _ _ h=>h) (Or.inl ⟨by rfl,?_⟩) ?_ ?_
               rotate_left
               ·intro w'
                go_simp
                with_reducible rfl
               rotate_left
               ·simp only [Act.put,List.setIfInBounds_toArray,List.set_cons_zero,List.set_cons_succ,i64_w,i32_w]
                rfl
               refine last_ (i:=18) (N:=some 35) #[true,true,true,true,true,true,true,true,true,true,true,true,true,true,true,true,true,true,true] rfl rfl (one_of HT_.out (by kernel_rfl)) (by decide) (fun K hK=>?_)
               refine goes_ Tryd.func25 (by kernel_rfl) rfl #[.pointer (some ⟨gb0,0,none⟩),.string (((((((t167 ++ (⟨#[10]⟩:ByteArray)) ++ t168) ++ (⟨#[32,45,45,62,32]⟩:ByteArray)) ++ t169) ++ (⟨#[10]⟩:ByteArray)) ++ ((rd_T40 l0 qa).f2)) ++ (⟨#[10,10]⟩:ByteArray))] (by rfl) rfl rfl (by(try simp only [List.map_toArray,List.map_cons,List.map_nil]);first|done|rfl|(simp only [List.length_drop,List.length_take];rfl)) ?_
               refine(BdR_write w.heap.size gb0 qo (((((((t167 ++ (⟨#[10]⟩:ByteArray)) ++ t168) ++ (⟨#[32,45,45,62,32]⟩:ByteArray)) ++ t169) ++ (⟨#[10]⟩:ByteArray)) ++ ((rd_T40 l0 qa).f2)) ++ (⟨#[10,10]⟩:ByteArray)) _ (by(with_reducible repeat(first|apply BdR_alloc|apply BdR_drewN|apply BdR_drew));exact qm.out) (by have:=LMc20.out;omega) (Gh (by repeat(first|(with_reducible first|exact HB.out|apply Gd|apply Gb|apply Gc|refine Gf ?_ qn.out)|exact HB.out)))).mono ?_
               rintro e w28 ⟨rfl,ho,hb⟩
               refine⟨_,rfl,?_⟩
               rw [← Ny170.out] at ho
               have HO172:=Ga ho
               have qk:=Ga (Below.trans (by repeat(first|(with_reducible first|exact HB.out|apply Gd|apply Gb|apply Gc|refine Gf ?_ qn.out)|exact HB.out)) hb)
               clear HB
               have HB:=qk
               clear qk ho hb
               refine hK.out _ _ ?_
               clear hK K
               refine norm_ (a':=?_) ?_ ?_
               rotate_left
               ·show Act.put _ (some 35) _=_
                simp only [Act.put,List.setIfInBounds_toArray,List.set_cons_zero,List.set_cons_succ,i64_w,i32_w]
                rfl
               refine done_ (done_of HT_.out (by kernel_rfl)) ?_
               go_wp2
               go_roundg k1
               case measure=>have:=HK1.out;omega
               case rel=>exact⟨(y170),(wrap64 (qa+1)),(by first|rfl|(simp;done)|(simp [*];done)),H',⟨by have:=HK1.out;omega⟩,⟨by(with_reducible repeat(first|apply BdR_alloc|apply BdR_drewN|apply BdR_drew));exact HO172.out⟩,⟨by repeat(first|(with_reducible first|exact HB.out|apply Gd|apply Gb|apply Gc|refine Gf ?_ qn.out)|exact HB.out)⟩⟩
              ·rw [if_neg c20] at H
               exact absurd H (by simp)
             ·rw [if_neg c19] at H
              exact absurd H (by simp)
            ·rw [if_neg c18] at H
             exact absurd H (by simp)
           ·rw [if_neg c17] at H
            exact absurd H (by simp)
          ·rw [if_neg c16] at H
           exact absurd H (by simp)
         ·rw [if_neg c14] at H
          exact absurd H (by simp)
        ·rw [if_neg c13] at H
         exact absurd H (by simp)
       ·rw [if_neg c11] at H
        exact absurd H (by simp)
      ·rw [if_neg c9] at H
       exact absurd H (by simp)
     ·rw [if_neg c8] at H
      exact absurd H (by simp)
    ·rw [if_neg c7] at H
     have c7b0:decide (qa < (l0.length:Int))=false:=decide_eq_false c7
     clear c7
     obtain rfl:=Option.some.inj H
     go_wp2_with (first|(go_at_call 28;refine(BdR_string w.heap.size gb0 qo _ (by(with_reducible repeat(first|apply BdR_alloc|apply BdR_drewN|apply BdR_drew));exact qm.out) (Gh (by repeat(first|(with_reducible first|exact HB.out|apply Gd|apply Gb|apply Gc)|exact HB.out)))).mono ?_;rintro e w29 ⟨rfl,hb⟩;have n0_:=Ga (Below.trans (by repeat(first|(with_reducible first|exact HB.out|apply Gd|apply Gb|apply Gc)|exact HB.out)) hb);clear HB;have HB:=n0_;clear n0_ hb))
     go_ret
     exact⟨by first|rfl|(simp [errW_none,errW_some] <;> rfl)|(simp [*,errW_none,errW_some] <;> rfl),by repeat(first|(with_reducible first|exact HB.out|apply Gd|apply Gb|apply Gc)|exact HB.out)⟩
 ·replace c3:=Bool.eq_false_iff.mpr c3
  subst c3
  have H1:(some (⟨#[]⟩:ByteArray))=some r:=by rw [if_neg (show ¬ (false=true) by decide)] at H;exact H
  clear H
  have H:=H1
  clear H1
  obtain rfl:=Option.some.inj H
  go_enter Tryd.func9,Tryd.ntmps9
  go_wp2_with (first|((with_reducible refine gate_callee (f:=19) rfl ?_);refine goesL_ (some 7) rfl rfl Tryd.func19 (by kernel_rfl) rfl #[.slice A0 l0.length c0] rfl (by(try simp only [List.map_toArray,List.map_cons,List.map_nil]);first|done|rfl|(simp only [List.length_drop,List.length_take];rfl)) ?_;(with_reducible refine(impl_TitlesOk.calls k _ _ l0 false _ (by first|exact HGL.out|((repeat(with_reducible refine Glob.drewN ?_));exact HGL.out)|exact Glob.below HGL.out (by repeat(first|(with_reducible first|exact HB.out|apply Gd|apply Gb|apply Gc|refine Gf ?_ qn.out)|exact HB.out))) ?side1 ?side2 A2.out).mono ?_);(case side1=>repeat(first|exact HR0.out|(with_reducible refine Kd.C_alloc ?_ _)|(with_reducible refine Kd.C_drewN ?_ _)|(with_reducible refine Kd.C_drew ?_)));(case side2=>exact HC0.out);rintro e w30 ⟨rfl,hb⟩;refine⟨_,rfl,?_⟩;have n0_:=Ga (Gi (by repeat(first|(with_reducible first|exact HB.out|apply Gd|apply Gb|apply Gc)|exact HB.out)) hb);clear HB;have HB:=n0_;clear n0_;(try clear hb);(try clear hb2);(try clear hk);(try clear hi)))
  go_ret
  exact⟨by first|rfl|(simp [errW_none,errW_some] <;> rfl)|(simp [*,errW_none,errW_some] <;> rfl),by repeat(first|(with_reducible first|exact HB.out|apply Gd|apply Gb|apply Gc)|exact HB.out)⟩

/-! ### laws_eqTitle: function 29 -/
def laws_eqTitle.f (a0_0 : Int) (a0_1 : Int) (a0_2 : ByteArray) (a1_0 : Int) (a1_1 : Int) (a1_2 : ByteArray) : Option (Bool) := if a0_0 = a1_0 then (if a0_1 = a1_1 then (if a0_2.toList = a1_2.toList then (some true) else (some false)) else (some false)) else (some false)
set_option maxHeartbeats 8000000 in
set_option maxRecDepth 100000 in
theorem laws_eqTitle.calls (a0_0 : Int) (a0_1 : Int) (a0_2 : ByteArray) (a1_0 : Int) (a1_1 : Int) (a1_2 : ByteArray) (r : Bool) (w : World) (h : laws_eqTitle.f a0_0 a0_1 a0_2 a1_0 a1_1 a1_2 = some r) :
  Calls Tryd.prog 29 #[.agg #[.int .i64 a0_0,.int .i64 a0_1,.string a0_2],.agg #[.int .i64 a1_0,.int .i64 a1_1,.string a1_2]] w fun e w'=>e=.returned (.bool r)∧Below w.heap.size w w':=by
 have hu40:=Tryd.underlying40
 have HB:=Ga (Below.refl w.heap.size w)
 have H:(if a0_0=a1_0 then (if a0_1=a1_1 then (if a0_2.toList=a1_2.toList then (some true) else (some false)) else (some false)) else (some false))=some r:=h
 clear h
 by_cases c3:a0_0=a1_0
 ·rw [if_pos c3] at H
  have c3b0:(a0_0 == a1_0)=true:=beq_iff_eq.mpr c3
  have c3b1:(a0_0 != a1_0)=false:=bne_eq_false_iff_eq.mpr c3
  clear c3
  by_cases c4:a0_1=a1_1
  ·rw [if_pos c4] at H
   have c4b0:(a0_1 == a1_1)=true:=beq_iff_eq.mpr c4
   have c4b1:(a0_1 != a1_1)=false:=bne_eq_false_iff_eq.mpr c4
   clear c4
   by_cases c5:a0_2.toList=a1_2.toList
   ·rw [if_pos c5] at H
    have c5b0:(a0_2.toList == a1_2.toList)=true:=beq_iff_eq.mpr c5
    have c5b1:(a0_2.toList != a1_2.toList)=false:=bne_eq_false_iff_eq.mpr c5
    clear c5
    obtain rfl:=Option.some.inj H
    go_enter Tryd.func29,Tryd.ntmps29
    go_wp2_with (first|((with_reducible refine gate_dst (N:=2) rfl ?_);refine box_event ?hg (N:=2) ?hd (cs:=#[.int .i64 a0_0,.int .i64 a0_1,.string a0_2]) (t:=40) ?hr ?_;(case hd=>rfl);(case hg=>rfl);(case hr=>first|(go_simp;done)|(go_simp;rfl));intro qc hg w6 hbox hb;have n0_:=Ga (Gi (by repeat(first|(with_reducible first|exact HB.out|apply Gd|apply Gb|apply Gc)|exact HB.out)) hb);have qk:=Ga (hbox);have ql:=Ga ((by rw [hg];exact(Gh (by repeat(first|(with_reducible first|exact HB.out|apply Gd|apply Gb|apply Gc)|exact HB.out))):w.heap.size≤qc));have qp:=Ga ((by rw [hg];exact(Gh (by repeat(first|(with_reducible first|exact HB.out|apply Gd|apply Gb|apply Gc)|exact HB.out))):w.heap.size≤qc));clear HB;have HB:=n0_;have qb:=qk;have GW173:=ql;have qh:=qp;clear n0_ qk ql qp;clear hb hbox hg)|((with_reducible refine gate_dst (N:=3) rfl ?_);refine box_event ?hg (N:=3) ?hd (cs:=#[.int .i64 a1_0,.int .i64 a1_1,.string a1_2]) (t:=40) ?hr ?_;(case hd=>rfl);(case hg=>rfl);(case hr=>first|(go_simp;done)|(go_simp;rfl));intro qe hg w7 hbox hb;have n0_:=Ga (blk_below (g:=qc) (o:=.cells #[.int .i64 a0_0,.int .i64 a0_1,.string a0_2] 40 (0,0)) (by(with_reducible repeat(first|refine blk_drewN ?_ _|refine blk_drew ?_|refine blk_alloc ?_ _));exact qb.out) hb);have qk:=Ga (Gi (by repeat(first|(with_reducible first|exact HB.out|apply Gd|apply Gb|apply Gc|refine Gf ?_ qh.out)|exact HB.out)) hb);have ql:=Ga (hbox);have qp:=Ga ((by rw [hg];exact(Gh (by repeat(first|(with_reducible first|exact HB.out|apply Gd|apply Gb|apply Gc|refine Gf ?_ qh.out)|exact HB.out))):w.heap.size≤qe));have n4_:=Ga ((by rw [hg];exact(Gh (by repeat(first|(with_reducible first|exact HB.out|apply Gd|apply Gb|apply Gc|refine Gf ?_ qh.out)|exact HB.out))):w.heap.size≤qe));have n5_:=Ga ((by rw [hg];exact Nat.ne_of_lt (blk_lt (g:=qc) (o:=.cells #[.int .i64 a0_0,.int .i64 a0_1,.string a0_2] 40 (0,0)) (by(with_reducible repeat(first|refine blk_drewN ?_ _|refine blk_drew ?_|refine blk_alloc ?_ _));exact qb.out)):qc≠qe));have n6_:=Ga ((by rw [hg];exact Nat.ne_of_gt (blk_lt (g:=qc) (o:=.cells #[.int .i64 a0_0,.int .i64 a0_1,.string a0_2] 40 (0,0)) (by(with_reducible repeat(first|refine blk_drewN ?_ _|refine blk_drew ?_|refine blk_alloc ?_ _));exact qb.out)):qe≠qc));clear qb;clear HB;have qb:=n0_;have HB:=qk;have qf:=ql;have GW174:=qp;have qq:=n4_;have qi:=n5_;have qj:=n6_;clear n0_ qk ql qp n4_ n5_ n6_;clear hb hbox hg;have hnb8:=qi.out;have hnc8:=qj.out;have hcz9_0:w7.cell? ⟨qc,0,none⟩=some (.int .i64 a0_0):=(Ge qb.out 0).trans rfl;have hcz9_1:w7.cell? ⟨qc,1,none⟩=some (.int .i64 a0_1):=(Ge qb.out 1).trans rfl;have hcz9_2:w7.cell? ⟨qc,2,none⟩=some (.string a0_2):=(Ge qb.out 2).trans rfl;have hfz9_0:=Gg qb.out 0;have hfz9_1:=Gg qb.out 1;have hfz9_2:=Gg qb.out 2;have hcz10_0:w7.cell? ⟨qe,0,none⟩=some (.int .i64 a1_0):=(Ge qf.out 0).trans rfl;have hcz10_1:w7.cell? ⟨qe,1,none⟩=some (.int .i64 a1_1):=(Ge qf.out 1).trans rfl;have hcz10_2:w7.cell? ⟨qe,2,none⟩=some (.string a1_2):=(Ge qf.out 2).trans rfl;have hfz10_0:=Gg qf.out 0;have hfz10_1:=Gg qf.out 1;have hfz10_2:=Gg qf.out 2))
    go_ret
    exact⟨by first|rfl|(simp [errW_none,errW_some] <;> rfl)|(simp [*,errW_none,errW_some] <;> rfl),by repeat(first|(with_reducible first|exact HB.out|apply Gd|apply Gb|apply Gc|refine Gf ?_ qh.out|refine Gf ?_ qq.out)|exact HB.out)⟩
   ·rw [if_neg c5] at H
    have c5b0:(a0_2.toList == a1_2.toList)=false:=beq_eq_false_iff_ne.mpr c5
    have c5b1:(a0_2.toList != a1_2.toList)=true:=bne_iff_ne.mpr c5
    obtain rfl:=Option.some.inj H
    go_enter Tryd.func29,Tryd.ntmps29
    go_wp2_with (first|((with_reducible refine gate_dst (N:=2) rfl ?_);refine box_event ?hg (N:=2) ?hd (cs:=#[.int .i64 a0_0,.int .i64 a0_1,.string a0_2]) (t:=40) ?hr ?_;(case hd=>rfl);(case hg=>rfl);(case hr=>first|(go_simp;done)|(go_simp;rfl));intro qc hg w11 hbox hb;have n0_:=Ga (Gi (by repeat(first|(with_reducible first|exact HB.out|apply Gd|apply Gb|apply Gc)|exact HB.out)) hb);have qk:=Ga (hbox);have ql:=Ga ((by rw [hg];exact(Gh (by repeat(first|(with_reducible first|exact HB.out|apply Gd|apply Gb|apply Gc)|exact HB.out))):w.heap.size≤qc));have qp:=Ga ((by rw [hg];exact(Gh (by repeat(first|(with_reducible first|exact HB.out|apply Gd|apply Gb|apply Gc)|exact HB.out))):w.heap.size≤qc));clear HB;have HB:=n0_;have qb:=qk;have GW173:=ql;have qh:=qp;clear n0_ qk ql qp;clear hb hbox hg)|((with_reducible refine gate_dst (N:=3) rfl ?_);refine box_event ?hg (N:=3) ?hd (cs:=#[.int .i64 a1_0,.int .i64 a1_1,.string a1_2]) (t:=40) ?hr ?_;(case hd=>rfl);(case hg=>rfl);(case hr=>first|(go_simp;done)|(go_simp;rfl));intro qe hg w12 hbox hb;have n0_:=Ga (blk_below (g:=qc) (o:=.cells #[.int .i64 a0_0,.int .i64 a0_1,.string a0_2] 40 (0,0)) (by(with_reducible repeat(first|refine blk_drewN ?_ _|refine blk_drew ?_|refine blk_alloc ?_ _));exact qb.out) hb);have qk:=Ga (Gi (by repeat(first|(with_reducible first|exact HB.out|apply Gd|apply Gb|apply Gc|refine Gf ?_ qh.out)|exact HB.out)) hb);have ql:=Ga (hbox);have qp:=Ga ((by rw [hg];exact(Gh (by repeat(first|(with_reducible first|exact HB.out|apply Gd|apply Gb|apply Gc|refine Gf ?_ qh.out)|exact HB.out))):w.heap.size≤qe));have n4_:=Ga ((by rw [hg];exact(Gh (by repeat(first|(with_reducible first|exact HB.out|apply Gd|apply Gb|apply Gc|refine Gf ?_ qh.out)|exact HB.out))):w.heap.size≤qe));have n5_:=Ga ((by rw [hg];exact Nat.ne_of_lt (blk_lt (g:=qc) (o:=.cells #[.int .i64 a0_0,.int .i64 a0_1,.string a0_2] 40 (0,0)) (by(with_reducible repeat(first|refine blk_drewN ?_ _|refine blk_drew ?_|refine blk_alloc ?_ _));exact qb.out)):qc≠qe));have n6_:=Ga ((by rw [hg];exact Nat.ne_of_gt (blk_lt (g:=qc) (o:=.cells #[.int .i64 a0_0,.int .i64 a0_1,.string a0_2] 40 (0,0)) (by(with_reducible repeat(first|refine blk_drewN ?_ _|refine blk_drew ?_|refine blk_alloc ?_ _));exact qb.out)):qe≠qc));clear qb;clear HB;have qb:=n0_;have HB:=qk;have qf:=ql;have GW174:=qp;have qq:=n4_;have qi:=n5_;have qj:=n6_;clear n0_ qk ql qp n4_ n5_ n6_;clear hb hbox hg;have hnb13:=qi.out;have hnc13:=qj.out;have hcz14_0:w12.cell? ⟨qc,0,none⟩=some (.int .i64 a0_0):=(Ge qb.out 0).trans rfl;have hcz14_1:w12.cell? ⟨qc,1,none⟩=some (.int .i64 a0_1):=(Ge qb.out 1).trans rfl;have hcz14_2:w12.cell? ⟨qc,2,none⟩=some (.string a0_2):=(Ge qb.out 2).trans rfl;have hfz14_0:=Gg qb.out 0;have hfz14_1:=Gg qb.out 1;have hfz14_2:=Gg qb.out 2;have hcz15_0:w12.cell? ⟨qe,0,none⟩=some (.int .i64 a1_0):=(Ge qf.out 0).trans rfl;have hcz15_1:w12.cell? ⟨qe,1,none⟩=some (.int .i64 a1_1):=(Ge qf.out 1).trans rfl;have hcz15_2:w12.cell? ⟨qe,2,none⟩=some (.string a1_2):=(Ge qf.out 2).trans rfl;have hfz15_0:=Gg qf.out 0;have hfz15_1:=Gg qf.out 1;have hfz15_2:=Gg qf.out 2))
    go_ret
    exact⟨by first|rfl|(simp [errW_none,errW_some] <;> rfl)|(simp [*,errW_none,errW_some] <;> rfl),by repeat(first|(with_reducible first|exact HB.out|apply Gd|apply Gb|apply Gc|refine Gf ?_ qh.out|refine Gf ?_ qq.out)|exact HB.out)⟩
  ·rw [if_neg c4] at H
   have c4b0:(a0_1 == a1_1)=false:=beq_eq_false_iff_ne.mpr c4
   have c4b1:(a0_1 != a1_1)=true:=bne_iff_ne.mpr c4
   obtain rfl:=Option.some.inj H
   go_enter Tryd.func29,Tryd.ntmps29
   go_wp2_with (first|((with_reducible refine gate_dst (N:=2) rfl ?_);refine box_event ?hg (N:=2) ?hd (cs:=#[.int .i64 a0_0,.int .i64 a0_1,.string a0_2]) (t:=40) ?hr ?_;(case hd=>rfl);(case hg=>rfl);(case hr=>first|(go_simp;done)|(go_simp;rfl));intro qc hg w16 hbox hb;have n0_:=Ga (Gi (by repeat(first|(with_reducible first|exact HB.out|apply Gd|apply Gb|apply Gc)|exact HB.out)) hb);have qk:=Ga (hbox);have ql:=Ga ((by rw [hg];exact(Gh (by repeat(first|(with_reducible first|exact HB.out|apply Gd|apply Gb|apply Gc)|exact HB.out))):w.heap.size≤qc));have qp:=Ga ((by rw [hg];exact(Gh (by repeat(first|(with_reducible first|exact HB.out|apply Gd|apply Gb|apply Gc)|exact HB.out))):w.heap.size≤qc));clear HB;have HB:=n0_;have qb:=qk;have GW173:=ql;have qh:=qp;clear n0_ qk ql qp;clear hb hbox hg)|((with_reducible refine gate_dst (N:=3) rfl ?_);refine box_event ?hg (N:=3) ?hd (cs:=#[.int .i64 a1_0,.int .i64 a1_1,.string a1_2]) (t:=40) ?hr ?_;(case hd=>rfl);(case hg=>rfl);(case hr=>first|(go_simp;done)|(go_simp;rfl));intro qe hg w17 hbox hb;have n0_:=Ga (blk_below (g:=qc) (o:=.cells #[.int .i64 a0_0,.int .i64 a0_1,.string a0_2] 40 (0,0)) (by(with_reducible repeat(first|refine blk_drewN ?_ _|refine blk_drew ?_|refine blk_alloc ?_ _));exact qb.out) hb);have qk:=Ga (Gi (by repeat(first|(with_reducible first|exact HB.out|apply Gd|apply Gb|apply Gc|refine Gf ?_ qh.out)|exact HB.out)) hb);have ql:=Ga (hbox);have qp:=Ga ((by rw [hg];exact(Gh (by repeat(first|(with_reducible first|exact HB.out|apply Gd|apply Gb|apply Gc|refine Gf ?_ qh.out)|exact HB.out))):w.heap.size≤qe));have n4_:=Ga ((by rw [hg];exact(Gh (by repeat(first|(with_reducible first|exact HB.out|apply Gd|apply Gb|apply Gc|refine Gf ?_ qh.out)|exact HB.out))):w.heap.size≤qe));have n5_:=Ga ((by rw [hg];exact Nat.ne_of_lt (blk_lt (g:=qc) (o:=.cells #[.int .i64 a0_0,.int .i64 a0_1,.string a0_2] 40 (0,0)) (by(with_reducible repeat(first|refine blk_drewN ?_ _|refine blk_drew ?_|refine blk_alloc ?_ _));exact qb.out)):qc≠qe));have n6_:=Ga ((by rw [hg];exact Nat.ne_of_gt (blk_lt (g:=qc) (o:=.cells #[.int .i64 a0_0,.int .i64 a0_1,.string a0_2] 40 (0,0)) (by(with_reducible repeat(first|refine blk_drewN ?_ _|refine blk_drew ?_|refine blk_alloc ?_ _));exact qb.out)):qe≠qc));clear qb;clear HB;have qb:=n0_;have HB:=qk;have qf:=ql;have GW174:=qp;have qq:=n4_;have qi:=n5_;have qj:=n6_;clear n0_ qk ql qp n4_ n5_ n6_;clear hb hbox hg;have hnb18:=qi.out;have hnc18:=qj.out;have hcz19_0:w17.cell? ⟨qc,0,none⟩=some (.int .i64 a0_0):=(Ge qb.out 0).trans rfl;have hcz19_1:w17.cell? ⟨qc,1,none⟩=some (.int .i64 a0_1):=(Ge qb.out 1).trans rfl;have hcz19_2:w17.cell? ⟨qc,2,none⟩=some (.string a0_2):=(Ge qb.out 2).trans rfl;have hfz19_0:=Gg qb.out 0;have hfz19_1:=Gg qb.out 1;have hfz19_2:=Gg qb.out 2;have hcz20_0:w17.cell? ⟨qe,0,none⟩=some (.int .i64 a1_0):=(Ge qf.out 0).trans rfl;have hcz20_1:w17.cell? ⟨qe,1,none⟩=some (.int .i64 a1_1):=(Ge qf.out 1).trans rfl;have hcz20_2:w17.cell? ⟨qe,2,none⟩=some (.string a1_2):=(Ge qf.out 2).trans rfl;have hfz20_0:=Gg qf.out 0;have hfz20_1:=Gg qf.out 1;have hfz20_2:=Gg qf.out 2))
   go_ret
   exact⟨by first|rfl|(simp [errW_none,errW_some] <;> rfl)|(simp [*,errW_none,errW_some] <;> rfl),by repeat(first|(with_reducible first|exact HB.out|apply Gd|apply Gb|apply Gc|refine Gf ?_ qh.out|refine Gf ?_ qq.out)|exact HB.out)⟩
 ·rw [if_neg c3] at H
  have c3b0:(a0_0 == a1_0)=false:=beq_eq_false_iff_ne.mpr c3
  have c3b1:(a0_0 != a1_0)=true:=bne_iff_ne.mpr c3
  obtain rfl:=Option.some.inj H
  go_enter Tryd.func29,Tryd.ntmps29
  go_wp2_with (first|((with_reducible refine gate_dst (N:=2) rfl ?_);refine box_event ?hg (N:=2) ?hd (cs:=#[.int .i64 a0_0,.int .i64 a0_1,.string a0_2]) (t:=40) ?hr ?_;(case hd=>rfl);(case hg=>rfl);(case hr=>first|(go_simp;done)|(go_simp;rfl));intro qc hg w21 hbox hb;have n0_:=Ga (Gi (by repeat(first|(with_reducible first|exact HB.out|apply Gd|apply Gb|apply Gc)|exact HB.out)) hb);have qk:=Ga (hbox);have ql:=Ga ((by rw [hg];exact(Gh (by repeat(first|(with_reducible first|exact HB.out|apply Gd|apply Gb|apply Gc)|exact HB.out))):w.heap.size≤qc));have qp:=Ga ((by rw [hg];exact(Gh (by repeat(first|(with_reducible first|exact HB.out|apply Gd|apply Gb|apply Gc)|exact HB.out))):w.heap.size≤qc));clear HB;have HB:=n0_;have qb:=qk;have GW173:=ql;have qh:=qp;clear n0_ qk ql qp;clear hb hbox hg)|((with_reducible refine gate_dst (N:=3) rfl ?_);refine box_event ?hg (N:=3) ?hd (cs:=#[.int .i64 a1_0,.int .i64 a1_1,.string a1_2]) (t:=40) ?hr ?_;(case hd=>rfl);(case hg=>rfl);(case hr=>first|(go_simp;done)|(go_simp;rfl));intro qe hg w22 hbox hb;have n0_:=Ga (blk_below (g:=qc) (o:=.cells #[.int .i64 a0_0,.int .i64 a0_1,.string a0_2] 40 (0,0)) (by(with_reducible repeat(first|refine blk_drewN ?_ _|refine blk_drew ?_|refine blk_alloc ?_ _));exact qb.out) hb);have qk:=Ga (Gi (by repeat(first|(with_reducible first|exact HB.out|apply Gd|apply Gb|apply Gc|refine Gf ?_ qh.out)|exact HB.out)) hb);have ql:=Ga (hbox);have qp:=Ga ((by rw [hg];exact(Gh (by repeat(first|(with_reducible first|exact HB.out|apply Gd|apply Gb|apply Gc|refine Gf ?_ qh.out)|exact HB.out))):w.heap.size≤qe));have n4_:=Ga ((by rw [hg];exact(Gh (by repeat(first|(with_reducible first|exact HB.out|apply Gd|apply Gb|apply Gc|refine Gf ?_ qh.out)|exact HB.out))):w.heap.size≤qe));have n5_:=Ga ((by rw [hg];exact Nat.ne_of_lt (blk_lt (g:=qc) (o:=.cells #[.int .i64 a0_0,.int .i64 a0_1,.string a0_2] 40 (0,0)) (by(with_reducible repeat(first|refine blk_drewN ?_ _|refine blk_drew ?_|refine blk_alloc ?_ _));exact qb.out)):qc≠qe));have n6_:=Ga ((by rw [hg];exact Nat.ne_of_gt (blk_lt (g:=qc) (o:=.cells #[.int .i64 a0_0,.int .i64 a0_1,.string a0_2] 40 (0,0)) (by(with_reducible repeat(first|refine blk_drewN ?_ _|refine blk_drew ?_|refine blk_alloc ?_ _));exact qb.out)):qe≠qc));clear qb;clear HB;have qb:=n0_;have HB:=qk;have qf:=ql;have GW174:=qp;have qq:=n4_;have qi:=n5_;have qj:=n6_;clear n0_ qk ql qp n4_ n5_ n6_;clear hb hbox hg;have hnb23:=qi.out;have hnc23:=qj.out;have hcz24_0:w22.cell? ⟨qc,0,none⟩=some (.int .i64 a0_0):=(Ge qb.out 0).trans rfl;have hcz24_1:w22.cell? ⟨qc,1,none⟩=some (.int .i64 a0_1):=(Ge qb.out 1).trans rfl;have hcz24_2:w22.cell? ⟨qc,2,none⟩=some (.string a0_2):=(Ge qb.out 2).trans rfl;have hfz24_0:=Gg qb.out 0;have hfz24_1:=Gg qb.out 1;have hfz24_2:=Gg qb.out 2;have hcz25_0:w22.cell? ⟨qe,0,none⟩=some (.int .i64 a1_0):=(Ge qf.out 0).trans rfl;have hcz25_1:w22.cell? ⟨qe,1,none⟩=some (.int .i64 a1_1):=(Ge qf.out 1).trans rfl;have hcz25_2:w22.cell? ⟨qe,2,none⟩=some (.string a1_2):=(Ge qf.out 2).trans rfl;have hfz25_0:=Gg qf.out 0;have hfz25_1:=Gg qf.out 1;have hfz25_2:=Gg qf.out 2))
  go_ret
  exact⟨by first|rfl|(simp [errW_none,errW_some] <;> rfl)|(simp [*,errW_none,errW_some] <;> rfl),by repeat(first|(with_reducible first|exact HB.out|apply Gd|apply Gb|apply Gc|refine Gf ?_ qh.out|refine Gf ?_ qq.out)|exact HB.out)⟩

end Go.Proofs.YtidogkjhjmcliaaDoor.HFnExactShowTitles
