-- Laid by myprint.py, a program of this repo, out of the kit's printer and this repo's own texts (wip/hand).
import Derived.Test.YtidogkjhjmcliaaDoorHFnExactReadTitlesx0
namespace Go.Proofs.YtidogkjhjmcliaaDoor.HFnExactReadTitles
open Go.RowKit Go.Proofs.YtidogkjhjmcliaaDoorW.PrintWords Go.Proofs.YtidogkjhjmcliaaDoorW.PrintLast Go.Proofs.YtidogkjhjmcliaaDoorW.PrintMore
attribute [local go_sem] max2_int min2_int max_two min_two max_three min_three max_four min_four   -- for this text's walks alone
set_option linter.unusedVariables false
set_option linter.unusedSimpArgs false
theorem Ga : type_of% @Aside0.mk := @Aside0.mk
theorem Gb : type_of% @pw_below_drewN := @pw_below_drewN
theorem Gc : type_of% @Drawn0.refl := @Drawn0.refl
theorem Gd : type_of% @Drawn0.step := @Drawn0.step
theorem Ge : type_of% @below_alloc := @below_alloc
theorem Gf : type_of% @below_drew1 := @below_drew1

/-! ### strconv_Itoa_26: function 26 -/
def strconv_Itoa_26.f (a0 : Int) : Option (ByteArray) := if -9223372036854775808 ≤ a0 ∧ a0 ≤ 9223372036854775807 then some ⟨(Lib.itoa a0).toArray⟩ else none
theorem strconv_Itoa_26.calls (a0 : Int) (r : ByteArray) (w : World) (hgl : Glob w) (h : strconv_Itoa_26.f a0 = some r) :
  Calls Tryd.prog 26 #[.int .i64 a0] w fun e w'=>e=.returned (.string r)∧Below w.heap.size w w':=by
 unfold strconv_Itoa_26.f at h
 split at h
 ·rename_i hs
  obtain⟨h0,h1⟩:=hs
  cases h
  refine(Tryd.strconv_Itoa a0 h0 h1 w hgl.tab).mono ?_
  rintro e w' ⟨rfl,k,os,rfl⟩
  exact⟨rfl,below_grow_title w k os⟩
 ·cases h


/-! ### impl_Title_timesOk: function 39 -/
def impl_Title_timesOk.f (a0_0 : Int) (a0_1 : Int) (a0_2 : ByteArray) : Option (Bool) := if 0 ≤ a0_0 then (if a0_0 < a0_1 then (some (decide (a0_1 ≤ 359999999))) else (some false)) else (some false)
set_option maxHeartbeats 8000000 in
set_option maxRecDepth 100000 in
theorem impl_Title_timesOk.calls (a0_0 : Int) (a0_1 : Int) (a0_2 : ByteArray) (r : Bool) (w : World) (h : impl_Title_timesOk.f a0_0 a0_1 a0_2 = some r) :
  Calls Tryd.prog 39 #[.agg #[.int .i64 a0_0,.int .i64 a0_1,.string a0_2]] w fun e w'=>e=.returned (.bool r)∧Below w.heap.size w w':=by
 have hu40:=Tryd.underlying40
 have HB:=Ga (Below.refl w.heap.size w)
 have H:(if 0≤a0_0 then (if a0_0 < a0_1 then (some (decide (a0_1≤359999999))) else (some false)) else (some false))=some r:=h
 clear h
 by_cases c2:0≤a0_0
 ·rw [if_pos c2] at H
  have c2b0:decide (0≤a0_0)=true:=decide_eq_true c2
  clear c2
  by_cases c3:a0_0 < a0_1
  ·rw [if_pos c3] at H
   have c3b0:decide (a0_0 < a0_1)=true:=decide_eq_true c3
   clear c3
   obtain rfl:=Option.some.inj H
   go_enter Tryd.func39,Tryd.ntmps39
   go_wp2_with (first|((with_reducible refine gate_dst (N:=1) rfl ?_);refine box_event ?hg (N:=1) ?hd (cs:=#[.int .i64 a0_0,.int .i64 a0_1,.string a0_2]) (t:=40) ?hr ?_;(case hd=>rfl);(case hg=>rfl);(case hr=>first|(go_simp;done)|(go_simp;rfl));intro gb178 hg w4 hbox hb;have n0_:=Ga (below_step (by repeat(first|(with_reducible first|exact HB.out|apply Ge|apply Gb|apply Gf)|exact HB.out)) hb);have n1_:=Ga (hbox);have n2_:=Ga ((by rw [hg];exact(below_size (by repeat(first|(with_reducible first|exact HB.out|apply Ge|apply Gb|apply Gf)|exact HB.out))):w.heap.size≤gb178));have n3_:=Ga ((by rw [hg];exact(below_size (by repeat(first|(with_reducible first|exact HB.out|apply Ge|apply Gb|apply Gf)|exact HB.out))):w.heap.size≤gb178));clear HB;have HB:=n0_;have BK178:=n1_;have GW178:=n2_;have GE178:=n3_;clear n0_ n1_ n2_ n3_;clear hb hbox hg;have hcz5_0:w4.cell? ⟨gb178,0,none⟩=some (.int .i64 a0_0):=(blk_cell BK178.out 0).trans rfl;have hcz5_1:w4.cell? ⟨gb178,1,none⟩=some (.int .i64 a0_1):=(blk_cell BK178.out 1).trans rfl;have hcz5_2:w4.cell? ⟨gb178,2,none⟩=some (.string a0_2):=(blk_cell BK178.out 2).trans rfl;have hfz5_0:=blk_frozen BK178.out 0;have hfz5_1:=blk_frozen BK178.out 1;have hfz5_2:=blk_frozen BK178.out 2))
   go_ret
   exact⟨by first|rfl|(simp [errW_none,errW_some] <;> rfl)|(simp [*,errW_none,errW_some] <;> rfl),by repeat(first|(with_reducible first|exact HB.out|apply Ge|apply Gb|apply Gf|refine below_set ?_ GE178.out)|exact HB.out)⟩
  ·rw [if_neg c3] at H
   have c3b0:decide (a0_0 < a0_1)=false:=decide_eq_false c3
   clear c3
   obtain rfl:=Option.some.inj H
   go_enter Tryd.func39,Tryd.ntmps39
   go_wp2_with (first|((with_reducible refine gate_dst (N:=1) rfl ?_);refine box_event ?hg (N:=1) ?hd (cs:=#[.int .i64 a0_0,.int .i64 a0_1,.string a0_2]) (t:=40) ?hr ?_;(case hd=>rfl);(case hg=>rfl);(case hr=>first|(go_simp;done)|(go_simp;rfl));intro gb178 hg w6 hbox hb;have n0_:=Ga (below_step (by repeat(first|(with_reducible first|exact HB.out|apply Ge|apply Gb|apply Gf)|exact HB.out)) hb);have n1_:=Ga (hbox);have n2_:=Ga ((by rw [hg];exact(below_size (by repeat(first|(with_reducible first|exact HB.out|apply Ge|apply Gb|apply Gf)|exact HB.out))):w.heap.size≤gb178));have n3_:=Ga ((by rw [hg];exact(below_size (by repeat(first|(with_reducible first|exact HB.out|apply Ge|apply Gb|apply Gf)|exact HB.out))):w.heap.size≤gb178));clear HB;have HB:=n0_;have BK178:=n1_;have GW178:=n2_;have GE178:=n3_;clear n0_ n1_ n2_ n3_;clear hb hbox hg;have hcz7_0:w6.cell? ⟨gb178,0,none⟩=some (.int .i64 a0_0):=(blk_cell BK178.out 0).trans rfl;have hcz7_1:w6.cell? ⟨gb178,1,none⟩=some (.int .i64 a0_1):=(blk_cell BK178.out 1).trans rfl;have hcz7_2:w6.cell? ⟨gb178,2,none⟩=some (.string a0_2):=(blk_cell BK178.out 2).trans rfl;have hfz7_0:=blk_frozen BK178.out 0;have hfz7_1:=blk_frozen BK178.out 1;have hfz7_2:=blk_frozen BK178.out 2))
   go_ret
   exact⟨by first|rfl|(simp [errW_none,errW_some] <;> rfl)|(simp [*,errW_none,errW_some] <;> rfl),by repeat(first|(with_reducible first|exact HB.out|apply Ge|apply Gb|apply Gf|refine below_set ?_ GE178.out)|exact HB.out)⟩
 ·rw [if_neg c2] at H
  have c2b0:decide (0≤a0_0)=false:=decide_eq_false c2
  clear c2
  obtain rfl:=Option.some.inj H
  go_enter Tryd.func39,Tryd.ntmps39
  go_wp2_with (first|((with_reducible refine gate_dst (N:=1) rfl ?_);refine box_event ?hg (N:=1) ?hd (cs:=#[.int .i64 a0_0,.int .i64 a0_1,.string a0_2]) (t:=40) ?hr ?_;(case hd=>rfl);(case hg=>rfl);(case hr=>first|(go_simp;done)|(go_simp;rfl));intro gb178 hg w8 hbox hb;have n0_:=Ga (below_step (by repeat(first|(with_reducible first|exact HB.out|apply Ge|apply Gb|apply Gf)|exact HB.out)) hb);have n1_:=Ga (hbox);have n2_:=Ga ((by rw [hg];exact(below_size (by repeat(first|(with_reducible first|exact HB.out|apply Ge|apply Gb|apply Gf)|exact HB.out))):w.heap.size≤gb178));have n3_:=Ga ((by rw [hg];exact(below_size (by repeat(first|(with_reducible first|exact HB.out|apply Ge|apply Gb|apply Gf)|exact HB.out))):w.heap.size≤gb178));clear HB;have HB:=n0_;have BK178:=n1_;have GW178:=n2_;have GE178:=n3_;clear n0_ n1_ n2_ n3_;clear hb hbox hg;have hcz9_0:w8.cell? ⟨gb178,0,none⟩=some (.int .i64 a0_0):=(blk_cell BK178.out 0).trans rfl;have hcz9_1:w8.cell? ⟨gb178,1,none⟩=some (.int .i64 a0_1):=(blk_cell BK178.out 1).trans rfl;have hcz9_2:w8.cell? ⟨gb178,2,none⟩=some (.string a0_2):=(blk_cell BK178.out 2).trans rfl;have hfz9_0:=blk_frozen BK178.out 0;have hfz9_1:=blk_frozen BK178.out 1;have hfz9_2:=blk_frozen BK178.out 2))
  go_ret
  exact⟨by first|rfl|(simp [errW_none,errW_some] <;> rfl)|(simp [*,errW_none,errW_some] <;> rfl),by repeat(first|(with_reducible first|exact HB.out|apply Ge|apply Gb|apply Gf|refine below_set ?_ GE178.out)|exact HB.out)⟩

/-! ### strings_Contains: function 48 -/
def strings_Contains.f (a0 a1 : ByteArray) : Option (Bool) := if a0.size < 4294967281 then some (Lib.contains a0.data.toList a1.data.toList) else none
theorem strings_Contains.calls (a0 a1 : ByteArray) (r : Bool) (w : World) (hgl : Glob w) (h : strings_Contains.f a0 a1 = some r) :
  Calls Tryd.prog 48 #[.string a0,.string a1] w fun e w'=>e=.returned (.bool r)∧Drawn0 w w':=by
 unfold strings_Contains.f at h
 split at h
 ·rename_i hs
  cases h
  obtain⟨m,hm⟩:=hgl.max
  refine(Tryd.strings_Contains a0 a1 m w hs hm).mono ?_
  rintro e w' ⟨rfl,rfl⟩
  exact⟨rfl,Gc w'⟩
 ·cases h


/-! ### stringslite_HasPrefix: function 61 -/
def stringslite_HasPrefix.f (a0 : ByteArray) (a1 : ByteArray) : Option (Bool) := if (a0.size : Int) ≥ (a1.size : Int) then (if 0 ≤ (a1.size : Int) then (if (a1.size : Int) ≤ (a0.size : Int) then (some ((a0.extract 0 ((a1.size : Int) : Int).toNat).toList == a1.toList)) else (none)) else (none)) else (some false)
set_option maxHeartbeats 8000000 in
set_option maxRecDepth 100000 in
theorem stringslite_HasPrefix.calls (a0 : ByteArray) (a1 : ByteArray) (r : Bool) (w : World) (h : stringslite_HasPrefix.f a0 a1 = some r) :
  Calls Tryd.prog 61 #[.string a0,.string a1] w fun e w'=>e=.returned (.bool r)∧Drawn0 w w':=by
 have H:(if (a0.size:Int) ≥ (a1.size:Int) then (if 0≤(a1.size:Int) then (if (a1.size:Int)≤(a0.size:Int) then (some ((a0.extract 0 ((a1.size:Int):Int).toNat).toList == a1.toList)) else (none)) else (none)) else (some false))=some r:=h
 clear h
 by_cases c3:(a0.size:Int) ≥ (a1.size:Int)
 ·rw [if_pos c3] at H
  have c3b0:decide ((a1.size:Int)≤(a0.size:Int))=true:=decide_eq_true c3
  have c3b1:decide (a1.size≤a0.size)=true:=decide_eq_true (Int.ofNat_le.mp c3)
  clear c3
  by_cases c4:0≤(a1.size:Int)
  ·rw [if_pos c4] at H
   have c4b0:=eq_true c4
   have c4b1:decide (0≤(a1.size:Int))=true:=decide_eq_true c4
   clear c4
   by_cases c5:(a1.size:Int)≤(a0.size:Int)
   ·rw [if_pos c5] at H
    have c5b0:=eq_true c5
    have c5b1:decide ((a1.size:Int)≤(a0.size:Int))=true:=decide_eq_true c5
    clear c5
    obtain rfl:=Option.some.inj H
    go_enter Tryd.func61,Tryd.ntmps61
    go_wp2
    go_ret
    exact⟨by first|rfl|(simp;done)|(simp [*];done),by repeat(first|exact Gc _|apply Gd)⟩
   ·rw [if_neg c5] at H
    exact absurd H (by simp)
  ·rw [if_neg c4] at H
   exact absurd H (by simp)
 ·rw [if_neg c3] at H
  have c3b0:decide ((a1.size:Int)≤(a0.size:Int))=false:=decide_eq_false c3
  have c3b1:decide (a1.size≤a0.size)=false:=decide_eq_false (fun h=>c3 (Int.ofNat_le.mpr h))
  clear c3
  obtain rfl:=Option.some.inj H
  go_enter Tryd.func61,Tryd.ntmps61
  go_wp2
  go_ret
  exact⟨by first|rfl|(simp;done)|(simp [*];done),by repeat(first|exact Gc _|apply Gd)⟩

/-! ### strings_HasPrefix: function 49 -/
def strings_HasPrefix.f (a0 : ByteArray) (a1 : ByteArray) : Option (Bool) := (stringslite_HasPrefix.f a0 a1).bind fun t179 => (some t179)
set_option maxHeartbeats 8000000 in
set_option maxRecDepth 100000 in
theorem strings_HasPrefix.calls (a0 : ByteArray) (a1 : ByteArray) (r : Bool) (w : World) (h : strings_HasPrefix.f a0 a1 = some r) :
  Calls Tryd.prog 49 #[.string a0,.string a1] w fun e w'=>e=.returned (.bool r)∧Drawn0 w w':=by
 have H:((stringslite_HasPrefix.f a0 a1).bind fun t179=>(some t179))=some r:=h
 clear h
 replace H:=Option.bind_eq_some_iff.mp H
 obtain⟨t179,A30,H⟩:=H
 replace H:(some t179)=some r:=H
 have A3:=Ga A30
 clear A30
 obtain rfl:=Option.some.inj H
 go_enter Tryd.func49,Tryd.ntmps49
 go_wp2_with (first|((with_reducible refine gate_callee (f:=61) rfl ?_);refine goesL_ (some 7) rfl rfl Tryd.func61 (by kernel_rfl) rfl #[.string a0,.string a1] rfl (by(try simp only [List.map_toArray,List.map_cons,List.map_nil]);first|done|rfl|(simp only [List.length_drop,List.length_take];rfl)) ?_;(with_reducible refine(stringslite_HasPrefix.calls a0 a1 t179 _ A3.out).mono ?_);rintro e w' ⟨rfl,⟨nd,rfl⟩⟩;refine⟨_,rfl,?_⟩))
 go_ret
 exact⟨by first|rfl|(simp;done)|(simp [*];done),by repeat(first|exact Gc _|apply Gd)⟩

/-! ### impl_in: function 52 -/
def impl_in.f (a0 : Int) (a1 : Int) (a2 : Int) : Option (Bool) := if a1 ≤ a0 then (some (decide (a0 ≤ a2))) else (some false)
set_option maxHeartbeats 8000000 in
set_option maxRecDepth 100000 in
theorem impl_in.calls (a0 : Int) (a1 : Int) (a2 : Int) (r : Bool) (w : World) (h : impl_in.f a0 a1 a2 = some r) :
  Calls Tryd.prog 52 #[.int .i64 a0,.int .i64 a1,.int .i64 a2] w fun e w'=>e=.returned (.bool r)∧Drawn0 w w':=by
 have H:(if a1≤a0 then (some (decide (a0≤a2))) else (some false))=some r:=h
 clear h
 by_cases c4:a1≤a0
 ·rw [if_pos c4] at H
  have c4b0:decide (a1≤a0)=true:=decide_eq_true c4
  clear c4
  obtain rfl:=Option.some.inj H
  go_enter Tryd.func52,Tryd.ntmps52
  go_wp2
  go_ret
  exact⟨by first|rfl|(simp;done)|(simp [*];done),by repeat(first|exact Gc _|apply Gd)⟩
 ·rw [if_neg c4] at H
  have c4b0:decide (a1≤a0)=false:=decide_eq_false c4
  clear c4
  obtain rfl:=Option.some.inj H
  go_enter Tryd.func52,Tryd.ntmps52
  go_wp2
  go_ret
  exact⟨by first|rfl|(simp;done)|(simp [*];done),by repeat(first|exact Gc _|apply Gd)⟩

/-! ### stringslite_HasSuffix: function 62 -/
def stringslite_HasSuffix.f (a0 : ByteArray) (a1 : ByteArray) : Option (Bool) := if (a0.size : Int) ≥ (a1.size : Int) then (if 0 ≤ (wrap64 ((a0.size : Int) - (a1.size : Int))) then (if (wrap64 ((a0.size : Int) - (a1.size : Int))) ≤ (a0.size : Int) then (some ((a0.extract ((wrap64 ((a0.size : Int) - (a1.size : Int))) : Int).toNat a0.size).toList == a1.toList)) else (none)) else (none)) else (some false)
set_option maxHeartbeats 8000000 in
set_option maxRecDepth 100000 in
theorem stringslite_HasSuffix.calls (a0 : ByteArray) (a1 : ByteArray) (r : Bool) (w : World) (h : stringslite_HasSuffix.f a0 a1 = some r) :
  Calls Tryd.prog 62 #[.string a0,.string a1] w fun e w'=>e=.returned (.bool r)∧Drawn0 w w':=by
 have H:(if (a0.size:Int) ≥ (a1.size:Int) then (if 0≤(wrap64 ((a0.size:Int) - (a1.size:Int))) then (if (wrap64 ((a0.size:Int) - (a1.size:Int)))≤(a0.size:Int) then (some ((a0.extract ((wrap64 ((a0.size:Int) - (a1.size:Int))):Int).toNat a0.size).toList == a1.toList)) else (none)) else (none)) else (some false))=some r:=h
 clear h
 by_cases c3:(a0.size:Int) ≥ (a1.size:Int)
 ·rw [if_pos c3] at H
  have c3b0:decide ((a1.size:Int)≤(a0.size:Int))=true:=decide_eq_true c3
  have c3b1:decide (a1.size≤a0.size)=true:=decide_eq_true (Int.ofNat_le.mp c3)
  clear c3
  obtain⟨ji4,hji4⟩:∃ j_:Int,(wrap64 ((a0.size:Int) - (a1.size:Int)))=j_:=⟨_,rfl⟩
  replace H:(if 0≤(ji4) then (if (ji4)≤(a0.size:Int) then (some ((a0.extract ((ji4):Int).toNat a0.size).toList == a1.toList)) else (none)) else (none))=some r:=by first|(rw [hji4] at H;exact H)|(simp only [hji4] at H ⊢;exact H)
  have hji4w:(IntKind.i64.wrap ((a0.size:Int) - (a1.size:Int)))=ji4:=(i64_w _).trans hji4
  by_cases c5:0≤(ji4)
  ·rw [if_pos c5] at H
   have c5b0:=eq_true c5
   have c5b1:decide (0≤(ji4))=true:=decide_eq_true c5
   clear c5
   by_cases c6:(ji4)≤(a0.size:Int)
   ·rw [if_pos c6] at H
    have c6b0:=eq_true c6
    have c6b1:decide ((ji4)≤(a0.size:Int))=true:=decide_eq_true c6
    clear c6
    obtain rfl:=Option.some.inj H
    go_enter Tryd.func62,Tryd.ntmps62
    go_wp2
    go_ret
    exact⟨by first|rfl|(simp;done)|(simp only [← hji4] <;> (first|rfl|simp))|(simp [*];done),by repeat(first|exact Gc _|apply Gd)⟩
   ·rw [if_neg c6] at H
    exact absurd H (by simp)
  ·rw [if_neg c5] at H
   exact absurd H (by simp)
 ·rw [if_neg c3] at H
  have c3b0:decide ((a1.size:Int)≤(a0.size:Int))=false:=decide_eq_false c3
  have c3b1:decide (a1.size≤a0.size)=false:=decide_eq_false (fun h=>c3 (Int.ofNat_le.mpr h))
  clear c3
  obtain rfl:=Option.some.inj H
  go_enter Tryd.func62,Tryd.ntmps62
  go_wp2
  go_ret
  exact⟨by first|rfl|(simp;done)|(simp [*];done),by repeat(first|exact Gc _|apply Gd)⟩

/-! ### strings_HasSuffix: function 53 -/
def strings_HasSuffix.f (a0 : ByteArray) (a1 : ByteArray) : Option (Bool) := (stringslite_HasSuffix.f a0 a1).bind fun t180 => (some t180)
set_option maxHeartbeats 8000000 in
set_option maxRecDepth 100000 in
theorem strings_HasSuffix.calls (a0 : ByteArray) (a1 : ByteArray) (r : Bool) (w : World) (h : strings_HasSuffix.f a0 a1 = some r) :
  Calls Tryd.prog 53 #[.string a0,.string a1] w fun e w'=>e=.returned (.bool r)∧Drawn0 w w':=by
 have H:((stringslite_HasSuffix.f a0 a1).bind fun t180=>(some t180))=some r:=h
 clear h
 replace H:=Option.bind_eq_some_iff.mp H
 obtain⟨t180,A30,H⟩:=H
 replace H:(some t180)=some r:=H
 have A3:=Ga A30
 clear A30
 obtain rfl:=Option.some.inj H
 go_enter Tryd.func53,Tryd.ntmps53
 go_wp2_with (first|((with_reducible refine gate_callee (f:=62) rfl ?_);refine goesL_ (some 7) rfl rfl Tryd.func62 (by kernel_rfl) rfl #[.string a0,.string a1] rfl (by(try simp only [List.map_toArray,List.map_cons,List.map_nil]);first|done|rfl|(simp only [List.length_drop,List.length_take];rfl)) ?_;(with_reducible refine(stringslite_HasSuffix.calls a0 a1 t180 _ A3.out).mono ?_);rintro e w' ⟨rfl,⟨nd,rfl⟩⟩;refine⟨_,rfl,?_⟩))
 go_ret
 exact⟨by first|rfl|(simp;done)|(simp [*];done),by repeat(first|exact Gc _|apply Gd)⟩

/-! ### impl_textOk: function 40 -/
mutual
def impl_textOk.j0 : Nat → ByteArray → Bool → Option (Bool)
 | 0, _, _ => none
 | k + 1, x0, x20 => if x20 = true then (some false) else (impl_textOk.l0 k x0 (x0.size : Int) 0)
def impl_textOk.l0 : Nat → ByteArray → Int → Int → Option (Bool)
 | 0, _, _, _ => none
 | k + 1, x0, x22, x23 => if x23 < x22 then (if 0 ≤ x23 then (if x23 < (x0.size : Int) then (if (bt x0 x23) = 10 then (impl_textOk.l0 k x0 x22 (wrap64 (x23 + 1))) else (if (bt x0 x23) < 32 then (some false) else (if (bt x0 x23) = 127 then (some false) else (impl_textOk.l0 k x0 x22 (wrap64 (x23 + 1)))))) else (none)) else (none)) else (some true)
end
def impl_textOk.f (k : Nat) (a0 : ByteArray) : Option (Bool) := (impl_in.f (a0.size : Int) 1 200).bind fun t181 => (if t181 = true then ((strings_HasPrefix.f a0 (⟨#[10]⟩ : ByteArray)).bind fun t182 => (if t182 = true then (impl_textOk.j0 k a0 true) else ((strings_HasSuffix.f a0 (⟨#[10]⟩ : ByteArray)).bind fun t183 => (if t183 = true then (impl_textOk.j0 k a0 true) else ((strings_Contains.f a0 (⟨#[10, 10]⟩ : ByteArray)).bind fun t184 => (impl_textOk.j0 k a0 t184)))))) else (impl_textOk.j0 k a0 true))
theorem impl_textOk.mono_l : ∀ k, (∀ y0 y1, LeO (impl_textOk.j0 k y0 y1) (impl_textOk.j0 (k + 1) y0 y1)) ∧ (∀ y0 y1 y2, LeO (impl_textOk.l0 k y0 y1 y2) (impl_textOk.l0 (k + 1) y0 y1 y2))
 | 0 => ⟨fun _ _ r h => by simp [impl_textOk.j0] at h, fun _ _ _ r h => by simp [impl_textOk.l0] at h⟩
 | k + 1 => by
  obtain⟨ih0,ih1⟩:=impl_textOk.mono_l k
  refine⟨?_,?_⟩
  ·intro y0 y1
   unfold impl_textOk.j0
   repeat' first
   | (with_reducible exact ih0 _ _)
   | (with_reducible exact ih1 _ _ _)
   | (with_reducible exact LeO.refl _)
   | (with_reducible exact LeO.none _)
   | (with_reducible refine LeO.ite ?_ ?_)
   | (with_reducible refine LeO.bind ?_ (fun _ => ?_))
   | exact ih0 _ _
   | exact ih1 _ _ _
   | exact LeO.none _
   | refine LeO.ite ?_ ?_
   | refine LeO.bind ?_ (fun _ => ?_)
  ·intro y0 y1 y2
   unfold impl_textOk.l0
   repeat' first
   | (with_reducible exact ih0 _ _)
   | (with_reducible exact ih1 _ _ _)
   | (with_reducible exact LeO.refl _)
   | (with_reducible exact LeO.none _)
   | (with_reducible refine LeO.ite ?_ ?_)
   | (with_reducible refine LeO.bind ?_ (fun _ => ?_))
   | exact ih0 _ _
   | exact ih1 _ _ _
   | exact LeO.none _
   | refine LeO.ite ?_ ?_
   | refine LeO.bind ?_ (fun _ => ?_)
theorem impl_textOk.mono : ∀ a0 k, LeO (impl_textOk.f k a0) (impl_textOk.f (k + 1) a0) := by
 intro a0 k
 obtain⟨ih0,ih1⟩:=impl_textOk.mono_l k
 unfold impl_textOk.f
 repeat' first
   | (with_reducible exact ih0 _ _)
   | (with_reducible exact ih1 _ _ _)
   | (with_reducible exact LeO.refl _)
   | (with_reducible exact LeO.none _)
   | (with_reducible refine LeO.ite ?_ ?_)
   | (with_reducible refine LeO.bind ?_ (fun _ => ?_))
   | exact ih0 _ _
   | exact ih1 _ _ _
   | exact LeO.none _
   | refine LeO.ite ?_ ?_
   | refine LeO.bind ?_ (fun _ => ?_)
set_option maxHeartbeats 8000000 in
set_option maxRecDepth 100000 in
theorem impl_textOk.calls (k : Nat) (a0 : ByteArray) (r : Bool) (w : World) (hgl : Glob w) (h : impl_textOk.f k a0 = some r) :
  Calls Tryd.prog 40 #[.string a0] w fun e w'=>e=.returned (.bool r)∧Drawn0 w w':=by
 have HGL:=Ga hgl
 clear hgl
 have H:((impl_in.f (a0.size:Int) 1 200).bind fun t181=>(if t181=true then ((strings_HasPrefix.f a0 (⟨#[10]⟩:ByteArray)).bind fun t182=>(if t182=true then (impl_textOk.j0 k a0 true) else ((strings_HasSuffix.f a0 (⟨#[10]⟩:ByteArray)).bind fun t183=>(if t183=true then (impl_textOk.j0 k a0 true) else ((strings_Contains.f a0 (⟨#[10,10]⟩:ByteArray)).bind fun t184=>(impl_textOk.j0 k a0 t184)))))) else (impl_textOk.j0 k a0 true)))=some r:=h
 clear h
 have HC2:=Ga H
 clear H
 go_enter Tryd.func40,Tryd.ntmps40
 go_upto_region 1 with (fail)
 go_cut [20] (fun v20 wc=>∃ (kq:Nat) (x20_1:Bool),v20=.bool x20_1∧Aside0 (impl_textOk.j0 kq a0 x20_1=some r)∧Aside0 (kq≤k)∧Drawn0 w wc)
 case first=>
  have H:=HC2.out
  clear HC2
  replace H:=Option.bind_eq_some_iff.mp H
  obtain⟨t181,A30,H⟩:=H
  replace H:(if t181=true then ((strings_HasPrefix.f a0 (⟨#[10]⟩:ByteArray)).bind fun t182=>(if t182=true then (impl_textOk.j0 k a0 true) else ((strings_HasSuffix.f a0 (⟨#[10]⟩:ByteArray)).bind fun t183=>(if t183=true then (impl_textOk.j0 k a0 true) else ((strings_Contains.f a0 (⟨#[10,10]⟩:ByteArray)).bind fun t184=>(impl_textOk.j0 k a0 t184)))))) else (impl_textOk.j0 k a0 true))=some r:=H
  have A3:=Ga A30
  clear A30
  by_cases c4:t181=true
  ·subst c4
   have H1:((strings_HasPrefix.f a0 (⟨#[10]⟩:ByteArray)).bind fun t182=>(if t182=true then (impl_textOk.j0 k a0 true) else ((strings_HasSuffix.f a0 (⟨#[10]⟩:ByteArray)).bind fun t183=>(if t183=true then (impl_textOk.j0 k a0 true) else ((strings_Contains.f a0 (⟨#[10,10]⟩:ByteArray)).bind fun t184=>(impl_textOk.j0 k a0 t184))))))=some r:=by rw [if_pos rfl] at H;exact H
   clear H
   have H:=H1
   clear H1
   replace H:=Option.bind_eq_some_iff.mp H
   obtain⟨t182,A50,H⟩:=H
   replace H:(if t182=true then (impl_textOk.j0 k a0 true) else ((strings_HasSuffix.f a0 (⟨#[10]⟩:ByteArray)).bind fun t183=>(if t183=true then (impl_textOk.j0 k a0 true) else ((strings_Contains.f a0 (⟨#[10,10]⟩:ByteArray)).bind fun t184=>(impl_textOk.j0 k a0 t184)))))=some r:=H
   have A5:=Ga A50
   clear A50
   by_cases c6:t182=true
   ·subst c6
    have H1:(impl_textOk.j0 k a0 true)=some r:=by rw [if_pos rfl] at H;exact H
    clear H
    have H:=H1
    clear H1
    have H':=Ga H
    clear H
    go_wp2_with (first|((with_reducible refine gate_callee (f:=52) rfl ?_);refine goesL_ (some 7) rfl rfl Tryd.func52 (by kernel_rfl) rfl #[.int .i64 (a0.size:Int),.int .i64 1,.int .i64 200] rfl (by(try simp only [List.map_toArray,List.map_cons,List.map_nil]);first|done|rfl|(simp only [List.length_drop,List.length_take];rfl)) ?_;(with_reducible refine(impl_in.calls (a0.size:Int) 1 200 true _ A3.out).mono ?_);rintro e w' ⟨rfl,⟨nd,rfl⟩⟩;refine⟨_,rfl,?_⟩)|(go_at_call 49;(with_reducible refine(strings_HasPrefix.calls a0 (⟨#[10]⟩:ByteArray) true _ A5.out).mono ?_);rintro e w' ⟨rfl,⟨nd,rfl⟩⟩))
    go_meet
    case rel=>exact⟨_,(true),(by first|rfl|(simp;done)|(simp [*];done)),H',⟨by first|omega|exact Nat.le_refl _⟩,by repeat(first|exact Gc _|apply Gd)⟩
   ·replace c6:=Bool.eq_false_iff.mpr c6
    subst c6
    have H1:((strings_HasSuffix.f a0 (⟨#[10]⟩:ByteArray)).bind fun t183=>(if t183=true then (impl_textOk.j0 k a0 true) else ((strings_Contains.f a0 (⟨#[10,10]⟩:ByteArray)).bind fun t184=>(impl_textOk.j0 k a0 t184))))=some r:=by rw [if_neg (show ¬ (false=true) by decide)] at H;exact H
    clear H
    have H:=H1
    clear H1
    replace H:=Option.bind_eq_some_iff.mp H
    obtain⟨t183,A70,H⟩:=H
    replace H:(if t183=true then (impl_textOk.j0 k a0 true) else ((strings_Contains.f a0 (⟨#[10,10]⟩:ByteArray)).bind fun t184=>(impl_textOk.j0 k a0 t184)))=some r:=H
    have A7:=Ga A70
    clear A70
    by_cases c8:t183=true
    ·subst c8
     have H1:(impl_textOk.j0 k a0 true)=some r:=by rw [if_pos rfl] at H;exact H
     clear H
     have H:=H1
     clear H1
     have H':=Ga H
     clear H
     go_wp2_with (first|((with_reducible refine gate_callee (f:=52) rfl ?_);refine goesL_ (some 7) rfl rfl Tryd.func52 (by kernel_rfl) rfl #[.int .i64 (a0.size:Int),.int .i64 1,.int .i64 200] rfl (by(try simp only [List.map_toArray,List.map_cons,List.map_nil]);first|done|rfl|(simp only [List.length_drop,List.length_take];rfl)) ?_;(with_reducible refine(impl_in.calls (a0.size:Int) 1 200 true _ A3.out).mono ?_);rintro e w' ⟨rfl,⟨nd,rfl⟩⟩;refine⟨_,rfl,?_⟩)|(go_at_call 49;(with_reducible refine(strings_HasPrefix.calls a0 (⟨#[10]⟩:ByteArray) false _ A5.out).mono ?_);rintro e w' ⟨rfl,⟨nd,rfl⟩⟩)|(go_at_call 53;(with_reducible refine(strings_HasSuffix.calls a0 (⟨#[10]⟩:ByteArray) true _ A7.out).mono ?_);rintro e w' ⟨rfl,⟨nd,rfl⟩⟩))
     go_meet
     case rel=>exact⟨_,(true),(by first|rfl|(simp;done)|(simp [*];done)),H',⟨by first|omega|exact Nat.le_refl _⟩,by repeat(first|exact Gc _|apply Gd)⟩
    ·replace c8:=Bool.eq_false_iff.mpr c8
     subst c8
     have H1:((strings_Contains.f a0 (⟨#[10,10]⟩:ByteArray)).bind fun t184=>(impl_textOk.j0 k a0 t184))=some r:=by rw [if_neg (show ¬ (false=true) by decide)] at H;exact H
     clear H
     have H:=H1
     clear H1
     replace H:=Option.bind_eq_some_iff.mp H
     obtain⟨t184,A90,H⟩:=H
     replace H:(impl_textOk.j0 k a0 t184)=some r:=H
     have A9:=Ga A90
     clear A90
     have H':=Ga H
     clear H
     go_wp2_with (first|((with_reducible refine gate_callee (f:=52) rfl ?_);refine goesL_ (some 7) rfl rfl Tryd.func52 (by kernel_rfl) rfl #[.int .i64 (a0.size:Int),.int .i64 1,.int .i64 200] rfl (by(try simp only [List.map_toArray,List.map_cons,List.map_nil]);first|done|rfl|(simp only [List.length_drop,List.length_take];rfl)) ?_;(with_reducible refine(impl_in.calls (a0.size:Int) 1 200 true _ A3.out).mono ?_);rintro e w' ⟨rfl,⟨nd,rfl⟩⟩;refine⟨_,rfl,?_⟩)|(go_at_call 49;(with_reducible refine(strings_HasPrefix.calls a0 (⟨#[10]⟩:ByteArray) false _ A5.out).mono ?_);rintro e w' ⟨rfl,⟨nd,rfl⟩⟩)|(go_at_call 53;(with_reducible refine(strings_HasSuffix.calls a0 (⟨#[10]⟩:ByteArray) false _ A7.out).mono ?_);rintro e w' ⟨rfl,⟨nd,rfl⟩⟩)|(go_at_call 48;(with_reducible refine(strings_Contains.calls a0 (⟨#[10,10]⟩:ByteArray) t184 _ (by first|exact HGL.out|((repeat(with_reducible refine Glob.drewN ?_));exact HGL.out)|exact Glob.below HGL.out (by repeat(first|(with_reducible first|exact HB.out|apply Ge|apply Gb|apply Gf)|exact HB.out))) A9.out).mono ?_);rintro e w' ⟨rfl,⟨nd,rfl⟩⟩))
     go_meet
     case rel=>exact⟨_,(t184),(by first|rfl|(simp;done)|(simp [*];done)),H',⟨by first|omega|exact Nat.le_refl _⟩,by repeat(first|exact Gc _|apply Gd)⟩
  ·replace c4:=Bool.eq_false_iff.mpr c4
   subst c4
   have H1:(impl_textOk.j0 k a0 true)=some r:=by rw [if_neg (show ¬ (false=true) by decide)] at H;exact H
   clear H
   have H:=H1
   clear H1
   have H':=Ga H
   clear H
   go_wp2_with (first|((with_reducible refine gate_callee (f:=52) rfl ?_);refine goesL_ (some 7) rfl rfl Tryd.func52 (by kernel_rfl) rfl #[.int .i64 (a0.size:Int),.int .i64 1,.int .i64 200] rfl (by(try simp only [List.map_toArray,List.map_cons,List.map_nil]);first|done|rfl|(simp only [List.length_drop,List.length_take];rfl)) ?_;(with_reducible refine(impl_in.calls (a0.size:Int) 1 200 false _ A3.out).mono ?_);rintro e w' ⟨rfl,⟨nd,rfl⟩⟩;refine⟨_,rfl,?_⟩))
   go_meet
   case rel=>exact⟨_,(true),(by first|rfl|(simp;done)|(simp [*];done)),H',⟨by first|omega|exact Nat.le_refl _⟩,by repeat(first|exact Gc _|apply Gd)⟩
 case rest=>
  clear HC2
  try clear p2
  try clear c4
  try clear c5
  try clear c6
  try clear c8
  obtain⟨kq,x20_1,rfl,HA,HJ1,⟨mc1,rfl⟩⟩:=hcut
  cases kq with
  | zero => exact absurd HA.out (by simp [impl_textOk.j0])
  | succ kj1 =>
   have H:=HA.out
   clear HA
   simp only [impl_textOk.j0] at H
   by_cases c10:x20_1=true
   ·subst c10
    have H1:(some false)=some r:=by rw [if_pos rfl] at H;exact H
    clear H
    have H:=H1
    clear H1
    obtain rfl:=Option.some.inj H
    go_wp2
    go_ret
    exact⟨by first|rfl|(simp;done)|(simp [*];done),by repeat(first|exact Gc _|apply Gd)⟩
   ·replace c10:=Bool.eq_false_iff.mpr c10
    subst c10
    have H1:(impl_textOk.l0 kj1 a0 (a0.size:Int) 0)=some r:=by rw [if_neg (show ¬ (false=true) by decide)] at H;exact H
    clear H
    have H:=H1
    clear H1
    have H':=Ga H
    clear H
    go_wp2
    go_loopg [23] kj1 (fun kq v23 w'=>∃ (x23_2:Int),v23=.int .i64 x23_2∧Aside0 (impl_textOk.l0 kq a0 (a0.size:Int) x23_2=some r)∧Aside0 (kq≤kj1)∧Drawn0 w w')
    case atStart=>exact⟨(0),(by first|rfl|(simp;done)|(simp [*];done)),H',⟨Nat.le_refl _⟩,by repeat(first|exact Gc _|apply Gd)⟩
    case round=>
     clear H'
     try clear c1
     try clear p2
     try clear c4
     try clear c5
     try clear c6
     try clear c8
     try clear c10
     try clear p2
     obtain⟨x23_2,rfl,HA,HK2,⟨m2,rfl⟩⟩:=hrel
     cases gk with
     | zero => exact absurd HA.out (by simp [impl_textOk.l0])
     | succ k2 =>
      have H:=HA.out
      clear HA
      simp only [impl_textOk.l0] at H
      by_cases c11:x23_2 < (a0.size:Int)
      ·rw [if_pos c11] at H
       have c11b0:decide (x23_2 < (a0.size:Int))=true:=decide_eq_true c11
       clear c11
       by_cases c12:0≤x23_2
       ·rw [if_pos c12] at H
        have c12b0:decide (0≤x23_2)=true:=decide_eq_true c12
        clear c12
        by_cases c13:x23_2 < (a0.size:Int)
        ·rw [if_pos c13] at H
         have c13b0:decide (x23_2 < (a0.size:Int))=true:=decide_eq_true c13
         clear c13
         by_cases c15:(bt a0 x23_2)=10
         ·rw [if_pos c15] at H
          have c15b0:((bt a0 x23_2) == 10)=true:=beq_iff_eq.mpr c15
          have c15b1:((bt a0 x23_2) != 10)=false:=bne_eq_false_iff_eq.mpr c15
          clear c15
          have H':=Ga H
          clear H
          have p14:0≤(x23_2:Int):=of_decide_eq_true (by first|(with_reducible assumption)|assumption)
          have q14:x23_2 < (a0.size:Int):=of_decide_eq_true (by first|(with_reducible assumption)|assumption)
          have hx14:=bt_at a0 x23_2
          replace p14:=eq_true p14
          replace q14:=eq_true q14
          go_wp2
          go_roundg k2
          case measure=>have:=HJ1.out;have:=HK2.out;omega
          case rel=>exact⟨(wrap64 (x23_2+1)),(by first|rfl|(simp;done)|(simp [*];done)),H',⟨by have:=HJ1.out;have:=HK2.out;omega⟩,by repeat(first|exact Gc _|apply Gd)⟩
         ·rw [if_neg c15] at H
          have c15b0:((bt a0 x23_2) == 10)=false:=beq_eq_false_iff_ne.mpr c15
          have c15b1:((bt a0 x23_2) != 10)=true:=bne_iff_ne.mpr c15
          by_cases c16:(bt a0 x23_2) < 32
          ·rw [if_pos c16] at H
           have c16b0:decide ((bt a0 x23_2) < 32)=true:=decide_eq_true c16
           clear c16
           obtain rfl:=Option.some.inj H
           have p14:0≤(x23_2:Int):=of_decide_eq_true (by first|(with_reducible assumption)|assumption)
           have q14:x23_2 < (a0.size:Int):=of_decide_eq_true (by first|(with_reducible assumption)|assumption)
           have hx14:=bt_at a0 x23_2
           replace p14:=eq_true p14
           replace q14:=eq_true q14
           go_wp2
           go_ret
           exact⟨by first|rfl|(simp;done)|(simp [*];done),by repeat(first|exact Gc _|apply Gd)⟩
          ·rw [if_neg c16] at H
           have c16b0:decide ((bt a0 x23_2) < 32)=false:=decide_eq_false c16
           clear c16
           by_cases c17:(bt a0 x23_2)=127
           ·rw [if_pos c17] at H
            have c17b0:((bt a0 x23_2) == 127)=true:=beq_iff_eq.mpr c17
            have c17b1:((bt a0 x23_2) != 127)=false:=bne_eq_false_iff_eq.mpr c17
            clear c17
            obtain rfl:=Option.some.inj H
            have p14:0≤(x23_2:Int):=of_decide_eq_true (by first|(with_reducible assumption)|assumption)
            have q14:x23_2 < (a0.size:Int):=of_decide_eq_true (by first|(with_reducible assumption)|assumption)
            have hx14:=bt_at a0 x23_2
            replace p14:=eq_true p14
            replace q14:=eq_true q14
            go_wp2
            go_ret
            exact⟨by first|rfl|(simp;done)|(simp [*];done),by repeat(first|exact Gc _|apply Gd)⟩
           ·rw [if_neg c17] at H
            have c17b0:((bt a0 x23_2) == 127)=false:=beq_eq_false_iff_ne.mpr c17
            have c17b1:((bt a0 x23_2) != 127)=true:=bne_iff_ne.mpr c17
            have H':=Ga H
            clear H
            have p14:0≤(x23_2:Int):=of_decide_eq_true (by first|(with_reducible assumption)|assumption)
            have q14:x23_2 < (a0.size:Int):=of_decide_eq_true (by first|(with_reducible assumption)|assumption)
            have hx14:=bt_at a0 x23_2
            replace p14:=eq_true p14
            replace q14:=eq_true q14
            go_wp2
            go_roundg k2
            case measure=>have:=HJ1.out;have:=HK2.out;omega
            case rel=>exact⟨(wrap64 (x23_2+1)),(by first|rfl|(simp;done)|(simp [*];done)),H',⟨by have:=HJ1.out;have:=HK2.out;omega⟩,by repeat(first|exact Gc _|apply Gd)⟩
        ·rw [if_neg c13] at H
         exact absurd H (by simp)
       ·rw [if_neg c12] at H
        exact absurd H (by simp)
      ·rw [if_neg c11] at H
       have c11b0:decide (x23_2 < (a0.size:Int))=false:=decide_eq_false c11
       clear c11
       obtain rfl:=Option.some.inj H
       go_wp2
       go_ret
       exact⟨by first|rfl|(simp;done)|(simp [*];done),by repeat(first|exact Gc _|apply Gd)⟩

/-! ### strings_Cut: function 46 -/
def strings_Cut.f (a0 a1 : ByteArray) : Option (ByteArray × ByteArray × Bool) := if a0.size < 4294967281 then some (⟨(Lib.cut a0.data.toList a1.data.toList).1.toArray⟩, ⟨(Lib.cut a0.data.toList a1.data.toList).2.1.toArray⟩, (Lib.cut a0.data.toList a1.data.toList).2.2) else none
theorem strings_Cut.calls (a0 a1 : ByteArray) (r1 r2 : ByteArray) (r3 : Bool) (w : World) (hgl : Glob w) (h : strings_Cut.f a0 a1 = some (r1, r2, r3)) :
  Calls Tryd.prog 46 #[.string a0,.string a1] w fun e w'=>e=.returned (.tuple #[.string r1,.string r2,.bool r3])∧Drawn0 w w':=by
 unfold strings_Cut.f at h
 split at h
 ·rename_i hs
  cases h
  obtain⟨m,hm⟩:=hgl.max
  refine(Tryd.strings_Cut a0 a1 m w hs hm).mono ?_
  rintro e w' ⟨rfl,n,rfl⟩
  exact⟨rfl,⟨⟨n,rfl⟩⟩⟩
 ·cases h


/-! ### strconv_FormatInt_56: function 56 -/
def strconv_FormatInt_56.f (a0 a1 : Int) : Option (ByteArray) := if a1 = 10 ∧ -9223372036854775808 ≤ a0 ∧ a0 ≤ 9223372036854775807 then some ⟨(Lib.itoa a0).toArray⟩ else none
theorem strconv_FormatInt_56.calls (a0 a1 : Int) (r : ByteArray) (w : World) (hgl : Glob w) (h : strconv_FormatInt_56.f a0 a1 = some r) :
  Calls Tryd.prog 56 #[.int .i64 a0,.int .i64 a1] w fun e w'=>e=.returned (.string r)∧Below w.heap.size w w':=by
 unfold strconv_FormatInt_56.f at h
 split at h
 ·rename_i hs
  obtain⟨rfl,h0,h1⟩:=hs
  cases h
  refine(Tryd.strconv_FormatInt_10 a0 h0 h1 w hgl.tab).mono ?_
  rintro e w' ⟨rfl,k,os,rfl⟩
  exact⟨rfl,below_grow_title w k os⟩
 ·cases h


/-! ### strings_Repeat: function 57 -/
def strings_Repeat.f (a0 : ByteArray) (a1 : Int) : Option (ByteArray) := if 0 ≤ a1 ∧ a1 ≤ 9223372036854775807 ∧ a0.size * a1.toNat ≤ 140737488355328 then some ⟨(Lib.repeatL a0.data.toList a1.toNat).toArray⟩ else none
theorem strings_Repeat.calls (a0 : ByteArray) (a1 : Int) (r : ByteArray) (w : World) (h : strings_Repeat.f a0 a1 = some r) :
  Calls Tryd.prog 57 #[.string a0,.int .i64 a1] w fun e w'=>e=.returned (.string r)∧Below w.heap.size w w':=by
 unfold strings_Repeat.f at h
 split at h
 ·rename_i hs
  obtain⟨h0,h1,h2⟩:=hs
  cases h
  obtain⟨c,rfl⟩:=Int.eq_ofNat_of_zero_le h0
  exact Tryd.strings_Repeat a0 c w (by omega) h2
 ·cases h


/-! ### impl_padded: function 44 -/
def impl_padded.f (a0 : Int) (a1 : Int) : Option (ByteArray) := (strconv_FormatInt_56.f a0 10).bind fun t185 => ((strings_Repeat.f (⟨#[48]⟩ : ByteArray) (mx (wrap64 (a1 - (t185.size : Int))) 0)).bind fun t186 => (if t186.size + t185.size ≤ 9223372036854775807 then (some (t186 ++ t185)) else (none)))
set_option maxHeartbeats 8000000 in
set_option maxRecDepth 100000 in
theorem impl_padded.calls (a0 : Int) (a1 : Int) (r : ByteArray) (w : World) (hgl : Glob w) (h : impl_padded.f a0 a1 = some r) :
  Calls Tryd.prog 44 #[.int .i64 a0,.int .i64 a1] w fun e w'=>e=.returned (.string r)∧Below w.heap.size w w':=by
 have HGL:=Ga hgl
 clear hgl
 have HB:=Ga (Below.refl w.heap.size w)
 have H:((strconv_FormatInt_56.f a0 10).bind fun t185=>((strings_Repeat.f (⟨#[48]⟩:ByteArray) (mx (wrap64 (a1 - (t185.size:Int))) 0)).bind fun t186=>(if t186.size+t185.size≤9223372036854775807 then (some (t186 ++ t185)) else (none))))=some r:=h
 clear h
 replace H:=Option.bind_eq_some_iff.mp H
 obtain⟨t185,A30,H⟩:=H
 replace H:((strings_Repeat.f (⟨#[48]⟩:ByteArray) (mx (wrap64 (a1 - (t185.size:Int))) 0)).bind fun t186=>(if t186.size+t185.size≤9223372036854775807 then (some (t186 ++ t185)) else (none)))=some r:=H
 have A3:=Ga A30
 clear A30
 obtain⟨ji4,hji4⟩:∃ j_:Int,(mx (wrap64 (a1 - (t185.size:Int))) 0)=j_:=⟨_,rfl⟩
 replace H:((strings_Repeat.f (⟨#[48]⟩:ByteArray) (ji4)).bind fun t186=>(if t186.size+t185.size≤9223372036854775807 then (some (t186 ++ t185)) else (none)))=some r:=by first|(rw [hji4] at H;exact H)|(simp only [hji4] at H ⊢;exact H)
 (try rw [hji4] at A3)
 (try(have hji4l:0≤ji4:=by(rw [← hji4];unfold mx;(repeat' split) <;> omega)))
 (try(have hji4m:0≤ji4:=by omega))
 have hji4_:(if (wrap64 (a1 - (t185.size:Int))) < 0 then 0 else (wrap64 (a1 - (t185.size:Int))))=ji4:=hji4
 replace H:=Option.bind_eq_some_iff.mp H
 obtain⟨t186,A50,H⟩:=H
 replace H:(if t186.size+t185.size≤9223372036854775807 then (some (t186 ++ t185)) else (none))=some r:=H
 have A5:=Ga A50
 clear A50
 by_cases c6:t186.size+t185.size≤9223372036854775807
 ·rw [if_pos c6] at H
  have c6b0:=eq_true c6
  have c6b1:decide (t186.size+t185.size≤9223372036854775807)=true:=decide_eq_true c6
  try have c6b2:(9223372036854775807 < t186.size+t185.size)=False:=eq_false (Nat.not_lt.2 c6)
  obtain rfl:=Option.some.inj H
  go_enter Tryd.func44,Tryd.ntmps44
  go_wp2_with (first|((with_reducible refine gate_callee (f:=56) rfl ?_);refine goesL_ (some 7) rfl rfl Tryd.func56 (by kernel_rfl) rfl #[.int .i64 a0,.int .i64 10] rfl (by(try simp only [List.map_toArray,List.map_cons,List.map_nil]);first|done|rfl|(simp only [List.length_drop,List.length_take];rfl)) ?_;(with_reducible refine(strconv_FormatInt_56.calls a0 10 t185 _ (by first|exact HGL.out|((repeat(with_reducible refine Glob.drewN ?_));exact HGL.out)|exact Glob.below HGL.out (by repeat(first|(with_reducible first|exact HB.out|apply Ge|apply Gb|apply Gf)|exact HB.out))) A3.out).mono ?_);rintro e w7 ⟨rfl,hb⟩;refine⟨_,rfl,?_⟩;have n0_:=Ga (below_step (by repeat(first|(with_reducible first|exact HB.out|apply Ge|apply Gb|apply Gf)|exact HB.out)) hb);clear HB;have HB:=n0_;clear n0_;(try clear hb);(try clear hb2);(try clear hk);(try clear hi))|((with_reducible refine gate_callee (f:=57) rfl ?_);refine goesL_ (some 13) rfl rfl Tryd.func57 (by kernel_rfl) rfl #[.string (⟨#[48]⟩:ByteArray),.int .i64 ji4] rfl (by(try simp only [List.map_toArray,List.map_cons,List.map_nil]);first|done|(simp only [hji4];rfl)|rfl|(simp only [List.length_drop,List.length_take];rfl)) ?_;(with_reducible refine(strings_Repeat.calls (⟨#[48]⟩:ByteArray) ji4 t186 _ A5.out).mono ?_);rintro e w8 ⟨rfl,hb⟩;refine⟨_,rfl,?_⟩;have n0_:=Ga (below_step (by repeat(first|(with_reducible first|exact HB.out|apply Ge|apply Gb|apply Gf)|exact HB.out)) hb);clear HB;have HB:=n0_;clear n0_;(try clear hb);(try clear hb2);(try clear hk);(try clear hi)))
  go_ret
  exact⟨by first|rfl|(simp [errW_none,errW_some] <;> rfl)|(simp only [← hji4];first|rfl|(simp [errW_none,errW_some] <;> rfl))|(simp [*,errW_none,errW_some] <;> rfl),by repeat(first|(with_reducible first|exact HB.out|apply Ge|apply Gb|apply Gf)|exact HB.out)⟩
 ·rw [if_neg c6] at H
  exact absurd H (by simp)

/-! ### impl_milliText: function 27 -/
def impl_milliText.f (a0 : Int) : Option (ByteArray) := (impl_padded.f (wrap64 (Int.tdiv (wrap64 (Int.tdiv a0 1000)) 3600)) 2).bind fun t187 => (if t187.size + 1 ≤ 9223372036854775807 then ((impl_padded.f (Int.tmod (wrap64 (Int.tdiv (wrap64 (Int.tdiv a0 1000)) 60)) 60) 2).bind fun t188 => (if (t187 ++ (⟨#[58]⟩ : ByteArray)).size + t188.size ≤ 9223372036854775807 then (if ((t187 ++ (⟨#[58]⟩ : ByteArray)) ++ t188).size + 1 ≤ 9223372036854775807 then ((impl_padded.f (Int.tmod (wrap64 (Int.tdiv a0 1000)) 60) 2).bind fun t189 => (if (((t187 ++ (⟨#[58]⟩ : ByteArray)) ++ t188) ++ (⟨#[58]⟩ : ByteArray)).size + t189.size ≤ 9223372036854775807 then (if ((((t187 ++ (⟨#[58]⟩ : ByteArray)) ++ t188) ++ (⟨#[58]⟩ : ByteArray)) ++ t189).size + 1 ≤ 9223372036854775807 then ((impl_padded.f (Int.tmod a0 1000) 3).bind fun t190 => (if (((((t187 ++ (⟨#[58]⟩ : ByteArray)) ++ t188) ++ (⟨#[58]⟩ : ByteArray)) ++ t189) ++ (⟨#[44]⟩ : ByteArray)).size + t190.size ≤ 9223372036854775807 then (some ((((((t187 ++ (⟨#[58]⟩ : ByteArray)) ++ t188) ++ (⟨#[58]⟩ : ByteArray)) ++ t189) ++ (⟨#[44]⟩ : ByteArray)) ++ t190)) else (none))) else (none)) else (none))) else (none)) else (none))) else (none))
set_option maxHeartbeats 8000000 in
set_option maxRecDepth 100000 in
theorem impl_milliText.calls (a0 : Int) (r : ByteArray) (w : World) (hgl : Glob w) (h : impl_milliText.f a0 = some r) :
  Calls Tryd.prog 27 #[.int .i64 a0] w fun e w'=>e=.returned (.string r)∧Below w.heap.size w w':=by
 have HGL:=Ga hgl
 clear hgl
 have HB:=Ga (Below.refl w.heap.size w)
 have H:((impl_padded.f (wrap64 (Int.tdiv (wrap64 (Int.tdiv a0 1000)) 3600)) 2).bind fun t187=>(if t187.size+1≤9223372036854775807 then ((impl_padded.f (Int.tmod (wrap64 (Int.tdiv (wrap64 (Int.tdiv a0 1000)) 60)) 60) 2).bind fun t188=>(if (t187 ++ (⟨#[58]⟩:ByteArray)).size+t188.size≤9223372036854775807 then (if ((t187 ++ (⟨#[58]⟩:ByteArray)) ++ t188).size+1≤9223372036854775807 then ((impl_padded.f (Int.tmod (wrap64 (Int.tdiv a0 1000)) 60) 2).bind fun t189=>(if (((t187 ++ (⟨#[58]⟩:ByteArray)) ++ t188) ++ (⟨#[58]⟩:ByteArray)).size+t189.size≤9223372036854775807 then (if ((((t187 ++ (⟨#[58]⟩:ByteArray)) ++ t188) ++ (⟨#[58]⟩:ByteArray)) ++ t189).size+1≤9223372036854775807 then ((impl_padded.f (Int.tmod a0 1000) 3).bind fun t190=>(if (((((t187 ++ (⟨#[58]⟩:ByteArray)) ++ t188) ++ (⟨#[58]⟩:ByteArray)) ++ t189) ++ (⟨#[44]⟩:ByteArray)).size+t190.size≤9223372036854775807 then (some ((((((t187 ++ (⟨#[58]⟩:ByteArray)) ++ t188) ++ (⟨#[58]⟩:ByteArray)) ++ t189) ++ (⟨#[44]⟩:ByteArray)) ++ t190)) else (none))) else (none)) else (none))) else (none)) else (none))) else (none)))=some r:=h
 clear h
 replace H:=Option.bind_eq_some_iff.mp H
 obtain⟨t187,A20,H⟩:=H
 replace H:(if t187.size+1≤9223372036854775807 then ((impl_padded.f (Int.tmod (wrap64 (Int.tdiv (wrap64 (Int.tdiv a0 1000)) 60)) 60) 2).bind fun t188=>(if (t187 ++ (⟨#[58]⟩:ByteArray)).size+t188.size≤9223372036854775807 then (if ((t187 ++ (⟨#[58]⟩:ByteArray)) ++ t188).size+1≤9223372036854775807 then ((impl_padded.f (Int.tmod (wrap64 (Int.tdiv a0 1000)) 60) 2).bind fun t189=>(if (((t187 ++ (⟨#[58]⟩:ByteArray)) ++ t188) ++ (⟨#[58]⟩:ByteArray)).size+t189.size≤9223372036854775807 then (if ((((t187 ++ (⟨#[58]⟩:ByteArray)) ++ t188) ++ (⟨#[58]⟩:ByteArray)) ++ t189).size+1≤9223372036854775807 then ((impl_padded.f (Int.tmod a0 1000) 3).bind fun t190=>(if (((((t187 ++ (⟨#[58]⟩:ByteArray)) ++ t188) ++ (⟨#[58]⟩:ByteArray)) ++ t189) ++ (⟨#[44]⟩:ByteArray)).size+t190.size≤9223372036854775807 then (some ((((((t187 ++ (⟨#[58]⟩:ByteArray)) ++ t188) ++ (⟨#[58]⟩:ByteArray)) ++ t189) ++ (⟨#[44]⟩:ByteArray)) ++ t190)) else (none))) else (none)) else (none))) else (none)) else (none))) else (none))=some r:=H
 have A2:=Ga A20
 clear A20
 by_cases c3:t187.size+1≤9223372036854775807
 ·rw [if_pos c3] at H
  have c3b0:=eq_true c3
  have c3b1:decide (t187.size+1≤9223372036854775807)=true:=decide_eq_true c3
  try have c3b2:(9223372036854775807 < t187.size+1)=False:=eq_false (Nat.not_lt.2 c3)
  replace H:=Option.bind_eq_some_iff.mp H
  obtain⟨t188,A40,H⟩:=H
  replace H:(if (t187 ++ (⟨#[58]⟩:ByteArray)).size+t188.size≤9223372036854775807 then (if ((t187 ++ (⟨#[58]⟩:ByteArray)) ++ t188).size+1≤9223372036854775807 then ((impl_padded.f (Int.tmod (wrap64 (Int.tdiv a0 1000)) 60) 2).bind fun t189=>(if (((t187 ++ (⟨#[58]⟩:ByteArray)) ++ t188) ++ (⟨#[58]⟩:ByteArray)).size+t189.size≤9223372036854775807 then (if ((((t187 ++ (⟨#[58]⟩:ByteArray)) ++ t188) ++ (⟨#[58]⟩:ByteArray)) ++ t189).size+1≤9223372036854775807 then ((impl_padded.f (Int.tmod a0 1000) 3).bind fun t190=>(if (((((t187 ++ (⟨#[58]⟩:ByteArray)) ++ t188) ++ (⟨#[58]⟩:ByteArray)) ++ t189) ++ (⟨#[44]⟩:ByteArray)).size+t190.size≤9223372036854775807 then (some ((((((t187 ++ (⟨#[58]⟩:ByteArray)) ++ t188) ++ (⟨#[58]⟩:ByteArray)) ++ t189) ++ (⟨#[44]⟩:ByteArray)) ++ t190)) else (none))) else (none)) else (none))) else (none)) else (none))=some r:=H
  have A4:=Ga A40
  clear A40
  by_cases c5:(t187 ++ (⟨#[58]⟩:ByteArray)).size+t188.size≤9223372036854775807
  ·rw [if_pos c5] at H
   have c5b0:=eq_true c5
   have c5b1:decide ((t187 ++ (⟨#[58]⟩:ByteArray)).size+t188.size≤9223372036854775807)=true:=decide_eq_true c5
   try have c5b2:(9223372036854775807 < (t187 ++ (⟨#[58]⟩:ByteArray)).size+t188.size)=False:=eq_false (Nat.not_lt.2 c5)
   try have c5b3:(9223372036854775807 < t187.size+1+t188.size)=False:=eq_false (Nat.not_lt.2 (by have h_:=c5;simp only [ByteArray.size_append] at h_;exact h_))
   by_cases c6:((t187 ++ (⟨#[58]⟩:ByteArray)) ++ t188).size+1≤9223372036854775807
   ·rw [if_pos c6] at H
    have c6b0:=eq_true c6
    have c6b1:decide (((t187 ++ (⟨#[58]⟩:ByteArray)) ++ t188).size+1≤9223372036854775807)=true:=decide_eq_true c6
    try have c6b2:(9223372036854775807 < ((t187 ++ (⟨#[58]⟩:ByteArray)) ++ t188).size+1)=False:=eq_false (Nat.not_lt.2 c6)
    try have c6b3:(9223372036854775807 < t187.size+1+t188.size+1)=False:=eq_false (Nat.not_lt.2 (by have h_:=c6;simp only [ByteArray.size_append] at h_;exact h_))
    replace H:=Option.bind_eq_some_iff.mp H
    obtain⟨t189,A70,H⟩:=H
    replace H:(if (((t187 ++ (⟨#[58]⟩:ByteArray)) ++ t188) ++ (⟨#[58]⟩:ByteArray)).size+t189.size≤9223372036854775807 then (if ((((t187 ++ (⟨#[58]⟩:ByteArray)) ++ t188) ++ (⟨#[58]⟩:ByteArray)) ++ t189).size+1≤9223372036854775807 then ((impl_padded.f (Int.tmod a0 1000) 3).bind fun t190=>(if (((((t187 ++ (⟨#[58]⟩:ByteArray)) ++ t188) ++ (⟨#[58]⟩:ByteArray)) ++ t189) ++ (⟨#[44]⟩:ByteArray)).size+t190.size≤9223372036854775807 then (some ((((((t187 ++ (⟨#[58]⟩:ByteArray)) ++ t188) ++ (⟨#[58]⟩:ByteArray)) ++ t189) ++ (⟨#[44]⟩:ByteArray)) ++ t190)) else (none))) else (none)) else (none))=some r:=H
    have A7:=Ga A70
    clear A70
    by_cases c8:(((t187 ++ (⟨#[58]⟩:ByteArray)) ++ t188) ++ (⟨#[58]⟩:ByteArray)).size+t189.size≤9223372036854775807
    ·rw [if_pos c8] at H
     have c8b0:=eq_true c8
     have c8b1:decide ((((t187 ++ (⟨#[58]⟩:ByteArray)) ++ t188) ++ (⟨#[58]⟩:ByteArray)).size+t189.size≤9223372036854775807)=true:=decide_eq_true c8
     try have c8b2:(9223372036854775807 < (((t187 ++ (⟨#[58]⟩:ByteArray)) ++ t188) ++ (⟨#[58]⟩:ByteArray)).size+t189.size)=False:=eq_false (Nat.not_lt.2 c8)
     try have c8b3:(9223372036854775807 < t187.size+1+t188.size+1+t189.size)=False:=eq_false (Nat.not_lt.2 (by have h_:=c8;simp only [ByteArray.size_append] at h_;exact h_))
     by_cases c9:((((t187 ++ (⟨#[58]⟩:ByteArray)) ++ t188) ++ (⟨#[58]⟩:ByteArray)) ++ t189).size+1≤9223372036854775807
     ·rw [if_pos c9] at H
      have c9b0:=eq_true c9
      have c9b1:decide (((((t187 ++ (⟨#[58]⟩:ByteArray)) ++ t188) ++ (⟨#[58]⟩:ByteArray)) ++ t189).size+1≤9223372036854775807)=true:=decide_eq_true c9
      try have c9b2:(9223372036854775807 < ((((t187 ++ (⟨#[58]⟩:ByteArray)) ++ t188) ++ (⟨#[58]⟩:ByteArray)) ++ t189).size+1)=False:=eq_false (Nat.not_lt.2 c9)
      try have c9b3:(9223372036854775807 < t187.size+1+t188.size+1+t189.size+1)=False:=eq_false (Nat.not_lt.2 (by have h_:=c9;simp only [ByteArray.size_append] at h_;exact h_))
      replace H:=Option.bind_eq_some_iff.mp H
      obtain⟨t190,A100,H⟩:=H
      replace H:(if (((((t187 ++ (⟨#[58]⟩:ByteArray)) ++ t188) ++ (⟨#[58]⟩:ByteArray)) ++ t189) ++ (⟨#[44]⟩:ByteArray)).size+t190.size≤9223372036854775807 then (some ((((((t187 ++ (⟨#[58]⟩:ByteArray)) ++ t188) ++ (⟨#[58]⟩:ByteArray)) ++ t189) ++ (⟨#[44]⟩:ByteArray)) ++ t190)) else (none))=some r:=H
      have A10:=Ga A100
      clear A100
      by_cases c11:(((((t187 ++ (⟨#[58]⟩:ByteArray)) ++ t188) ++ (⟨#[58]⟩:ByteArray)) ++ t189) ++ (⟨#[44]⟩:ByteArray)).size+t190.size≤9223372036854775807
      ·rw [if_pos c11] at H
       have c11b0:=eq_true c11
       have c11b1:decide ((((((t187 ++ (⟨#[58]⟩:ByteArray)) ++ t188) ++ (⟨#[58]⟩:ByteArray)) ++ t189) ++ (⟨#[44]⟩:ByteArray)).size+t190.size≤9223372036854775807)=true:=decide_eq_true c11
       try have c11b2:(9223372036854775807 < (((((t187 ++ (⟨#[58]⟩:ByteArray)) ++ t188) ++ (⟨#[58]⟩:ByteArray)) ++ t189) ++ (⟨#[44]⟩:ByteArray)).size+t190.size)=False:=eq_false (Nat.not_lt.2 c11)
       try have c11b3:(9223372036854775807 < t187.size+1+t188.size+1+t189.size+1+t190.size)=False:=eq_false (Nat.not_lt.2 (by have h_:=c11;simp only [ByteArray.size_append] at h_;exact h_))
       obtain rfl:=Option.some.inj H
       go_enter Tryd.func27,Tryd.ntmps27
       go_wp2_with (first|((with_reducible refine gate_callee (f:=44) rfl ?_);refine goesL_ (some 8) rfl rfl Tryd.func44 (by kernel_rfl) rfl #[.int .i64 (wrap64 (Int.tdiv (wrap64 (Int.tdiv a0 1000)) 3600)),.int .i64 2] rfl (by(try simp only [List.map_toArray,List.map_cons,List.map_nil]);first|done|rfl|(simp only [List.length_drop,List.length_take];rfl)) ?_;(with_reducible refine(impl_padded.calls (wrap64 (Int.tdiv (wrap64 (Int.tdiv a0 1000)) 3600)) 2 t187 _ (by first|exact HGL.out|((repeat(with_reducible refine Glob.drewN ?_));exact HGL.out)|exact Glob.below HGL.out (by repeat(first|(with_reducible first|exact HB.out|apply Ge|apply Gb|apply Gf)|exact HB.out))) A2.out).mono ?_);rintro e w12 ⟨rfl,hb⟩;refine⟨_,rfl,?_⟩;have n0_:=Ga (below_step (by repeat(first|(with_reducible first|exact HB.out|apply Ge|apply Gb|apply Gf)|exact HB.out)) hb);clear HB;have HB:=n0_;clear n0_;(try clear hb);(try clear hb2);(try clear hk);(try clear hi))|((with_reducible refine gate_callee (f:=44) rfl ?_);refine goesL_ (some 13) rfl rfl Tryd.func44 (by kernel_rfl) rfl #[.int .i64 (Int.tmod (wrap64 (Int.tdiv (wrap64 (Int.tdiv a0 1000)) 60)) 60),.int .i64 2] rfl (by(try simp only [List.map_toArray,List.map_cons,List.map_nil]);first|done|rfl|(simp only [List.length_drop,List.length_take];rfl)) ?_;(with_reducible refine(impl_padded.calls (Int.tmod (wrap64 (Int.tdiv (wrap64 (Int.tdiv a0 1000)) 60)) 60) 2 t188 _ (by first|exact HGL.out|((repeat(with_reducible refine Glob.drewN ?_));exact HGL.out)|exact Glob.below HGL.out (by repeat(first|(with_reducible first|exact HB.out|apply Ge|apply Gb|apply Gf)|exact HB.out))) A4.out).mono ?_);rintro e w13 ⟨rfl,hb⟩;refine⟨_,rfl,?_⟩;have n0_:=Ga (below_step (by repeat(first|(with_reducible first|exact HB.out|apply Ge|apply Gb|apply Gf)|exact HB.out)) hb);clear HB;have HB:=n0_;clear n0_;(try clear hb);(try clear hb2);(try clear hk);(try clear hi))|((with_reducible refine gate_callee (f:=44) rfl ?_);refine goesL_ (some 18) rfl rfl Tryd.func44 (by kernel_rfl) rfl #[.int .i64 (Int.tmod (wrap64 (Int.tdiv a0 1000)) 60),.int .i64 2] rfl (by(try simp only [List.map_toArray,List.map_cons,List.map_nil]);first|done|rfl|(simp only [List.length_drop,List.length_take];rfl)) ?_;(with_reducible refine(impl_padded.calls (Int.tmod (wrap64 (Int.tdiv a0 1000)) 60) 2 t189 _ (by first|exact HGL.out|((repeat(with_reducible refine Glob.drewN ?_));exact HGL.out)|exact Glob.below HGL.out (by repeat(first|(with_reducible first|exact HB.out|apply Ge|apply Gb|apply Gf)|exact HB.out))) A7.out).mono ?_);rintro e w14 ⟨rfl,hb⟩;refine⟨_,rfl,?_⟩;have n0_:=Ga (below_step (by repeat(first|(with_reducible first|exact HB.out|apply Ge|apply Gb|apply Gf)|exact HB.out)) hb);clear HB;have HB:=n0_;clear n0_;(try clear hb);(try clear hb2);(try clear hk);(try clear hi))|((with_reducible refine gate_callee (f:=44) rfl ?_);refine goesL_ (some 23) rfl rfl Tryd.func44 (by kernel_rfl) rfl #[.int .i64 (Int.tmod a0 1000),.int .i64 3] rfl (by(try simp only [List.map_toArray,List.map_cons,List.map_nil]);first|done|rfl|(simp only [List.length_drop,List.length_take];rfl)) ?_;(with_reducible refine(impl_padded.calls (Int.tmod a0 1000) 3 t190 _ (by first|exact HGL.out|((repeat(with_reducible refine Glob.drewN ?_));exact HGL.out)|exact Glob.below HGL.out (by repeat(first|(with_reducible first|exact HB.out|apply Ge|apply Gb|apply Gf)|exact HB.out))) A10.out).mono ?_);rintro e w15 ⟨rfl,hb⟩;refine⟨_,rfl,?_⟩;have n0_:=Ga (below_step (by repeat(first|(with_reducible first|exact HB.out|apply Ge|apply Gb|apply Gf)|exact HB.out)) hb);clear HB;have HB:=n0_;clear n0_;(try clear hb);(try clear hb2);(try clear hk);(try clear hi)))
       go_ret
       exact⟨by first|rfl|(simp [errW_none,errW_some] <;> rfl)|(simp [*,errW_none,errW_some] <;> rfl),by repeat(first|(with_reducible first|exact HB.out|apply Ge|apply Gb|apply Gf)|exact HB.out)⟩
      ·rw [if_neg c11] at H
       exact absurd H (by simp)
     ·rw [if_neg c9] at H
      exact absurd H (by simp)
    ·rw [if_neg c8] at H
     exact absurd H (by simp)
   ·rw [if_neg c6] at H
    exact absurd H (by simp)
  ·rw [if_neg c5] at H
   exact absurd H (by simp)
 ·rw [if_neg c3] at H
  exact absurd H (by simp)

/-! ### impl_digits: function 59 -/
mutual
def impl_digits.j0 : Nat → ByteArray → Int → Bool → Option (Int × Bool)
 | 0, _, _, _ => none
 | k + 1, x0, x4, x12 => if x12 = true then (some (0, false)) else (impl_digits.l0 k x0 x4 (x0.size : Int) 0)
def impl_digits.l0 : Nat → ByteArray → Int → Int → Int → Option (Int × Bool)
 | 0, _, _, _, _ => none
 | k + 1, x0, x4, x14, x15 => if x15 < x14 then (if 0 ≤ x15 then (if x15 < (x0.size : Int) then (if (bt x0 x15) < 48 then (some (0, false)) else (if (bt x0 x15) > 57 then (some (0, false)) else (impl_digits.l0 k x0 (wrap64 ((wrap64 (10 * x4)) + (((bt x0 x15) - 48) % 256))) x14 (wrap64 (x15 + 1))))) else (none)) else (none)) else (some (x4, true))
end
def impl_digits.f (k : Nat) (a0 : ByteArray) : Option (Int × Bool) := if a0.toList = ([] : List UInt8) then (impl_digits.j0 k a0 0 true) else (impl_digits.j0 k a0 0 (decide ((a0.size : Int) > 9)))
theorem impl_digits.mono_l : ∀ k, (∀ y0 y1 y2, LeO (impl_digits.j0 k y0 y1 y2) (impl_digits.j0 (k + 1) y0 y1 y2)) ∧ (∀ y0 y1 y2 y3, LeO (impl_digits.l0 k y0 y1 y2 y3) (impl_digits.l0 (k + 1) y0 y1 y2 y3))
 | 0 => ⟨fun _ _ _ r h => by simp [impl_digits.j0] at h, fun _ _ _ _ r h => by simp [impl_digits.l0] at h⟩
 | k + 1 => by
  obtain⟨ih0,ih1⟩:=impl_digits.mono_l k
  refine⟨?_,?_⟩
  ·intro y0 y1 y2
   unfold impl_digits.j0
   repeat' first
   | (with_reducible exact ih0 _ _ _)
   | (with_reducible exact ih1 _ _ _ _)
   | (with_reducible exact LeO.refl _)
   | (with_reducible exact LeO.none _)
   | (with_reducible refine LeO.ite ?_ ?_)
   | (with_reducible refine LeO.bind ?_ (fun _ => ?_))
   | exact ih0 _ _ _
   | exact ih1 _ _ _ _
   | exact LeO.none _
   | refine LeO.ite ?_ ?_
   | refine LeO.bind ?_ (fun _ => ?_)
  ·intro y0 y1 y2 y3
   unfold impl_digits.l0
   repeat' first
   | (with_reducible exact ih0 _ _ _)
   | (with_reducible exact ih1 _ _ _ _)
   | (with_reducible exact LeO.refl _)
   | (with_reducible exact LeO.none _)
   | (with_reducible refine LeO.ite ?_ ?_)
   | (with_reducible refine LeO.bind ?_ (fun _ => ?_))
   | exact ih0 _ _ _
   | exact ih1 _ _ _ _
   | exact LeO.none _
   | refine LeO.ite ?_ ?_
   | refine LeO.bind ?_ (fun _ => ?_)
theorem impl_digits.mono : ∀ a0 k, LeO (impl_digits.f k a0) (impl_digits.f (k + 1) a0) := by
 intro a0 k
 obtain⟨ih0,ih1⟩:=impl_digits.mono_l k
 unfold impl_digits.f
 repeat' first
   | (with_reducible exact ih0 _ _ _)
   | (with_reducible exact ih1 _ _ _ _)
   | (with_reducible exact LeO.refl _)
   | (with_reducible exact LeO.none _)
   | (with_reducible refine LeO.ite ?_ ?_)
   | (with_reducible refine LeO.bind ?_ (fun _ => ?_))
   | exact ih0 _ _ _
   | exact ih1 _ _ _ _
   | exact LeO.none _
   | refine LeO.ite ?_ ?_
   | refine LeO.bind ?_ (fun _ => ?_)
set_option maxHeartbeats 8000000 in
set_option maxRecDepth 100000 in
theorem impl_digits.calls (k : Nat) (a0 : ByteArray) (r1 : Int) (r2 : Bool) (w : World) (h : impl_digits.f k a0 = some (r1, r2)) :
  Calls Tryd.prog 59 #[.string a0] w fun e w'=>e=.returned (.tuple #[.int .i64 r1,.bool r2])∧Drawn0 w w':=by
 have H:(if a0.toList=([]:List UInt8) then (impl_digits.j0 k a0 0 true) else (impl_digits.j0 k a0 0 (decide ((a0.size:Int) > 9))))=some (r1,r2):=h
 clear h
 have HC2:=Ga H
 clear H
 go_enter Tryd.func59,Tryd.ntmps59
 go_upto_region 2 with (fail)
 go_cut [12] (fun v12 wc=>∃ (kq:Nat) (x12_1:Bool),v12=.bool x12_1∧Aside0 (impl_digits.j0 kq a0 0 x12_1=some (r1,r2))∧Aside0 (kq≤k)∧Drawn0 w wc)
 case first=>
  have H:=HC2.out
  clear HC2
  by_cases c3:a0.toList=([]:List UInt8)
  ·rw [if_pos c3] at H
   have c3b0:(a0.toList == ([]:List UInt8))=true:=beq_iff_eq.mpr c3
   have c3b1:(a0.toList != ([]:List UInt8))=false:=bne_eq_false_iff_eq.mpr c3
   clear c3
   (first|rw [c3b0]|(simp only [i64_w,i32_w];rw [c3b0])|skip)
   have H':=Ga H
   clear H
   go_wp2
   go_meet
   case rel=>exact⟨_,(true),(by first|rfl|(simp;done)|(simp [*];done)),H',⟨by first|omega|exact Nat.le_refl _⟩,by repeat(first|exact Gc _|apply Gd)⟩
  ·rw [if_neg c3] at H
   have c3b0:(a0.toList == ([]:List UInt8))=false:=beq_eq_false_iff_ne.mpr c3
   have c3b1:(a0.toList != ([]:List UInt8))=true:=bne_iff_ne.mpr c3
   (first|rw [c3b0]|(simp only [i64_w,i32_w];rw [c3b0])|skip)
   have H':=Ga H
   clear H
   go_wp2
   go_meet
   case rel=>exact⟨_,(decide ((a0.size:Int) > 9)),(by first|rfl|(simp;done)|(simp [*];done)),H',⟨by first|omega|exact Nat.le_refl _⟩,by repeat(first|exact Gc _|apply Gd)⟩
 case rest=>
  clear HC2
  try clear p2
  try clear c3
  try clear c3b0
  try clear c3b1
  obtain⟨kq,x12_1,rfl,HA,HJ1,⟨mc1,rfl⟩⟩:=hcut
  cases kq with
  | zero => exact absurd HA.out (by simp [impl_digits.j0])
  | succ kj1 =>
   have H:=HA.out
   clear HA
   simp only [impl_digits.j0] at H
   by_cases c4:x12_1=true
   ·subst c4
    have H1:(some (0,false))=some (r1,r2):=by rw [if_pos rfl] at H;exact H
    clear H
    have H:=H1
    clear H1
    simp only [Option.some.injEq,Prod.mk.injEq] at H
    obtain⟨rfl,rfl⟩:=H
    go_wp2
    go_ret2
    exact⟨by first|rfl|(simp;done)|(simp [*];done),by repeat(first|exact Gc _|apply Gd)⟩
   ·replace c4:=Bool.eq_false_iff.mpr c4
    subst c4
    have H1:(impl_digits.l0 kj1 a0 0 (a0.size:Int) 0)=some (r1,r2):=by rw [if_neg (show ¬ (false=true) by decide)] at H;exact H
    clear H
    have H:=H1
    clear H1
    have H':=Ga H
    clear H
    go_wp2
    go_loopg [4,15] kj1 (fun kq v4 v15 w'=>∃ (x4_2:Int) (qa:Int),v4=.int .i64 x4_2∧v15=.int .i64 qa∧Aside0 (impl_digits.l0 kq a0 x4_2 (a0.size:Int) qa=some (r1,r2))∧Aside0 (kq≤kj1)∧Drawn0 w w')
    case atStart=>exact⟨(0),(0),(by first|rfl|(simp;done)|(simp [*];done)),(by first|rfl|(simp;done)|(simp [*];done)),H',⟨Nat.le_refl _⟩,by repeat(first|exact Gc _|apply Gd)⟩
    case round=>
     clear H'
     try clear c1
     try clear p2
     try clear c3
     try clear c3b0
     try clear c3b1
     try clear c4
     try clear p2
     obtain⟨x4_2,qa,rfl,rfl,HA,HK2,⟨m2,rfl⟩⟩:=hrel
     cases gk with
     | zero => exact absurd HA.out (by simp [impl_digits.l0])
     | succ k2 =>
      have H:=HA.out
      clear HA
      simp only [impl_digits.l0] at H
      by_cases c5:qa < (a0.size:Int)
      ·rw [if_pos c5] at H
       have c5b0:decide (qa < (a0.size:Int))=true:=decide_eq_true c5
       clear c5
       by_cases c6:0≤qa
       ·rw [if_pos c6] at H
        have c6b0:decide (0≤qa)=true:=decide_eq_true c6
        clear c6
        by_cases c7:qa < (a0.size:Int)
        ·rw [if_pos c7] at H
         have c7b0:decide (qa < (a0.size:Int))=true:=decide_eq_true c7
         clear c7
         by_cases c9:(bt a0 qa) < 48
         ·rw [if_pos c9] at H
          have c9b0:decide ((bt a0 qa) < 48)=true:=decide_eq_true c9
          clear c9
          simp only [Option.some.injEq,Prod.mk.injEq] at H
          obtain⟨rfl,rfl⟩:=H
          have p8:0≤(qa:Int):=of_decide_eq_true (by first|(with_reducible assumption)|assumption)
          have q8:qa < (a0.size:Int):=of_decide_eq_true (by first|(with_reducible assumption)|assumption)
          have hx8:=bt_at a0 qa
          replace p8:=eq_true p8
          replace q8:=eq_true q8
          go_wp2
          go_ret2
          exact⟨by first|rfl|(simp;done)|(simp [*];done),by repeat(first|exact Gc _|apply Gd)⟩
         ·rw [if_neg c9] at H
          have c9b0:decide ((bt a0 qa) < 48)=false:=decide_eq_false c9
          clear c9
          by_cases c11:(bt a0 qa) > 57
          ·rw [if_pos c11] at H
           have c11b0:decide (57 < (bt a0 qa))=true:=decide_eq_true c11
           clear c11
           simp only [Option.some.injEq,Prod.mk.injEq] at H
           obtain⟨rfl,rfl⟩:=H
           have p8:0≤(qa:Int):=of_decide_eq_true (by first|(with_reducible assumption)|assumption)
           have q8:qa < (a0.size:Int):=of_decide_eq_true (by first|(with_reducible assumption)|assumption)
           have hx8:=bt_at a0 qa
           replace p8:=eq_true p8
           replace q8:=eq_true q8
           have p10:0≤(qa:Int):=of_decide_eq_true (by first|(with_reducible assumption)|assumption)
           have q10:qa < (a0.size:Int):=of_decide_eq_true (by first|(with_reducible assumption)|assumption)
           have hx10:=bt_at a0 qa
           replace p10:=eq_true p10
           replace q10:=eq_true q10
           go_wp2
           go_ret2
           exact⟨by first|rfl|(simp;done)|(simp [*];done),by repeat(first|exact Gc _|apply Gd)⟩
          ·rw [if_neg c11] at H
           have c11b0:decide (57 < (bt a0 qa))=false:=decide_eq_false c11
           clear c11
           have H':=Ga H
           clear H
           have p8:0≤(qa:Int):=of_decide_eq_true (by first|(with_reducible assumption)|assumption)
           have q8:qa < (a0.size:Int):=of_decide_eq_true (by first|(with_reducible assumption)|assumption)
           have hx8:=bt_at a0 qa
           replace p8:=eq_true p8
           replace q8:=eq_true q8
           have p10:0≤(qa:Int):=of_decide_eq_true (by first|(with_reducible assumption)|assumption)
           have q10:qa < (a0.size:Int):=of_decide_eq_true (by first|(with_reducible assumption)|assumption)
           have hx10:=bt_at a0 qa
           replace p10:=eq_true p10
           replace q10:=eq_true q10
           have p12:0≤(qa:Int):=of_decide_eq_true (by first|(with_reducible assumption)|assumption)
           have q12:qa < (a0.size:Int):=of_decide_eq_true (by first|(with_reducible assumption)|assumption)
           have hx12:=bt_at a0 qa
           replace p12:=eq_true p12
           replace q12:=eq_true q12
           go_wp2
           go_roundg k2
           case measure=>have:=HJ1.out;have:=HK2.out;omega
           case rel=>exact⟨(wrap64 ((wrap64 (10*x4_2))+(((bt a0 qa) - 48) % 256))),(wrap64 (qa+1)),(by first|rfl|(simp;done)|(simp [*];done)),(by first|rfl|(simp;done)|(simp [*];done)),H',⟨by have:=HJ1.out;have:=HK2.out;omega⟩,by repeat(first|exact Gc _|apply Gd)⟩
        ·rw [if_neg c7] at H
         exact absurd H (by simp)
       ·rw [if_neg c6] at H
        exact absurd H (by simp)
      ·rw [if_neg c5] at H
       have c5b0:decide (qa < (a0.size:Int))=false:=decide_eq_false c5
       clear c5
       simp only [Option.some.injEq,Prod.mk.injEq] at H
       obtain⟨rfl,rfl⟩:=H
       go_wp2
       go_ret2
       exact⟨by first|rfl|(simp;done)|(simp [*];done),by repeat(first|exact Gc _|apply Gd)⟩

end Go.Proofs.YtidogkjhjmcliaaDoor.HFnExactReadTitles
