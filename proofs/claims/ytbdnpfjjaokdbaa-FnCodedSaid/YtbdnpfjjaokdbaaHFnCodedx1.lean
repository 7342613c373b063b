-- Laid by myprint.py, a program of this repo, out of the kit's printer and this repo's own texts (wip/hand).
import Derived.Test.YtbdnpfjjaokdbaaHFnCodedx0
namespace Go.Proofs.Ytbdnpfjjaokdbaa.HFnCoded
open Go.RowKit Go.Proofs.YtbdnpfjjaokdbaaW.PrintWords Go.Proofs.YtbdnpfjjaokdbaaW.PrintLast Go.Proofs.YtbdnpfjjaokdbaaW.PrintMore
attribute [local go_sem] max2_int min2_int max_two min_two max_three min_three max_four min_four   -- for this text's walks alone
set_option linter.unusedVariables false
set_option linter.unusedSimpArgs false
theorem Ba : type_of% @Aside0.mk := @Aside0.mk
theorem Bb : type_of% @pw_below_drewN := @pw_below_drewN
theorem Bc : type_of% @below_alloc := @below_alloc
theorem Bd : type_of% @below_drew1 := @below_drew1
theorem Be : type_of% @blk_frozen := @blk_frozen

/-! ### impl_in: function 49 -/
def impl_in.f (a0 : Int) (a1 : Int) (a2 : Int) : Option (Bool) := if a1 ≤ a0 then (some (decide (a0 ≤ a2))) else (some false)
set_option maxHeartbeats 8000000 in
set_option maxRecDepth 100000 in
theorem impl_in.calls (a0 : Int) (a1 : Int) (a2 : Int) (r : Bool) (w : World) (h : impl_in.f a0 a1 a2 = some r) :
  Calls Try.prog 49 #[.int .i64 a0,.int .i64 a1,.int .i64 a2] w fun e w'=>e=.returned (.bool r)∧Drawn0 w w':=by
 have H:(if a1≤a0 then (some (decide (a0≤a2))) else (some false))=some r:=h
 clear h
 by_cases c4:a1≤a0
 ·rw [if_pos c4] at H
  have c4b0:decide (a1≤a0)=true:=decide_eq_true c4
  clear c4
  obtain rfl:=Option.some.inj H
  go_enter Try.func49,Try.ntmps49
  go_wp2
  go_ret
  exact⟨by first|rfl|(simp;done)|(simp [*];done),by repeat(first|exact Drawn0.refl _|apply Drawn0.step)⟩
 ·rw [if_neg c4] at H
  have c4b0:decide (a1≤a0)=false:=decide_eq_false c4
  clear c4
  obtain rfl:=Option.some.inj H
  go_enter Try.func49,Try.ntmps49
  go_wp2
  go_ret
  exact⟨by first|rfl|(simp;done)|(simp [*];done),by repeat(first|exact Drawn0.refl _|apply Drawn0.step)⟩

/-! ### impl_isByte: function 52 -/
def impl_isByte.f (a0 : Int) : Option (Bool) := (impl_in.f a0 0 255).bind fun t101 => (some t101)
set_option maxHeartbeats 8000000 in
set_option maxRecDepth 100000 in
theorem impl_isByte.calls (a0 : Int) (r : Bool) (w : World) (h : impl_isByte.f a0 = some r) :
  Calls Try.prog 52 #[.int .i64 a0] w fun e w'=>e=.returned (.bool r)∧Drawn0 w w':=by
 have H:((impl_in.f a0 0 255).bind fun t101=>(some t101))=some r:=h
 clear h
 replace H:=Option.bind_eq_some_iff.mp H
 obtain⟨t101,A20,H⟩:=H
 replace H:(some t101)=some r:=H
 have A2:=Ba A20
 clear A20
 obtain rfl:=Option.some.inj H
 go_enter Try.func52,Try.ntmps52
 go_wp2_with (first|((with_reducible refine gate_callee (f:=49) rfl ?_);refine goesL_ (some 4) rfl rfl Try.func49 (by kernel_rfl) rfl #[.int .i64 a0,.int .i64 0,.int .i64 255] rfl (by(try simp only [List.map_toArray,List.map_cons,List.map_nil]);first|done|rfl|(simp only [List.length_drop,List.length_take];rfl)) ?_;(with_reducible refine(impl_in.calls a0 0 255 t101 _ A2.out).mono ?_);rintro e w' ⟨rfl,⟨nd,rfl⟩⟩;refine⟨_,rfl,?_⟩))
 go_ret
 exact⟨by first|rfl|(simp;done)|(simp [*];done),by repeat(first|exact Drawn0.refl _|apply Drawn0.step)⟩

/-! ### impl_PictureOk_1: function 51 -/
def impl_PictureOk_1.f (a0 : Int) : Option (Bool) := (impl_isByte.f a0).bind fun t102 => (some (!t102))
set_option maxHeartbeats 8000000 in
set_option maxRecDepth 100000 in
theorem impl_PictureOk_1.calls (a0 : Int) (r : Bool) (w : World) (h : impl_PictureOk_1.f a0 = some r) :
  Calls Try.prog 51 #[.int .i64 a0] w fun e w'=>e=.returned (.bool r)∧Drawn0 w w':=by
 have H:((impl_isByte.f a0).bind fun t102=>(some (!t102)))=some r:=h
 clear h
 replace H:=Option.bind_eq_some_iff.mp H
 obtain⟨t102,A20,H⟩:=H
 replace H:(some (!t102))=some r:=H
 have A2:=Ba A20
 clear A20
 obtain rfl:=Option.some.inj H
 go_enter Try.func51,Try.ntmps51
 go_wp2_with (first|((with_reducible refine gate_callee (f:=52) rfl ?_);refine goesL_ (some 4) rfl rfl Try.func52 (by kernel_rfl) rfl #[.int .i64 a0] rfl (by(try simp only [List.map_toArray,List.map_cons,List.map_nil]);first|done|rfl|(simp only [List.length_drop,List.length_take];rfl)) ?_;(with_reducible refine(impl_isByte.calls a0 t102 _ A2.out).mono ?_);rintro e w' ⟨rfl,⟨nd,rfl⟩⟩;refine⟨_,rfl,?_⟩))
 go_ret
 exact⟨by first|rfl|(simp;done)|(simp [*];done),by repeat(first|exact Drawn0.refl _|apply Drawn0.step)⟩

def impl_PictureOk_idxO {α : Type} (p : α → Option Bool) : List α → Int → Option Int
 | [], _ => some (-1)
 | x :: xs, i => (p x).bind fun b => if b = true then some i else impl_PictureOk_idxO p xs (i + 1)
theorem impl_PictureOk_idxO_mono {α : Type} {p q : α → Option Bool} (h : ∀ x, LeO (p x) (q x)) : ∀ (l : List α) (i : Int), LeO (impl_PictureOk_idxO p l i) (impl_PictureOk_idxO q l i)
 | [], _ => LeO.refl _
 | x :: xs, i => LeO.bind (h x) fun _ => LeO.ite (LeO.refl _) (impl_PictureOk_idxO_mono h xs (i + 1))
set_option maxHeartbeats 4000000 in
set_option maxRecDepth 100000 in
theorem impl_PictureOk_idx (A0 : Option Addr) (c0 : Nat) (l0 : List Int) (r : Int) (w : World) (hr0 : Kd.C (Kd.int .i64) w A0 l0.length l0) (hc0 : l0.length ≤ c0) (h : impl_PictureOk_idxO (fun x => impl_PictureOk_1.f x) l0 0 = some r) :
  Calls Try.prog 83 #[.slice A0 l0.length c0,.func (.func 51) #[] #[]] w fun e w'=>e=.returned (.int .i64 r)∧Below w.heap.size w w':=by
 have HR0:=Ba hr0
 have HC0:=Ba hc0
 have HM:=Ba hr0.2.1
 clear hr0 hc0
 have H:=Ba h
 clear h
 go_enter Try.func83,Try.ntmps83
 go_wp2
 go_loopg [5,8] l0.length (fun gg _ v8 w'=>∃ kk:Nat,Aside0 (kk≤l0.length∧l0.length - kk≤gg)∧v8=.int .i64 (kk:Int)∧Aside0 (impl_PictureOk_idxO (fun x=>impl_PictureOk_1.f x) (l0.drop kk) (kk:Int)=some r)∧Aside0 (Below w.heap.size w w'))
 case atStart=>exact⟨0,⟨Nat.zero_le _,Nat.le_refl _⟩,rfl,H,⟨Below.refl _ _⟩⟩
 case round=>
  obtain⟨kk,HK,rfl,HI,HB⟩:=hrel
  by_cases hlt:kk < l0.length
  ·obtain⟨ad,e,hx0⟩:=Kd.at_int HR0.out (kk:Int) (by omega) (by omega)
   cases e
   replace hx0:=(HB.out.cell (World.block_lt_of_cell? w _ hx0)).trans hx0
   simp only [Int.toNat_natCast] at hx0
   have HI2:((fun x=>impl_PictureOk_1.f x) (rd l0 (kk:Int))).bind (fun b=>if b=true then some (kk:Int) else impl_PictureOk_idxO (fun x=>impl_PictureOk_1.f x) (l0.drop (kk+1)) ((kk:Int)+1))=some r:=by
    have:=HI.out
    rw [List.drop_eq_getElem_cons hlt] at this
    have e:l0[kk]=rd l0 (kk:Int):=by simp [rd,List.getD_eq_getElem?_getD,List.getElem?_eq_getElem hlt]
    rw [e] at this
    exact this
   obtain⟨b,hb,HI3⟩:=Option.bind_eq_some_iff.1 HI2
   clear HI2
   have HI4:=Ba HI3
   clear HI3
   have hltb:decide ((kk:Int) < (l0.length:Int))=true:=decide_eq_true (by omega)
   have HM2:l0.length≤9223372036854775807:=HM.out
   have p0:(0≤(kk:Int))=True:=eq_true (by omega)
   have q0:((kk:Int) < (l0.length:Int))=True:=eq_true (by omega)
   cases b with
   | true =>
    have HI5:some (kk:Int)=some r:=HI4.out
    obtain rfl:=Option.some.inj HI5
    go_wp2_with (go_at_call 51;refine(impl_PictureOk_1.calls _ _ _ hb).mono ?_;rintro e w' ⟨rfl,hb'⟩)
    go_ret
    exact⟨rfl,below_then HB.out (below_size HB.out) (by first|exact hb'|exact hb'.below)⟩
   | false =>
    have HI5:impl_PictureOk_idxO (fun x=>impl_PictureOk_1.f x) (l0.drop (kk+1)) ((kk:Int)+1)=some r:=HI4.out
    have HI6:=Ba HI5
    clear HI5
    go_wp2_with (go_at_call 51;refine(impl_PictureOk_1.calls _ _ _ hb).mono ?_;rintro e w' ⟨rfl,hb'⟩)
    go_roundg (l0.length - (kk+1))
    case measure=>have:=HK.out;omega
    case rel=>exact⟨kk+1,⟨by omega,by omega⟩,by go_num,⟨by have:=HI6.out;simpa using this⟩,⟨below_then HB.out (below_size HB.out) (by first|exact hb'|exact hb'.below)⟩⟩
  ·have hltb:decide ((kk:Int) < (l0.length:Int))=false:=decide_eq_false (by omega)
   have HI5:some (-1:Int)=some r:=by
    have:=HI.out
    rwa [List.drop_of_length_le (by omega)] at this
   obtain rfl:=Option.some.inj HI5
   go_wp2
   go_ret
   exact⟨rfl,HB.out⟩
set_option maxHeartbeats 4000000 in
theorem impl_PictureOk_con (A0 : Option Addr) (c0 : Nat) (l0 : List Int) (r : Int) (w : World) (hr0 : Kd.C (Kd.int .i64) w A0 l0.length l0) (hc0 : l0.length ≤ c0) (h : impl_PictureOk_idxO (fun x => impl_PictureOk_1.f x) l0 0 = some r) :
  Calls Try.prog 50 #[.slice A0 l0.length c0,.func (.func 51) #[] #[]] w fun e w'=>e=.returned (.bool (decide (0≤r)))∧Below w.heap.size w w':=by
 have HR0:=Ba hr0
 have HC0:=Ba hc0
 clear hr0 hc0
 have H:=Ba h
 clear h
 go_enter Try.func50,Try.ntmps50
 go_wp2_with (go_at_call 83;refine(impl_PictureOk_idx _ _ l0 r _ HR0.out HC0.out H.out).mono ?_;rintro e w' ⟨rfl,hb⟩)
 go_ret
 exact⟨by simp [ge_iff_le],hb⟩
def impl_PictureOk_contains.f (l0 : List Int) : Option Bool := (impl_PictureOk_idxO (fun x => impl_PictureOk_1.f x) l0 0).bind fun t => some (decide (0 ≤ t))
theorem impl_PictureOk_contains.calls (A0 : Option Addr) (c0 : Nat) (l0 : List Int) (r : Bool) (w : World) (hr0 : Kd.C (Kd.int .i64) w A0 l0.length l0) (hc0 : l0.length ≤ c0) (h : impl_PictureOk_contains.f l0 = some r) :
  Calls Try.prog 50 #[.slice A0 l0.length c0,.func (.func 51) #[] #[]] w fun e w'=>e=.returned (.bool r)∧Below w.heap.size w w':=by
 obtain⟨t,ht,h2⟩:=Option.bind_eq_some_iff.1 h
 obtain rfl:=Option.some.inj h2
 exact impl_PictureOk_con _ _ l0 t w hr0 hc0 ht

/-! ### impl_PictureOk: function 17 -/
def impl_PictureOk.f (a0_0 : Int) (a0_1 : Int) (l0_2 : List Int) : Option (Bool) := if (Int.tmod a0_0 4) = 0 then (if (Int.tmod a0_1 4) = 0 then ((impl_in.f a0_0 4 16).bind fun t104 => (if t104 = true then ((impl_in.f a0_1 4 16).bind fun t105 => (if t105 = true then (if (l0_2.length : Int) = (wrap64 (a0_0 * a0_1)) then ((impl_PictureOk_contains.f l0_2).bind fun t106 => (some (!t106))) else (some false)) else (some false))) else (some false))) else (some false)) else (some false)
set_option maxHeartbeats 8000000 in
set_option maxRecDepth 100000 in
theorem impl_PictureOk.calls (a0_0 : Int) (a0_1 : Int) (A0_2 : Option Addr) (c0_2 : Nat) (l0_2 : List Int) (r : Bool) (w : World) (hr0_2 : Kd.C (Kd.int .i64) w A0_2 l0_2.length l0_2) (hc0_2 : l0_2.length ≤ c0_2) (h : impl_PictureOk.f a0_0 a0_1 l0_2 = some r) :
  Calls Try.prog 17 #[.agg #[.int .i64 a0_0,.int .i64 a0_1,.slice A0_2 l0_2.length c0_2]] w fun e w'=>e=.returned (.bool r)∧Below w.heap.size w w':=by
 have hu27:=Try.underlying27
 have HR0_2:=Ba hr0_2
 have HC0_2:=Ba hc0_2
 clear hr0_2 hc0_2
 have HB:=Ba (Below.refl w.heap.size w)
 have H:(if (Int.tmod a0_0 4)=0 then (if (Int.tmod a0_1 4)=0 then ((impl_in.f a0_0 4 16).bind fun t104=>(if t104=true then ((impl_in.f a0_1 4 16).bind fun t105=>(if t105=true then (if (l0_2.length:Int)=(wrap64 (a0_0*a0_1)) then ((impl_PictureOk_contains.f l0_2).bind fun t106=>(some (!t106))) else (some false)) else (some false))) else (some false))) else (some false)) else (some false))=some r:=h
 clear h
 by_cases c2:(Int.tmod a0_0 4)=0
 ·rw [if_pos c2] at H
  have c2b0:((Int.tmod a0_0 4) == 0)=true:=beq_iff_eq.mpr c2
  have c2b1:((Int.tmod a0_0 4) != 0)=false:=bne_eq_false_iff_eq.mpr c2
  clear c2
  by_cases c3:(Int.tmod a0_1 4)=0
  ·rw [if_pos c3] at H
   have c3b0:((Int.tmod a0_1 4) == 0)=true:=beq_iff_eq.mpr c3
   have c3b1:((Int.tmod a0_1 4) != 0)=false:=bne_eq_false_iff_eq.mpr c3
   clear c3
   replace H:=Option.bind_eq_some_iff.mp H
   obtain⟨t104,A40,H⟩:=H
   replace H:(if t104=true then ((impl_in.f a0_1 4 16).bind fun t105=>(if t105=true then (if (l0_2.length:Int)=(wrap64 (a0_0*a0_1)) then ((impl_PictureOk_contains.f l0_2).bind fun t106=>(some (!t106))) else (some false)) else (some false))) else (some false))=some r:=H
   have A4:=Ba A40
   clear A40
   by_cases c5:t104=true
   ·subst c5
    have H1:((impl_in.f a0_1 4 16).bind fun t105=>(if t105=true then (if (l0_2.length:Int)=(wrap64 (a0_0*a0_1)) then ((impl_PictureOk_contains.f l0_2).bind fun t106=>(some (!t106))) else (some false)) else (some false)))=some r:=by rw [if_pos rfl] at H;exact H
    clear H
    have H:=H1
    clear H1
    replace H:=Option.bind_eq_some_iff.mp H
    obtain⟨t105,A60,H⟩:=H
    replace H:(if t105=true then (if (l0_2.length:Int)=(wrap64 (a0_0*a0_1)) then ((impl_PictureOk_contains.f l0_2).bind fun t106=>(some (!t106))) else (some false)) else (some false))=some r:=H
    have A6:=Ba A60
    clear A60
    by_cases c7:t105=true
    ·subst c7
     have H1:(if (l0_2.length:Int)=(wrap64 (a0_0*a0_1)) then ((impl_PictureOk_contains.f l0_2).bind fun t106=>(some (!t106))) else (some false))=some r:=by rw [if_pos rfl] at H;exact H
     clear H
     have H:=H1
     clear H1
     by_cases c8:(l0_2.length:Int)=(wrap64 (a0_0*a0_1))
     ·rw [if_pos c8] at H
      have c8b0:((l0_2.length:Int) == (wrap64 (a0_0*a0_1)))=true:=beq_iff_eq.mpr c8
      have c8b1:((l0_2.length:Int) != (wrap64 (a0_0*a0_1)))=false:=bne_eq_false_iff_eq.mpr c8
      clear c8
      replace H:=Option.bind_eq_some_iff.mp H
      obtain⟨t106,A90,H⟩:=H
      replace H:(some (!t106))=some r:=H
      have A9:=Ba A90
      clear A90
      obtain rfl:=Option.some.inj H
      go_enter Try.func17,Try.ntmps17
      go_wp2_with (first|((with_reducible refine gate_dst (N:=1) rfl ?_);refine box_event ?hg (N:=1) ?hd (cs:=#[.int .i64 a0_0,.int .i64 a0_1,.slice A0_2 l0_2.length c0_2]) (t:=27) ?hr ?_;(case hd=>rfl);(case hg=>rfl);(case hr=>first|(go_simp;done)|(go_simp;rfl));intro gb103 hg w10 hbox hb;have n0_:=Ba (below_step (by repeat(first|(with_reducible first|exact HB.out|apply Bc|apply Bb|apply Bd)|exact HB.out)) hb);have n1_:=Ba (hbox);have n2_:=Ba ((by rw [hg];exact(below_size (by repeat(first|(with_reducible first|exact HB.out|apply Bc|apply Bb|apply Bd)|exact HB.out))):w.heap.size≤gb103));have n3_:=Ba ((by rw [hg];exact(below_size (by repeat(first|(with_reducible first|exact HB.out|apply Bc|apply Bb|apply Bd)|exact HB.out))):w.heap.size≤gb103));clear HB;have HB:=n0_;have BK103:=n1_;have GW103:=n2_;have GE103:=n3_;clear n0_ n1_ n2_ n3_;clear hb hbox hg;have hcz11_0:w10.cell? ⟨gb103,0,none⟩=some (.int .i64 a0_0):=(blk_cell BK103.out 0).trans rfl;have hcz11_1:w10.cell? ⟨gb103,1,none⟩=some (.int .i64 a0_1):=(blk_cell BK103.out 1).trans rfl;have hcz11_2:w10.cell? ⟨gb103,2,none⟩=some (.slice A0_2 l0_2.length c0_2):=(blk_cell BK103.out 2).trans rfl;have hfz11_0:=Be BK103.out 0;have hfz11_1:=Be BK103.out 1;have hfz11_2:=Be BK103.out 2)|(go_at_call 49;(with_reducible refine(impl_in.calls a0_0 4 16 true _ A4.out).mono ?_);rintro e w' ⟨rfl,⟨nd,rfl⟩⟩)|(go_at_call 49;(with_reducible refine(impl_in.calls a0_1 4 16 true _ A6.out).mono ?_);rintro e w' ⟨rfl,⟨nd,rfl⟩⟩)|(go_at_call 50;(with_reducible refine(impl_PictureOk_contains.calls _ _ l0_2 t106 _ ?side1 ?side2 A9.out).mono ?_);(case side1=>repeat(first|exact(Kd.C_below HR0_2.out (by repeat(first|(with_reducible first|exact HB.out|apply Bc|apply Bb|apply Bd|refine below_set ?_ GE103.out)|exact HB.out)))|(with_reducible refine Kd.C_alloc ?_ _)|(with_reducible refine Kd.C_drewN ?_ _)|(with_reducible refine Kd.C_drew ?_)));(case side2=>exact HC0_2.out);rintro e w12 ⟨rfl,hb⟩;have n0_:=Ba (blk_below (g:=gb103) (o:=.cells #[.int .i64 a0_0,.int .i64 a0_1,.slice A0_2 l0_2.length c0_2] 27 (0,0)) (by(with_reducible repeat(first|refine blk_drewN ?_ _|refine blk_drew ?_|refine blk_alloc ?_ _));exact BK103.out) hb);have n1_:=Ba (below_step (by repeat(first|(with_reducible first|exact HB.out|apply Bc|apply Bb|apply Bd|refine below_set ?_ GE103.out)|exact HB.out)) hb);clear BK103;clear HB;have BK103:=n0_;have HB:=n1_;clear n0_ n1_;(try clear hb);(try clear hb2);(try clear hk);(try clear hi)))
      go_ret
      exact⟨by first|rfl|(simp [errW_none,errW_some] <;> rfl)|(simp [*,errW_none,errW_some] <;> rfl),by repeat(first|(with_reducible first|exact HB.out|apply Bc|apply Bb|apply Bd|refine below_set ?_ GE103.out)|exact HB.out)⟩
     ·rw [if_neg c8] at H
      have c8b0:((l0_2.length:Int) == (wrap64 (a0_0*a0_1)))=false:=beq_eq_false_iff_ne.mpr c8
      have c8b1:((l0_2.length:Int) != (wrap64 (a0_0*a0_1)))=true:=bne_iff_ne.mpr c8
      obtain rfl:=Option.some.inj H
      go_enter Try.func17,Try.ntmps17
      go_wp2_with (first|((with_reducible refine gate_dst (N:=1) rfl ?_);refine box_event ?hg (N:=1) ?hd (cs:=#[.int .i64 a0_0,.int .i64 a0_1,.slice A0_2 l0_2.length c0_2]) (t:=27) ?hr ?_;(case hd=>rfl);(case hg=>rfl);(case hr=>first|(go_simp;done)|(go_simp;rfl));intro gb103 hg w13 hbox hb;have n0_:=Ba (below_step (by repeat(first|(with_reducible first|exact HB.out|apply Bc|apply Bb|apply Bd)|exact HB.out)) hb);have n1_:=Ba (hbox);have n2_:=Ba ((by rw [hg];exact(below_size (by repeat(first|(with_reducible first|exact HB.out|apply Bc|apply Bb|apply Bd)|exact HB.out))):w.heap.size≤gb103));have n3_:=Ba ((by rw [hg];exact(below_size (by repeat(first|(with_reducible first|exact HB.out|apply Bc|apply Bb|apply Bd)|exact HB.out))):w.heap.size≤gb103));clear HB;have HB:=n0_;have BK103:=n1_;have GW103:=n2_;have GE103:=n3_;clear n0_ n1_ n2_ n3_;clear hb hbox hg;have hcz14_0:w13.cell? ⟨gb103,0,none⟩=some (.int .i64 a0_0):=(blk_cell BK103.out 0).trans rfl;have hcz14_1:w13.cell? ⟨gb103,1,none⟩=some (.int .i64 a0_1):=(blk_cell BK103.out 1).trans rfl;have hcz14_2:w13.cell? ⟨gb103,2,none⟩=some (.slice A0_2 l0_2.length c0_2):=(blk_cell BK103.out 2).trans rfl;have hfz14_0:=Be BK103.out 0;have hfz14_1:=Be BK103.out 1;have hfz14_2:=Be BK103.out 2)|(go_at_call 49;(with_reducible refine(impl_in.calls a0_0 4 16 true _ A4.out).mono ?_);rintro e w' ⟨rfl,⟨nd,rfl⟩⟩)|(go_at_call 49;(with_reducible refine(impl_in.calls a0_1 4 16 true _ A6.out).mono ?_);rintro e w' ⟨rfl,⟨nd,rfl⟩⟩))
      go_ret
      exact⟨by first|rfl|(simp [errW_none,errW_some] <;> rfl)|(simp [*,errW_none,errW_some] <;> rfl),by repeat(first|(with_reducible first|exact HB.out|apply Bc|apply Bb|apply Bd|refine below_set ?_ GE103.out)|exact HB.out)⟩
    ·replace c7:=Bool.eq_false_iff.mpr c7
     subst c7
     have H1:(some false)=some r:=by rw [if_neg (show ¬ (false=true) by decide)] at H;exact H
     clear H
     have H:=H1
     clear H1
     obtain rfl:=Option.some.inj H
     go_enter Try.func17,Try.ntmps17
     go_wp2_with (first|((with_reducible refine gate_dst (N:=1) rfl ?_);refine box_event ?hg (N:=1) ?hd (cs:=#[.int .i64 a0_0,.int .i64 a0_1,.slice A0_2 l0_2.length c0_2]) (t:=27) ?hr ?_;(case hd=>rfl);(case hg=>rfl);(case hr=>first|(go_simp;done)|(go_simp;rfl));intro gb103 hg w15 hbox hb;have n0_:=Ba (below_step (by repeat(first|(with_reducible first|exact HB.out|apply Bc|apply Bb|apply Bd)|exact HB.out)) hb);have n1_:=Ba (hbox);have n2_:=Ba ((by rw [hg];exact(below_size (by repeat(first|(with_reducible first|exact HB.out|apply Bc|apply Bb|apply Bd)|exact HB.out))):w.heap.size≤gb103));have n3_:=Ba ((by rw [hg];exact(below_size (by repeat(first|(with_reducible first|exact HB.out|apply Bc|apply Bb|apply Bd)|exact HB.out))):w.heap.size≤gb103));clear HB;have HB:=n0_;have BK103:=n1_;have GW103:=n2_;have GE103:=n3_;clear n0_ n1_ n2_ n3_;clear hb hbox hg;have hcz16_0:w15.cell? ⟨gb103,0,none⟩=some (.int .i64 a0_0):=(blk_cell BK103.out 0).trans rfl;have hcz16_1:w15.cell? ⟨gb103,1,none⟩=some (.int .i64 a0_1):=(blk_cell BK103.out 1).trans rfl;have hcz16_2:w15.cell? ⟨gb103,2,none⟩=some (.slice A0_2 l0_2.length c0_2):=(blk_cell BK103.out 2).trans rfl;have hfz16_0:=Be BK103.out 0;have hfz16_1:=Be BK103.out 1;have hfz16_2:=Be BK103.out 2)|(go_at_call 49;(with_reducible refine(impl_in.calls a0_0 4 16 true _ A4.out).mono ?_);rintro e w' ⟨rfl,⟨nd,rfl⟩⟩)|(go_at_call 49;(with_reducible refine(impl_in.calls a0_1 4 16 false _ A6.out).mono ?_);rintro e w' ⟨rfl,⟨nd,rfl⟩⟩))
     go_ret
     exact⟨by first|rfl|(simp [errW_none,errW_some] <;> rfl)|(simp [*,errW_none,errW_some] <;> rfl),by repeat(first|(with_reducible first|exact HB.out|apply Bc|apply Bb|apply Bd|refine below_set ?_ GE103.out)|exact HB.out)⟩
   ·replace c5:=Bool.eq_false_iff.mpr c5
    subst c5
    have H1:(some false)=some r:=by rw [if_neg (show ¬ (false=true) by decide)] at H;exact H
    clear H
    have H:=H1
    clear H1
    obtain rfl:=Option.some.inj H
    go_enter Try.func17,Try.ntmps17
    go_wp2_with (first|((with_reducible refine gate_dst (N:=1) rfl ?_);refine box_event ?hg (N:=1) ?hd (cs:=#[.int .i64 a0_0,.int .i64 a0_1,.slice A0_2 l0_2.length c0_2]) (t:=27) ?hr ?_;(case hd=>rfl);(case hg=>rfl);(case hr=>first|(go_simp;done)|(go_simp;rfl));intro gb103 hg w17 hbox hb;have n0_:=Ba (below_step (by repeat(first|(with_reducible first|exact HB.out|apply Bc|apply Bb|apply Bd)|exact HB.out)) hb);have n1_:=Ba (hbox);have n2_:=Ba ((by rw [hg];exact(below_size (by repeat(first|(with_reducible first|exact HB.out|apply Bc|apply Bb|apply Bd)|exact HB.out))):w.heap.size≤gb103));have n3_:=Ba ((by rw [hg];exact(below_size (by repeat(first|(with_reducible first|exact HB.out|apply Bc|apply Bb|apply Bd)|exact HB.out))):w.heap.size≤gb103));clear HB;have HB:=n0_;have BK103:=n1_;have GW103:=n2_;have GE103:=n3_;clear n0_ n1_ n2_ n3_;clear hb hbox hg;have hcz18_0:w17.cell? ⟨gb103,0,none⟩=some (.int .i64 a0_0):=(blk_cell BK103.out 0).trans rfl;have hcz18_1:w17.cell? ⟨gb103,1,none⟩=some (.int .i64 a0_1):=(blk_cell BK103.out 1).trans rfl;have hcz18_2:w17.cell? ⟨gb103,2,none⟩=some (.slice A0_2 l0_2.length c0_2):=(blk_cell BK103.out 2).trans rfl;have hfz18_0:=Be BK103.out 0;have hfz18_1:=Be BK103.out 1;have hfz18_2:=Be BK103.out 2)|(go_at_call 49;(with_reducible refine(impl_in.calls a0_0 4 16 false _ A4.out).mono ?_);rintro e w' ⟨rfl,⟨nd,rfl⟩⟩))
    go_ret
    exact⟨by first|rfl|(simp [errW_none,errW_some] <;> rfl)|(simp [*,errW_none,errW_some] <;> rfl),by repeat(first|(with_reducible first|exact HB.out|apply Bc|apply Bb|apply Bd|refine below_set ?_ GE103.out)|exact HB.out)⟩
  ·rw [if_neg c3] at H
   have c3b0:((Int.tmod a0_1 4) == 0)=false:=beq_eq_false_iff_ne.mpr c3
   have c3b1:((Int.tmod a0_1 4) != 0)=true:=bne_iff_ne.mpr c3
   obtain rfl:=Option.some.inj H
   go_enter Try.func17,Try.ntmps17
   go_wp2_with (first|((with_reducible refine gate_dst (N:=1) rfl ?_);refine box_event ?hg (N:=1) ?hd (cs:=#[.int .i64 a0_0,.int .i64 a0_1,.slice A0_2 l0_2.length c0_2]) (t:=27) ?hr ?_;(case hd=>rfl);(case hg=>rfl);(case hr=>first|(go_simp;done)|(go_simp;rfl));intro gb103 hg w19 hbox hb;have n0_:=Ba (below_step (by repeat(first|(with_reducible first|exact HB.out|apply Bc|apply Bb|apply Bd)|exact HB.out)) hb);have n1_:=Ba (hbox);have n2_:=Ba ((by rw [hg];exact(below_size (by repeat(first|(with_reducible first|exact HB.out|apply Bc|apply Bb|apply Bd)|exact HB.out))):w.heap.size≤gb103));have n3_:=Ba ((by rw [hg];exact(below_size (by repeat(first|(with_reducible first|exact HB.out|apply Bc|apply Bb|apply Bd)|exact HB.out))):w.heap.size≤gb103));clear HB;have HB:=n0_;have BK103:=n1_;have GW103:=n2_;have GE103:=n3_;clear n0_ n1_ n2_ n3_;clear hb hbox hg;have hcz20_0:w19.cell? ⟨gb103,0,none⟩=some (.int .i64 a0_0):=(blk_cell BK103.out 0).trans rfl;have hcz20_1:w19.cell? ⟨gb103,1,none⟩=some (.int .i64 a0_1):=(blk_cell BK103.out 1).trans rfl;have hcz20_2:w19.cell? ⟨gb103,2,none⟩=some (.slice A0_2 l0_2.length c0_2):=(blk_cell BK103.out 2).trans rfl;have hfz20_0:=Be BK103.out 0;have hfz20_1:=Be BK103.out 1;have hfz20_2:=Be BK103.out 2))
   go_ret
   exact⟨by first|rfl|(simp [errW_none,errW_some] <;> rfl)|(simp [*,errW_none,errW_some] <;> rfl),by repeat(first|(with_reducible first|exact HB.out|apply Bc|apply Bb|apply Bd|refine below_set ?_ GE103.out)|exact HB.out)⟩
 ·rw [if_neg c2] at H
  have c2b0:((Int.tmod a0_0 4) == 0)=false:=beq_eq_false_iff_ne.mpr c2
  have c2b1:((Int.tmod a0_0 4) != 0)=true:=bne_iff_ne.mpr c2
  obtain rfl:=Option.some.inj H
  go_enter Try.func17,Try.ntmps17
  go_wp2_with (first|((with_reducible refine gate_dst (N:=1) rfl ?_);refine box_event ?hg (N:=1) ?hd (cs:=#[.int .i64 a0_0,.int .i64 a0_1,.slice A0_2 l0_2.length c0_2]) (t:=27) ?hr ?_;(case hd=>rfl);(case hg=>rfl);(case hr=>first|(go_simp;done)|(go_simp;rfl));intro gb103 hg w21 hbox hb;have n0_:=Ba (below_step (by repeat(first|(with_reducible first|exact HB.out|apply Bc|apply Bb|apply Bd)|exact HB.out)) hb);have n1_:=Ba (hbox);have n2_:=Ba ((by rw [hg];exact(below_size (by repeat(first|(with_reducible first|exact HB.out|apply Bc|apply Bb|apply Bd)|exact HB.out))):w.heap.size≤gb103));have n3_:=Ba ((by rw [hg];exact(below_size (by repeat(first|(with_reducible first|exact HB.out|apply Bc|apply Bb|apply Bd)|exact HB.out))):w.heap.size≤gb103));clear HB;have HB:=n0_;have BK103:=n1_;have GW103:=n2_;have GE103:=n3_;clear n0_ n1_ n2_ n3_;clear hb hbox hg;have hcz22_0:w21.cell? ⟨gb103,0,none⟩=some (.int .i64 a0_0):=(blk_cell BK103.out 0).trans rfl;have hcz22_1:w21.cell? ⟨gb103,1,none⟩=some (.int .i64 a0_1):=(blk_cell BK103.out 1).trans rfl;have hcz22_2:w21.cell? ⟨gb103,2,none⟩=some (.slice A0_2 l0_2.length c0_2):=(blk_cell BK103.out 2).trans rfl;have hfz22_0:=Be BK103.out 0;have hfz22_1:=Be BK103.out 1;have hfz22_2:=Be BK103.out 2))
  go_ret
  exact⟨by first|rfl|(simp [errW_none,errW_some] <;> rfl)|(simp [*,errW_none,errW_some] <;> rfl),by repeat(first|(with_reducible first|exact HB.out|apply Bc|apply Bb|apply Bd|refine below_set ?_ GE103.out)|exact HB.out)⟩

/-! ### laws_big: function 27 -/
def laws_big.f (l0 : List Int) : Option (Bool) := some (decide ((l0.length : Int) > 4096))
set_option maxHeartbeats 8000000 in
set_option maxRecDepth 100000 in
theorem laws_big.calls (A0 : Option Addr) (c0 : Nat) (l0 : List Int) (r : Bool) (w : World) (hr0 : Kd.C (Kd.int .u8) w A0 l0.length l0) (hc0 : l0.length ≤ c0) (h : laws_big.f l0 = some r) :
  Calls Try.prog 27 #[.slice A0 l0.length c0] w fun e w'=>e=.returned (.bool r)∧Drawn0 w w':=by
 have HR0:=Ba hr0
 have HC0:=Ba hc0
 clear hr0 hc0
 have H:(some (decide ((l0.length:Int) > 4096)))=some r:=h
 clear h
 obtain rfl:=Option.some.inj H
 go_enter Try.func27,Try.ntmps27
 go_wp2
 go_ret
 exact⟨by first|rfl|(simp;done)|(simp [*];done),by repeat(first|exact Drawn0.refl _|apply Drawn0.step)⟩

/-! ### laws_sameInts: function 29 -/
def laws_sameInts.l0 : Nat → List Int → List Int → Int → Option (Bool)
 | 0, _, _, _ => none
 | k + 1, x0, x1, x5 => if x5 < (x0.length : Int) then (if 0 ≤ x5 then (if x5 < (x1.length : Int) then (if (rd x0 x5) = (rd x1 x5) then (laws_sameInts.l0 k x0 x1 (wrap64 (x5 + 1))) else (some false)) else (none)) else (none)) else (some true)
def laws_sameInts.f (k : Nat) (l0 : List Int) (l1 : List Int) : Option (Bool) := if (l0.length : Int) = (l1.length : Int) then (laws_sameInts.l0 k l0 l1 0) else (some false)
theorem laws_sameInts.mono_l : ∀ k, (∀ y0 y1 y2, LeO (laws_sameInts.l0 k y0 y1 y2) (laws_sameInts.l0 (k + 1) y0 y1 y2))
 | 0 => fun _ _ _ r h => by simp [laws_sameInts.l0] at h
 | k + 1 => by
  have ih0:=laws_sameInts.mono_l k
  ·intro y0 y1 y2
   unfold laws_sameInts.l0
   repeat' first
   | (with_reducible exact ih0 _ _ _)
   | (with_reducible exact LeO.refl _)
   | (with_reducible exact LeO.none _)
   | (with_reducible refine LeO.ite ?_ ?_)
   | (with_reducible refine LeO.bind ?_ (fun _ => ?_))
   | exact ih0 _ _ _
   | exact LeO.none _
   | refine LeO.ite ?_ ?_
   | refine LeO.bind ?_ (fun _ => ?_)
theorem laws_sameInts.mono : ∀ a0 a1 k, LeO (laws_sameInts.f k a0 a1) (laws_sameInts.f (k + 1) a0 a1) := by
 intro a0 a1 k
 have ih0:=laws_sameInts.mono_l k
 unfold laws_sameInts.f
 repeat' first
   | (with_reducible exact ih0 _ _ _)
   | (with_reducible exact LeO.refl _)
   | (with_reducible exact LeO.none _)
   | (with_reducible refine LeO.ite ?_ ?_)
   | (with_reducible refine LeO.bind ?_ (fun _ => ?_))
   | exact ih0 _ _ _
   | exact LeO.none _
   | refine LeO.ite ?_ ?_
   | refine LeO.bind ?_ (fun _ => ?_)
set_option maxHeartbeats 8000000 in
set_option maxRecDepth 100000 in
theorem laws_sameInts.calls (k : Nat) (A0 : Option Addr) (c0 : Nat) (l0 : List Int) (A1 : Option Addr) (c1 : Nat) (l1 : List Int) (r : Bool) (w : World) (hr0 : Kd.C (Kd.int .i64) w A0 l0.length l0) (hc0 : l0.length ≤ c0) (hr1 : Kd.C (Kd.int .i64) w A1 l1.length l1) (hc1 : l1.length ≤ c1) (h : laws_sameInts.f k l0 l1 = some r) :
  Calls Try.prog 29 #[.slice A0 l0.length c0,.slice A1 l1.length c1] w fun e w'=>e=.returned (.bool r)∧Drawn0 w w':=by
 have HR0:=Ba hr0
 have HC0:=Ba hc0
 clear hr0 hc0
 have HR1:=Ba hr1
 have HC1:=Ba hc1
 clear hr1 hc1
 have H:(if (l0.length:Int)=(l1.length:Int) then (laws_sameInts.l0 k l0 l1 0) else (some false))=some r:=h
 clear h
 by_cases c3:(l0.length:Int)=(l1.length:Int)
 ·rw [if_pos c3] at H
  have c3b0:((l0.length:Int) == (l1.length:Int))=true:=beq_iff_eq.mpr c3
  have c3b1:((l0.length:Int) != (l1.length:Int))=false:=bne_eq_false_iff_eq.mpr c3
  have c3b2:(l0.length == l1.length)=true:=by first|simpa using c3|(simp at c3 ⊢;omega)
  clear c3
  have H':=Ba H
  clear H
  go_enter Try.func29,Try.ntmps29
  go_wp2
  repeat(go_quiet (fail);try go_wp2)
  go_loopg [5] k (fun kq v5 w'=>∃ (qa:Int),v5=.int .i64 qa∧Aside0 (laws_sameInts.l0 kq l0 l1 qa=some r)∧Aside0 (kq≤k)∧Drawn0 w w')
  case atStart=>exact⟨(0),(by first|rfl|(simp;done)|(simp [*];done)),H',⟨Nat.le_refl _⟩,by repeat(first|exact Drawn0.refl _|apply Drawn0.step)⟩
  case round=>
   clear H'
   try clear c1
   try clear c2
   try clear p2
   try clear c3
   try clear c3b0
   try clear c3b1
   try clear c3b2
   obtain⟨qa,rfl,HA,HK1,⟨m1,rfl⟩⟩:=hrel
   cases gk with
   | zero => exact absurd HA.out (by simp [laws_sameInts.l0])
   | succ k1 =>
    have H:=HA.out
    clear HA
    simp only [laws_sameInts.l0] at H
    by_cases c4:qa < (l0.length:Int)
    ·rw [if_pos c4] at H
     have c4b0:decide (qa < (l0.length:Int))=true:=decide_eq_true c4
     clear c4
     by_cases c5:0≤qa
     ·rw [if_pos c5] at H
      have c5b0:decide (0≤qa)=true:=decide_eq_true c5
      clear c5
      by_cases c6:qa < (l1.length:Int)
      ·rw [if_pos c6] at H
       have c6b0:decide (qa < (l1.length:Int))=true:=decide_eq_true c6
       clear c6
       by_cases c7:(rd l0 qa)=(rd l1 qa)
       ·rw [if_pos c7] at H
        have c7b0:((rd l0 qa) == (rd l1 qa))=true:=beq_iff_eq.mpr c7
        have c7b1:((rd l0 qa) != (rd l1 qa))=false:=bne_eq_false_iff_eq.mpr c7
        clear c7
        have H':=Ba H
        clear H
        have p107:0≤(qa:Int):=of_decide_eq_true (by first|(with_reducible assumption)|assumption)
        have q107:qa < (l0.length:Int):=of_decide_eq_true (by first|(with_reducible assumption)|assumption)
        obtain⟨ad107,e107,hx107_0⟩:=Kd.at_int HR0.out qa p107 q107
        cases e107
        replace p107:=eq_true p107
        replace q107:=eq_true q107
        have p108:0≤(qa:Int):=of_decide_eq_true (by first|(with_reducible assumption)|assumption)
        have q108:qa < (l1.length:Int):=of_decide_eq_true (by first|(with_reducible assumption)|assumption)
        obtain⟨ad108,e108,hx108_0⟩:=Kd.at_int HR1.out qa p108 q108
        cases e108
        replace p108:=eq_true p108
        replace q108:=eq_true q108
        go_wp2
        repeat(go_quiet (fail);try go_wp2)
        go_roundg k1
        case measure=>have:=HK1.out;omega
        case rel=>exact⟨(wrap64 (qa+1)),(by first|rfl|(simp;done)|(simp [*];done)),H',⟨by have:=HK1.out;omega⟩,by repeat(first|exact Drawn0.refl _|apply Drawn0.step)⟩
       ·rw [if_neg c7] at H
        have c7b0:((rd l0 qa) == (rd l1 qa))=false:=beq_eq_false_iff_ne.mpr c7
        have c7b1:((rd l0 qa) != (rd l1 qa))=true:=bne_iff_ne.mpr c7
        obtain rfl:=Option.some.inj H
        have p107:0≤(qa:Int):=of_decide_eq_true (by first|(with_reducible assumption)|assumption)
        have q107:qa < (l0.length:Int):=of_decide_eq_true (by first|(with_reducible assumption)|assumption)
        obtain⟨ad107,e107,hx107_0⟩:=Kd.at_int HR0.out qa p107 q107
        cases e107
        replace p107:=eq_true p107
        replace q107:=eq_true q107
        have p108:0≤(qa:Int):=of_decide_eq_true (by first|(with_reducible assumption)|assumption)
        have q108:qa < (l1.length:Int):=of_decide_eq_true (by first|(with_reducible assumption)|assumption)
        obtain⟨ad108,e108,hx108_0⟩:=Kd.at_int HR1.out qa p108 q108
        cases e108
        replace p108:=eq_true p108
        replace q108:=eq_true q108
        go_wp2
        repeat(go_quiet (fail);try go_wp2)
        go_ret
        exact⟨by first|rfl|(simp;done)|(simp [*];done),by repeat(first|exact Drawn0.refl _|apply Drawn0.step)⟩
      ·rw [if_neg c6] at H
       exact absurd H (by simp)
     ·rw [if_neg c5] at H
      exact absurd H (by simp)
    ·rw [if_neg c4] at H
     have c4b0:decide (qa < (l0.length:Int))=false:=decide_eq_false c4
     clear c4
     obtain rfl:=Option.some.inj H
     go_wp2
     repeat(go_quiet (fail);try go_wp2)
     go_ret
     exact⟨by first|rfl|(simp;done)|(simp [*];done),by repeat(first|exact Drawn0.refl _|apply Drawn0.step)⟩
 ·rw [if_neg c3] at H
  have c3b0:((l0.length:Int) == (l1.length:Int))=false:=beq_eq_false_iff_ne.mpr c3
  have c3b1:((l0.length:Int) != (l1.length:Int))=true:=bne_iff_ne.mpr c3
  have c3b2:(l0.length == l1.length)=false:=by first|simpa using c3|(simp at c3 ⊢;omega)
  obtain rfl:=Option.some.inj H
  go_enter Try.func29,Try.ntmps29
  go_wp2
  repeat(go_quiet (fail);try go_wp2)
  go_ret
  exact⟨by first|rfl|(simp;done)|(simp [*];done),by repeat(first|exact Drawn0.refl _|apply Drawn0.step)⟩

end Go.Proofs.Ytbdnpfjjaokdbaa.HFnCoded
