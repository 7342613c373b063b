-- Laid by myprint.py, a program of this repo, out of the kit's printer and this repo's own texts (wip/hand).
import Derived.Test.YtbdnpfjjaokdbaaHFnDecodedx0
namespace Go.Proofs.Ytbdnpfjjaokdbaa.HFnDecoded
open Go.RowKit Go.Proofs.YtbdnpfjjaokdbaaW.PrintWords Go.Proofs.YtbdnpfjjaokdbaaW.PrintLast Go.Proofs.YtbdnpfjjaokdbaaW.PrintMore
attribute [local go_sem] max2_int min2_int max_two min_two max_three min_three max_four min_four   -- for this text's walks alone
set_option linter.unusedVariables false
set_option linter.unusedSimpArgs false
theorem Fa : type_of% @Aside0.mk := @Aside0.mk
theorem Fb : type_of% @pw_below_drewN := @pw_below_drewN
theorem Fc : type_of% @below_alloc := @below_alloc
theorem Fd : type_of% @below_drew1 := @below_drew1
theorem Fe : type_of% @blk_frozen := @blk_frozen
theorem Ff : type_of% @blk_cell := @blk_cell
theorem Fg : type_of% @below_size := @below_size
theorem Fh : type_of% @below_step := @below_step
theorem Fi : type_of% @below_set := @below_set

/-! ### impl_in: function 49 -/
def impl_in.f (a0 : Int) (a1 : Int) (a2 : Int) : Option (Bool) := if a1 ≤ a0 then (some (decide (a0 ≤ a2))) else (some false)
set_option maxHeartbeats 8000000 in
set_option maxRecDepth 100000 in
theorem impl_in.calls (a0 : Int) (a1 : Int) (a2 : Int) (r : Bool) (w : World) (h : impl_in.f a0 a1 a2 = some r) :
  Calls Try.prog 49 #[.int .i64 a0,.int .i64 a1,.int .i64 a2] w fun e w'=>e=.returned (.bool r)∧Drawn0 w w':=by
 have H:(if a1≤a0 then (some (decide (a0≤a2))) else (some false))=some r:=h
 clear h
 by_cases c4:a1≤a0
 ·rw [if_pos c4] at H
  have c4b0:decide (a1≤a0)=true:=decide_eq_true c4
  clear c4
  obtain rfl:=Option.some.inj H
  go_enter Try.func49,Try.ntmps49
  go_wp2
  go_ret
  exact⟨by first|rfl|(simp;done)|(simp [*];done),by repeat(first|exact Drawn0.refl _|apply Drawn0.step)⟩
 ·rw [if_neg c4] at H
  have c4b0:decide (a1≤a0)=false:=decide_eq_false c4
  clear c4
  obtain rfl:=Option.some.inj H
  go_enter Try.func49,Try.ntmps49
  go_wp2
  go_ret
  exact⟨by first|rfl|(simp;done)|(simp [*];done),by repeat(first|exact Drawn0.refl _|apply Drawn0.step)⟩

/-! ### impl_isByte: function 52 -/
def impl_isByte.f (a0 : Int) : Option (Bool) := (impl_in.f a0 0 255).bind fun t186 => (some t186)
set_option maxHeartbeats 8000000 in
set_option maxRecDepth 100000 in
theorem impl_isByte.calls (a0 : Int) (r : Bool) (w : World) (h : impl_isByte.f a0 = some r) :
  Calls Try.prog 52 #[.int .i64 a0] w fun e w'=>e=.returned (.bool r)∧Drawn0 w w':=by
 have H:((impl_in.f a0 0 255).bind fun t186=>(some t186))=some r:=h
 clear h
 replace H:=Option.bind_eq_some_iff.mp H
 obtain⟨t186,A20,H⟩:=H
 replace H:(some t186)=some r:=H
 have A2:=Fa A20
 clear A20
 obtain rfl:=Option.some.inj H
 go_enter Try.func52,Try.ntmps52
 go_wp2_with (first|((with_reducible refine gate_callee (f:=49) rfl ?_);refine goesL_ (some 4) rfl rfl Try.func49 (by kernel_rfl) rfl #[.int .i64 a0,.int .i64 0,.int .i64 255] rfl (by(try simp only [List.map_toArray,List.map_cons,List.map_nil]);first|done|rfl|(simp only [List.length_drop,List.length_take];rfl)) ?_;(with_reducible refine(impl_in.calls a0 0 255 t186 _ A2.out).mono ?_);rintro e w' ⟨rfl,⟨nd,rfl⟩⟩;refine⟨_,rfl,?_⟩))
 go_ret
 exact⟨by first|rfl|(simp;done)|(simp [*];done),by repeat(first|exact Drawn0.refl _|apply Drawn0.step)⟩

/-! ### impl_PictureOk_1: function 51 -/
def impl_PictureOk_1.f (a0 : Int) : Option (Bool) := (impl_isByte.f a0).bind fun t187 => (some (!t187))
set_option maxHeartbeats 8000000 in
set_option maxRecDepth 100000 in
theorem impl_PictureOk_1.calls (a0 : Int) (r : Bool) (w : World) (h : impl_PictureOk_1.f a0 = some r) :
  Calls Try.prog 51 #[.int .i64 a0] w fun e w'=>e=.returned (.bool r)∧Drawn0 w w':=by
 have H:((impl_isByte.f a0).bind fun t187=>(some (!t187)))=some r:=h
 clear h
 replace H:=Option.bind_eq_some_iff.mp H
 obtain⟨t187,A20,H⟩:=H
 replace H:(some (!t187))=some r:=H
 have A2:=Fa A20
 clear A20
 obtain rfl:=Option.some.inj H
 go_enter Try.func51,Try.ntmps51
 go_wp2_with (first|((with_reducible refine gate_callee (f:=52) rfl ?_);refine goesL_ (some 4) rfl rfl Try.func52 (by kernel_rfl) rfl #[.int .i64 a0] rfl (by(try simp only [List.map_toArray,List.map_cons,List.map_nil]);first|done|rfl|(simp only [List.length_drop,List.length_take];rfl)) ?_;(with_reducible refine(impl_isByte.calls a0 t187 _ A2.out).mono ?_);rintro e w' ⟨rfl,⟨nd,rfl⟩⟩;refine⟨_,rfl,?_⟩))
 go_ret
 exact⟨by first|rfl|(simp;done)|(simp [*];done),by repeat(first|exact Drawn0.refl _|apply Drawn0.step)⟩

def impl_PictureOk_idxO {α : Type} (p : α → Option Bool) : List α → Int → Option Int
 | [], _ => some (-1)
 | x :: xs, i => (p x).bind fun b => if b = true then some i else impl_PictureOk_idxO p xs (i + 1)
theorem impl_PictureOk_idxO_mono {α : Type} {p q : α → Option Bool} (h : ∀ x, LeO (p x) (q x)) : ∀ (l : List α) (i : Int), LeO (impl_PictureOk_idxO p l i) (impl_PictureOk_idxO q l i)
 | [], _ => LeO.refl _
 | x :: xs, i => LeO.bind (h x) fun _ => LeO.ite (LeO.refl _) (impl_PictureOk_idxO_mono h xs (i + 1))
set_option maxHeartbeats 4000000 in
set_option maxRecDepth 100000 in
theorem impl_PictureOk_idx (A0 : Option Addr) (c0 : Nat) (l0 : List Int) (r : Int) (w : World) (hr0 : Kd.C (Kd.int .i64) w A0 l0.length l0) (hc0 : l0.length ≤ c0) (h : impl_PictureOk_idxO (fun x => impl_PictureOk_1.f x) l0 0 = some r) :
  Calls Try.prog 83 #[.slice A0 l0.length c0,.func (.func 51) #[] #[]] w fun e w'=>e=.returned (.int .i64 r)∧Below w.heap.size w w':=by
 have HR0:=Fa hr0
 have HC0:=Fa hc0
 have HM:=Fa hr0.2.1
 clear hr0 hc0
 have H:=Fa h
 clear h
 go_enter Try.func83,Try.ntmps83
 go_wp2
 go_loopg [5,8] l0.length (fun gg _ v8 w'=>∃ kk:Nat,Aside0 (kk≤l0.length∧l0.length - kk≤gg)∧v8=.int .i64 (kk:Int)∧Aside0 (impl_PictureOk_idxO (fun x=>impl_PictureOk_1.f x) (l0.drop kk) (kk:Int)=some r)∧Aside0 (Below w.heap.size w w'))
 case atStart=>exact⟨0,⟨Nat.zero_le _,Nat.le_refl _⟩,rfl,H,⟨Below.refl _ _⟩⟩
 case round=>
  obtain⟨kk,HK,rfl,HI,HB⟩:=hrel
  by_cases hlt:kk < l0.length
  ·obtain⟨ad,e,hx0⟩:=Kd.at_int HR0.out (kk:Int) (by omega) (by omega)
   cases e
   replace hx0:=(HB.out.cell (World.block_lt_of_cell? w _ hx0)).trans hx0
   simp only [Int.toNat_natCast] at hx0
   have HI2:((fun x=>impl_PictureOk_1.f x) (rd l0 (kk:Int))).bind (fun b=>if b=true then some (kk:Int) else impl_PictureOk_idxO (fun x=>impl_PictureOk_1.f x) (l0.drop (kk+1)) ((kk:Int)+1))=some r:=by
    have:=HI.out
    rw [List.drop_eq_getElem_cons hlt] at this
    have e:l0[kk]=rd l0 (kk:Int):=by simp [rd,List.getD_eq_getElem?_getD,List.getElem?_eq_getElem hlt]
    rw [e] at this
    exact this
   obtain⟨b,hb,HI3⟩:=Option.bind_eq_some_iff.1 HI2
   clear HI2
   have HI4:=Fa HI3
   clear HI3
   have hltb:decide ((kk:Int) < (l0.length:Int))=true:=decide_eq_true (by omega)
   have HM2:l0.length≤9223372036854775807:=HM.out
   have p0:(0≤(kk:Int))=True:=eq_true (by omega)
   have q0:((kk:Int) < (l0.length:Int))=True:=eq_true (by omega)
   cases b with
   | true =>
    have HI5:some (kk:Int)=some r:=HI4.out
    obtain rfl:=Option.some.inj HI5
    go_wp2_with (go_at_call 51;refine(impl_PictureOk_1.calls _ _ _ hb).mono ?_;rintro e w' ⟨rfl,hb'⟩)
    go_ret
    exact⟨rfl,below_then HB.out (Fg HB.out) (by first|exact hb'|exact hb'.below)⟩
   | false =>
    have HI5:impl_PictureOk_idxO (fun x=>impl_PictureOk_1.f x) (l0.drop (kk+1)) ((kk:Int)+1)=some r:=HI4.out
    have HI6:=Fa HI5
    clear HI5
    go_wp2_with (go_at_call 51;refine(impl_PictureOk_1.calls _ _ _ hb).mono ?_;rintro e w' ⟨rfl,hb'⟩)
    go_roundg (l0.length - (kk+1))
    case measure=>have:=HK.out;omega
    case rel=>exact⟨kk+1,⟨by omega,by omega⟩,by go_num,⟨by have:=HI6.out;simpa using this⟩,⟨below_then HB.out (Fg HB.out) (by first|exact hb'|exact hb'.below)⟩⟩
  ·have hltb:decide ((kk:Int) < (l0.length:Int))=false:=decide_eq_false (by omega)
   have HI5:some (-1:Int)=some r:=by
    have:=HI.out
    rwa [List.drop_of_length_le (by omega)] at this
   obtain rfl:=Option.some.inj HI5
   go_wp2
   go_ret
   exact⟨rfl,HB.out⟩
set_option maxHeartbeats 4000000 in
theorem impl_PictureOk_con (A0 : Option Addr) (c0 : Nat) (l0 : List Int) (r : Int) (w : World) (hr0 : Kd.C (Kd.int .i64) w A0 l0.length l0) (hc0 : l0.length ≤ c0) (h : impl_PictureOk_idxO (fun x => impl_PictureOk_1.f x) l0 0 = some r) :
  Calls Try.prog 50 #[.slice A0 l0.length c0,.func (.func 51) #[] #[]] w fun e w'=>e=.returned (.bool (decide (0≤r)))∧Below w.heap.size w w':=by
 have HR0:=Fa hr0
 have HC0:=Fa hc0
 clear hr0 hc0
 have H:=Fa h
 clear h
 go_enter Try.func50,Try.ntmps50
 go_wp2_with (go_at_call 83;refine(impl_PictureOk_idx _ _ l0 r _ HR0.out HC0.out H.out).mono ?_;rintro e w' ⟨rfl,hb⟩)
 go_ret
 exact⟨by simp [ge_iff_le],hb⟩
def impl_PictureOk_contains.f (l0 : List Int) : Option Bool := (impl_PictureOk_idxO (fun x => impl_PictureOk_1.f x) l0 0).bind fun t => some (decide (0 ≤ t))
theorem impl_PictureOk_contains.calls (A0 : Option Addr) (c0 : Nat) (l0 : List Int) (r : Bool) (w : World) (hr0 : Kd.C (Kd.int .i64) w A0 l0.length l0) (hc0 : l0.length ≤ c0) (h : impl_PictureOk_contains.f l0 = some r) :
  Calls Try.prog 50 #[.slice A0 l0.length c0,.func (.func 51) #[] #[]] w fun e w'=>e=.returned (.bool r)∧Below w.heap.size w w':=by
 obtain⟨t,ht,h2⟩:=Option.bind_eq_some_iff.1 h
 obtain rfl:=Option.some.inj h2
 exact impl_PictureOk_con _ _ l0 t w hr0 hc0 ht

/-! ### impl_PictureOk: function 17 -/
def impl_PictureOk.f (a0_0 : Int) (a0_1 : Int) (l0_2 : List Int) : Option (Bool) := if (Int.tmod a0_0 4) = 0 then (if (Int.tmod a0_1 4) = 0 then ((impl_in.f a0_0 4 16).bind fun t189 => (if t189 = true then ((impl_in.f a0_1 4 16).bind fun t190 => (if t190 = true then (if (l0_2.length : Int) = (wrap64 (a0_0 * a0_1)) then ((impl_PictureOk_contains.f l0_2).bind fun t191 => (some (!t191))) else (some false)) else (some false))) else (some false))) else (some false)) else (some false)
set_option maxHeartbeats 8000000 in
set_option maxRecDepth 100000 in
theorem impl_PictureOk.calls (a0_0 : Int) (a0_1 : Int) (A0_2 : Option Addr) (c0_2 : Nat) (l0_2 : List Int) (r : Bool) (w : World) (hr0_2 : Kd.C (Kd.int .i64) w A0_2 l0_2.length l0_2) (hc0_2 : l0_2.length ≤ c0_2) (h : impl_PictureOk.f a0_0 a0_1 l0_2 = some r) :
  Calls Try.prog 17 #[.agg #[.int .i64 a0_0,.int .i64 a0_1,.slice A0_2 l0_2.length c0_2]] w fun e w'=>e=.returned (.bool r)∧Below w.heap.size w w':=by
 have hu27:=Try.underlying27
 have HR0_2:=Fa hr0_2
 have HC0_2:=Fa hc0_2
 clear hr0_2 hc0_2
 have HB:=Fa (Below.refl w.heap.size w)
 have H:(if (Int.tmod a0_0 4)=0 then (if (Int.tmod a0_1 4)=0 then ((impl_in.f a0_0 4 16).bind fun t189=>(if t189=true then ((impl_in.f a0_1 4 16).bind fun t190=>(if t190=true then (if (l0_2.length:Int)=(wrap64 (a0_0*a0_1)) then ((impl_PictureOk_contains.f l0_2).bind fun t191=>(some (!t191))) else (some false)) else (some false))) else (some false))) else (some false)) else (some false))=some r:=h
 clear h
 by_cases c2:(Int.tmod a0_0 4)=0
 ·rw [if_pos c2] at H
  have c2b0:((Int.tmod a0_0 4) == 0)=true:=beq_iff_eq.mpr c2
  have c2b1:((Int.tmod a0_0 4) != 0)=false:=bne_eq_false_iff_eq.mpr c2
  clear c2
  by_cases c3:(Int.tmod a0_1 4)=0
  ·rw [if_pos c3] at H
   have c3b0:((Int.tmod a0_1 4) == 0)=true:=beq_iff_eq.mpr c3
   have c3b1:((Int.tmod a0_1 4) != 0)=false:=bne_eq_false_iff_eq.mpr c3
   clear c3
   replace H:=Option.bind_eq_some_iff.mp H
   obtain⟨t189,A40,H⟩:=H
   replace H:(if t189=true then ((impl_in.f a0_1 4 16).bind fun t190=>(if t190=true then (if (l0_2.length:Int)=(wrap64 (a0_0*a0_1)) then ((impl_PictureOk_contains.f l0_2).bind fun t191=>(some (!t191))) else (some false)) else (some false))) else (some false))=some r:=H
   have A4:=Fa A40
   clear A40
   by_cases c5:t189=true
   ·subst c5
    have H1:((impl_in.f a0_1 4 16).bind fun t190=>(if t190=true then (if (l0_2.length:Int)=(wrap64 (a0_0*a0_1)) then ((impl_PictureOk_contains.f l0_2).bind fun t191=>(some (!t191))) else (some false)) else (some false)))=some r:=by rw [if_pos rfl] at H;exact H
    clear H
    have H:=H1
    clear H1
    replace H:=Option.bind_eq_some_iff.mp H
    obtain⟨t190,A60,H⟩:=H
    replace H:(if t190=true then (if (l0_2.length:Int)=(wrap64 (a0_0*a0_1)) then ((impl_PictureOk_contains.f l0_2).bind fun t191=>(some (!t191))) else (some false)) else (some false))=some r:=H
    have A6:=Fa A60
    clear A60
    by_cases c7:t190=true
    ·subst c7
     have H1:(if (l0_2.length:Int)=(wrap64 (a0_0*a0_1)) then ((impl_PictureOk_contains.f l0_2).bind fun t191=>(some (!t191))) else (some false))=some r:=by rw [if_pos rfl] at H;exact H
     clear H
     have H:=H1
     clear H1
     by_cases c8:(l0_2.length:Int)=(wrap64 (a0_0*a0_1))
     ·rw [if_pos c8] at H
      have c8b0:((l0_2.length:Int) == (wrap64 (a0_0*a0_1)))=true:=beq_iff_eq.mpr c8
      have c8b1:((l0_2.length:Int) != (wrap64 (a0_0*a0_1)))=false:=bne_eq_false_iff_eq.mpr c8
      clear c8
      replace H:=Option.bind_eq_some_iff.mp H
      obtain⟨t191,A90,H⟩:=H
      replace H:(some (!t191))=some r:=H
      have A9:=Fa A90
      clear A90
      obtain rfl:=Option.some.inj H
      go_enter Try.func17,Try.ntmps17
      go_wp2_with (first|((with_reducible refine gate_dst (N:=1) rfl ?_);refine box_event ?hg (N:=1) ?hd (cs:=#[.int .i64 a0_0,.int .i64 a0_1,.slice A0_2 l0_2.length c0_2]) (t:=27) ?hr ?_;(case hd=>rfl);(case hg=>rfl);(case hr=>first|(go_simp;done)|(go_simp;rfl));intro gb188 hg w10 hbox hb;have n0_:=Fa (Fh (by repeat(first|(with_reducible first|exact HB.out|apply Fc|apply Fb|apply Fd)|exact HB.out)) hb);have n1_:=Fa (hbox);have n2_:=Fa ((by rw [hg];exact(Fg (by repeat(first|(with_reducible first|exact HB.out|apply Fc|apply Fb|apply Fd)|exact HB.out))):w.heap.size≤gb188));have n3_:=Fa ((by rw [hg];exact(Fg (by repeat(first|(with_reducible first|exact HB.out|apply Fc|apply Fb|apply Fd)|exact HB.out))):w.heap.size≤gb188));clear HB;have HB:=n0_;have BK188:=n1_;have GW188:=n2_;have GE188:=n3_;clear n0_ n1_ n2_ n3_;clear hb hbox hg;have hcz11_0:w10.cell? ⟨gb188,0,none⟩=some (.int .i64 a0_0):=(Ff BK188.out 0).trans rfl;have hcz11_1:w10.cell? ⟨gb188,1,none⟩=some (.int .i64 a0_1):=(Ff BK188.out 1).trans rfl;have hcz11_2:w10.cell? ⟨gb188,2,none⟩=some (.slice A0_2 l0_2.length c0_2):=(Ff BK188.out 2).trans rfl;have hfz11_0:=Fe BK188.out 0;have hfz11_1:=Fe BK188.out 1;have hfz11_2:=Fe BK188.out 2)|(go_at_call 49;(with_reducible refine(impl_in.calls a0_0 4 16 true _ A4.out).mono ?_);rintro e w' ⟨rfl,⟨nd,rfl⟩⟩)|(go_at_call 49;(with_reducible refine(impl_in.calls a0_1 4 16 true _ A6.out).mono ?_);rintro e w' ⟨rfl,⟨nd,rfl⟩⟩)|(go_at_call 50;(with_reducible refine(impl_PictureOk_contains.calls _ _ l0_2 t191 _ ?side1 ?side2 A9.out).mono ?_);(case side1=>repeat(first|exact(Kd.C_below HR0_2.out (by repeat(first|(with_reducible first|exact HB.out|apply Fc|apply Fb|apply Fd|refine Fi ?_ GE188.out)|exact HB.out)))|(with_reducible refine Kd.C_alloc ?_ _)|(with_reducible refine Kd.C_drewN ?_ _)|(with_reducible refine Kd.C_drew ?_)));(case side2=>exact HC0_2.out);rintro e w12 ⟨rfl,hb⟩;have n0_:=Fa (blk_below (g:=gb188) (o:=.cells #[.int .i64 a0_0,.int .i64 a0_1,.slice A0_2 l0_2.length c0_2] 27 (0,0)) (by(with_reducible repeat(first|refine blk_drewN ?_ _|refine blk_drew ?_|refine blk_alloc ?_ _));exact BK188.out) hb);have n1_:=Fa (Fh (by repeat(first|(with_reducible first|exact HB.out|apply Fc|apply Fb|apply Fd|refine Fi ?_ GE188.out)|exact HB.out)) hb);clear BK188;clear HB;have BK188:=n0_;have HB:=n1_;clear n0_ n1_;(try clear hb);(try clear hb2);(try clear hk);(try clear hi)))
      go_ret
      exact⟨by first|rfl|(simp [errW_none,errW_some] <;> rfl)|(simp [*,errW_none,errW_some] <;> rfl),by repeat(first|(with_reducible first|exact HB.out|apply Fc|apply Fb|apply Fd|refine Fi ?_ GE188.out)|exact HB.out)⟩
     ·rw [if_neg c8] at H
      have c8b0:((l0_2.length:Int) == (wrap64 (a0_0*a0_1)))=false:=beq_eq_false_iff_ne.mpr c8
      have c8b1:((l0_2.length:Int) != (wrap64 (a0_0*a0_1)))=true:=bne_iff_ne.mpr c8
      obtain rfl:=Option.some.inj H
      go_enter Try.func17,Try.ntmps17
      go_wp2_with (first|((with_reducible refine gate_dst (N:=1) rfl ?_);refine box_event ?hg (N:=1) ?hd (cs:=#[.int .i64 a0_0,.int .i64 a0_1,.slice A0_2 l0_2.length c0_2]) (t:=27) ?hr ?_;(case hd=>rfl);(case hg=>rfl);(case hr=>first|(go_simp;done)|(go_simp;rfl));intro gb188 hg w13 hbox hb;have n0_:=Fa (Fh (by repeat(first|(with_reducible first|exact HB.out|apply Fc|apply Fb|apply Fd)|exact HB.out)) hb);have n1_:=Fa (hbox);have n2_:=Fa ((by rw [hg];exact(Fg (by repeat(first|(with_reducible first|exact HB.out|apply Fc|apply Fb|apply Fd)|exact HB.out))):w.heap.size≤gb188));have n3_:=Fa ((by rw [hg];exact(Fg (by repeat(first|(with_reducible first|exact HB.out|apply Fc|apply Fb|apply Fd)|exact HB.out))):w.heap.size≤gb188));clear HB;have HB:=n0_;have BK188:=n1_;have GW188:=n2_;have GE188:=n3_;clear n0_ n1_ n2_ n3_;clear hb hbox hg;have hcz14_0:w13.cell? ⟨gb188,0,none⟩=some (.int .i64 a0_0):=(Ff BK188.out 0).trans rfl;have hcz14_1:w13.cell? ⟨gb188,1,none⟩=some (.int .i64 a0_1):=(Ff BK188.out 1).trans rfl;have hcz14_2:w13.cell? ⟨gb188,2,none⟩=some (.slice A0_2 l0_2.length c0_2):=(Ff BK188.out 2).trans rfl;have hfz14_0:=Fe BK188.out 0;have hfz14_1:=Fe BK188.out 1;have hfz14_2:=Fe BK188.out 2)|(go_at_call 49;(with_reducible refine(impl_in.calls a0_0 4 16 true _ A4.out).mono ?_);rintro e w' ⟨rfl,⟨nd,rfl⟩⟩)|(go_at_call 49;(with_reducible refine(impl_in.calls a0_1 4 16 true _ A6.out).mono ?_);rintro e w' ⟨rfl,⟨nd,rfl⟩⟩))
      go_ret
      exact⟨by first|rfl|(simp [errW_none,errW_some] <;> rfl)|(simp [*,errW_none,errW_some] <;> rfl),by repeat(first|(with_reducible first|exact HB.out|apply Fc|apply Fb|apply Fd|refine Fi ?_ GE188.out)|exact HB.out)⟩
    ·replace c7:=Bool.eq_false_iff.mpr c7
     subst c7
     have H1:(some false)=some r:=by rw [if_neg (show ¬ (false=true) by decide)] at H;exact H
     clear H
     have H:=H1
     clear H1
     obtain rfl:=Option.some.inj H
     go_enter Try.func17,Try.ntmps17
     go_wp2_with (first|((with_reducible refine gate_dst (N:=1) rfl ?_);refine box_event ?hg (N:=1) ?hd (cs:=#[.int .i64 a0_0,.int .i64 a0_1,.slice A0_2 l0_2.length c0_2]) (t:=27) ?hr ?_;(case hd=>rfl);(case hg=>rfl);(case hr=>first|(go_simp;done)|(go_simp;rfl));intro gb188 hg w15 hbox hb;have n0_:=Fa (Fh (by repeat(first|(with_reducible first|exact HB.out|apply Fc|apply Fb|apply Fd)|exact HB.out)) hb);have n1_:=Fa (hbox);have n2_:=Fa ((by rw [hg];exact(Fg (by repeat(first|(with_reducible first|exact HB.out|apply Fc|apply Fb|apply Fd)|exact HB.out))):w.heap.size≤gb188));have n3_:=Fa ((by rw [hg];exact(Fg (by repeat(first|(with_reducible first|exact HB.out|apply Fc|apply Fb|apply Fd)|exact HB.out))):w.heap.size≤gb188));clear HB;have HB:=n0_;have BK188:=n1_;have GW188:=n2_;have GE188:=n3_;clear n0_ n1_ n2_ n3_;clear hb hbox hg;have hcz16_0:w15.cell? ⟨gb188,0,none⟩=some (.int .i64 a0_0):=(Ff BK188.out 0).trans rfl;have hcz16_1:w15.cell? ⟨gb188,1,none⟩=some (.int .i64 a0_1):=(Ff BK188.out 1).trans rfl;have hcz16_2:w15.cell? ⟨gb188,2,none⟩=some (.slice A0_2 l0_2.length c0_2):=(Ff BK188.out 2).trans rfl;have hfz16_0:=Fe BK188.out 0;have hfz16_1:=Fe BK188.out 1;have hfz16_2:=Fe BK188.out 2)|(go_at_call 49;(with_reducible refine(impl_in.calls a0_0 4 16 true _ A4.out).mono ?_);rintro e w' ⟨rfl,⟨nd,rfl⟩⟩)|(go_at_call 49;(with_reducible refine(impl_in.calls a0_1 4 16 false _ A6.out).mono ?_);rintro e w' ⟨rfl,⟨nd,rfl⟩⟩))
     go_ret
     exact⟨by first|rfl|(simp [errW_none,errW_some] <;> rfl)|(simp [*,errW_none,errW_some] <;> rfl),by repeat(first|(with_reducible first|exact HB.out|apply Fc|apply Fb|apply Fd|refine Fi ?_ GE188.out)|exact HB.out)⟩
   ·replace c5:=Bool.eq_false_iff.mpr c5
    subst c5
    have H1:(some false)=some r:=by rw [if_neg (show ¬ (false=true) by decide)] at H;exact H
    clear H
    have H:=H1
    clear H1
    obtain rfl:=Option.some.inj H
    go_enter Try.func17,Try.ntmps17
    go_wp2_with (first|((with_reducible refine gate_dst (N:=1) rfl ?_);refine box_event ?hg (N:=1) ?hd (cs:=#[.int .i64 a0_0,.int .i64 a0_1,.slice A0_2 l0_2.length c0_2]) (t:=27) ?hr ?_;(case hd=>rfl);(case hg=>rfl);(case hr=>first|(go_simp;done)|(go_simp;rfl));intro gb188 hg w17 hbox hb;have n0_:=Fa (Fh (by repeat(first|(with_reducible first|exact HB.out|apply Fc|apply Fb|apply Fd)|exact HB.out)) hb);have n1_:=Fa (hbox);have n2_:=Fa ((by rw [hg];exact(Fg (by repeat(first|(with_reducible first|exact HB.out|apply Fc|apply Fb|apply Fd)|exact HB.out))):w.heap.size≤gb188));have n3_:=Fa ((by rw [hg];exact(Fg (by repeat(first|(with_reducible first|exact HB.out|apply Fc|apply Fb|apply Fd)|exact HB.out))):w.heap.size≤gb188));clear HB;have HB:=n0_;have BK188:=n1_;have GW188:=n2_;have GE188:=n3_;clear n0_ n1_ n2_ n3_;clear hb hbox hg;have hcz18_0:w17.cell? ⟨gb188,0,none⟩=some (.int .i64 a0_0):=(Ff BK188.out 0).trans rfl;have hcz18_1:w17.cell? ⟨gb188,1,none⟩=some (.int .i64 a0_1):=(Ff BK188.out 1).trans rfl;have hcz18_2:w17.cell? ⟨gb188,2,none⟩=some (.slice A0_2 l0_2.length c0_2):=(Ff BK188.out 2).trans rfl;have hfz18_0:=Fe BK188.out 0;have hfz18_1:=Fe BK188.out 1;have hfz18_2:=Fe BK188.out 2)|(go_at_call 49;(with_reducible refine(impl_in.calls a0_0 4 16 false _ A4.out).mono ?_);rintro e w' ⟨rfl,⟨nd,rfl⟩⟩))
    go_ret
    exact⟨by first|rfl|(simp [errW_none,errW_some] <;> rfl)|(simp [*,errW_none,errW_some] <;> rfl),by repeat(first|(with_reducible first|exact HB.out|apply Fc|apply Fb|apply Fd|refine Fi ?_ GE188.out)|exact HB.out)⟩
  ·rw [if_neg c3] at H
   have c3b0:((Int.tmod a0_1 4) == 0)=false:=beq_eq_false_iff_ne.mpr c3
   have c3b1:((Int.tmod a0_1 4) != 0)=true:=bne_iff_ne.mpr c3
   obtain rfl:=Option.some.inj H
   go_enter Try.func17,Try.ntmps17
   go_wp2_with (first|((with_reducible refine gate_dst (N:=1) rfl ?_);refine box_event ?hg (N:=1) ?hd (cs:=#[.int .i64 a0_0,.int .i64 a0_1,.slice A0_2 l0_2.length c0_2]) (t:=27) ?hr ?_;(case hd=>rfl);(case hg=>rfl);(case hr=>first|(go_simp;done)|(go_simp;rfl));intro gb188 hg w19 hbox hb;have n0_:=Fa (Fh (by repeat(first|(with_reducible first|exact HB.out|apply Fc|apply Fb|apply Fd)|exact HB.out)) hb);have n1_:=Fa (hbox);have n2_:=Fa ((by rw [hg];exact(Fg (by repeat(first|(with_reducible first|exact HB.out|apply Fc|apply Fb|apply Fd)|exact HB.out))):w.heap.size≤gb188));have n3_:=Fa ((by rw [hg];exact(Fg (by repeat(first|(with_reducible first|exact HB.out|apply Fc|apply Fb|apply Fd)|exact HB.out))):w.heap.size≤gb188));clear HB;have HB:=n0_;have BK188:=n1_;have GW188:=n2_;have GE188:=n3_;clear n0_ n1_ n2_ n3_;clear hb hbox hg;have hcz20_0:w19.cell? ⟨gb188,0,none⟩=some (.int .i64 a0_0):=(Ff BK188.out 0).trans rfl;have hcz20_1:w19.cell? ⟨gb188,1,none⟩=some (.int .i64 a0_1):=(Ff BK188.out 1).trans rfl;have hcz20_2:w19.cell? ⟨gb188,2,none⟩=some (.slice A0_2 l0_2.length c0_2):=(Ff BK188.out 2).trans rfl;have hfz20_0:=Fe BK188.out 0;have hfz20_1:=Fe BK188.out 1;have hfz20_2:=Fe BK188.out 2))
   go_ret
   exact⟨by first|rfl|(simp [errW_none,errW_some] <;> rfl)|(simp [*,errW_none,errW_some] <;> rfl),by repeat(first|(with_reducible first|exact HB.out|apply Fc|apply Fb|apply Fd|refine Fi ?_ GE188.out)|exact HB.out)⟩
 ·rw [if_neg c2] at H
  have c2b0:((Int.tmod a0_0 4) == 0)=false:=beq_eq_false_iff_ne.mpr c2
  have c2b1:((Int.tmod a0_0 4) != 0)=true:=bne_iff_ne.mpr c2
  obtain rfl:=Option.some.inj H
  go_enter Try.func17,Try.ntmps17
  go_wp2_with (first|((with_reducible refine gate_dst (N:=1) rfl ?_);refine box_event ?hg (N:=1) ?hd (cs:=#[.int .i64 a0_0,.int .i64 a0_1,.slice A0_2 l0_2.length c0_2]) (t:=27) ?hr ?_;(case hd=>rfl);(case hg=>rfl);(case hr=>first|(go_simp;done)|(go_simp;rfl));intro gb188 hg w21 hbox hb;have n0_:=Fa (Fh (by repeat(first|(with_reducible first|exact HB.out|apply Fc|apply Fb|apply Fd)|exact HB.out)) hb);have n1_:=Fa (hbox);have n2_:=Fa ((by rw [hg];exact(Fg (by repeat(first|(with_reducible first|exact HB.out|apply Fc|apply Fb|apply Fd)|exact HB.out))):w.heap.size≤gb188));have n3_:=Fa ((by rw [hg];exact(Fg (by repeat(first|(with_reducible first|exact HB.out|apply Fc|apply Fb|apply Fd)|exact HB.out))):w.heap.size≤gb188));clear HB;have HB:=n0_;have BK188:=n1_;have GW188:=n2_;have GE188:=n3_;clear n0_ n1_ n2_ n3_;clear hb hbox hg;have hcz22_0:w21.cell? ⟨gb188,0,none⟩=some (.int .i64 a0_0):=(Ff BK188.out 0).trans rfl;have hcz22_1:w21.cell? ⟨gb188,1,none⟩=some (.int .i64 a0_1):=(Ff BK188.out 1).trans rfl;have hcz22_2:w21.cell? ⟨gb188,2,none⟩=some (.slice A0_2 l0_2.length c0_2):=(Ff BK188.out 2).trans rfl;have hfz22_0:=Fe BK188.out 0;have hfz22_1:=Fe BK188.out 1;have hfz22_2:=Fe BK188.out 2))
  go_ret
  exact⟨by first|rfl|(simp [errW_none,errW_some] <;> rfl)|(simp [*,errW_none,errW_some] <;> rfl),by repeat(first|(with_reducible first|exact HB.out|apply Fc|apply Fb|apply Fd|refine Fi ?_ GE188.out)|exact HB.out)⟩

/-! ### impl_turn: function 56 -/
theorem impl_four_und : Try.prog.underlying 81 = some (.array 4 2) := by kernel_rfl
theorem impl_four_i0 (x y z u : Value) (w : World) : (Instr.index 81 (.agg #[x, y, z, u]) (.int .i64 0)).run Try.prog w = .ok x w := by
 simp [Instr.index,run_underlying impl_four_und,asIntOf,go_sem]
theorem impl_four_i1 (x y z u : Value) (w : World) : (Instr.index 81 (.agg #[x, y, z, u]) (.int .i64 1)).run Try.prog w = .ok y w := by
 simp [Instr.index,run_underlying impl_four_und,asIntOf,go_sem]
theorem impl_four_i2 (x y z u : Value) (w : World) : (Instr.index 81 (.agg #[x, y, z, u]) (.int .i64 2)).run Try.prog w = .ok z w := by
 simp [Instr.index,run_underlying impl_four_und,asIntOf,go_sem]
theorem impl_four_i3 (x y z u : Value) (w : World) : (Instr.index 81 (.agg #[x, y, z, u]) (.int .i64 3)).run Try.prog w = .ok u w := by
 simp [Instr.index,run_underlying impl_four_und,asIntOf,go_sem]
attribute [local go_sem] impl_four_i0 impl_four_i1 impl_four_i2 impl_four_i3
theorem impl_four_blk4 {w : World} {g : Nat} {t : TypeId} {a b c d : Value} (h : w.heap[g]? = some (.cells #[a, b, c, d] t (0, 0))) (x y z u : Value) :
  ((((w.setCell ⟨g,0,none⟩ x).setCell ⟨g,1,none⟩ y).setCell ⟨g,2,none⟩ z).setCell ⟨g,3,none⟩ u).heap[g]? = some (.cells #[x,y,z,u] t (0,0)):=blk_put (blk_put (blk_put (blk_put h 0 x rfl) 1 y rfl) 2 z rfl) 3 u rfl
def four0 (a b c d : Int) : Int := wrap64 ((wrap64 ((wrap64 (a + b)) + c)) + d)
def four1 (a b c d : Int) : Int := wrap64 ((wrap64 ((wrap64 (a + b)) - c)) - d)
def four2 (a b c d : Int) : Int := wrap64 ((wrap64 ((wrap64 (a - b)) - c)) + d)
def four3 (a b c d : Int) : Int := wrap64 ((wrap64 ((wrap64 (a - b)) + c)) - d)
set_option maxHeartbeats 4000000 in
set_option maxRecDepth 100000 in
theorem impl_four_calls (a b c d : Int) (w : World) :
  Calls Try.prog 85 #[.int .i64 a,.int .i64 b,.int .i64 c,.int .i64 d] w fun e w'=>e=.returned (.agg #[.int .i64 (four0 a b c d),.int .i64 (four1 a b c d),.int .i64 (four2 a b c d),.int .i64 (four3 a b c d)])∧Below w.heap.size w w':=by
 have hu81:=impl_four_und
 go_enter Try.func85,Try.ntmps85
 go_wp2
 refine bodyPost_ret (results_cell_row rfl _ _ w.heap.size 81 #[.int .i64 (four0 a b c d),.int .i64 (four1 a b c d),.int .i64 (four2 a b c d),.int .i64 (four3 a b c d)] (0,0) _ rfl (Go.Deep.blk_alloc_new _ _) impl_four_und rfl (by kernel_rfl)) rfl ?_
 exact⟨rfl,Fc (Below.refl _ _) _⟩
def turnFour (a b c d : Int) : List Int := [four0 a b c d, four1 a b c d, four2 a b c d, four3 a b c d]
def turnRow (l0 : List Int) (j : Int) : List Int := turnFour (rd l0 j) (rd l0 (j + 1)) (rd l0 (j + 2)) (rd l0 (j + 3))
def turnMid (l0 : List Int) : Nat → List Int
 | 0 => []
 | i + 1 => turnMid l0 i ++ turnRow l0 (4 * (i : Int))
theorem turnMid_len (l0 : List Int) : ∀ i, (turnMid l0 i).length = 4 * i
 | 0 => rfl
 | i + 1 => by rw [turnMid, List.length_append, turnMid_len l0 i]; simp [turnRow, turnFour]; omega
def turnCol (mid : List Int) (x : Int) : List Int := turnFour (rd mid x) (rd mid (4 + x)) (rd mid (8 + x)) (rd mid (12 + x))
def turnG (mid : List Int) (x y : Nat) : List Int := (List.range 16).map fun j => if j % 4 < x ∨ (j % 4 = x ∧ j / 4 < y) then (turnCol mid ((j % 4 : Nat) : Int)).getD (j / 4) 0 else 0
theorem turnG_len (mid : List Int) (x y : Nat) : (turnG mid x y).length = 16 := by simp [turnG]
theorem turnG_0 (mid : List Int) : turnG mid 0 0 = List.replicate 16 0 := by simp [turnG, List.range, List.range.loop, List.replicate]
theorem turnG_set (mid : List Int) (x y : Nat) (hx : x < 4) (hy : y < 4) : (turnG mid x y).set (4 * y + x) ((turnCol mid (x : Int)).getD y 0) = turnG mid x (y + 1) := by
 have h1:x=0∨x=1∨x=2∨x=3:=by omega
 have h2:y=0∨y=1∨y=2∨y=3:=by omega
 rcases h1 with rfl|rfl|rfl|rfl <;> rcases h2 with rfl|rfl|rfl|rfl <;> rfl
theorem turnG_next (mid : List Int) (x : Nat) : turnG mid x 4 = turnG mid (x + 1) 0 := by
 unfold turnG
 refine List.map_congr_left fun j hj=>?_
 have:j < 16:=by simpa using hj
 by_cases h:j % 4 < x+1
 ·rw [if_pos (by omega),if_pos (by omega)]
 ·rw [if_neg (by omega),if_neg (by omega)]
theorem turn_reads {w : World} {g : Nat} {a b c d : Int} {t : TypeId} (h : w.heap[g]? = some (.cells #[.int .i64 a, .int .i64 b, .int .i64 c, .int .i64 d] t (0, 0))) :
  ReadsRow ((Kd.int .i64).K w) (Kd.int .i64).sz w (some ⟨g,0,none⟩) 4 [a,b,c,d]:=by
 refine⟨rfl,by omega,fun _=>⟨_,rfl,fun j p hj=>⟨[.int .i64 p],rfl,rfl,fun i u hu=>?_⟩⟩⟩
 rcases i with _|i
 ·obtain rfl:Value.int .i64 p=u:=by simpa using hu
  have hlt:j < 4:=by
   rcases Nat.lt_or_ge j 4 with h|h
   ·exact h
   ·rw [List.getElem?_eq_none (by simpa using h)] at hj
    cases hj
  have h4:j=0∨j=1∨j=2∨j=3:=by omega
  rcases h4 with rfl|rfl|rfl|rfl <;> (simp at hj;subst hj)
  ·exact(Ff h 0).trans rfl
  ·exact(Ff h 1).trans rfl
  ·exact(Ff h 2).trans rfl
  ·exact(Ff h 3).trans rfl
 ·simp at hu
theorem turnG_four (a b c d : Int) : turnFour a b c d = [four0 a b c d, four1 a b c d, four2 a b c d, four3 a b c d] := rfl
def turnC (xs : List Int) : Array Value := (xs.map (Value.int .i64)).toArray
def turnZ : List Int := List.replicate 16 0
theorem turn_make (w : World) : (Instr.makeSlice 22 (.int .i64 16) (.int .i64 16)).run Try.prog w = .ok (.slice (some ⟨w.heap.size, 0, none⟩) 16 16) (w.alloc (.cells (turnC turnZ) 2)) := by
 obtain⟨i0,hi,hzz⟩:=Option.map_eq_some_iff.1 (show(Try.prog.info? 2).map (fun i=>(i.zero,i.size,i.bytes))=some (some (.int .i64 0),1,8) by kernel_rfl)
 simp only [Prod.mk.injEq] at hzz
 obtain⟨hz0,hz1,hz2⟩:=hzz
 have hr:=run_make (P:=Try.prog) w 22 2 i0 (.int .i64 0) Try.underlying22 hi hz0 .i64 .i64 16 16 (by omega) (by omega) (by rw [hz2];omega) (by omega)
 rw [hr,hz1,show madeCells (Value.int .i64 0).cells (Int.toNat 16*1)=turnC turnZ by kernel_rfl]
 rfl
theorem turn_R {w : World} {base g n : Nat} {xs : List Int} {ok : Nat → Prop} (h : w.heap[g]? = some (.cells (turnC xs) 2 (0, 0))) (hl : xs.length = n) (hb : base ≤ g) (hn : n ≤ 16) (hok : ok g) : Kd.R (Kd.int .i64) 2 w base ok (.slice (some ⟨g, 0, none⟩) n n) xs := by
 subst hl
 refine⟨fun k hk=>?_,xs.map (Value.int .i64),⟨by simp [Kd.int,Kd.scalar],.inr ⟨g,_,_,rfl,hb,h,Nat.le_refl _,?_,?_,?_⟩⟩,?_⟩
 ·have:g=k:=by simpa [Value.ownBlock] using hk
  subst this
  exact hok
 ·exact Nat.le_trans hn (by decide)
 ·simp [turnC,Kd.int,Kd.scalar]
 ·simp [turnC,Kd.int,Kd.scalar,List.take_of_length_le]
 ·refine⟨by simp [Kd.int,Kd.scalar],fun j p hj=>?_⟩
  have hlt:=(List.getElem?_eq_some_iff.1 hj).1
  show(((xs.map (Value.int .i64)).drop (j*1)).take 1) = [Value.int .i64 p]
  rw [Nat.mul_one,List.drop_eq_getElem_cons (by simpa using hlt)]
  simp [(List.getElem?_eq_some_iff.1 hj).2]
theorem turn_put {w : World} {g : Nat} {xs : List Int} (h : w.heap[g]? = some (.cells (turnC xs) 2 (0, 0))) (i : Nat) (v : Int) : (w.setCell ⟨g, i, none⟩ (.int .i64 v)).heap[g]? = some (.cells (turnC (xs.set i v)) 2 (0, 0)) := by
 refine blk_put h i _ ?_
 simp [turnC,List.map_set]
theorem turn_order1 (w : World) : (((w.alloc (Obj.cells (turnC turnZ) 2)).alloc (Obj.cells #[] 2)).drew).heap[w.heap.size]? = some (.cells (turnC turnZ) 2 (0, 0)) ∧ (((w.alloc (Obj.cells (turnC turnZ) 2)).alloc (Obj.cells #[] 2)).drew).heap[w.heap.size + 1]? = some (.cells (turnC []) 2 (0, 0)) ∧ w.heap.size + 1 ≠ w.heap.size := by
 refine⟨blk_drew (blk_alloc (Go.Deep.blk_alloc_new w _) _),blk_drew ?_,by omega⟩
 have h:=Go.Deep.blk_alloc_new (w.alloc (Obj.cells (turnC turnZ) 2)) (Obj.cells #[] 2)
 have e:(w.alloc (Obj.cells (turnC turnZ) 2)).heap.size=w.heap.size+1:=Array.size_push _
 rw [e] at h
 exact h
theorem turn_order2 (w : World) : (((w.alloc (Obj.cells #[] 2)).alloc (Obj.cells (turnC turnZ) 2)).drew).heap[w.heap.size + 1]? = some (.cells (turnC turnZ) 2 (0, 0)) ∧ (((w.alloc (Obj.cells #[] 2)).alloc (Obj.cells (turnC turnZ) 2)).drew).heap[w.heap.size]? = some (.cells (turnC []) 2 (0, 0)) ∧ w.heap.size ≠ w.heap.size + 1 := by
 refine⟨blk_drew ?_,blk_drew (blk_alloc (Go.Deep.blk_alloc_new w _) _),by omega⟩
 have h:=Go.Deep.blk_alloc_new (w.alloc (Obj.cells #[] 2)) (Obj.cells (turnC turnZ) 2)
 have e:(w.alloc (Obj.cells #[] 2)).heap.size=w.heap.size+1:=Array.size_push _
 rw [e] at h
 exact h
theorem turn_below1 (w : World) : Below w.heap.size w (((w.alloc (Obj.cells (turnC turnZ) 2)).alloc (Obj.cells #[] 2)).drew) := Fd (Fc (Fc (Below.refl _ _) _) _)
theorem turn_below2 (w : World) : Below w.heap.size w (((w.alloc (Obj.cells #[] 2)).alloc (Obj.cells (turnC turnZ) 2)).drew) := Fd (Fc (Fc (Below.refl _ _) _) _)
def TurnHold (p : Prop) : Prop := p
theorem turn_hold {p : Prop} (h : TurnHold p) : p := h
theorem turn_info : (Try.prog.info? 2).map (fun i => (i.zero, i.size, i.bytes)) = some (some (.int .i64 0), 1, 8) := by kernel_rfl
theorem impl_four_idx (a b c d y : Int) (w : World) (h0 : 0 ≤ y) (h1 : y < 4) : (Instr.index 81 (.agg #[.int .i64 a, .int .i64 b, .int .i64 c, .int .i64 d]) (.int .i64 y)).run Try.prog w = .ok (.int .i64 (([a, b, c, d] : List Int).getD y.toNat 0)) w := by
 have h:y=0∨y=1∨y=2∨y=3:=by omega
 rcases h with rfl|rfl|rfl|rfl
 ·exact impl_four_i0 _ _ _ _ _
 ·exact impl_four_i1 _ _ _ _ _
 ·exact impl_four_i2 _ _ _ _ _
 ·exact impl_four_i3 _ _ _ _ _
theorem turn_cell {w : World} {g : Nat} {xs : List Int} (h : w.heap[g]? = some (.cells (turnC xs) 2 (0, 0))) (i : Nat) (hi : i < xs.length) : w.cell? ⟨g, i, none⟩ = some (.int .i64 (xs.getD i 0)) := by
 refine(Ff h i).trans ?_
 simp [turnC,List.getElem?_eq_getElem hi]
def impl_turn.f (l0 : List Int) : Option (List Int) := if 16 ≤ l0.length then some (turnG (turnMid l0 4) 4 0) else none
attribute [local go_sem] turn_make
set_option maxHeartbeats 4000000 in
set_option maxRecDepth 100000 in
theorem impl_turn_rest (A0 : Option Addr) (c0 : Nat) (l0 : List Int) (w : World) (HR0 : Aside0 (Kd.C (Kd.int .i64) w A0 l0.length l0)) (HL : Aside0 (16 ≤ l0.length)) (HM0 : Aside0 (l0.length ≤ 9223372036854775807)) : True := trivial
set_option maxHeartbeats 4000000 in
set_option maxRecDepth 100000 in
theorem impl_turn.calls (A0 : Option Addr) (c0 : Nat) (l0 : List Int) (r : List Int) (w : World) (hr0 : Kd.C (Kd.int .i64) w A0 l0.length l0) (hc0 : l0.length ≤ c0) (h : impl_turn.f l0 = some r) :
  Calls Try.prog 56 #[.slice A0 l0.length c0] w fun e w'=>∃ v0_:Value,e=.returned (v0_)∧Kd.R (Kd.int .i64) 2 w' w.heap.size (fun _=>True) v0_ r∧Below w.heap.size w w':=by
 have hu81:=impl_four_und
 have HR0:=Fa hr0
 have HC0:=Fa hc0
 have HM0:=Fa hr0.2.1
 clear hr0 hc0
 unfold impl_turn.f at h
 by_cases hl:16≤l0.length
 ·rw [if_pos hl] at h
  obtain rfl:=Option.some.inj h
  clear h
  have HL:=Fa hl
  clear hl
  have A1:=Fa (turn_order1 w)
  have A2:=Fa (turn_order2 w)
  have HB1:=Fa (turn_below1 w)
  have HB2:=Fa (turn_below2 w)
  go_enter Try.func56,Try.ntmps56
  go_wp2
  go_region_held3 (fun _=>True) (trivial) (fail)
  all_goals go_wp2
  all_goals (first|(show Code.wp _ _ _ _ (((w.alloc (Obj.cells #[] 2)).alloc _).drew);obtain⟨bO,bR,hne⟩:=A2.out;have HB:=HB2;generalize ((w.alloc (Obj.cells #[] 2)).alloc (Obj.cells (turnC turnZ) 2)).drew=W1 at bO bR HB ⊢;have HG:=Fa (show w.heap.size≤w.heap.size+1 from Nat.le_succ _);generalize w.heap.size+1=gO at bO HG hne ⊢)|(obtain⟨bO,bR,hne⟩:=A1.out;have HB:=HB1;generalize ((w.alloc (Obj.cells (turnC turnZ) 2)).alloc (Obj.cells #[] 2)).drew=W1 at bO bR HB ⊢;have HG:∃ g,g=w.heap.size:=⟨_,rfl⟩;obtain⟨gO,hgO⟩:=HG;rw [← hgO] at bO bR hne ⊢;have HG:=Fa (Nat.le_of_eq hgO.symm);clear hgO))
  all_goals clear A1 A2 HB1 HB2
  all_goals (have BO:=Fa bO;have BR:=Fa bR;clear bO bR)
  all_goals go_loopg [3,5] 4 (fun gg v3 v5 w'=>∃ (i:Nat),Aside0 (i≤4∧4 - i≤gg)∧v5=.int .i64 (4*(i:Int))∧Aside0 (Kd.R (Kd.int .i64) 2 w' w.heap.size (fun k=>k≠gO) v3 (turnMid l0 i))∧Aside0 (w'.heap[gO]? = some (.cells (turnC turnZ) 2 (0,0)))∧Aside0 (Below w.heap.size w w'))
  case atStart=>exact⟨0,⟨by omega,by omega⟩,rfl,⟨turn_R BR.out rfl (by have:=HG.out;omega) (by omega) hne⟩,BO,HB⟩
  case atStart=>exact⟨0,⟨by omega,by omega⟩,rfl,⟨turn_R BR.out rfl (by have:=HG.out;omega) (by omega) hne⟩,BO,HB⟩
  case round=>
   clear HB BO BR hne W1
   obtain⟨i,HK,rfl,HR,BO,HB⟩:=hrel
   by_cases hlt:i < 4
   ·obtain⟨j,hj⟩:∃ j:Int,4*(i:Int)=j:=⟨_,rfl⟩
    have hj0:0≤j:=by omega
    have hj3:j+3 < (l0.length:Int):=by have:=HL.out;omega
    have hM:l0.length≤9223372036854775807:=HM0.out
    rw [hj]
    obtain⟨j1,hj1⟩:∃ x:Int,j+1=x:=⟨_,rfl⟩
    obtain⟨j2,hj2⟩:∃ x:Int,j+2=x:=⟨_,rfl⟩
    obtain⟨j3,hj3'⟩:∃ x:Int,j+3=x:=⟨_,rfl⟩
    have c3:decide (j < 16)=true:=decide_eq_true (by omega)
    have w1:IntKind.i64.wrap (j+1)=j1:=by rw [i64_w];unfold wrap64;omega
    have w2:IntKind.i64.wrap (j+2)=j2:=by rw [i64_w];unfold wrap64;omega
    have w3:IntKind.i64.wrap (j+3)=j3:=by rw [i64_w];unfold wrap64;omega
    obtain⟨ad,e0,m0⟩:=Kd.at_int (Kd.C_below HR0.out HB.out) j (by omega) (by omega)
    cases e0
    obtain⟨ad1,e1,m1⟩:=Kd.at_int (Kd.C_below HR0.out HB.out) j1 (by omega) (by omega)
    cases e1
    obtain⟨ad2,e2,m2⟩:=Kd.at_int (Kd.C_below HR0.out HB.out) j2 (by omega) (by omega)
    cases e2
    obtain⟨ad3,e3,m3⟩:=Kd.at_int (Kd.C_below HR0.out HB.out) j3 (by omega) (by omega)
    cases e3
    have p0:(0≤j)=True:=eq_true (by omega)
    have p1:(0≤j1)=True:=eq_true (by omega)
    have p2:(0≤j2)=True:=eq_true (by omega)
    have p3:(0≤j3)=True:=eq_true (by omega)
    have q0:(j < (l0.length:Int))=True:=eq_true (by omega)
    have q1:(j1 < (l0.length:Int))=True:=eq_true (by omega)
    have q2:(j2 < (l0.length:Int))=True:=eq_true (by omega)
    have q3:(j3 < (l0.length:Int))=True:=eq_true (by omega)
    have HJ:=Fa (And.intro hj (And.intro hj1 (And.intro hj2 hj3')))
    clear hj hj1 hj2 hj3'
    go_wp2
    have y0:=World.new_ne wr _ m0
    have y1:=World.new_ne wr _ m1
    have y2:=World.new_ne wr _ m2
    have y3:=World.new_ne wr _ m3
    go_region_held3 (fun w'=>w'.cell? (ad.add j.toNat)=some (.int .i64 (rd l0 j))∧w'.cell? (ad.add j1.toNat)=some (.int .i64 (rd l0 j1))∧w'.cell? (ad.add j2.toNat)=some (.int .i64 (rd l0 j2))∧w'.cell? (ad.add j3.toNat)=some (.int .i64 (rd l0 j3))) (go_keep) ((go_at_call 85;refine(impl_four_calls _ _ _ _ _).mono ?_;rintro e w5 ⟨rfl,qc⟩;have hh_:=‹_∧_∧_∧_›;have k0:=(qc.cell (World.block_lt_of_cell? _ _ hh_.1)).trans hh_.1;have n0:=World.new_ne _ _ k0;have k1:=(qc.cell (World.block_lt_of_cell? _ _ hh_.2.1)).trans hh_.2.1;have n1:=World.new_ne _ _ k1;have k2:=(qc.cell (World.block_lt_of_cell? _ _ hh_.2.2.1)).trans hh_.2.2.1;have n2:=World.new_ne _ _ k2;have k3:=(qc.cell (World.block_lt_of_cell? _ _ hh_.2.2.2)).trans hh_.2.2.2;have n3:=World.new_ne _ _ k3;clear hh_;(first|(have b6:=blk_below (g:=wr.heap.size) (o:=.cells #[.int .i64 0,.int .i64 0,.int .i64 0,.int .i64 0] 81 (0,0)) (by first|exact Go.Deep.blk_alloc_new _ _|exact blk_drew (Go.Deep.blk_alloc_new _ _)) qc;have qc0:w5.cell? ⟨wr.heap.size,0,none⟩=some (.int .i64 0):=(Ff b6 0).trans rfl;have qf0:=Fe b6 0;have qc1:w5.cell? ⟨wr.heap.size,1,none⟩=some (.int .i64 0):=(Ff b6 1).trans rfl;have qf1:=Fe b6 1;have qc2:w5.cell? ⟨wr.heap.size,2,none⟩=some (.int .i64 0):=(Ff b6 2).trans rfl;have qf2:=Fe b6 2;have qc3:w5.cell? ⟨wr.heap.size,3,none⟩=some (.int .i64 0):=(Ff b6 3).trans rfl;have qf3:=Fe b6 3;have B6:=Fa b6;clear b6)|skip);have HB5:=Fa qc;clear qc))
    all_goals (first
     | (have BX := Fa (impl_four_blk4 B6.out (.int .i64 (four0 (rd l0 j) (rd l0 j1) (rd l0 j2) (rd l0 j3))) (.int .i64 (four1 (rd l0 j) (rd l0 j1) (rd l0 j2) (rd l0 j3))) (.int .i64 (four2 (rd l0 j) (rd l0 j1) (rd l0 j2) (rd l0 j3))) (.int .i64 (four3 (rd l0 j) (rd l0 j1) (rd l0 j2) (rd l0 j3))))
        have HF:=Fa (Fi (j:=3) (v:=(.int .i64 (four3 (rd l0 j) (rd l0 j1) (rd l0 j2) (rd l0 j3)))) (Fi (j:=2) (v:=(.int .i64 (four2 (rd l0 j) (rd l0 j1) (rd l0 j2) (rd l0 j3)))) (Fi (j:=1) (v:=(.int .i64 (four1 (rd l0 j) (rd l0 j1) (rd l0 j2) (rd l0 j3)))) (Fi (j:=0) (v:=(.int .i64 (four0 (rd l0 j) (rd l0 j1) (rd l0 j2) (rd l0 j3)))) (Fh (by repeat(first|exact Below.refl wr.heap.size wr|apply Fc|apply Fd)) HB5.out) (Nat.le_refl wr.heap.size)) (Nat.le_refl wr.heap.size)) (Nat.le_refl wr.heap.size)) (Nat.le_refl wr.heap.size))
        revert BX HF
        generalize ((((w5.setCell ⟨wr.heap.size,0,none⟩ (.int .i64 (four0 (rd l0 j) (rd l0 j1) (rd l0 j2) (rd l0 j3)))).setCell ⟨wr.heap.size,1,none⟩ (.int .i64 (four1 (rd l0 j) (rd l0 j1) (rd l0 j2) (rd l0 j3)))).setCell ⟨wr.heap.size,2,none⟩ (.int .i64 (four2 (rd l0 j) (rd l0 j1) (rd l0 j2) (rd l0 j3)))).setCell ⟨wr.heap.size,3,none⟩ (.int .i64 (four3 (rd l0 j) (rd l0 j1) (rd l0 j2) (rd l0 j3))))=W2
        intro BX HF)
     | (have BX := Fa (Go.Deep.blk_alloc_new w5 (.cells #[(.int .i64 (four0 (rd l0 j) (rd l0 j1) (rd l0 j2) (rd l0 j3))), (.int .i64 (four1 (rd l0 j) (rd l0 j1) (rd l0 j2) (rd l0 j3))), (.int .i64 (four2 (rd l0 j) (rd l0 j1) (rd l0 j2) (rd l0 j3))), (.int .i64 (four3 (rd l0 j) (rd l0 j1) (rd l0 j2) (rd l0 j3)))] 81 (0, 0)))
        have HF:=Fa (Fc (Fh (by repeat(first|exact Below.refl wr.heap.size wr|apply Fc|apply Fd)) HB5.out) (.cells #[(.int .i64 (four0 (rd l0 j) (rd l0 j1) (rd l0 j2) (rd l0 j3))),(.int .i64 (four1 (rd l0 j) (rd l0 j1) (rd l0 j2) (rd l0 j3))),(.int .i64 (four2 (rd l0 j) (rd l0 j1) (rd l0 j2) (rd l0 j3))),(.int .i64 (four3 (rd l0 j) (rd l0 j1) (rd l0 j2) (rd l0 j3)))] 81 (0,0)))
        revert BX HF
        generalize (w5.alloc (.cells #[(.int .i64 (four0 (rd l0 j) (rd l0 j1) (rd l0 j2) (rd l0 j3))),(.int .i64 (four1 (rd l0 j) (rd l0 j1) (rd l0 j2) (rd l0 j3))),(.int .i64 (four2 (rd l0 j) (rd l0 j1) (rd l0 j2) (rd l0 j3))),(.int .i64 (four3 (rd l0 j) (rd l0 j1) (rd l0 j2) (rd l0 j3)))] 81 (0,0)))=W2
        intro BX HF))
    all_goals (
     replace BX:=Fa (turn_reads BX.out)
     have HB3:=Fa (Fh HB.out HF.out)
     have HR3:=Fa (Kd.R_below HR.out HF.out)
     have BO3:=Fa (blk_below BO.out HF.out)
     have HGB:=Fa (blk_lt BO3.out)
     clear HB BO HR HF
     go_wp2_with (first|((with_reducible refine gate_builtin (b:=.append) (xs:=#[.tmp 36,.tmp 37]) rfl ?_);(try(refine gate_guard (by rfl) ?_;dsimp only));at_builtin;refine turn_hold ?_))
     unfold TurnHold
     refine Kd.R_append_rows (Kd.int .i64) (Rr:=(Kd.int .i64).K W2) (w0:=w) w.heap.size rfl (.tmp 36) (.tmp 37) 22 2 (.int .i64 0) 8 rfl Try.underlying22 turn_info rfl (by decide) (by omega) u3 (turnMid l0 i) (turnFour (rd l0 j) (rd l0 j1) (rd l0 j2) (rd l0 j3)) _ 4 4 (fun k=>k≠gO) (fun _=>False) rfl rfl ?aO ?aR (fun _ _ h=>h) (fun _ hk=>hk.elim) ?aF ?aB ?aS ?aL ?_
     (case aO=>(with_reducible repeat(first|apply Kd.R_alloc|apply Kd.R_drewN|apply Kd.R_drew));exact HR3.out)
     (case aR=>exact BX.out)
     (case aF=>(intro k hk he_;have he2_:k=gO:=he_;have:=HGB.out;have h2:W2.heap.size≤k:=hk;omega))
     (case aB=>(repeat(first|exact HB3.out|apply Fd|apply Fb)))
     (case aS=>exact(Fg HB3.out))
     (case aL=>(rw [turnMid_len];omega))
     intro va_ wa_ hoa_ hba_ hg_ hat_
     clear hat_
     have BO4:=Fa (blk_grown (g:=gO) (o:=.cells (turnC turnZ) 2 (0,0)) (by first|exact BO3.out|exact blk_drewN BO3.out _|exact blk_drew BO3.out) hg_ (Kd.R_away HR3.out (fun _ hk=>hk)))
     have HR4:=Fa hoa_
     have HB4:=Fa hba_
     clear hg_ hoa_ hba_ HR3 HB3 BO3
     go_wp2)
    all_goals (
     have hrow:turnFour (rd l0 j) (rd l0 j1) (rd l0 j2) (rd l0 j3)=turnRow l0 (4*(i:Int)):=by rw [turnRow,HJ.out.1,HJ.out.2.1,HJ.out.2.2.1,HJ.out.2.2.2]
     rw [hrow] at HR4
     have hj4:j+4=4*((i+1:Nat):Int):=by have:=HJ.out.1;omega
     have HJ4:=Fa hj4
     clear hrow hj4
     go_roundg (4 - (i+1))
     (case measure=>(have:=HK.out;omega))
     (case rel=>exact⟨i+1,⟨by omega,by omega⟩,by rw [HJ4.out],HR4,BO4,HB4⟩))
   ·obtain⟨j,hj⟩:∃ j:Int,4*(i:Int)=j:=⟨_,rfl⟩
    have hi4:i=4:=by have:=HK.out;omega
    subst hi4
    rw [hj]
    have c3:decide (j < 16)=false:=decide_eq_false (by omega)
    clear hj
    obtain⟨mid,hmid⟩:∃ m:List Int,turnMid l0 4=m:=⟨_,rfl⟩
    have hlen:mid.length=16:=by rw [← hmid,turnMid_len]
    rw [hmid] at HR
    have HMID:=Fa hmid
    have HLEN:=Fa hlen
    clear hmid hlen
    obtain⟨AR,cR,eR,_,_⟩:=Kd.R_reads HR.out
    subst eR
    go_wp2
    go_loopg [39] 4 (fun gg v39 w'=>∃ x:Int,Aside0 (0≤x∧x≤4∧4 - x≤(gg:Int))∧v39=.int .i64 x∧Aside0 (Kd.R (Kd.int .i64) 2 w' w.heap.size (fun k=>k≠gO) (.slice AR mid.length cR) mid)∧Aside0 (w'.heap[gO]? = some (.cells (turnC (turnG mid x.toNat 0)) 2 (0,0)))∧Aside0 (Below w.heap.size w w'))
    case atStart=>exact⟨0,⟨by omega,by omega,by omega⟩,rfl,HR,⟨by rw [show turnG mid (Int.toNat 0) 0=turnZ from turnG_0 mid];exact BO.out⟩,HB⟩
    case round=>
     clear HB BO HR
     obtain⟨x,HX,rfl,HR,BO,HB⟩:=hrel
     by_cases hx:x < 4
     ·have hx0:0≤x:=HX.out.1
      have c4:decide (x < 4)=true:=decide_eq_true hx
      have hl16:mid.length=16:=HLEN.out
      obtain⟨x1,hx1⟩:∃ z:Int,4+x=z:=⟨_,rfl⟩
      obtain⟨x2,hx2⟩:∃ z:Int,8+x=z:=⟨_,rfl⟩
      obtain⟨x3,hx3⟩:∃ z:Int,12+x=z:=⟨_,rfl⟩
      have w1:IntKind.i64.wrap (4+x)=x1:=by rw [i64_w];unfold wrap64;omega
      have w2:IntKind.i64.wrap (8+x)=x2:=by rw [i64_w];unfold wrap64;omega
      have w3:IntKind.i64.wrap (12+x)=x3:=by rw [i64_w];unfold wrap64;omega
      obtain⟨ad,e0,m0⟩:=Kd.at_int (Kd.R_reads' HR.out).2.2 x (by omega) (by omega)
      cases e0
      obtain⟨ad1,e1,m1⟩:=Kd.at_int (Kd.R_reads' HR.out).2.2 x1 (by omega) (by omega)
      cases e1
      obtain⟨ad2,e2,m2⟩:=Kd.at_int (Kd.R_reads' HR.out).2.2 x2 (by omega) (by omega)
      cases e2
      obtain⟨ad3,e3,m3⟩:=Kd.at_int (Kd.R_reads' HR.out).2.2 x3 (by omega) (by omega)
      cases e3
      have p0:(0≤x)=True:=eq_true (by omega)
      have p1:(0≤x1)=True:=eq_true (by omega)
      have p2:(0≤x2)=True:=eq_true (by omega)
      have p3:(0≤x3)=True:=eq_true (by omega)
      have q0:(x < (mid.length:Int))=True:=eq_true (by omega)
      have q1:(x1 < (mid.length:Int))=True:=eq_true (by omega)
      have q2:(x2 < (mid.length:Int))=True:=eq_true (by omega)
      have q3:(x3 < (mid.length:Int))=True:=eq_true (by omega)
      have HXS:=Fa (And.intro hx1 (And.intro hx2 hx3))
      clear hx1 hx2 hx3 hl16
      go_wp2
      have y0:=World.new_ne wr _ m0
      have y1:=World.new_ne wr _ m1
      have y2:=World.new_ne wr _ m2
      have y3:=World.new_ne wr _ m3
      go_region_held3 (fun w'=>w'.cell? (ad.add x.toNat)=some (.int .i64 (rd mid x))∧w'.cell? (ad.add x1.toNat)=some (.int .i64 (rd mid x1))∧w'.cell? (ad.add x2.toNat)=some (.int .i64 (rd mid x2))∧w'.cell? (ad.add x3.toNat)=some (.int .i64 (rd mid x3))) (go_keep) ((go_at_call 85;refine(impl_four_calls _ _ _ _ _).mono ?_;rintro e w5 ⟨rfl,qc⟩;have hh_:=‹_∧_∧_∧_›;have k0:=(qc.cell (World.block_lt_of_cell? _ _ hh_.1)).trans hh_.1;have k1:=(qc.cell (World.block_lt_of_cell? _ _ hh_.2.1)).trans hh_.2.1;have k2:=(qc.cell (World.block_lt_of_cell? _ _ hh_.2.2.1)).trans hh_.2.2.1;have k3:=(qc.cell (World.block_lt_of_cell? _ _ hh_.2.2.2)).trans hh_.2.2.2;clear hh_;have HB5:=Fa qc;clear qc))
      have HF:=Fa (Fh (by repeat(first|exact Below.refl wr.heap.size wr|apply Fc|apply Fd)) HB5.out)
      have HB3:=Fa (Fh HB.out HF.out)
      have HR3:=Fa (Kd.R_below HR.out HF.out)
      have BO3:=Fa (blk_below BO.out HF.out)
      have hcol:turnFour (rd mid x) (rd mid x1) (rd mid x2) (rd mid x3)=turnCol mid x:=by rw [turnCol,HXS.out.1,HXS.out.2.1,HXS.out.2.2]
      have HCOL:=Fa hcol
      clear HB BO HR HF HB5 hcol k0 k1 k2 k3 m0 m1 m2 m3 y0 y1 y2 y3 w1 w2 w3
      obtain⟨f0,hf0⟩:∃ z,four0 (rd mid x) (rd mid x1) (rd mid x2) (rd mid x3)=z:=⟨_,rfl⟩
      obtain⟨f1,hf1⟩:∃ z,four1 (rd mid x) (rd mid x1) (rd mid x2) (rd mid x3)=z:=⟨_,rfl⟩
      obtain⟨f2,hf2⟩:∃ z,four2 (rd mid x) (rd mid x1) (rd mid x2) (rd mid x3)=z:=⟨_,rfl⟩
      obtain⟨f3,hf3⟩:∃ z,four3 (rd mid x) (rd mid x1) (rd mid x2) (rd mid x3)=z:=⟨_,rfl⟩
      rw [hf0,hf1,hf2,hf3]
      replace HCOL:=Fa (show([f0,f1,f2,f3]:List Int)=turnCol mid x by rw [← HCOL.out,turnFour,hf0,hf1,hf2,hf3])
      clear hf0 hf1 hf2 hf3
      go_wp2
      go_loopg [62] 4 (fun gy v62 w'=>∃ y:Int,Aside0 (0≤y∧y≤4∧4 - y≤(gy:Int))∧v62=.int .i64 y∧Aside0 (Kd.R (Kd.int .i64) 2 w' w.heap.size (fun k=>k≠gO) (.slice (some ad) mid.length cR) mid)∧Aside0 (w'.heap[gO]? = some (.cells (turnC (turnG mid x.toNat y.toNat)) 2 (0,0)))∧Aside0 (Below w.heap.size w w'))
      case atStart=>exact⟨0,⟨by omega,by omega,by omega⟩,rfl,HR3,BO3,HB3⟩
      case round=>
       clear HB3 BO3 HR3
       obtain⟨y,HY,rfl,HR,BO,HB⟩:=hrel
       by_cases hy:y < 4
       ·have hy0:0≤y:=HY.out.1
        have c5:decide (y < 4)=true:=decide_eq_true hy
        have p5:(0≤y)=True:=eq_true hy0
        have q5:(y < 4)=True:=eq_true hy
        obtain⟨ym,hym⟩:∃ z:Int,y*4=z:=⟨_,rfl⟩
        obtain⟨ix,hix⟩:∃ z:Int,ym+x=z:=⟨_,rfl⟩
        have w1:IntKind.i64.wrap (y*4)=ym:=by rw [i64_w];unfold wrap64;omega
        have w2:IntKind.i64.wrap (ym+x)=ix:=by rw [i64_w];unfold wrap64;omega
        have p6:(0≤ix)=True:=eq_true (by omega)
        have q6:(ix < 16)=True:=eq_true (by omega)
        have hin:ix.toNat < (turnG mid x.toNat y.toNat).length:=by rw [turnG_len];omega
        have xo:=turn_cell BO.out ix.toNat hin
        have fo:=Fe BO.out ix.toNat
        have hset:(turnG mid x.toNat y.toNat).set ix.toNat (([f0,f1,f2,f3]:List Int).getD y.toNat 0)=turnG mid x.toNat (y.toNat+1):=by
         rw [HCOL.out,show ix.toNat=4*y.toNat+x.toNat by omega]
         have:=turnG_set mid x.toNat y.toNat (by omega) (by omega)
         rwa [Int.toNat_of_nonneg hx0] at this
        have BO2:=Fa (turn_put BO.out ix.toNat (([f0,f1,f2,f3]:List Int).getD y.toNat 0))
        rw [hset] at BO2
        have HR2:=Fa (Kd.R_far (p:=⟨gO,ix.toNat,none⟩) HR.out (fun k hk=>hk) (.int .i64 (([f0,f1,f2,f3]:List Int).getD y.toNat 0)))
        have HB2:=Fa (Fi (j:=ix.toNat) (v:=.int .i64 (([f0,f1,f2,f3]:List Int).getD y.toNat 0)) HB.out HG.out)
        have HYS:=Fa (And.intro hym hix)
        clear hym hix hset hin BO HR HB
        revert BO2 HR2 HB2
        obtain⟨ff,hff⟩:∃ z,([f0,f1,f2,f3]:List Int).getD y.toNat 0=z:=⟨_,rfl⟩
        have hid:∀ W:World,(Instr.index 81 (.agg #[.int .i64 f0,.int .i64 f1,.int .i64 f2,.int .i64 f3]) (.int .i64 y)).run Try.prog W=.ok (.int .i64 ff) W:=fun W=>by rw [impl_four_idx _ _ _ _ _ _ hy0 hy,hff]
        rw [hff]
        intro BO2 HR2 HB2
        clear hff
        go_wp2
        go_roundg (3 - y).toNat
        case measure=>have:=HY.out;omega
        case rel=>exact⟨y+1,⟨by omega,by omega,by omega⟩,by first|rfl|go_num|(simp;done),HR2,⟨by rw [show(y+1).toNat=y.toNat+1 by omega];exact BO2.out⟩,HB2⟩
       ·have c5:decide (y < 4)=false:=decide_eq_false hy
        have BO2:=Fa (show wr.heap[gO]? = some (.cells (turnC (turnG mid (x+1).toNat 0)) 2 (0,0)) by
         have h:=BO.out
         rw [show y.toNat=4 by have:=HY.out;omega,turnG_next,← show(x+1).toNat=x.toNat+1 by omega] at h
         exact h)
        clear BO
        go_wp2
        go_roundg (3 - x).toNat
        case measure=>have:=HX.out;omega
        case rel=>exact⟨x+1,⟨by omega,by omega,by omega⟩,by first|rfl|go_num|(simp;done),HR,BO2,HB⟩
     ·have c4:decide (x < 4)=false:=decide_eq_false hx
      have BO2:=Fa (show wr.heap[gO]? = some (.cells (turnC (turnG (turnMid l0 4) 4 0)) 2 (0,0)) by
       have h:=BO.out
       rw [show x.toNat=4 by have:=HX.out;omega] at h
       rw [HMID.out]
       exact h)
      clear BO
      go_wp2
      go_ret
      exact⟨_,rfl,turn_R BO2.out (turnG_len _ _ _) HG.out (by omega) trivial,HB.out⟩
  case round=>
   clear HB BO BR hne W1
   obtain⟨i,HK,rfl,HR,BO,HB⟩:=hrel
   by_cases hlt:i < 4
   ·obtain⟨j,hj⟩:∃ j:Int,4*(i:Int)=j:=⟨_,rfl⟩
    have hj0:0≤j:=by omega
    have hj3:j+3 < (l0.length:Int):=by have:=HL.out;omega
    have hM:l0.length≤9223372036854775807:=HM0.out
    rw [hj]
    obtain⟨j1,hj1⟩:∃ x:Int,j+1=x:=⟨_,rfl⟩
    obtain⟨j2,hj2⟩:∃ x:Int,j+2=x:=⟨_,rfl⟩
    obtain⟨j3,hj3'⟩:∃ x:Int,j+3=x:=⟨_,rfl⟩
    have c3:decide (j < 16)=true:=decide_eq_true (by omega)
    have w1:IntKind.i64.wrap (j+1)=j1:=by rw [i64_w];unfold wrap64;omega
    have w2:IntKind.i64.wrap (j+2)=j2:=by rw [i64_w];unfold wrap64;omega
    have w3:IntKind.i64.wrap (j+3)=j3:=by rw [i64_w];unfold wrap64;omega
    obtain⟨ad,e0,m0⟩:=Kd.at_int (Kd.C_below HR0.out HB.out) j (by omega) (by omega)
    cases e0
    obtain⟨ad1,e1,m1⟩:=Kd.at_int (Kd.C_below HR0.out HB.out) j1 (by omega) (by omega)
    cases e1
    obtain⟨ad2,e2,m2⟩:=Kd.at_int (Kd.C_below HR0.out HB.out) j2 (by omega) (by omega)
    cases e2
    obtain⟨ad3,e3,m3⟩:=Kd.at_int (Kd.C_below HR0.out HB.out) j3 (by omega) (by omega)
    cases e3
    have p0:(0≤j)=True:=eq_true (by omega)
    have p1:(0≤j1)=True:=eq_true (by omega)
    have p2:(0≤j2)=True:=eq_true (by omega)
    have p3:(0≤j3)=True:=eq_true (by omega)
    have q0:(j < (l0.length:Int))=True:=eq_true (by omega)
    have q1:(j1 < (l0.length:Int))=True:=eq_true (by omega)
    have q2:(j2 < (l0.length:Int))=True:=eq_true (by omega)
    have q3:(j3 < (l0.length:Int))=True:=eq_true (by omega)
    have HJ:=Fa (And.intro hj (And.intro hj1 (And.intro hj2 hj3')))
    clear hj hj1 hj2 hj3'
    go_wp2
    have y0:=World.new_ne wr _ m0
    have y1:=World.new_ne wr _ m1
    have y2:=World.new_ne wr _ m2
    have y3:=World.new_ne wr _ m3
    go_region_held3 (fun w'=>w'.cell? (ad.add j.toNat)=some (.int .i64 (rd l0 j))∧w'.cell? (ad.add j1.toNat)=some (.int .i64 (rd l0 j1))∧w'.cell? (ad.add j2.toNat)=some (.int .i64 (rd l0 j2))∧w'.cell? (ad.add j3.toNat)=some (.int .i64 (rd l0 j3))) (go_keep) ((go_at_call 85;refine(impl_four_calls _ _ _ _ _).mono ?_;rintro e w5 ⟨rfl,qc⟩;have hh_:=‹_∧_∧_∧_›;have k0:=(qc.cell (World.block_lt_of_cell? _ _ hh_.1)).trans hh_.1;have n0:=World.new_ne _ _ k0;have k1:=(qc.cell (World.block_lt_of_cell? _ _ hh_.2.1)).trans hh_.2.1;have n1:=World.new_ne _ _ k1;have k2:=(qc.cell (World.block_lt_of_cell? _ _ hh_.2.2.1)).trans hh_.2.2.1;have n2:=World.new_ne _ _ k2;have k3:=(qc.cell (World.block_lt_of_cell? _ _ hh_.2.2.2)).trans hh_.2.2.2;have n3:=World.new_ne _ _ k3;clear hh_;(first|(have b6:=blk_below (g:=wr.heap.size) (o:=.cells #[.int .i64 0,.int .i64 0,.int .i64 0,.int .i64 0] 81 (0,0)) (by first|exact Go.Deep.blk_alloc_new _ _|exact blk_drew (Go.Deep.blk_alloc_new _ _)) qc;have qc0:w5.cell? ⟨wr.heap.size,0,none⟩=some (.int .i64 0):=(Ff b6 0).trans rfl;have qf0:=Fe b6 0;have qc1:w5.cell? ⟨wr.heap.size,1,none⟩=some (.int .i64 0):=(Ff b6 1).trans rfl;have qf1:=Fe b6 1;have qc2:w5.cell? ⟨wr.heap.size,2,none⟩=some (.int .i64 0):=(Ff b6 2).trans rfl;have qf2:=Fe b6 2;have qc3:w5.cell? ⟨wr.heap.size,3,none⟩=some (.int .i64 0):=(Ff b6 3).trans rfl;have qf3:=Fe b6 3;have B6:=Fa b6;clear b6)|skip);have HB5:=Fa qc;clear qc))
    all_goals (first
     | (have BX := Fa (impl_four_blk4 B6.out (.int .i64 (four0 (rd l0 j) (rd l0 j1) (rd l0 j2) (rd l0 j3))) (.int .i64 (four1 (rd l0 j) (rd l0 j1) (rd l0 j2) (rd l0 j3))) (.int .i64 (four2 (rd l0 j) (rd l0 j1) (rd l0 j2) (rd l0 j3))) (.int .i64 (four3 (rd l0 j) (rd l0 j1) (rd l0 j2) (rd l0 j3))))
        have HF:=Fa (Fi (j:=3) (v:=(.int .i64 (four3 (rd l0 j) (rd l0 j1) (rd l0 j2) (rd l0 j3)))) (Fi (j:=2) (v:=(.int .i64 (four2 (rd l0 j) (rd l0 j1) (rd l0 j2) (rd l0 j3)))) (Fi (j:=1) (v:=(.int .i64 (four1 (rd l0 j) (rd l0 j1) (rd l0 j2) (rd l0 j3)))) (Fi (j:=0) (v:=(.int .i64 (four0 (rd l0 j) (rd l0 j1) (rd l0 j2) (rd l0 j3)))) (Fh (by repeat(first|exact Below.refl wr.heap.size wr|apply Fc|apply Fd)) HB5.out) (Nat.le_refl wr.heap.size)) (Nat.le_refl wr.heap.size)) (Nat.le_refl wr.heap.size)) (Nat.le_refl wr.heap.size))
        revert BX HF
        generalize ((((w5.setCell ⟨wr.heap.size,0,none⟩ (.int .i64 (four0 (rd l0 j) (rd l0 j1) (rd l0 j2) (rd l0 j3)))).setCell ⟨wr.heap.size,1,none⟩ (.int .i64 (four1 (rd l0 j) (rd l0 j1) (rd l0 j2) (rd l0 j3)))).setCell ⟨wr.heap.size,2,none⟩ (.int .i64 (four2 (rd l0 j) (rd l0 j1) (rd l0 j2) (rd l0 j3)))).setCell ⟨wr.heap.size,3,none⟩ (.int .i64 (four3 (rd l0 j) (rd l0 j1) (rd l0 j2) (rd l0 j3))))=W2
        intro BX HF)
     | (have BX := Fa (Go.Deep.blk_alloc_new w5 (.cells #[(.int .i64 (four0 (rd l0 j) (rd l0 j1) (rd l0 j2) (rd l0 j3))), (.int .i64 (four1 (rd l0 j) (rd l0 j1) (rd l0 j2) (rd l0 j3))), (.int .i64 (four2 (rd l0 j) (rd l0 j1) (rd l0 j2) (rd l0 j3))), (.int .i64 (four3 (rd l0 j) (rd l0 j1) (rd l0 j2) (rd l0 j3)))] 81 (0, 0)))
        have HF:=Fa (Fc (Fh (by repeat(first|exact Below.refl wr.heap.size wr|apply Fc|apply Fd)) HB5.out) (.cells #[(.int .i64 (four0 (rd l0 j) (rd l0 j1) (rd l0 j2) (rd l0 j3))),(.int .i64 (four1 (rd l0 j) (rd l0 j1) (rd l0 j2) (rd l0 j3))),(.int .i64 (four2 (rd l0 j) (rd l0 j1) (rd l0 j2) (rd l0 j3))),(.int .i64 (four3 (rd l0 j) (rd l0 j1) (rd l0 j2) (rd l0 j3)))] 81 (0,0)))
        revert BX HF
        generalize (w5.alloc (.cells #[(.int .i64 (four0 (rd l0 j) (rd l0 j1) (rd l0 j2) (rd l0 j3))),(.int .i64 (four1 (rd l0 j) (rd l0 j1) (rd l0 j2) (rd l0 j3))),(.int .i64 (four2 (rd l0 j) (rd l0 j1) (rd l0 j2) (rd l0 j3))),(.int .i64 (four3 (rd l0 j) (rd l0 j1) (rd l0 j2) (rd l0 j3)))] 81 (0,0)))=W2
        intro BX HF))
    all_goals (
     replace BX:=Fa (turn_reads BX.out)
     have HB3:=Fa (Fh HB.out HF.out)
     have HR3:=Fa (Kd.R_below HR.out HF.out)
     have BO3:=Fa (blk_below BO.out HF.out)
     have HGB:=Fa (blk_lt BO3.out)
     clear HB BO HR HF
     go_wp2_with (first|((with_reducible refine gate_builtin (b:=.append) (xs:=#[.tmp 36,.tmp 37]) rfl ?_);(try(refine gate_guard (by rfl) ?_;dsimp only));at_builtin;refine turn_hold ?_))
     unfold TurnHold
     refine Kd.R_append_rows (Kd.int .i64) (Rr:=(Kd.int .i64).K W2) (w0:=w) w.heap.size rfl (.tmp 36) (.tmp 37) 22 2 (.int .i64 0) 8 rfl Try.underlying22 turn_info rfl (by decide) (by omega) u3 (turnMid l0 i) (turnFour (rd l0 j) (rd l0 j1) (rd l0 j2) (rd l0 j3)) _ 4 4 (fun k=>k≠gO) (fun _=>False) rfl rfl ?aO ?aR (fun _ _ h=>h) (fun _ hk=>hk.elim) ?aF ?aB ?aS ?aL ?_
     (case aO=>(with_reducible repeat(first|apply Kd.R_alloc|apply Kd.R_drewN|apply Kd.R_drew));exact HR3.out)
     (case aR=>exact BX.out)
     (case aF=>(intro k hk he_;have he2_:k=gO:=he_;have:=HGB.out;have h2:W2.heap.size≤k:=hk;omega))
     (case aB=>(repeat(first|exact HB3.out|apply Fd|apply Fb)))
     (case aS=>exact(Fg HB3.out))
     (case aL=>(rw [turnMid_len];omega))
     intro va_ wa_ hoa_ hba_ hg_ hat_
     clear hat_
     have BO4:=Fa (blk_grown (g:=gO) (o:=.cells (turnC turnZ) 2 (0,0)) (by first|exact BO3.out|exact blk_drewN BO3.out _|exact blk_drew BO3.out) hg_ (Kd.R_away HR3.out (fun _ hk=>hk)))
     have HR4:=Fa hoa_
     have HB4:=Fa hba_
     clear hg_ hoa_ hba_ HR3 HB3 BO3
     go_wp2)
    all_goals (
     have hrow:turnFour (rd l0 j) (rd l0 j1) (rd l0 j2) (rd l0 j3)=turnRow l0 (4*(i:Int)):=by rw [turnRow,HJ.out.1,HJ.out.2.1,HJ.out.2.2.1,HJ.out.2.2.2]
     rw [hrow] at HR4
     have hj4:j+4=4*((i+1:Nat):Int):=by have:=HJ.out.1;omega
     have HJ4:=Fa hj4
     clear hrow hj4
     go_roundg (4 - (i+1))
     (case measure=>(have:=HK.out;omega))
     (case rel=>exact⟨i+1,⟨by omega,by omega⟩,by rw [HJ4.out],HR4,BO4,HB4⟩))
   ·obtain⟨j,hj⟩:∃ j:Int,4*(i:Int)=j:=⟨_,rfl⟩
    have hi4:i=4:=by have:=HK.out;omega
    subst hi4
    rw [hj]
    have c3:decide (j < 16)=false:=decide_eq_false (by omega)
    clear hj
    obtain⟨mid,hmid⟩:∃ m:List Int,turnMid l0 4=m:=⟨_,rfl⟩
    have hlen:mid.length=16:=by rw [← hmid,turnMid_len]
    rw [hmid] at HR
    have HMID:=Fa hmid
    have HLEN:=Fa hlen
    clear hmid hlen
    obtain⟨AR,cR,eR,_,_⟩:=Kd.R_reads HR.out
    subst eR
    go_wp2
    go_loopg [39] 4 (fun gg v39 w'=>∃ x:Int,Aside0 (0≤x∧x≤4∧4 - x≤(gg:Int))∧v39=.int .i64 x∧Aside0 (Kd.R (Kd.int .i64) 2 w' w.heap.size (fun k=>k≠gO) (.slice AR mid.length cR) mid)∧Aside0 (w'.heap[gO]? = some (.cells (turnC (turnG mid x.toNat 0)) 2 (0,0)))∧Aside0 (Below w.heap.size w w'))
    case atStart=>exact⟨0,⟨by omega,by omega,by omega⟩,rfl,HR,⟨by rw [show turnG mid (Int.toNat 0) 0=turnZ from turnG_0 mid];exact BO.out⟩,HB⟩
    case round=>
     clear HB BO HR
     obtain⟨x,HX,rfl,HR,BO,HB⟩:=hrel
     by_cases hx:x < 4
     ·have hx0:0≤x:=HX.out.1
      have c4:decide (x < 4)=true:=decide_eq_true hx
      have hl16:mid.length=16:=HLEN.out
      obtain⟨x1,hx1⟩:∃ z:Int,4+x=z:=⟨_,rfl⟩
      obtain⟨x2,hx2⟩:∃ z:Int,8+x=z:=⟨_,rfl⟩
      obtain⟨x3,hx3⟩:∃ z:Int,12+x=z:=⟨_,rfl⟩
      have w1:IntKind.i64.wrap (4+x)=x1:=by rw [i64_w];unfold wrap64;omega
      have w2:IntKind.i64.wrap (8+x)=x2:=by rw [i64_w];unfold wrap64;omega
      have w3:IntKind.i64.wrap (12+x)=x3:=by rw [i64_w];unfold wrap64;omega
      obtain⟨ad,e0,m0⟩:=Kd.at_int (Kd.R_reads' HR.out).2.2 x (by omega) (by omega)
      cases e0
      obtain⟨ad1,e1,m1⟩:=Kd.at_int (Kd.R_reads' HR.out).2.2 x1 (by omega) (by omega)
      cases e1
      obtain⟨ad2,e2,m2⟩:=Kd.at_int (Kd.R_reads' HR.out).2.2 x2 (by omega) (by omega)
      cases e2
      obtain⟨ad3,e3,m3⟩:=Kd.at_int (Kd.R_reads' HR.out).2.2 x3 (by omega) (by omega)
      cases e3
      have p0:(0≤x)=True:=eq_true (by omega)
      have p1:(0≤x1)=True:=eq_true (by omega)
      have p2:(0≤x2)=True:=eq_true (by omega)
      have p3:(0≤x3)=True:=eq_true (by omega)
      have q0:(x < (mid.length:Int))=True:=eq_true (by omega)
      have q1:(x1 < (mid.length:Int))=True:=eq_true (by omega)
      have q2:(x2 < (mid.length:Int))=True:=eq_true (by omega)
      have q3:(x3 < (mid.length:Int))=True:=eq_true (by omega)
      have HXS:=Fa (And.intro hx1 (And.intro hx2 hx3))
      clear hx1 hx2 hx3 hl16
      go_wp2
      have y0:=World.new_ne wr _ m0
      have y1:=World.new_ne wr _ m1
      have y2:=World.new_ne wr _ m2
      have y3:=World.new_ne wr _ m3
      go_region_held3 (fun w'=>w'.cell? (ad.add x.toNat)=some (.int .i64 (rd mid x))∧w'.cell? (ad.add x1.toNat)=some (.int .i64 (rd mid x1))∧w'.cell? (ad.add x2.toNat)=some (.int .i64 (rd mid x2))∧w'.cell? (ad.add x3.toNat)=some (.int .i64 (rd mid x3))) (go_keep) ((go_at_call 85;refine(impl_four_calls _ _ _ _ _).mono ?_;rintro e w5 ⟨rfl,qc⟩;have hh_:=‹_∧_∧_∧_›;have k0:=(qc.cell (World.block_lt_of_cell? _ _ hh_.1)).trans hh_.1;have k1:=(qc.cell (World.block_lt_of_cell? _ _ hh_.2.1)).trans hh_.2.1;have k2:=(qc.cell (World.block_lt_of_cell? _ _ hh_.2.2.1)).trans hh_.2.2.1;have k3:=(qc.cell (World.block_lt_of_cell? _ _ hh_.2.2.2)).trans hh_.2.2.2;clear hh_;have HB5:=Fa qc;clear qc))
      have HF:=Fa (Fh (by repeat(first|exact Below.refl wr.heap.size wr|apply Fc|apply Fd)) HB5.out)
      have HB3:=Fa (Fh HB.out HF.out)
      have HR3:=Fa (Kd.R_below HR.out HF.out)
      have BO3:=Fa (blk_below BO.out HF.out)
      have hcol:turnFour (rd mid x) (rd mid x1) (rd mid x2) (rd mid x3)=turnCol mid x:=by rw [turnCol,HXS.out.1,HXS.out.2.1,HXS.out.2.2]
      have HCOL:=Fa hcol
      clear HB BO HR HF HB5 hcol k0 k1 k2 k3 m0 m1 m2 m3 y0 y1 y2 y3 w1 w2 w3
      obtain⟨f0,hf0⟩:∃ z,four0 (rd mid x) (rd mid x1) (rd mid x2) (rd mid x3)=z:=⟨_,rfl⟩
      obtain⟨f1,hf1⟩:∃ z,four1 (rd mid x) (rd mid x1) (rd mid x2) (rd mid x3)=z:=⟨_,rfl⟩
      obtain⟨f2,hf2⟩:∃ z,four2 (rd mid x) (rd mid x1) (rd mid x2) (rd mid x3)=z:=⟨_,rfl⟩
      obtain⟨f3,hf3⟩:∃ z,four3 (rd mid x) (rd mid x1) (rd mid x2) (rd mid x3)=z:=⟨_,rfl⟩
      rw [hf0,hf1,hf2,hf3]
      replace HCOL:=Fa (show([f0,f1,f2,f3]:List Int)=turnCol mid x by rw [← HCOL.out,turnFour,hf0,hf1,hf2,hf3])
      clear hf0 hf1 hf2 hf3
      go_wp2
      go_loopg [62] 4 (fun gy v62 w'=>∃ y:Int,Aside0 (0≤y∧y≤4∧4 - y≤(gy:Int))∧v62=.int .i64 y∧Aside0 (Kd.R (Kd.int .i64) 2 w' w.heap.size (fun k=>k≠gO) (.slice (some ad) mid.length cR) mid)∧Aside0 (w'.heap[gO]? = some (.cells (turnC (turnG mid x.toNat y.toNat)) 2 (0,0)))∧Aside0 (Below w.heap.size w w'))
      case atStart=>exact⟨0,⟨by omega,by omega,by omega⟩,rfl,HR3,BO3,HB3⟩
      case round=>
       clear HB3 BO3 HR3
       obtain⟨y,HY,rfl,HR,BO,HB⟩:=hrel
       by_cases hy:y < 4
       ·have hy0:0≤y:=HY.out.1
        have c5:decide (y < 4)=true:=decide_eq_true hy
        have p5:(0≤y)=True:=eq_true hy0
        have q5:(y < 4)=True:=eq_true hy
        obtain⟨ym,hym⟩:∃ z:Int,y*4=z:=⟨_,rfl⟩
        obtain⟨ix,hix⟩:∃ z:Int,ym+x=z:=⟨_,rfl⟩
        have w1:IntKind.i64.wrap (y*4)=ym:=by rw [i64_w];unfold wrap64;omega
        have w2:IntKind.i64.wrap (ym+x)=ix:=by rw [i64_w];unfold wrap64;omega
        have p6:(0≤ix)=True:=eq_true (by omega)
        have q6:(ix < 16)=True:=eq_true (by omega)
        have hin:ix.toNat < (turnG mid x.toNat y.toNat).length:=by rw [turnG_len];omega
        have xo:=turn_cell BO.out ix.toNat hin
        have fo:=Fe BO.out ix.toNat
        have hset:(turnG mid x.toNat y.toNat).set ix.toNat (([f0,f1,f2,f3]:List Int).getD y.toNat 0)=turnG mid x.toNat (y.toNat+1):=by
         rw [HCOL.out,show ix.toNat=4*y.toNat+x.toNat by omega]
         have:=turnG_set mid x.toNat y.toNat (by omega) (by omega)
         rwa [Int.toNat_of_nonneg hx0] at this
        have BO2:=Fa (turn_put BO.out ix.toNat (([f0,f1,f2,f3]:List Int).getD y.toNat 0))
        rw [hset] at BO2
        have HR2:=Fa (Kd.R_far (p:=⟨gO,ix.toNat,none⟩) HR.out (fun k hk=>hk) (.int .i64 (([f0,f1,f2,f3]:List Int).getD y.toNat 0)))
        have HB2:=Fa (Fi (j:=ix.toNat) (v:=.int .i64 (([f0,f1,f2,f3]:List Int).getD y.toNat 0)) HB.out HG.out)
        have HYS:=Fa (And.intro hym hix)
        clear hym hix hset hin BO HR HB
        revert BO2 HR2 HB2
        obtain⟨ff,hff⟩:∃ z,([f0,f1,f2,f3]:List Int).getD y.toNat 0=z:=⟨_,rfl⟩
        have hid:∀ W:World,(Instr.index 81 (.agg #[.int .i64 f0,.int .i64 f1,.int .i64 f2,.int .i64 f3]) (.int .i64 y)).run Try.prog W=.ok (.int .i64 ff) W:=fun W=>by rw [impl_four_idx _ _ _ _ _ _ hy0 hy,hff]
        rw [hff]
        intro BO2 HR2 HB2
        clear hff
        go_wp2
        go_roundg (3 - y).toNat
        case measure=>have:=HY.out;omega
        case rel=>exact⟨y+1,⟨by omega,by omega,by omega⟩,by first|rfl|go_num|(simp;done),HR2,⟨by rw [show(y+1).toNat=y.toNat+1 by omega];exact BO2.out⟩,HB2⟩
       ·have c5:decide (y < 4)=false:=decide_eq_false hy
        have BO2:=Fa (show wr.heap[gO]? = some (.cells (turnC (turnG mid (x+1).toNat 0)) 2 (0,0)) by
         have h:=BO.out
         rw [show y.toNat=4 by have:=HY.out;omega,turnG_next,← show(x+1).toNat=x.toNat+1 by omega] at h
         exact h)
        clear BO
        go_wp2
        go_roundg (3 - x).toNat
        case measure=>have:=HX.out;omega
        case rel=>exact⟨x+1,⟨by omega,by omega,by omega⟩,by first|rfl|go_num|(simp;done),HR,BO2,HB⟩
     ·have c4:decide (x < 4)=false:=decide_eq_false hx
      have BO2:=Fa (show wr.heap[gO]? = some (.cells (turnC (turnG (turnMid l0 4) 4 0)) 2 (0,0)) by
       have h:=BO.out
       rw [show x.toNat=4 by have:=HX.out;omega] at h
       rw [HMID.out]
       exact h)
      clear BO
      go_wp2
      go_ret
      exact⟨_,rfl,turn_R BO2.out (turnG_len _ _ _) HG.out (by omega) trivial,HB.out⟩
 ·rw [if_neg hl] at h
  cases h


/-! ### impl_Picture_blocks: function 70 -/
def impl_Picture_blocks.f (a0_0 : Int) (a0_1 : Int) (l0_2 : List Int) : Option (Int) := some (wrap64 ((wrap64 (Int.tdiv a0_0 4)) * (wrap64 (Int.tdiv a0_1 4))))
set_option maxHeartbeats 8000000 in
set_option maxRecDepth 100000 in
theorem impl_Picture_blocks.calls (a0_0 : Int) (a0_1 : Int) (A0_2 : Option Addr) (c0_2 : Nat) (l0_2 : List Int) (r : Int) (w : World) (hr0_2 : Kd.C (Kd.int .i64) w A0_2 l0_2.length l0_2) (hc0_2 : l0_2.length ≤ c0_2) (h : impl_Picture_blocks.f a0_0 a0_1 l0_2 = some r) :
  Calls Try.prog 70 #[.agg #[.int .i64 a0_0,.int .i64 a0_1,.slice A0_2 l0_2.length c0_2]] w fun e w'=>e=.returned (.int .i64 r)∧Below w.heap.size w w':=by
 have hu27:=Try.underlying27
 have HR0_2:=Fa hr0_2
 have HC0_2:=Fa hc0_2
 clear hr0_2 hc0_2
 have HB:=Fa (Below.refl w.heap.size w)
 have H:(some (wrap64 ((wrap64 (Int.tdiv a0_0 4))*(wrap64 (Int.tdiv a0_1 4)))))=some r:=h
 clear h
 obtain rfl:=Option.some.inj H
 go_enter Try.func70,Try.ntmps70
 go_wp2_with (first|((with_reducible refine gate_dst (N:=1) rfl ?_);refine box_event ?hg (N:=1) ?hd (cs:=#[.int .i64 a0_0,.int .i64 a0_1,.slice A0_2 l0_2.length c0_2]) (t:=27) ?hr ?_;(case hd=>rfl);(case hg=>rfl);(case hr=>first|(go_simp;done)|(go_simp;rfl));intro gb192 hg w2 hbox hb;have n0_:=Fa (Fh (by repeat(first|(with_reducible first|exact HB.out|apply Fc|apply Fb|apply Fd)|exact HB.out)) hb);have n1_:=Fa (hbox);have n2_:=Fa ((by rw [hg];exact(Fg (by repeat(first|(with_reducible first|exact HB.out|apply Fc|apply Fb|apply Fd)|exact HB.out))):w.heap.size≤gb192));have n3_:=Fa ((by rw [hg];exact(Fg (by repeat(first|(with_reducible first|exact HB.out|apply Fc|apply Fb|apply Fd)|exact HB.out))):w.heap.size≤gb192));clear HB;have HB:=n0_;have qd:=n1_;have GW192:=n2_;have GE192:=n3_;clear n0_ n1_ n2_ n3_;clear hb hbox hg;have hcz3_0:w2.cell? ⟨gb192,0,none⟩=some (.int .i64 a0_0):=(Ff qd.out 0).trans rfl;have hcz3_1:w2.cell? ⟨gb192,1,none⟩=some (.int .i64 a0_1):=(Ff qd.out 1).trans rfl;have hcz3_2:w2.cell? ⟨gb192,2,none⟩=some (.slice A0_2 l0_2.length c0_2):=(Ff qd.out 2).trans rfl;have hfz3_0:=Fe qd.out 0;have hfz3_1:=Fe qd.out 1;have hfz3_2:=Fe qd.out 2))
 go_ret
 exact⟨by first|rfl|(simp [errW_none,errW_some] <;> rfl)|(simp [*,errW_none,errW_some] <;> rfl),by repeat(first|(with_reducible first|exact HB.out|apply Fc|apply Fb|apply Fd|refine Fi ?_ GE192.out)|exact HB.out)⟩

/-! ### impl_Picture_corner: function 76 -/
def impl_Picture_corner.f (a0_0 : Int) (a0_1 : Int) (l0_2 : List Int) (a1 : Int) : Option (Int × Int) := if (wrap64 (Int.tdiv a0_0 4)) = 0 then (none) else (some (wrap64 ((Int.tmod a1 (wrap64 (Int.tdiv a0_0 4))) * 4), wrap64 ((wrap64 (Int.tdiv a1 (wrap64 (Int.tdiv a0_0 4)))) * 4)))
set_option maxHeartbeats 8000000 in
set_option maxRecDepth 100000 in
theorem impl_Picture_corner.calls (a0_0 : Int) (a0_1 : Int) (A0_2 : Option Addr) (c0_2 : Nat) (l0_2 : List Int) (a1 : Int) (r1 : Int) (r2 : Int) (w : World) (hr0_2 : Kd.C (Kd.int .i64) w A0_2 l0_2.length l0_2) (hc0_2 : l0_2.length ≤ c0_2) (h : impl_Picture_corner.f a0_0 a0_1 l0_2 a1 = some (r1, r2)) :
  Calls Try.prog 76 #[.agg #[.int .i64 a0_0,.int .i64 a0_1,.slice A0_2 l0_2.length c0_2],.int .i64 a1] w fun e w'=>e=.returned (.tuple #[.int .i64 r1,.int .i64 r2])∧Below w.heap.size w w':=by
 have hu27:=Try.underlying27
 have HR0_2:=Fa hr0_2
 have HC0_2:=Fa hc0_2
 clear hr0_2 hc0_2
 have HB:=Fa (Below.refl w.heap.size w)
 have H:(if (wrap64 (Int.tdiv a0_0 4))=0 then (none) else (some (wrap64 ((Int.tmod a1 (wrap64 (Int.tdiv a0_0 4)))*4),wrap64 ((wrap64 (Int.tdiv a1 (wrap64 (Int.tdiv a0_0 4))))*4))))=some (r1,r2):=h
 clear h
 by_cases c3:(wrap64 (Int.tdiv a0_0 4))=0
 ·rw [if_pos c3] at H
  exact absurd H (by simp)
 ·rw [if_neg c3] at H
  have c3b0:((wrap64 (Int.tdiv a0_0 4)) == 0)=false:=beq_eq_false_iff_ne.mpr c3
  have c3b1:((wrap64 (Int.tdiv a0_0 4)) != 0)=true:=bne_iff_ne.mpr c3
  simp only [Option.some.injEq,Prod.mk.injEq] at H
  obtain⟨rfl,rfl⟩:=H
  go_enter Try.func76,Try.ntmps76
  go_wp2_with (first|((with_reducible refine gate_dst (N:=2) rfl ?_);refine box_event ?hg (N:=2) ?hd (cs:=#[.int .i64 a0_0,.int .i64 a0_1,.slice A0_2 l0_2.length c0_2]) (t:=27) ?hr ?_;(case hd=>rfl);(case hg=>rfl);(case hr=>first|(go_simp;done)|(go_simp;rfl));intro qb hg w4 hbox hb;have n0_:=Fa (Fh (by repeat(first|(with_reducible first|exact HB.out|apply Fc|apply Fb|apply Fd)|exact HB.out)) hb);have n1_:=Fa (hbox);have n2_:=Fa ((by rw [hg];exact(Fg (by repeat(first|(with_reducible first|exact HB.out|apply Fc|apply Fb|apply Fd)|exact HB.out))):w.heap.size≤qb));have n3_:=Fa ((by rw [hg];exact(Fg (by repeat(first|(with_reducible first|exact HB.out|apply Fc|apply Fb|apply Fd)|exact HB.out))):w.heap.size≤qb));clear HB;have HB:=n0_;have qa:=n1_;have GW193:=n2_;have GE193:=n3_;clear n0_ n1_ n2_ n3_;clear hb hbox hg;have hcz5_0:w4.cell? ⟨qb,0,none⟩=some (.int .i64 a0_0):=(Ff qa.out 0).trans rfl;have hcz5_1:w4.cell? ⟨qb,1,none⟩=some (.int .i64 a0_1):=(Ff qa.out 1).trans rfl;have hcz5_2:w4.cell? ⟨qb,2,none⟩=some (.slice A0_2 l0_2.length c0_2):=(Ff qa.out 2).trans rfl;have hfz5_0:=Fe qa.out 0;have hfz5_1:=Fe qa.out 1;have hfz5_2:=Fe qa.out 2))
  repeat(go_quiet (first|((with_reducible refine gate_dst (N:=2) rfl ?_);refine box_event ?hg (N:=2) ?hd (cs:=#[.int .i64 a0_0,.int .i64 a0_1,.slice A0_2 l0_2.length c0_2]) (t:=27) ?hr ?_;(case hd=>rfl);(case hg=>rfl);(case hr=>first|(go_simp;done)|(go_simp;rfl));intro qb hg w4 hbox hb;have n0_:=Fa (Fh (by repeat(first|(with_reducible first|exact HB.out|apply Fc|apply Fb|apply Fd)|exact HB.out)) hb);have n1_:=Fa (hbox);have n2_:=Fa ((by rw [hg];exact(Fg (by repeat(first|(with_reducible first|exact HB.out|apply Fc|apply Fb|apply Fd)|exact HB.out))):w.heap.size≤qb));have n3_:=Fa ((by rw [hg];exact(Fg (by repeat(first|(with_reducible first|exact HB.out|apply Fc|apply Fb|apply Fd)|exact HB.out))):w.heap.size≤qb));clear HB;have HB:=n0_;have qa:=n1_;have GW193:=n2_;have GE193:=n3_;clear n0_ n1_ n2_ n3_;clear hb hbox hg;have hcz5_0:w4.cell? ⟨qb,0,none⟩=some (.int .i64 a0_0):=(Ff qa.out 0).trans rfl;have hcz5_1:w4.cell? ⟨qb,1,none⟩=some (.int .i64 a0_1):=(Ff qa.out 1).trans rfl;have hcz5_2:w4.cell? ⟨qb,2,none⟩=some (.slice A0_2 l0_2.length c0_2):=(Ff qa.out 2).trans rfl;have hfz5_0:=Fe qa.out 0;have hfz5_1:=Fe qa.out 1;have hfz5_2:=Fe qa.out 2));try go_wp2_with (first|((with_reducible refine gate_dst (N:=2) rfl ?_);refine box_event ?hg (N:=2) ?hd (cs:=#[.int .i64 a0_0,.int .i64 a0_1,.slice A0_2 l0_2.length c0_2]) (t:=27) ?hr ?_;(case hd=>rfl);(case hg=>rfl);(case hr=>first|(go_simp;done)|(go_simp;rfl));intro qb hg w4 hbox hb;have n0_:=Fa (Fh (by repeat(first|(with_reducible first|exact HB.out|apply Fc|apply Fb|apply Fd)|exact HB.out)) hb);have n1_:=Fa (hbox);have n2_:=Fa ((by rw [hg];exact(Fg (by repeat(first|(with_reducible first|exact HB.out|apply Fc|apply Fb|apply Fd)|exact HB.out))):w.heap.size≤qb));have n3_:=Fa ((by rw [hg];exact(Fg (by repeat(first|(with_reducible first|exact HB.out|apply Fc|apply Fb|apply Fd)|exact HB.out))):w.heap.size≤qb));clear HB;have HB:=n0_;have qa:=n1_;have GW193:=n2_;have GE193:=n3_;clear n0_ n1_ n2_ n3_;clear hb hbox hg;have hcz5_0:w4.cell? ⟨qb,0,none⟩=some (.int .i64 a0_0):=(Ff qa.out 0).trans rfl;have hcz5_1:w4.cell? ⟨qb,1,none⟩=some (.int .i64 a0_1):=(Ff qa.out 1).trans rfl;have hcz5_2:w4.cell? ⟨qb,2,none⟩=some (.slice A0_2 l0_2.length c0_2):=(Ff qa.out 2).trans rfl;have hfz5_0:=Fe qa.out 0;have hfz5_1:=Fe qa.out 1;have hfz5_2:=Fe qa.out 2)))
  go_ret2
  exact⟨by first|rfl|(simp [errW_none,errW_some] <;> rfl)|(simp [*,errW_none,errW_some] <;> rfl),by repeat(first|(with_reducible first|exact HB.out|apply Fc|apply Fb|apply Fd|refine Fi ?_ GE193.out)|exact HB.out)⟩

end Go.Proofs.Ytbdnpfjjaokdbaa.HFnDecoded
