-- Laid by myprint.py, a program of this repo, out of the kit's printer and this repo's own texts (wip/hand).
import Derived.Test.YtidogkjhjmcliaaDoorHFnExactShowTitlesx0
import Derived.Test.YtidogkjhjmcliaaDoorHFnExactShowTitlesx3
namespace Go.Proofs.YtidogkjhjmcliaaDoor.HFnExactShowTitles
open Go.RowKit Go.Proofs.YtidogkjhjmcliaaDoorW.PrintWords Go.Proofs.YtidogkjhjmcliaaDoorW.PrintLast Go.Proofs.YtidogkjhjmcliaaDoorW.PrintMore
attribute [local go_sem] max2_int min2_int max_two min_two max_three min_three max_four min_four   -- for this text's walks alone
set_option linter.unusedVariables false
set_option linter.unusedSimpArgs false
theorem Ea : type_of% @Aside0.mk := @Aside0.mk
theorem Eb : type_of% @pw_below_drewN := @pw_below_drewN
theorem Ec : type_of% @Drawn0.refl := @Drawn0.refl
theorem Ed : type_of% @Drawn0.step := @Drawn0.step
theorem Ee : type_of% @below_alloc := @below_alloc
theorem Ef : type_of% @below_drew1 := @below_drew1

/-! ### laws_toTitleS: function 8 -/
def laws_toTitleS.l0 : Nat → List (S44) → List (S40) → Int → Option ((List (S40)))
 | 0, _, _, _ => none
 | k + 1, x0, x3, x4 => if x4 < (x0.length : Int) then (if 0 ≤ x4 then ((laws_toTitle.f ((rd_T44 x0 x4).f0) ((rd_T44 x0 x4).f1) ((rd_T44 x0 x4).f2)).bind fun bt139 => (if x4 < (x3.length : Int) then (laws_toTitleS.l0 k x0 (x3.set (x4 : Int).toNat (⟨bt139.1, bt139.2.1, bt139.2.2⟩ : S40)) (wrap64 (x4 + 1))) else (none))) else (none)) else (some x3)
def laws_toTitleS.f (k : Nat) (l0 : List (S44)) : Option ((List (S40))) := if 0 ≤ (l0.length : Int) then (if ((l0.length : Int) : Int).toNat ≤ 8796093022208 then (laws_toTitleS.l0 k l0 (List.replicate ((l0.length : Int) : Int).toNat z40) 0) else (none)) else (none)
theorem laws_toTitleS.mono_l : ∀ k, (∀ y0 y1 y2, LeO (laws_toTitleS.l0 k y0 y1 y2) (laws_toTitleS.l0 (k + 1) y0 y1 y2))
 | 0 => fun _ _ _ r h => by simp [laws_toTitleS.l0] at h
 | k + 1 => by
  have ih0:=laws_toTitleS.mono_l k
  ·intro y0 y1 y2
   unfold laws_toTitleS.l0
   repeat' first
   | (with_reducible exact ih0 _ _ _)
   | (with_reducible exact LeO.refl _)
   | (with_reducible exact LeO.none _)
   | (with_reducible refine LeO.ite ?_ ?_)
   | (with_reducible refine LeO.bind ?_ (fun _ => ?_))
   | exact ih0 _ _ _
   | exact LeO.none _
   | refine LeO.ite ?_ ?_
   | refine LeO.bind ?_ (fun _ => ?_)
theorem laws_toTitleS.mono : ∀ a0 k, LeO (laws_toTitleS.f k a0) (laws_toTitleS.f (k + 1) a0) := by
 intro a0 k
 have ih0:=laws_toTitleS.mono_l k
 unfold laws_toTitleS.f
 repeat' first
   | (with_reducible exact ih0 _ _ _)
   | (with_reducible exact LeO.refl _)
   | (with_reducible exact LeO.none _)
   | (with_reducible refine LeO.ite ?_ ?_)
   | (with_reducible refine LeO.bind ?_ (fun _ => ?_))
   | exact ih0 _ _ _
   | exact LeO.none _
   | refine LeO.ite ?_ ?_
   | refine LeO.bind ?_ (fun _ => ?_)
set_option maxHeartbeats 8000000 in
set_option maxRecDepth 100000 in
theorem laws_toTitleS.calls (k : Nat) (A0 : Option Addr) (c0 : Nat) (l0 : List (S44)) (r : List (S40)) (w : World) (hr0 : Kd.C k44 w A0 l0.length l0) (hc0 : l0.length ≤ c0) (h : laws_toTitleS.f k l0 = some r) :
  Calls Tryd.prog 8 #[.slice A0 l0.length c0] w fun e w'=>∃ v0_:Value,e=.returned (v0_)∧Kd.R k40 40 w' w.heap.size (fun _=>True) v0_ r∧Below w.heap.size w w':=by
 have hu44:=Tryd.underlying44
 have hu40:=Tryd.underlying40
 have HR0:=Ea hr0
 have HC0:=Ea hc0
 clear hr0 hc0
 have HB:=Ea (Below.refl w.heap.size w)
 have H:(if 0≤(l0.length:Int) then (if ((l0.length:Int):Int).toNat≤8796093022208 then (laws_toTitleS.l0 k l0 (List.replicate ((l0.length:Int):Int).toNat z40) 0) else (none)) else (none))=some r:=h
 clear h
 by_cases c2:0≤(l0.length:Int)
 ·rw [if_pos c2] at H
  have c2b0:=eq_true c2
  have c2b1:decide (0≤(l0.length:Int))=true:=decide_eq_true c2
  clear c2
  by_cases c3:((l0.length:Int):Int).toNat≤8796093022208
  ·rw [if_pos c3] at H
   have c3b0:=eq_true c3
   have c3b1:decide (((l0.length:Int):Int).toNat≤8796093022208)=true:=decide_eq_true c3
   clear c3
   obtain⟨y135,hy135⟩:∃ y_:List (S40),y_=(List.replicate ((l0.length:Int):Int).toNat z40):=⟨_,rfl⟩
   replace H:(laws_toTitleS.l0 k l0 y135 0)=some r:=by first|(rw [hy135];with_reducible exact H)|(have H2_:=(Option.bind_some _ _).symm.trans H;rw [hy135];with_reducible exact H2_)|(have H2_:=(Option.bind_some _ _).symm.trans H;with_reducible exact H2_)|with_reducible exact H|(rw [hy135];exact H)|exact H
   have Ny135:=Ea hy135
   clear hy135
   have H':=Ea H
   clear H
   go_enter Tryd.func8,Tryd.ntmps8
   go_wp2_with (first|((with_reducible refine gate_dst (N:=7) rfl ?_);refine Kd.R_make k40 _ 40 rfl (N:=7) rfl 25 _ _ rfl (l0.length:Int) rfl rfl Tryd.underlying25 (.agg #[(.int .i64 0),(.int .i64 0),(.string ⟨#[]⟩)]) 32 info40 rfl (by decide) (by omega) z40 (ok:=fun _=>True) (okp:=fun _=>True) (k40_mkM _ _ _ z40 ) (fun _ hk=>hk) trivial (of_decide_eq_true (by first|(with_reducible assumption)|assumption)) (Nat.le_trans (Nat.mul_le_mul_right _ (of_decide_eq_true (by first|(with_reducible assumption)|assumption):(l0.length:Int).toNat≤8796093022208)) (by omega)) (Below.refl _ _) (Nat.le_refl _) ?_;intro v136 w4 ho5 hb hg_ hnew_;clear hg_ hnew_;(first|rw [← Ny135.out] at ho5|(simp only [Int.reduceToNat] at ho5;rw [← Ny135.out] at ho5));have n0_:=Ea (Kd.R_lower ho5 (below_size (by repeat(first|(with_reducible first|exact HB.out|apply Ee|apply Eb|apply Ef)|exact HB.out))));have n1_:=Ea (below_step (by repeat(first|(with_reducible first|exact HB.out|apply Ee|apply Eb|apply Ef)|exact HB.out)) hb);clear HB;have HO137:=n0_;have HB:=n1_;clear n0_ n1_;clear hb ho5))
   go_loopg [4] k (fun kq v4 w'=>∃ (x3_1:List (S40)) (x4_1:Int),v4=.int .i64 x4_1∧Aside0 (laws_toTitleS.l0 kq l0 x3_1 x4_1=some r)∧Aside0 (kq≤k)∧Aside0 (Kd.R k40 40 w' w.heap.size (fun _=>True) v136 x3_1)∧Aside0 (Below w.heap.size w w'))
   case atStart=>exact⟨(y135),(0),(by first|rfl|(simp;done)|(simp [*];done)),H',⟨Nat.le_refl _⟩,⟨by(with_reducible repeat(first|apply Kd.R_alloc|apply Kd.R_drewN|apply Kd.R_drew));exact HO137.out⟩,⟨by repeat(first|(with_reducible first|exact HB.out|apply Ee|apply Eb|apply Ef)|exact HB.out)⟩⟩
   case round=>
    clear H'
    try clear c2
    try clear c2b0
    try clear c2b1
    try clear p2
    try clear c3
    try clear c3b0
    try clear c3b1
    obtain⟨x3_1,x4_1,rfl,HA,HK1,HO_3,HB⟩:=hrel
    cases gk with
    | zero => exact absurd HA.out (by simp [laws_toTitleS.l0])
    | succ k1 =>
     have H:=HA.out
     clear HA
     simp only [laws_toTitleS.l0] at H
     by_cases c6:x4_1 < (l0.length:Int)
     ·rw [if_pos c6] at H
      have c6b0:decide (x4_1 < (l0.length:Int))=true:=decide_eq_true c6
      clear c6
      by_cases c7:0≤x4_1
      ·rw [if_pos c7] at H
       have c7b0:decide (0≤x4_1)=true:=decide_eq_true c7
       clear c7
       replace H:=Option.bind_eq_some_iff.mp H
       obtain⟨⟨t139,t140,t141⟩,A80,H⟩:=H
       replace H:(if x4_1 < (x3_1.length:Int) then (laws_toTitleS.l0 k1 l0 (x3_1.set (x4_1:Int).toNat (⟨t139,t140,t141⟩:S40)) (wrap64 (x4_1+1))) else (none))=some r:=H
       have A8:=Ea A80
       clear A80
       by_cases c9:x4_1 < (x3_1.length:Int)
       ·rw [if_pos c9] at H
        have c9b0:decide (x4_1 < (x3_1.length:Int))=true:=decide_eq_true c9
        clear c9
        obtain⟨y142,hy142⟩:∃ y_:List (S40),y_=(x3_1.set (x4_1:Int).toNat (⟨t139,t140,t141⟩:S40)):=⟨_,rfl⟩
        replace H:(laws_toTitleS.l0 k1 l0 y142 (wrap64 (x4_1+1)))=some r:=by first|(rw [hy142];with_reducible exact H)|(have H2_:=(Option.bind_some _ _).symm.trans H;rw [hy142];with_reducible exact H2_)|(have H2_:=(Option.bind_some _ _).symm.trans H;with_reducible exact H2_)|with_reducible exact H|(rw [hy142];exact H)|exact H
        have Ny142:=Ea hy142
        clear hy142
        have H':=Ea H
        clear H
        have p138:0≤(x4_1:Int):=of_decide_eq_true (by first|(with_reducible assumption)|assumption)
        have q138:x4_1 < (l0.length:Int):=of_decide_eq_true (by first|(with_reducible assumption)|assumption)
        obtain⟨ad138,e138,hx138_0,hx138_1,hx138_2⟩:=at_T44 HR0.out x4_1 p138 q138
        cases e138
        replace hx138_0:=(HB.out.cell (World.block_lt_of_cell? w _ hx138_0)).trans hx138_0
        replace hx138_1:=(HB.out.cell (World.block_lt_of_cell? w _ hx138_1)).trans hx138_1
        replace hx138_2:=(HB.out.cell (World.block_lt_of_cell? w _ hx138_2)).trans hx138_2
        replace p138:=eq_true p138
        replace q138:=eq_true q138
        go_wp2_with (first|((with_reducible refine gate_callee (f:=24) rfl ?_);refine goesL_ (some 20) rfl rfl Tryd.func24 (by kernel_rfl) rfl #[.agg #[.int .i64 ((rd_T44 l0 x4_1).f0),.int .i64 ((rd_T44 l0 x4_1).f1),.string ((rd_T44 l0 x4_1).f2)]] rfl (by(try simp only [List.map_toArray,List.map_cons,List.map_nil]);first|done|rfl|(simp only [List.length_drop,List.length_take];rfl)) ?_;(with_reducible refine(laws_toTitle.calls ((rd_T44 l0 x4_1).f0) ((rd_T44 l0 x4_1).f1) ((rd_T44 l0 x4_1).f2) t139 t140 t141 _ A8.out).mono ?_);rintro e w11 ⟨rfl,hb⟩;refine⟨_,rfl,?_⟩;have n0_:=Ea (Kd.R_below (by(with_reducible repeat(first|apply Kd.R_alloc|apply Kd.R_drewN|apply Kd.R_drew));exact HO_3.out) hb);have n1_:=Ea (below_step (by repeat(first|(with_reducible first|exact HB.out|apply Ee|apply Eb|apply Ef)|exact HB.out)) hb);clear HO_3;clear HB;have HO_3:=n0_;have HB:=n1_;clear n0_ n1_;(try clear hb);(try clear hb2);(try clear hk);(try clear hi);have p10:0≤(x4_1:Int):=of_decide_eq_true (by first|(with_reducible assumption)|assumption);have q10:(x4_1:Int) < ((x3_1.length:Int):Int):=of_decide_eq_true (by first|(with_reducible assumption)|assumption);obtain⟨go10,co10,eo10,gb10,gl10,cl10,HG10⟩:=Kd.R_form HO_3.out (by omega);(first|cases eo10|(injection eo10 with ea_ en_ ec_;(first|subst ea_|(injection ea_ with ea_;subst ea_));subst ec_;clear en_));have GB10:=Ea gb10;have GG10:=Ea HG10;clear gb10 gl10 HG10;obtain⟨ce10,hcl10,hM10,hcc10,hfr10⟩:=Kd.R_elem HO_3.out z40 (x4_1:Int) p10 q10;obtain rfl:=k40_openM hM10;have hx10_0:w11.cell? ⟨go10,(x4_1:Int).toNat*3,none⟩=some (.int .i64 ((rd_T40 x3_1 x4_1).f0)):=hcc10 0 _ rfl;have hx10_1:w11.cell? ⟨go10,(x4_1:Int).toNat*3+1,none⟩=some (.int .i64 ((rd_T40 x3_1 x4_1).f1)):=hcc10 1 _ rfl;have hx10_2:w11.cell? ⟨go10,(x4_1:Int).toNat*3+2,none⟩=some (.string ((rd_T40 x3_1 x4_1).f2)):=hcc10 2 _ rfl;have hf10_0:w11.frozen? ⟨go10,(x4_1:Int).toNat*3,none⟩=false:=hfr10 0;have hf10_1:w11.frozen? ⟨go10,(x4_1:Int).toNat*3+1,none⟩=false:=hfr10 1;have hf10_2:w11.frozen? ⟨go10,(x4_1:Int).toNat*3+2,none⟩=false:=hfr10 2;clear hcl10 hcc10 hfr10 hM10;replace p10:=eq_true p10;replace q10:=eq_true q10;have HX12:=Ea (show Kd.R k40 40 w11 w.heap.size (fun _=>True) (.slice (some ⟨go10,0,none⟩) x3_1.length co10) x3_1 from(by(with_reducible repeat(first|apply Kd.R_alloc|apply Kd.R_drewN|apply Kd.R_drew));exact HO_3.out));obtain⟨ce12,hcl12,hM12,hcc12,hfr12⟩:=Kd.R_elem HX12.out z40 (x4_1:Int) (of_decide_eq_true (by first|(with_reducible assumption)|assumption)) (by have h_:(x4_1:Int) < ((x3_1.length:Int):Int):=of_decide_eq_true (by first|(with_reducible assumption)|assumption);first|exact h_|(have e_:=(Kd.R_reads' HO_3.out).1;omega)|simpa using h_);obtain rfl:=k40_openM hM12;have HP12:=Kd.R_seg HX12.out (x4_1:Int) (of_decide_eq_true (by first|(with_reducible assumption)|assumption)) (by have h_:(x4_1:Int) < ((x3_1.length:Int):Int):=of_decide_eq_true (by first|(with_reducible assumption)|assumption);first|exact h_|(have e_:=(Kd.R_reads' HO_3.out).1;omega)|simpa using h_) (seg:=[.int .i64 t139,.int .i64 t140,.string t141]) (j:=0) hcl12 hcc12 (show 3≤3 from by decide) (x':=(⟨t139,t140,t141⟩:S40)) (k40_mkM _ _ _ (⟨t139,t140,t141⟩:S40) ) (fun _ hk=>hk);have hx12_0:=hcc12 0 _ rfl;(try simp only [show(k40).sz=3 from rfl,Nat.mul_one,Nat.add_zero] at hx12_0);have hf12_0:=hfr12 0;(try simp only [show(k40).sz=3 from rfl,Nat.mul_one,Nat.add_zero] at hf12_0);have hx12_1:=hcc12 1 _ rfl;(try simp only [show(k40).sz=3 from rfl,Nat.mul_one,Nat.add_zero] at hx12_1);have hf12_1:=hfr12 1;(try simp only [show(k40).sz=3 from rfl,Nat.mul_one,Nat.add_zero] at hf12_1);have hx12_2:=hcc12 2 _ rfl;(try simp only [show(k40).sz=3 from rfl,Nat.mul_one,Nat.add_zero] at hx12_2);have hf12_2:=hfr12 2;(try simp only [show(k40).sz=3 from rfl,Nat.mul_one,Nat.add_zero] at hf12_2);clear hcl12 hcc12 hfr12 hM12)|((with_reducible refine gate_store (t:=40) (p:=21) rfl ?_);refine store_event (t:=40) (p:=21) (v:=?vo_w13) (w1:=(((w11.setCell ⟨go10,(x4_1:Int).toNat*3,none⟩ (.int .i64 t139)).setCell ⟨go10,(x4_1:Int).toNat*3+1,none⟩ (.int .i64 t140)).setCell ⟨go10,(x4_1:Int).toNat*3+2,none⟩ (.string t141))) ?hg ?ho ?hn ?hr ?_;(case ho=>rfl);(case hg=>rfl);(case hn=>rfl);(case hr=>first|(go_simp;done)|(go_simp;rfl));intro w13 hw;have hg:w11.grownBy w13 (some go10):=(by rw [hw];exact HP12.2);have hp_:Kd.R k40 40 w13 w.heap.size (fun _=>True) (.slice (some ⟨go10,0,none⟩) x3_1.length co10) y142:=(by rw [hw,Ny142.out];exact HP12.1);clear HP12;have n0_:=Ea (hp_);have n1_:=Ea ((by rw [hw];exact below_set (below_set (below_set (HB.out) GB10.out) GB10.out) GB10.out:Below w.heap.size w w13));clear HO_3;clear HB;have HO_3:=n0_;have HB:=n1_;clear n0_ n1_;clear hg hw hp_))
        go_roundg k1
        case measure=>have:=HK1.out;omega
        case rel=>exact⟨(y142),(wrap64 (x4_1+1)),(by first|rfl|(simp;done)|(simp [*];done)),H',⟨by have:=HK1.out;omega⟩,⟨by(with_reducible repeat(first|apply Kd.R_alloc|apply Kd.R_drewN|apply Kd.R_drew));exact HO_3.out⟩,⟨by repeat(first|(with_reducible first|exact HB.out|apply Ee|apply Eb|apply Ef)|exact HB.out)⟩⟩
       ·rw [if_neg c9] at H
        exact absurd H (by simp)
      ·rw [if_neg c7] at H
       exact absurd H (by simp)
     ·rw [if_neg c6] at H
      have c6b0:decide (x4_1 < (l0.length:Int))=false:=decide_eq_false c6
      clear c6
      obtain rfl:=Option.some.inj H
      go_wp2
      go_ret
      exact⟨_,by first|rfl|(simp [errW_none,errW_some] <;> rfl)|(simp [*,errW_none,errW_some] <;> rfl),by(with_reducible repeat(first|apply Kd.R_alloc|apply Kd.R_drewN|apply Kd.R_drew));exact HO_3.out,by repeat(first|(with_reducible first|exact HB.out|apply Ee|apply Eb|apply Ef)|exact HB.out)⟩
  ·rw [if_neg c3] at H
   exact absurd H (by simp)
 ·rw [if_neg c2] at H
  exact absurd H (by simp)

/-! ### impl_Title_timesOk: function 39 -/
def impl_Title_timesOk.f (a0_0 : Int) (a0_1 : Int) (a0_2 : ByteArray) : Option (Bool) := if 0 ≤ a0_0 then (if a0_0 < a0_1 then (some (decide (a0_1 ≤ 359999999))) else (some false)) else (some false)
set_option maxHeartbeats 8000000 in
set_option maxRecDepth 100000 in
theorem impl_Title_timesOk.calls (a0_0 : Int) (a0_1 : Int) (a0_2 : ByteArray) (r : Bool) (w : World) (h : impl_Title_timesOk.f a0_0 a0_1 a0_2 = some r) :
  Calls Tryd.prog 39 #[.agg #[.int .i64 a0_0,.int .i64 a0_1,.string a0_2]] w fun e w'=>e=.returned (.bool r)∧Below w.heap.size w w':=by
 have hu40:=Tryd.underlying40
 have HB:=Ea (Below.refl w.heap.size w)
 have H:(if 0≤a0_0 then (if a0_0 < a0_1 then (some (decide (a0_1≤359999999))) else (some false)) else (some false))=some r:=h
 clear h
 by_cases c2:0≤a0_0
 ·rw [if_pos c2] at H
  have c2b0:decide (0≤a0_0)=true:=decide_eq_true c2
  clear c2
  by_cases c3:a0_0 < a0_1
  ·rw [if_pos c3] at H
   have c3b0:decide (a0_0 < a0_1)=true:=decide_eq_true c3
   clear c3
   obtain rfl:=Option.some.inj H
   go_enter Tryd.func39,Tryd.ntmps39
   go_wp2_with (first|((with_reducible refine gate_dst (N:=1) rfl ?_);refine box_event ?hg (N:=1) ?hd (cs:=#[.int .i64 a0_0,.int .i64 a0_1,.string a0_2]) (t:=40) ?hr ?_;(case hd=>rfl);(case hg=>rfl);(case hr=>first|(go_simp;done)|(go_simp;rfl));intro gb143 hg w4 hbox hb;have n0_:=Ea (below_step (by repeat(first|(with_reducible first|exact HB.out|apply Ee|apply Eb|apply Ef)|exact HB.out)) hb);have n1_:=Ea (hbox);have n2_:=Ea ((by rw [hg];exact(below_size (by repeat(first|(with_reducible first|exact HB.out|apply Ee|apply Eb|apply Ef)|exact HB.out))):w.heap.size≤gb143));have n3_:=Ea ((by rw [hg];exact(below_size (by repeat(first|(with_reducible first|exact HB.out|apply Ee|apply Eb|apply Ef)|exact HB.out))):w.heap.size≤gb143));clear HB;have HB:=n0_;have BK143:=n1_;have GW143:=n2_;have GE143:=n3_;clear n0_ n1_ n2_ n3_;clear hb hbox hg;have hcz5_0:w4.cell? ⟨gb143,0,none⟩=some (.int .i64 a0_0):=(blk_cell BK143.out 0).trans rfl;have hcz5_1:w4.cell? ⟨gb143,1,none⟩=some (.int .i64 a0_1):=(blk_cell BK143.out 1).trans rfl;have hcz5_2:w4.cell? ⟨gb143,2,none⟩=some (.string a0_2):=(blk_cell BK143.out 2).trans rfl;have hfz5_0:=blk_frozen BK143.out 0;have hfz5_1:=blk_frozen BK143.out 1;have hfz5_2:=blk_frozen BK143.out 2))
   go_ret
   exact⟨by first|rfl|(simp [errW_none,errW_some] <;> rfl)|(simp [*,errW_none,errW_some] <;> rfl),by repeat(first|(with_reducible first|exact HB.out|apply Ee|apply Eb|apply Ef|refine below_set ?_ GE143.out)|exact HB.out)⟩
  ·rw [if_neg c3] at H
   have c3b0:decide (a0_0 < a0_1)=false:=decide_eq_false c3
   clear c3
   obtain rfl:=Option.some.inj H
   go_enter Tryd.func39,Tryd.ntmps39
   go_wp2_with (first|((with_reducible refine gate_dst (N:=1) rfl ?_);refine box_event ?hg (N:=1) ?hd (cs:=#[.int .i64 a0_0,.int .i64 a0_1,.string a0_2]) (t:=40) ?hr ?_;(case hd=>rfl);(case hg=>rfl);(case hr=>first|(go_simp;done)|(go_simp;rfl));intro gb143 hg w6 hbox hb;have n0_:=Ea (below_step (by repeat(first|(with_reducible first|exact HB.out|apply Ee|apply Eb|apply Ef)|exact HB.out)) hb);have n1_:=Ea (hbox);have n2_:=Ea ((by rw [hg];exact(below_size (by repeat(first|(with_reducible first|exact HB.out|apply Ee|apply Eb|apply Ef)|exact HB.out))):w.heap.size≤gb143));have n3_:=Ea ((by rw [hg];exact(below_size (by repeat(first|(with_reducible first|exact HB.out|apply Ee|apply Eb|apply Ef)|exact HB.out))):w.heap.size≤gb143));clear HB;have HB:=n0_;have BK143:=n1_;have GW143:=n2_;have GE143:=n3_;clear n0_ n1_ n2_ n3_;clear hb hbox hg;have hcz7_0:w6.cell? ⟨gb143,0,none⟩=some (.int .i64 a0_0):=(blk_cell BK143.out 0).trans rfl;have hcz7_1:w6.cell? ⟨gb143,1,none⟩=some (.int .i64 a0_1):=(blk_cell BK143.out 1).trans rfl;have hcz7_2:w6.cell? ⟨gb143,2,none⟩=some (.string a0_2):=(blk_cell BK143.out 2).trans rfl;have hfz7_0:=blk_frozen BK143.out 0;have hfz7_1:=blk_frozen BK143.out 1;have hfz7_2:=blk_frozen BK143.out 2))
   go_ret
   exact⟨by first|rfl|(simp [errW_none,errW_some] <;> rfl)|(simp [*,errW_none,errW_some] <;> rfl),by repeat(first|(with_reducible first|exact HB.out|apply Ee|apply Eb|apply Ef|refine below_set ?_ GE143.out)|exact HB.out)⟩
 ·rw [if_neg c2] at H
  have c2b0:decide (0≤a0_0)=false:=decide_eq_false c2
  clear c2
  obtain rfl:=Option.some.inj H
  go_enter Tryd.func39,Tryd.ntmps39
  go_wp2_with (first|((with_reducible refine gate_dst (N:=1) rfl ?_);refine box_event ?hg (N:=1) ?hd (cs:=#[.int .i64 a0_0,.int .i64 a0_1,.string a0_2]) (t:=40) ?hr ?_;(case hd=>rfl);(case hg=>rfl);(case hr=>first|(go_simp;done)|(go_simp;rfl));intro gb143 hg w8 hbox hb;have n0_:=Ea (below_step (by repeat(first|(with_reducible first|exact HB.out|apply Ee|apply Eb|apply Ef)|exact HB.out)) hb);have n1_:=Ea (hbox);have n2_:=Ea ((by rw [hg];exact(below_size (by repeat(first|(with_reducible first|exact HB.out|apply Ee|apply Eb|apply Ef)|exact HB.out))):w.heap.size≤gb143));have n3_:=Ea ((by rw [hg];exact(below_size (by repeat(first|(with_reducible first|exact HB.out|apply Ee|apply Eb|apply Ef)|exact HB.out))):w.heap.size≤gb143));clear HB;have HB:=n0_;have BK143:=n1_;have GW143:=n2_;have GE143:=n3_;clear n0_ n1_ n2_ n3_;clear hb hbox hg;have hcz9_0:w8.cell? ⟨gb143,0,none⟩=some (.int .i64 a0_0):=(blk_cell BK143.out 0).trans rfl;have hcz9_1:w8.cell? ⟨gb143,1,none⟩=some (.int .i64 a0_1):=(blk_cell BK143.out 1).trans rfl;have hcz9_2:w8.cell? ⟨gb143,2,none⟩=some (.string a0_2):=(blk_cell BK143.out 2).trans rfl;have hfz9_0:=blk_frozen BK143.out 0;have hfz9_1:=blk_frozen BK143.out 1;have hfz9_2:=blk_frozen BK143.out 2))
  go_ret
  exact⟨by first|rfl|(simp [errW_none,errW_some] <;> rfl)|(simp [*,errW_none,errW_some] <;> rfl),by repeat(first|(with_reducible first|exact HB.out|apply Ee|apply Eb|apply Ef|refine below_set ?_ GE143.out)|exact HB.out)⟩

/-! ### strings_Contains: function 48 -/
def strings_Contains.f (a0 a1 : ByteArray) : Option (Bool) := if a0.size < 4294967281 then some (Lib.contains a0.data.toList a1.data.toList) else none
theorem strings_Contains.calls (a0 a1 : ByteArray) (r : Bool) (w : World) (hgl : Glob w) (h : strings_Contains.f a0 a1 = some r) :
  Calls Tryd.prog 48 #[.string a0,.string a1] w fun e w'=>e=.returned (.bool r)∧Drawn0 w w':=by
 unfold strings_Contains.f at h
 split at h
 ·rename_i hs
  cases h
  obtain⟨m,hm⟩:=hgl.max
  refine(Tryd.strings_Contains a0 a1 m w hs hm).mono ?_
  rintro e w' ⟨rfl,rfl⟩
  exact⟨rfl,Ec w'⟩
 ·cases h


/-! ### stringslite_HasPrefix: function 61 -/
def stringslite_HasPrefix.f (a0 : ByteArray) (a1 : ByteArray) : Option (Bool) := if (a0.size : Int) ≥ (a1.size : Int) then (if 0 ≤ (a1.size : Int) then (if (a1.size : Int) ≤ (a0.size : Int) then (some ((a0.extract 0 ((a1.size : Int) : Int).toNat).toList == a1.toList)) else (none)) else (none)) else (some false)
set_option maxHeartbeats 8000000 in
set_option maxRecDepth 100000 in
theorem stringslite_HasPrefix.calls (a0 : ByteArray) (a1 : ByteArray) (r : Bool) (w : World) (h : stringslite_HasPrefix.f a0 a1 = some r) :
  Calls Tryd.prog 61 #[.string a0,.string a1] w fun e w'=>e=.returned (.bool r)∧Drawn0 w w':=by
 have H:(if (a0.size:Int) ≥ (a1.size:Int) then (if 0≤(a1.size:Int) then (if (a1.size:Int)≤(a0.size:Int) then (some ((a0.extract 0 ((a1.size:Int):Int).toNat).toList == a1.toList)) else (none)) else (none)) else (some false))=some r:=h
 clear h
 by_cases c3:(a0.size:Int) ≥ (a1.size:Int)
 ·rw [if_pos c3] at H
  have c3b0:decide ((a1.size:Int)≤(a0.size:Int))=true:=decide_eq_true c3
  have c3b1:decide (a1.size≤a0.size)=true:=decide_eq_true (Int.ofNat_le.mp c3)
  clear c3
  by_cases c4:0≤(a1.size:Int)
  ·rw [if_pos c4] at H
   have c4b0:=eq_true c4
   have c4b1:decide (0≤(a1.size:Int))=true:=decide_eq_true c4
   clear c4
   by_cases c5:(a1.size:Int)≤(a0.size:Int)
   ·rw [if_pos c5] at H
    have c5b0:=eq_true c5
    have c5b1:decide ((a1.size:Int)≤(a0.size:Int))=true:=decide_eq_true c5
    clear c5
    obtain rfl:=Option.some.inj H
    go_enter Tryd.func61,Tryd.ntmps61
    go_wp2
    go_ret
    exact⟨by first|rfl|(simp;done)|(simp [*];done),by repeat(first|exact Ec _|apply Ed)⟩
   ·rw [if_neg c5] at H
    exact absurd H (by simp)
  ·rw [if_neg c4] at H
   exact absurd H (by simp)
 ·rw [if_neg c3] at H
  have c3b0:decide ((a1.size:Int)≤(a0.size:Int))=false:=decide_eq_false c3
  have c3b1:decide (a1.size≤a0.size)=false:=decide_eq_false (fun h=>c3 (Int.ofNat_le.mpr h))
  clear c3
  obtain rfl:=Option.some.inj H
  go_enter Tryd.func61,Tryd.ntmps61
  go_wp2
  go_ret
  exact⟨by first|rfl|(simp;done)|(simp [*];done),by repeat(first|exact Ec _|apply Ed)⟩

/-! ### strings_HasPrefix: function 49 -/
def strings_HasPrefix.f (a0 : ByteArray) (a1 : ByteArray) : Option (Bool) := (stringslite_HasPrefix.f a0 a1).bind fun t144 => (some t144)
set_option maxHeartbeats 8000000 in
set_option maxRecDepth 100000 in
theorem strings_HasPrefix.calls (a0 : ByteArray) (a1 : ByteArray) (r : Bool) (w : World) (h : strings_HasPrefix.f a0 a1 = some r) :
  Calls Tryd.prog 49 #[.string a0,.string a1] w fun e w'=>e=.returned (.bool r)∧Drawn0 w w':=by
 have H:((stringslite_HasPrefix.f a0 a1).bind fun t144=>(some t144))=some r:=h
 clear h
 replace H:=Option.bind_eq_some_iff.mp H
 obtain⟨t144,A30,H⟩:=H
 replace H:(some t144)=some r:=H
 have A3:=Ea A30
 clear A30
 obtain rfl:=Option.some.inj H
 go_enter Tryd.func49,Tryd.ntmps49
 go_wp2_with (first|((with_reducible refine gate_callee (f:=61) rfl ?_);refine goesL_ (some 7) rfl rfl Tryd.func61 (by kernel_rfl) rfl #[.string a0,.string a1] rfl (by(try simp only [List.map_toArray,List.map_cons,List.map_nil]);first|done|rfl|(simp only [List.length_drop,List.length_take];rfl)) ?_;(with_reducible refine(stringslite_HasPrefix.calls a0 a1 t144 _ A3.out).mono ?_);rintro e w' ⟨rfl,⟨nd,rfl⟩⟩;refine⟨_,rfl,?_⟩))
 go_ret
 exact⟨by first|rfl|(simp;done)|(simp [*];done),by repeat(first|exact Ec _|apply Ed)⟩

/-! ### impl_in: function 52 -/
def impl_in.f (a0 : Int) (a1 : Int) (a2 : Int) : Option (Bool) := if a1 ≤ a0 then (some (decide (a0 ≤ a2))) else (some false)
set_option maxHeartbeats 8000000 in
set_option maxRecDepth 100000 in
theorem impl_in.calls (a0 : Int) (a1 : Int) (a2 : Int) (r : Bool) (w : World) (h : impl_in.f a0 a1 a2 = some r) :
  Calls Tryd.prog 52 #[.int .i64 a0,.int .i64 a1,.int .i64 a2] w fun e w'=>e=.returned (.bool r)∧Drawn0 w w':=by
 have H:(if a1≤a0 then (some (decide (a0≤a2))) else (some false))=some r:=h
 clear h
 by_cases c4:a1≤a0
 ·rw [if_pos c4] at H
  have c4b0:decide (a1≤a0)=true:=decide_eq_true c4
  clear c4
  obtain rfl:=Option.some.inj H
  go_enter Tryd.func52,Tryd.ntmps52
  go_wp2
  go_ret
  exact⟨by first|rfl|(simp;done)|(simp [*];done),by repeat(first|exact Ec _|apply Ed)⟩
 ·rw [if_neg c4] at H
  have c4b0:decide (a1≤a0)=false:=decide_eq_false c4
  clear c4
  obtain rfl:=Option.some.inj H
  go_enter Tryd.func52,Tryd.ntmps52
  go_wp2
  go_ret
  exact⟨by first|rfl|(simp;done)|(simp [*];done),by repeat(first|exact Ec _|apply Ed)⟩

/-! ### stringslite_HasSuffix: function 62 -/
def stringslite_HasSuffix.f (a0 : ByteArray) (a1 : ByteArray) : Option (Bool) := if (a0.size : Int) ≥ (a1.size : Int) then (if 0 ≤ (wrap64 ((a0.size : Int) - (a1.size : Int))) then (if (wrap64 ((a0.size : Int) - (a1.size : Int))) ≤ (a0.size : Int) then (some ((a0.extract ((wrap64 ((a0.size : Int) - (a1.size : Int))) : Int).toNat a0.size).toList == a1.toList)) else (none)) else (none)) else (some false)
set_option maxHeartbeats 8000000 in
set_option maxRecDepth 100000 in
theorem stringslite_HasSuffix.calls (a0 : ByteArray) (a1 : ByteArray) (r : Bool) (w : World) (h : stringslite_HasSuffix.f a0 a1 = some r) :
  Calls Tryd.prog 62 #[.string a0,.string a1] w fun e w'=>e=.returned (.bool r)∧Drawn0 w w':=by
 have H:(if (a0.size:Int) ≥ (a1.size:Int) then (if 0≤(wrap64 ((a0.size:Int) - (a1.size:Int))) then (if (wrap64 ((a0.size:Int) - (a1.size:Int)))≤(a0.size:Int) then (some ((a0.extract ((wrap64 ((a0.size:Int) - (a1.size:Int))):Int).toNat a0.size).toList == a1.toList)) else (none)) else (none)) else (some false))=some r:=h
 clear h
 by_cases c3:(a0.size:Int) ≥ (a1.size:Int)
 ·rw [if_pos c3] at H
  have c3b0:decide ((a1.size:Int)≤(a0.size:Int))=true:=decide_eq_true c3
  have c3b1:decide (a1.size≤a0.size)=true:=decide_eq_true (Int.ofNat_le.mp c3)
  clear c3
  obtain⟨ji4,hji4⟩:∃ j_:Int,(wrap64 ((a0.size:Int) - (a1.size:Int)))=j_:=⟨_,rfl⟩
  replace H:(if 0≤(ji4) then (if (ji4)≤(a0.size:Int) then (some ((a0.extract ((ji4):Int).toNat a0.size).toList == a1.toList)) else (none)) else (none))=some r:=by first|(rw [hji4] at H;exact H)|(simp only [hji4] at H ⊢;exact H)
  have hji4w:(IntKind.i64.wrap ((a0.size:Int) - (a1.size:Int)))=ji4:=(i64_w _).trans hji4
  by_cases c5:0≤(ji4)
  ·rw [if_pos c5] at H
   have c5b0:=eq_true c5
   have c5b1:decide (0≤(ji4))=true:=decide_eq_true c5
   clear c5
   by_cases c6:(ji4)≤(a0.size:Int)
   ·rw [if_pos c6] at H
    have c6b0:=eq_true c6
    have c6b1:decide ((ji4)≤(a0.size:Int))=true:=decide_eq_true c6
    clear c6
    obtain rfl:=Option.some.inj H
    go_enter Tryd.func62,Tryd.ntmps62
    go_wp2
    go_ret
    exact⟨by first|rfl|(simp;done)|(simp only [← hji4] <;> (first|rfl|simp))|(simp [*];done),by repeat(first|exact Ec _|apply Ed)⟩
   ·rw [if_neg c6] at H
    exact absurd H (by simp)
  ·rw [if_neg c5] at H
   exact absurd H (by simp)
 ·rw [if_neg c3] at H
  have c3b0:decide ((a1.size:Int)≤(a0.size:Int))=false:=decide_eq_false c3
  have c3b1:decide (a1.size≤a0.size)=false:=decide_eq_false (fun h=>c3 (Int.ofNat_le.mpr h))
  clear c3
  obtain rfl:=Option.some.inj H
  go_enter Tryd.func62,Tryd.ntmps62
  go_wp2
  go_ret
  exact⟨by first|rfl|(simp;done)|(simp [*];done),by repeat(first|exact Ec _|apply Ed)⟩

/-! ### strings_HasSuffix: function 53 -/
def strings_HasSuffix.f (a0 : ByteArray) (a1 : ByteArray) : Option (Bool) := (stringslite_HasSuffix.f a0 a1).bind fun t145 => (some t145)
set_option maxHeartbeats 8000000 in
set_option maxRecDepth 100000 in
theorem strings_HasSuffix.calls (a0 : ByteArray) (a1 : ByteArray) (r : Bool) (w : World) (h : strings_HasSuffix.f a0 a1 = some r) :
  Calls Tryd.prog 53 #[.string a0,.string a1] w fun e w'=>e=.returned (.bool r)∧Drawn0 w w':=by
 have H:((stringslite_HasSuffix.f a0 a1).bind fun t145=>(some t145))=some r:=h
 clear h
 replace H:=Option.bind_eq_some_iff.mp H
 obtain⟨t145,A30,H⟩:=H
 replace H:(some t145)=some r:=H
 have A3:=Ea A30
 clear A30
 obtain rfl:=Option.some.inj H
 go_enter Tryd.func53,Tryd.ntmps53
 go_wp2_with (first|((with_reducible refine gate_callee (f:=62) rfl ?_);refine goesL_ (some 7) rfl rfl Tryd.func62 (by kernel_rfl) rfl #[.string a0,.string a1] rfl (by(try simp only [List.map_toArray,List.map_cons,List.map_nil]);first|done|rfl|(simp only [List.length_drop,List.length_take];rfl)) ?_;(with_reducible refine(stringslite_HasSuffix.calls a0 a1 t145 _ A3.out).mono ?_);rintro e w' ⟨rfl,⟨nd,rfl⟩⟩;refine⟨_,rfl,?_⟩))
 go_ret
 exact⟨by first|rfl|(simp;done)|(simp [*];done),by repeat(first|exact Ec _|apply Ed)⟩

/-! ### impl_textOk: function 40 -/
mutual
def impl_textOk.j0 : Nat → ByteArray → Bool → Option (Bool)
 | 0, _, _ => none
 | k + 1, x0, x20 => if x20 = true then (some false) else (impl_textOk.l0 k x0 (x0.size : Int) 0)
def impl_textOk.l0 : Nat → ByteArray → Int → Int → Option (Bool)
 | 0, _, _, _ => none
 | k + 1, x0, x22, x23 => if x23 < x22 then (if 0 ≤ x23 then (if x23 < (x0.size : Int) then (if (bt x0 x23) = 10 then (impl_textOk.l0 k x0 x22 (wrap64 (x23 + 1))) else (if (bt x0 x23) < 32 then (some false) else (if (bt x0 x23) = 127 then (some false) else (impl_textOk.l0 k x0 x22 (wrap64 (x23 + 1)))))) else (none)) else (none)) else (some true)
end
def impl_textOk.f (k : Nat) (a0 : ByteArray) : Option (Bool) := (impl_in.f (a0.size : Int) 1 200).bind fun t146 => (if t146 = true then ((strings_HasPrefix.f a0 (⟨#[10]⟩ : ByteArray)).bind fun t147 => (if t147 = true then (impl_textOk.j0 k a0 true) else ((strings_HasSuffix.f a0 (⟨#[10]⟩ : ByteArray)).bind fun t148 => (if t148 = true then (impl_textOk.j0 k a0 true) else ((strings_Contains.f a0 (⟨#[10, 10]⟩ : ByteArray)).bind fun t149 => (impl_textOk.j0 k a0 t149)))))) else (impl_textOk.j0 k a0 true))
theorem impl_textOk.mono_l : ∀ k, (∀ y0 y1, LeO (impl_textOk.j0 k y0 y1) (impl_textOk.j0 (k + 1) y0 y1)) ∧ (∀ y0 y1 y2, LeO (impl_textOk.l0 k y0 y1 y2) (impl_textOk.l0 (k + 1) y0 y1 y2))
 | 0 => ⟨fun _ _ r h => by simp [impl_textOk.j0] at h, fun _ _ _ r h => by simp [impl_textOk.l0] at h⟩
 | k + 1 => by
  obtain⟨ih0,ih1⟩:=impl_textOk.mono_l k
  refine⟨?_,?_⟩
  ·intro y0 y1
   unfold impl_textOk.j0
   repeat' first
   | (with_reducible exact ih0 _ _)
   | (with_reducible exact ih1 _ _ _)
   | (with_reducible exact LeO.refl _)
   | (with_reducible exact LeO.none _)
   | (with_reducible refine LeO.ite ?_ ?_)
   | (with_reducible refine LeO.bind ?_ (fun _ => ?_))
   | exact ih0 _ _
   | exact ih1 _ _ _
   | exact LeO.none _
   | refine LeO.ite ?_ ?_
   | refine LeO.bind ?_ (fun _ => ?_)
  ·intro y0 y1 y2
   unfold impl_textOk.l0
   repeat' first
   | (with_reducible exact ih0 _ _)
   | (with_reducible exact ih1 _ _ _)
   | (with_reducible exact LeO.refl _)
   | (with_reducible exact LeO.none _)
   | (with_reducible refine LeO.ite ?_ ?_)
   | (with_reducible refine LeO.bind ?_ (fun _ => ?_))
   | exact ih0 _ _
   | exact ih1 _ _ _
   | exact LeO.none _
   | refine LeO.ite ?_ ?_
   | refine LeO.bind ?_ (fun _ => ?_)
theorem impl_textOk.mono : ∀ a0 k, LeO (impl_textOk.f k a0) (impl_textOk.f (k + 1) a0) := by
 intro a0 k
 obtain⟨ih0,ih1⟩:=impl_textOk.mono_l k
 unfold impl_textOk.f
 repeat' first
   | (with_reducible exact ih0 _ _)
   | (with_reducible exact ih1 _ _ _)
   | (with_reducible exact LeO.refl _)
   | (with_reducible exact LeO.none _)
   | (with_reducible refine LeO.ite ?_ ?_)
   | (with_reducible refine LeO.bind ?_ (fun _ => ?_))
   | exact ih0 _ _
   | exact ih1 _ _ _
   | exact LeO.none _
   | refine LeO.ite ?_ ?_
   | refine LeO.bind ?_ (fun _ => ?_)
set_option maxHeartbeats 8000000 in
set_option maxRecDepth 100000 in
theorem impl_textOk.calls (k : Nat) (a0 : ByteArray) (r : Bool) (w : World) (hgl : Glob w) (h : impl_textOk.f k a0 = some r) :
  Calls Tryd.prog 40 #[.string a0] w fun e w'=>e=.returned (.bool r)∧Drawn0 w w':=by
 have HGL:=Ea hgl
 clear hgl
 have H:((impl_in.f (a0.size:Int) 1 200).bind fun t146=>(if t146=true then ((strings_HasPrefix.f a0 (⟨#[10]⟩:ByteArray)).bind fun t147=>(if t147=true then (impl_textOk.j0 k a0 true) else ((strings_HasSuffix.f a0 (⟨#[10]⟩:ByteArray)).bind fun t148=>(if t148=true then (impl_textOk.j0 k a0 true) else ((strings_Contains.f a0 (⟨#[10,10]⟩:ByteArray)).bind fun t149=>(impl_textOk.j0 k a0 t149)))))) else (impl_textOk.j0 k a0 true)))=some r:=h
 clear h
 have HC2:=Ea H
 clear H
 go_enter Tryd.func40,Tryd.ntmps40
 go_upto_region 1 with (fail)
 go_cut [20] (fun v20 wc=>∃ (kq:Nat) (x20_1:Bool),v20=.bool x20_1∧Aside0 (impl_textOk.j0 kq a0 x20_1=some r)∧Aside0 (kq≤k)∧Drawn0 w wc)
 case first=>
  have H:=HC2.out
  clear HC2
  replace H:=Option.bind_eq_some_iff.mp H
  obtain⟨t146,A30,H⟩:=H
  replace H:(if t146=true then ((strings_HasPrefix.f a0 (⟨#[10]⟩:ByteArray)).bind fun t147=>(if t147=true then (impl_textOk.j0 k a0 true) else ((strings_HasSuffix.f a0 (⟨#[10]⟩:ByteArray)).bind fun t148=>(if t148=true then (impl_textOk.j0 k a0 true) else ((strings_Contains.f a0 (⟨#[10,10]⟩:ByteArray)).bind fun t149=>(impl_textOk.j0 k a0 t149)))))) else (impl_textOk.j0 k a0 true))=some r:=H
  have A3:=Ea A30
  clear A30
  by_cases c4:t146=true
  ·subst c4
   have H1:((strings_HasPrefix.f a0 (⟨#[10]⟩:ByteArray)).bind fun t147=>(if t147=true then (impl_textOk.j0 k a0 true) else ((strings_HasSuffix.f a0 (⟨#[10]⟩:ByteArray)).bind fun t148=>(if t148=true then (impl_textOk.j0 k a0 true) else ((strings_Contains.f a0 (⟨#[10,10]⟩:ByteArray)).bind fun t149=>(impl_textOk.j0 k a0 t149))))))=some r:=by rw [if_pos rfl] at H;exact H
   clear H
   have H:=H1
   clear H1
   replace H:=Option.bind_eq_some_iff.mp H
   obtain⟨t147,A50,H⟩:=H
   replace H:(if t147=true then (impl_textOk.j0 k a0 true) else ((strings_HasSuffix.f a0 (⟨#[10]⟩:ByteArray)).bind fun t148=>(if t148=true then (impl_textOk.j0 k a0 true) else ((strings_Contains.f a0 (⟨#[10,10]⟩:ByteArray)).bind fun t149=>(impl_textOk.j0 k a0 t149)))))=some r:=H
   have A5:=Ea A50
   clear A50
   by_cases c6:t147=true
   ·subst c6
    have H1:(impl_textOk.j0 k a0 true)=some r:=by rw [if_pos rfl] at H;exact H
    clear H
    have H:=H1
    clear H1
    have H':=Ea H
    clear H
    go_wp2_with (first|((with_reducible refine gate_callee (f:=52) rfl ?_);refine goesL_ (some 7) rfl rfl Tryd.func52 (by kernel_rfl) rfl #[.int .i64 (a0.size:Int),.int .i64 1,.int .i64 200] rfl (by(try simp only [List.map_toArray,List.map_cons,List.map_nil]);first|done|rfl|(simp only [List.length_drop,List.length_take];rfl)) ?_;(with_reducible refine(impl_in.calls (a0.size:Int) 1 200 true _ A3.out).mono ?_);rintro e w' ⟨rfl,⟨nd,rfl⟩⟩;refine⟨_,rfl,?_⟩)|(go_at_call 49;(with_reducible refine(strings_HasPrefix.calls a0 (⟨#[10]⟩:ByteArray) true _ A5.out).mono ?_);rintro e w' ⟨rfl,⟨nd,rfl⟩⟩))
    go_meet
    case rel=>exact⟨_,(true),(by first|rfl|(simp;done)|(simp [*];done)),H',⟨by first|omega|exact Nat.le_refl _⟩,by repeat(first|exact Ec _|apply Ed)⟩
   ·replace c6:=Bool.eq_false_iff.mpr c6
    subst c6
    have H1:((strings_HasSuffix.f a0 (⟨#[10]⟩:ByteArray)).bind fun t148=>(if t148=true then (impl_textOk.j0 k a0 true) else ((strings_Contains.f a0 (⟨#[10,10]⟩:ByteArray)).bind fun t149=>(impl_textOk.j0 k a0 t149))))=some r:=by rw [if_neg (show ¬ (false=true) by decide)] at H;exact H
    clear H
    have H:=H1
    clear H1
    replace H:=Option.bind_eq_some_iff.mp H
    obtain⟨t148,A70,H⟩:=H
    replace H:(if t148=true then (impl_textOk.j0 k a0 true) else ((strings_Contains.f a0 (⟨#[10,10]⟩:ByteArray)).bind fun t149=>(impl_textOk.j0 k a0 t149)))=some r:=H
    have A7:=Ea A70
    clear A70
    by_cases c8:t148=true
    ·subst c8
     have H1:(impl_textOk.j0 k a0 true)=some r:=by rw [if_pos rfl] at H;exact H
     clear H
     have H:=H1
     clear H1
     have H':=Ea H
     clear H
     go_wp2_with (first|((with_reducible refine gate_callee (f:=52) rfl ?_);refine goesL_ (some 7) rfl rfl Tryd.func52 (by kernel_rfl) rfl #[.int .i64 (a0.size:Int),.int .i64 1,.int .i64 200] rfl (by(try simp only [List.map_toArray,List.map_cons,List.map_nil]);first|done|rfl|(simp only [List.length_drop,List.length_take];rfl)) ?_;(with_reducible refine(impl_in.calls (a0.size:Int) 1 200 true _ A3.out).mono ?_);rintro e w' ⟨rfl,⟨nd,rfl⟩⟩;refine⟨_,rfl,?_⟩)|(go_at_call 49;(with_reducible refine(strings_HasPrefix.calls a0 (⟨#[10]⟩:ByteArray) false _ A5.out).mono ?_);rintro e w' ⟨rfl,⟨nd,rfl⟩⟩)|(go_at_call 53;(with_reducible refine(strings_HasSuffix.calls a0 (⟨#[10]⟩:ByteArray) true _ A7.out).mono ?_);rintro e w' ⟨rfl,⟨nd,rfl⟩⟩))
     go_meet
     case rel=>exact⟨_,(true),(by first|rfl|(simp;done)|(simp [*];done)),H',⟨by first|omega|exact Nat.le_refl _⟩,by repeat(first|exact Ec _|apply Ed)⟩
    ·replace c8:=Bool.eq_false_iff.mpr c8
     subst c8
     have H1:((strings_Contains.f a0 (⟨#[10,10]⟩:ByteArray)).bind fun t149=>(impl_textOk.j0 k a0 t149))=some r:=by rw [if_neg (show ¬ (false=true) by decide)] at H;exact H
     clear H
     have H:=H1
     clear H1
     replace H:=Option.bind_eq_some_iff.mp H
     obtain⟨t149,A90,H⟩:=H
     replace H:(impl_textOk.j0 k a0 t149)=some r:=H
     have A9:=Ea A90
     clear A90
     have H':=Ea H
     clear H
     go_wp2_with (first|((with_reducible refine gate_callee (f:=52) rfl ?_);refine goesL_ (some 7) rfl rfl Tryd.func52 (by kernel_rfl) rfl #[.int .i64 (a0.size:Int),.int .i64 1,.int .i64 200] rfl (by(try simp only [List.map_toArray,List.map_cons,List.map_nil]);first|done|rfl|(simp only [List.length_drop,List.length_take];rfl)) ?_;(with_reducible refine(impl_in.calls (a0.size:Int) 1 200 true _ A3.out).mono ?_);rintro e w' ⟨rfl,⟨nd,rfl⟩⟩;refine⟨_,rfl,?_⟩)|(go_at_call 49;(with_reducible refine(strings_HasPrefix.calls a0 (⟨#[10]⟩:ByteArray) false _ A5.out).mono ?_);rintro e w' ⟨rfl,⟨nd,rfl⟩⟩)|(go_at_call 53;(with_reducible refine(strings_HasSuffix.calls a0 (⟨#[10]⟩:ByteArray) false _ A7.out).mono ?_);rintro e w' ⟨rfl,⟨nd,rfl⟩⟩)|(go_at_call 48;(with_reducible refine(strings_Contains.calls a0 (⟨#[10,10]⟩:ByteArray) t149 _ (by first|exact HGL.out|((repeat(with_reducible refine Glob.drewN ?_));exact HGL.out)|exact Glob.below HGL.out (by repeat(first|(with_reducible first|exact HB.out|apply Ee|apply Eb|apply Ef)|exact HB.out))) A9.out).mono ?_);rintro e w' ⟨rfl,⟨nd,rfl⟩⟩))
     go_meet
     case rel=>exact⟨_,(t149),(by first|rfl|(simp;done)|(simp [*];done)),H',⟨by first|omega|exact Nat.le_refl _⟩,by repeat(first|exact Ec _|apply Ed)⟩
  ·replace c4:=Bool.eq_false_iff.mpr c4
   subst c4
   have H1:(impl_textOk.j0 k a0 true)=some r:=by rw [if_neg (show ¬ (false=true) by decide)] at H;exact H
   clear H
   have H:=H1
   clear H1
   have H':=Ea H
   clear H
   go_wp2_with (first|((with_reducible refine gate_callee (f:=52) rfl ?_);refine goesL_ (some 7) rfl rfl Tryd.func52 (by kernel_rfl) rfl #[.int .i64 (a0.size:Int),.int .i64 1,.int .i64 200] rfl (by(try simp only [List.map_toArray,List.map_cons,List.map_nil]);first|done|rfl|(simp only [List.length_drop,List.length_take];rfl)) ?_;(with_reducible refine(impl_in.calls (a0.size:Int) 1 200 false _ A3.out).mono ?_);rintro e w' ⟨rfl,⟨nd,rfl⟩⟩;refine⟨_,rfl,?_⟩))
   go_meet
   case rel=>exact⟨_,(true),(by first|rfl|(simp;done)|(simp [*];done)),H',⟨by first|omega|exact Nat.le_refl _⟩,by repeat(first|exact Ec _|apply Ed)⟩
 case rest=>
  clear HC2
  try clear p2
  try clear c4
  try clear c5
  try clear c6
  try clear c8
  obtain⟨kq,x20_1,rfl,HA,HJ1,⟨mc1,rfl⟩⟩:=hcut
  cases kq with
  | zero => exact absurd HA.out (by simp [impl_textOk.j0])
  | succ kj1 =>
   have H:=HA.out
   clear HA
   simp only [impl_textOk.j0] at H
   by_cases c10:x20_1=true
   ·subst c10
    have H1:(some false)=some r:=by rw [if_pos rfl] at H;exact H
    clear H
    have H:=H1
    clear H1
    obtain rfl:=Option.some.inj H
    go_wp2
    go_ret
    exact⟨by first|rfl|(simp;done)|(simp [*];done),by repeat(first|exact Ec _|apply Ed)⟩
   ·replace c10:=Bool.eq_false_iff.mpr c10
    subst c10
    have H1:(impl_textOk.l0 kj1 a0 (a0.size:Int) 0)=some r:=by rw [if_neg (show ¬ (false=true) by decide)] at H;exact H
    clear H
    have H:=H1
    clear H1
    have H':=Ea H
    clear H
    go_wp2
    go_loopg [23] kj1 (fun kq v23 w'=>∃ (qa:Int),v23=.int .i64 qa∧Aside0 (impl_textOk.l0 kq a0 (a0.size:Int) qa=some r)∧Aside0 (kq≤kj1)∧Drawn0 w w')
    case atStart=>exact⟨(0),(by first|rfl|(simp;done)|(simp [*];done)),H',⟨Nat.le_refl _⟩,by repeat(first|exact Ec _|apply Ed)⟩
    case round=>
     clear H'
     try clear c1
     try clear p2
     try clear c4
     try clear c5
     try clear c6
     try clear c8
     try clear c10
     try clear p2
     obtain⟨qa,rfl,HA,HK2,⟨m2,rfl⟩⟩:=hrel
     cases gk with
     | zero => exact absurd HA.out (by simp [impl_textOk.l0])
     | succ k2 =>
      have H:=HA.out
      clear HA
      simp only [impl_textOk.l0] at H
      by_cases c11:qa < (a0.size:Int)
      ·rw [if_pos c11] at H
       have c11b0:decide (qa < (a0.size:Int))=true:=decide_eq_true c11
       clear c11
       by_cases c12:0≤qa
       ·rw [if_pos c12] at H
        have c12b0:decide (0≤qa)=true:=decide_eq_true c12
        clear c12
        by_cases c13:qa < (a0.size:Int)
        ·rw [if_pos c13] at H
         have c13b0:decide (qa < (a0.size:Int))=true:=decide_eq_true c13
         clear c13
         by_cases c15:(bt a0 qa)=10
         ·rw [if_pos c15] at H
          have c15b0:((bt a0 qa) == 10)=true:=beq_iff_eq.mpr c15
          have c15b1:((bt a0 qa) != 10)=false:=bne_eq_false_iff_eq.mpr c15
          clear c15
          have H':=Ea H
          clear H
          have p14:0≤(qa:Int):=of_decide_eq_true (by first|(with_reducible assumption)|assumption)
          have q14:qa < (a0.size:Int):=of_decide_eq_true (by first|(with_reducible assumption)|assumption)
          have hx14:=bt_at a0 qa
          replace p14:=eq_true p14
          replace q14:=eq_true q14
          go_wp2
          go_roundg k2
          case measure=>have:=HJ1.out;have:=HK2.out;omega
          case rel=>exact⟨(wrap64 (qa+1)),(by first|rfl|(simp;done)|(simp [*];done)),H',⟨by have:=HJ1.out;have:=HK2.out;omega⟩,by repeat(first|exact Ec _|apply Ed)⟩
         ·rw [if_neg c15] at H
          have c15b0:((bt a0 qa) == 10)=false:=beq_eq_false_iff_ne.mpr c15
          have c15b1:((bt a0 qa) != 10)=true:=bne_iff_ne.mpr c15
          by_cases c16:(bt a0 qa) < 32
          ·rw [if_pos c16] at H
           have c16b0:decide ((bt a0 qa) < 32)=true:=decide_eq_true c16
           clear c16
           obtain rfl:=Option.some.inj H
           have p14:0≤(qa:Int):=of_decide_eq_true (by first|(with_reducible assumption)|assumption)
           have q14:qa < (a0.size:Int):=of_decide_eq_true (by first|(with_reducible assumption)|assumption)
           have hx14:=bt_at a0 qa
           replace p14:=eq_true p14
           replace q14:=eq_true q14
           go_wp2
           go_ret
           exact⟨by first|rfl|(simp;done)|(simp [*];done),by repeat(first|exact Ec _|apply Ed)⟩
          ·rw [if_neg c16] at H
           have c16b0:decide ((bt a0 qa) < 32)=false:=decide_eq_false c16
           clear c16
           by_cases c17:(bt a0 qa)=127
           ·rw [if_pos c17] at H
            have c17b0:((bt a0 qa) == 127)=true:=beq_iff_eq.mpr c17
            have c17b1:((bt a0 qa) != 127)=false:=bne_eq_false_iff_eq.mpr c17
            clear c17
            obtain rfl:=Option.some.inj H
            have p14:0≤(qa:Int):=of_decide_eq_true (by first|(with_reducible assumption)|assumption)
            have q14:qa < (a0.size:Int):=of_decide_eq_true (by first|(with_reducible assumption)|assumption)
            have hx14:=bt_at a0 qa
            replace p14:=eq_true p14
            replace q14:=eq_true q14
            go_wp2
            go_ret
            exact⟨by first|rfl|(simp;done)|(simp [*];done),by repeat(first|exact Ec _|apply Ed)⟩
           ·rw [if_neg c17] at H
            have c17b0:((bt a0 qa) == 127)=false:=beq_eq_false_iff_ne.mpr c17
            have c17b1:((bt a0 qa) != 127)=true:=bne_iff_ne.mpr c17
            have H':=Ea H
            clear H
            have p14:0≤(qa:Int):=of_decide_eq_true (by first|(with_reducible assumption)|assumption)
            have q14:qa < (a0.size:Int):=of_decide_eq_true (by first|(with_reducible assumption)|assumption)
            have hx14:=bt_at a0 qa
            replace p14:=eq_true p14
            replace q14:=eq_true q14
            go_wp2
            go_roundg k2
            case measure=>have:=HJ1.out;have:=HK2.out;omega
            case rel=>exact⟨(wrap64 (qa+1)),(by first|rfl|(simp;done)|(simp [*];done)),H',⟨by have:=HJ1.out;have:=HK2.out;omega⟩,by repeat(first|exact Ec _|apply Ed)⟩
        ·rw [if_neg c13] at H
         exact absurd H (by simp)
       ·rw [if_neg c12] at H
        exact absurd H (by simp)
      ·rw [if_neg c11] at H
       have c11b0:decide (qa < (a0.size:Int))=false:=decide_eq_false c11
       clear c11
       obtain rfl:=Option.some.inj H
       go_wp2
       go_ret
       exact⟨by first|rfl|(simp;done)|(simp [*];done),by repeat(first|exact Ec _|apply Ed)⟩

end Go.Proofs.YtidogkjhjmcliaaDoor.HFnExactShowTitles
