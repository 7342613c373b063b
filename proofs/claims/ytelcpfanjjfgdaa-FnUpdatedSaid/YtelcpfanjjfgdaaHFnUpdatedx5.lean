-- Laid by myprint.py, a program of this repo, out of the kit's printer and this repo's own texts (wip/hand).
import Derived.Test.YtelcpfanjjfgdaaHFnUpdatedx0
import Derived.Test.YtelcpfanjjfgdaaHFnUpdatedx1
import Derived.Test.YtelcpfanjjfgdaaHFnUpdatedx4
namespace Go.Proofs.Ytelcpfanjjfgdaa.HFnUpdated
open Go.RowKit Go.Proofs.YtelcpfanjjfgdaaW.PrintWords Go.Proofs.YtelcpfanjjfgdaaW.PrintLast Go.Proofs.YtelcpfanjjfgdaaW.PrintMore
attribute [local go_sem] max2_int min2_int max_two min_two max_three min_three max_four min_four   -- for this text's walks alone
set_option linter.unusedVariables false
set_option linter.unusedSimpArgs false
theorem Fa : type_of% @Aside0.mk := @Aside0.mk
theorem Fb : type_of% @Kd.R_drew := @Kd.R_drew
theorem Fc : type_of% @Kd.R_alloc := @Kd.R_alloc
theorem Fd : type_of% @Kd.R_drewN := @Kd.R_drewN
theorem Fe : type_of% @pw_below_drewN := @pw_below_drewN
theorem Ff : type_of% @below_alloc := @below_alloc
theorem Fg : type_of% @below_drew1 := @below_drew1
theorem Fh : type_of% @Kd.C_drew := @Kd.C_drew
theorem Fi : type_of% @Kd.C_alloc := @Kd.C_alloc
theorem Fj : type_of% @Kd.C_below := @Kd.C_below
theorem Fk : type_of% @Kd.C_drewN := @Kd.C_drewN
theorem Fl : type_of% @Kd.R_below := @Kd.R_below

attribute [local go_sem high] eqA71
/-! ### laws_big: function 29 -/
def laws_big.f (l0 : List Int) : Option (Bool) := some (decide ((l0.length : Int) > 4096))
set_option maxHeartbeats 8000000 in
set_option maxRecDepth 100000 in
theorem laws_big.calls (A0 : Option Addr) (c0 : Nat) (l0 : List Int) (r : Bool) (w : World) (hr0 : Kd.C (Kd.int .u8) w A0 l0.length l0) (hc0 : l0.length ≤ c0) (h : laws_big.f l0 = some r) :
    Calls Try.prog 29 #[.slice A0 l0.length c0] w fun e w'=>e=.returned (.bool r)∧Drawn0 w w':=by
  have HR0:=Fa hr0
  have HC0:=Fa hc0
  clear hr0 hc0
  have H:(some (decide ((l0.length:Int) > 4096)))=some r:=h
  clear h
  obtain rfl:=Option.some.inj H
  go_enter Try.func29,Try.ntmps29
  go_wp2
  go_ret
  exact⟨by first|rfl|(simp;done)|(simp [*];done),by repeat(first|exact Drawn0.refl _|apply Drawn0.step)⟩

/-! ### spec_l15Find: function 71 -/
def spec_l15Find.l0 : Nat → List (S71) → ByteArray → Int → Option (Int)
  | 0, _, _, _ => none
  | k + 1, x0, x1, x5 => if x5 < (x0.length : Int) then (if 0 ≤ x5 then (if ((rd_T71 x0 x5).f0).toList = x1.toList then (some x5) else (spec_l15Find.l0 k x0 x1 (wrap64 (x5 + 1)))) else (none)) else (some (-1))
def spec_l15Find.f (k : Nat) (l0 : List (S71)) (a1 : ByteArray) : Option (Int) := spec_l15Find.l0 k l0 a1 0
theorem spec_l15Find.mono_l : ∀ k, (∀ y0 y1 y2, LeO (spec_l15Find.l0 k y0 y1 y2) (spec_l15Find.l0 (k + 1) y0 y1 y2))
  | 0 => fun _ _ _ r h => by simp [spec_l15Find.l0] at h
  | k + 1 => by
    have ih0:=spec_l15Find.mono_l k
    · intro y0 y1 y2
      unfold spec_l15Find.l0
      repeat' first
      | (with_reducible exact ih0 _ _ _)
      | (with_reducible exact LeO.refl _)
      | (with_reducible exact LeO.none _)
      | (with_reducible refine LeO.ite ?_ ?_)
      | (with_reducible refine LeO.bind ?_ (fun _ => ?_))
      | exact ih0 _ _ _
      | exact LeO.none _
      | refine LeO.ite ?_ ?_
      | refine LeO.bind ?_ (fun _ => ?_)
theorem spec_l15Find.mono : ∀ a0 a1 k, LeO (spec_l15Find.f k a0 a1) (spec_l15Find.f (k + 1) a0 a1) := by
  intro a0 a1 k
  have ih0:=spec_l15Find.mono_l k
  unfold spec_l15Find.f
  repeat' first
      | (with_reducible exact ih0 _ _ _)
      | (with_reducible exact LeO.refl _)
      | (with_reducible exact LeO.none _)
      | (with_reducible refine LeO.ite ?_ ?_)
      | (with_reducible refine LeO.bind ?_ (fun _ => ?_))
      | exact ih0 _ _ _
      | exact LeO.none _
      | refine LeO.ite ?_ ?_
      | refine LeO.bind ?_ (fun _ => ?_)
set_option maxHeartbeats 8000000 in
set_option maxRecDepth 100000 in
theorem spec_l15Find.calls (k : Nat) (A0 : Option Addr) (c0 : Nat) (l0 : List (S71)) (a1 : ByteArray) (r : Int) (w : World) (hr0 : Kd.C k71 w A0 l0.length l0) (hc0 : l0.length ≤ c0) (h : spec_l15Find.f k l0 a1 = some r) :
    Calls Try.prog 71 #[.slice A0 l0.length c0,.string a1] w fun e w'=>e=.returned (.int .i64 r)∧Drawn0 w w':=by
  have HR0:=Fa hr0
  have HC0:=Fa hc0
  clear hr0 hc0
  have H:(spec_l15Find.l0 k l0 a1 0)=some r:=h
  clear h
  have H':=Fa H
  clear H
  go_enter Try.func71,Try.ntmps71
  go_wp2
  go_loopg [5] k (fun kq v5 w'=>∃ (x5_1:Int),v5=.int .i64 x5_1∧Aside0 (spec_l15Find.l0 kq l0 a1 x5_1=some r)∧Aside0 (kq≤k)∧Drawn0 w w')
  case atStart=>exact⟨(0),(by first|rfl|(simp;done)|(simp [*];done)),H',⟨Nat.le_refl _⟩,by repeat(first|exact Drawn0.refl _|apply Drawn0.step)⟩
  case round=>
    clear H'
    try clear p2
    obtain⟨x5_1,rfl,HA,HK1,⟨m1,rfl⟩⟩:=hrel
    cases gk with
    | zero => exact absurd HA.out (by simp [spec_l15Find.l0])
    | succ k1 =>
      have H:=HA.out
      clear HA
      simp only [spec_l15Find.l0] at H
      by_cases c3:x5_1 < (l0.length:Int)
      · rw [if_pos c3] at H
        have c3b0:decide (x5_1 < (l0.length:Int))=true:=decide_eq_true c3
        clear c3
        by_cases c4:0≤x5_1
        · rw [if_pos c4] at H
          have c4b0:decide (0≤x5_1)=true:=decide_eq_true c4
          clear c4
          by_cases c5:((rd_T71 l0 x5_1).f0).toList=a1.toList
          · rw [if_pos c5] at H
            have c5b0:(((rd_T71 l0 x5_1).f0).toList == a1.toList)=true:=beq_iff_eq.mpr c5
            have c5b1:(((rd_T71 l0 x5_1).f0).toList != a1.toList)=false:=bne_eq_false_iff_eq.mpr c5
            clear c5
            obtain rfl:=Option.some.inj H
            have p108:0≤(x5_1:Int):=of_decide_eq_true (by first|(with_reducible assumption)|assumption)
            have q108:x5_1 < (l0.length:Int):=of_decide_eq_true (by first|(with_reducible assumption)|assumption)
            obtain⟨ad108,e108,hx108_0,hx108_1,hx108_2⟩:=at_T71 HR0.out x5_1 p108 q108
            cases e108
            replace p108:=eq_true p108
            replace q108:=eq_true q108
            go_wp2
            go_ret
            exact⟨by first|rfl|(simp;done)|(simp [*];done),by repeat(first|exact Drawn0.refl _|apply Drawn0.step)⟩
          · rw [if_neg c5] at H
            have c5b0:(((rd_T71 l0 x5_1).f0).toList == a1.toList)=false:=beq_eq_false_iff_ne.mpr c5
            have c5b1:(((rd_T71 l0 x5_1).f0).toList != a1.toList)=true:=bne_iff_ne.mpr c5
            have H':=Fa H
            clear H
            have p108:0≤(x5_1:Int):=of_decide_eq_true (by first|(with_reducible assumption)|assumption)
            have q108:x5_1 < (l0.length:Int):=of_decide_eq_true (by first|(with_reducible assumption)|assumption)
            obtain⟨ad108,e108,hx108_0,hx108_1,hx108_2⟩:=at_T71 HR0.out x5_1 p108 q108
            cases e108
            replace p108:=eq_true p108
            replace q108:=eq_true q108
            go_wp2
            go_roundg k1
            case measure=>have:=HK1.out;omega
            case rel=>exact⟨(wrap64 (x5_1+1)),(by first|rfl|(simp;done)|(simp [*];done)),H',⟨by have:=HK1.out;omega⟩,by repeat(first|exact Drawn0.refl _|apply Drawn0.step)⟩
        · rw [if_neg c4] at H
          exact absurd H (by simp)
      · rw [if_neg c3] at H
        have c3b0:decide (x5_1 < (l0.length:Int))=false:=decide_eq_false c3
        clear c3
        obtain rfl:=Option.some.inj H
        go_wp2
        go_ret
        exact⟨by first|rfl|(simp;done)|(simp [*];done),by repeat(first|exact Drawn0.refl _|apply Drawn0.step)⟩

/-! ### spec_Update: function 31 -/
mutual
def spec_Update.j0 : Nat → List (S71) → List (S71) → List ByteArray → List ByteArray → Bool → Option (List ByteArray × List ByteArray)
  | 0, _, _, _, _, _ => none
  | k + 1, x0, x1, x6, x7, x20 => if x20 = true then (some (x6, x7)) else (spec_Update.l0 k x0 x1 x6 x7 0)
def spec_Update.l0 : Nat → List (S71) → List (S71) → List ByteArray → List ByteArray → Int → Option (List ByteArray × List ByteArray)
  | 0, _, _, _, _, _ => none
  | k + 1, x0, x1, x6, x7, x8 => if x8 < (x1.length : Int) then (if 0 ≤ x8 then ((spec_l15Find.f k x0 ((rd_T71 x1 x8).f0)).bind fun t118 => (if t118 < 0 then (if x6.length < 8796093022208 then (spec_Update.l0 k x0 x1 (x6 ++ [(rd_T71 x1 x8).f0]) x7 (wrap64 (x8 + 1))) else (none)) else (if 0 ≤ t118 then (if t118 < (x0.length : Int) then (if (!((((rd_T71 x0 t118).f0).toList) == (((rd_T71 x1 x8).f0).toList)) || (!(((rd_T71 x0 t118).f1) == ((rd_T71 x1 x8).f1)) || (!(((rd_T71 x0 t118).f2) == ((rd_T71 x1 x8).f2))))) = true then (if x6.length < 8796093022208 then (spec_Update.l0 k x0 x1 (x6 ++ [(rd_T71 x1 x8).f0]) x7 (wrap64 (x8 + 1))) else (none)) else (spec_Update.l0 k x0 x1 x6 x7 (wrap64 (x8 + 1)))) else (none)) else (none)))) else (none)) else (spec_Update.l1 k x0 x1 x6 x7 0)
def spec_Update.l1 : Nat → List (S71) → List (S71) → List ByteArray → List ByteArray → Int → Option (List ByteArray × List ByteArray)
  | 0, _, _, _, _, _ => none
  | k + 1, x0, x1, x6, x7, x10 => if x10 < (x0.length : Int) then (if 0 ≤ x10 then ((spec_l15Find.f k x1 ((rd_T71 x0 x10).f0)).bind fun t130 => (if t130 < 0 then (if x7.length < 8796093022208 then (spec_Update.l1 k x0 x1 x6 (x7 ++ [(rd_T71 x0 x10).f0]) (wrap64 (x10 + 1))) else (none)) else (spec_Update.l1 k x0 x1 x6 x7 (wrap64 (x10 + 1))))) else (none)) else (some (x6, x7))
end
def spec_Update.f (k : Nat) (l0 : List (S71)) (l1 : List (S71)) : Option (List ByteArray × List ByteArray) := (some (([] : List ByteArray) : List ByteArray)).bind fun y109 => ((some (([] : List ByteArray) : List ByteArray)).bind fun y112 => ((spec_PackOk.f k l0).bind fun t115 => (if t115 = true then ((spec_PackOk.f k l1).bind fun t116 => (spec_Update.j0 k l0 l1 y109 y112 (!t116))) else (spec_Update.j0 k l0 l1 y109 y112 true))))
theorem spec_Update.mono_l : ∀ k, (∀ y0 y1 y2 y3 y4, LeO (spec_Update.j0 k y0 y1 y2 y3 y4) (spec_Update.j0 (k + 1) y0 y1 y2 y3 y4)) ∧ (∀ y0 y1 y2 y3 y4, LeO (spec_Update.l0 k y0 y1 y2 y3 y4) (spec_Update.l0 (k + 1) y0 y1 y2 y3 y4)) ∧ (∀ y0 y1 y2 y3 y4, LeO (spec_Update.l1 k y0 y1 y2 y3 y4) (spec_Update.l1 (k + 1) y0 y1 y2 y3 y4))
  | 0 => ⟨fun _ _ _ _ _ r h => by simp [spec_Update.j0] at h, fun _ _ _ _ _ r h => by simp [spec_Update.l0] at h, fun _ _ _ _ _ r h => by simp [spec_Update.l1] at h⟩
  | k + 1 => by
    obtain⟨ih0,ih1,ih2⟩:=spec_Update.mono_l k
    refine⟨?_,?_,?_⟩
    · intro y0 y1 y2 y3 y4
      unfold spec_Update.j0
      repeat' first
      | (with_reducible exact ih0 _ _ _ _ _)
      | (with_reducible exact ih1 _ _ _ _ _)
      | (with_reducible exact ih2 _ _ _ _ _)
      | (with_reducible exact spec_PackOk.mono _ _)
      | (with_reducible exact spec_l15Find.mono _ _ _)
      | (with_reducible exact LeO.refl _)
      | (with_reducible exact LeO.none _)
      | (with_reducible refine LeO.ite ?_ ?_)
      | (with_reducible refine LeO.bind ?_ (fun _ => ?_))
      | exact ih0 _ _ _ _ _
      | exact ih1 _ _ _ _ _
      | exact ih2 _ _ _ _ _
      | exact spec_PackOk.mono _ _
      | exact spec_l15Find.mono _ _ _
      | exact LeO.none _
      | refine LeO.ite ?_ ?_
      | refine LeO.bind ?_ (fun _ => ?_)
    · intro y0 y1 y2 y3 y4
      unfold spec_Update.l0
      repeat' first
      | (with_reducible exact ih0 _ _ _ _ _)
      | (with_reducible exact ih1 _ _ _ _ _)
      | (with_reducible exact ih2 _ _ _ _ _)
      | (with_reducible exact spec_PackOk.mono _ _)
      | (with_reducible exact spec_l15Find.mono _ _ _)
      | (with_reducible exact LeO.refl _)
      | (with_reducible exact LeO.none _)
      | (with_reducible refine LeO.ite ?_ ?_)
      | (with_reducible refine LeO.bind ?_ (fun _ => ?_))
      | exact ih0 _ _ _ _ _
      | exact ih1 _ _ _ _ _
      | exact ih2 _ _ _ _ _
      | exact spec_PackOk.mono _ _
      | exact spec_l15Find.mono _ _ _
      | exact LeO.none _
      | refine LeO.ite ?_ ?_
      | refine LeO.bind ?_ (fun _ => ?_)
    · intro y0 y1 y2 y3 y4
      unfold spec_Update.l1
      repeat' first
      | (with_reducible exact ih0 _ _ _ _ _)
      | (with_reducible exact ih1 _ _ _ _ _)
      | (with_reducible exact ih2 _ _ _ _ _)
      | (with_reducible exact spec_PackOk.mono _ _)
      | (with_reducible exact spec_l15Find.mono _ _ _)
      | (with_reducible exact LeO.refl _)
      | (with_reducible exact LeO.none _)
      | (with_reducible refine LeO.ite ?_ ?_)
      | (with_reducible refine LeO.bind ?_ (fun _ => ?_))
      | exact ih0 _ _ _ _ _
      | exact ih1 _ _ _ _ _
      | exact ih2 _ _ _ _ _
      | exact spec_PackOk.mono _ _
      | exact spec_l15Find.mono _ _ _
      | exact LeO.none _
      | refine LeO.ite ?_ ?_
      | refine LeO.bind ?_ (fun _ => ?_)
theorem spec_Update.mono : ∀ a0 a1 k, LeO (spec_Update.f k a0 a1) (spec_Update.f (k + 1) a0 a1) := by
  intro a0 a1 k
  obtain⟨ih0,ih1,ih2⟩:=spec_Update.mono_l k
  unfold spec_Update.f
  repeat' first
      | (with_reducible exact ih0 _ _ _ _ _)
      | (with_reducible exact ih1 _ _ _ _ _)
      | (with_reducible exact ih2 _ _ _ _ _)
      | (with_reducible exact spec_PackOk.mono _ _)
      | (with_reducible exact spec_l15Find.mono _ _ _)
      | (with_reducible exact LeO.refl _)
      | (with_reducible exact LeO.none _)
      | (with_reducible refine LeO.ite ?_ ?_)
      | (with_reducible refine LeO.bind ?_ (fun _ => ?_))
      | exact ih0 _ _ _ _ _
      | exact ih1 _ _ _ _ _
      | exact ih2 _ _ _ _ _
      | exact spec_PackOk.mono _ _
      | exact spec_l15Find.mono _ _ _
      | exact LeO.none _
      | refine LeO.ite ?_ ?_
      | refine LeO.bind ?_ (fun _ => ?_)
set_option maxHeartbeats 8000000 in
set_option maxRecDepth 100000 in
theorem spec_Update.calls (k : Nat) (A0 : Option Addr) (c0 : Nat) (l0 : List (S71)) (A1 : Option Addr) (c1 : Nat) (l1 : List (S71)) (r1 : List ByteArray) (r2 : List ByteArray) (w : World) (hr0 : Kd.C k71 w A0 l0.length l0) (hc0 : l0.length ≤ c0) (hr1 : Kd.C k71 w A1 l1.length l1) (hc1 : l1.length ≤ c1) (h : spec_Update.f k l0 l1 = some (r1, r2)) :
    Calls Try.prog 31 #[.slice A0 l0.length c0,.slice A1 l1.length c1] w fun e w'=>∃ v0_ v1_:Value,e=.returned (.tuple #[v0_,v1_])∧Kd.R Kd.string 9 w' w.heap.size (fun k_=>some k_≠(v1_:Value).ownBlock) v0_ r1∧Kd.R Kd.string 9 w' w.heap.size (fun k_=>some k_≠(v0_:Value).ownBlock) v1_ r2∧Below w.heap.size w w':=by
  have hu71:=Try.underlying71
  have HR0:=Fa hr0
  have HC0:=Fa hc0
  clear hr0 hc0
  have yt:=Fa hr1
  have HC1:=Fa hc1
  clear hr1 hc1
  have HB:=Fa (Below.refl w.heap.size w)
  have H:((some (([]:List ByteArray):List ByteArray)).bind fun y109=>((some (([]:List ByteArray):List ByteArray)).bind fun y112=>((spec_PackOk.f k l0).bind fun t115=>(if t115=true then ((spec_PackOk.f k l1).bind fun t116=>(spec_Update.j0 k l0 l1 y109 y112 (!t116))) else (spec_Update.j0 k l0 l1 y109 y112 true)))))=some (r1,r2):=h
  clear h
  obtain⟨y109,hy109⟩:∃ y_:List ByteArray,y_=(([]:List ByteArray)):=⟨_,rfl⟩
  replace H:((some (([]:List ByteArray):List ByteArray)).bind fun y112=>((spec_PackOk.f k l0).bind fun t115=>(if t115=true then ((spec_PackOk.f k l1).bind fun t116=>(spec_Update.j0 k l0 l1 y109 y112 (!t116))) else (spec_Update.j0 k l0 l1 y109 y112 true))))=some (r1,r2):=by first|(rw [hy109];with_reducible exact H)|(have H2_:=(Option.bind_some _ _).symm.trans H;rw [hy109];with_reducible exact H2_)|(have H2_:=(Option.bind_some _ _).symm.trans H;with_reducible exact H2_)|with_reducible exact H|(rw [hy109];exact H)|exact H
  have yy:=Fa hy109
  clear hy109
  obtain⟨y112,hy112⟩:∃ y_:List ByteArray,y_=(([]:List ByteArray)):=⟨_,rfl⟩
  replace H:((spec_PackOk.f k l0).bind fun t115=>(if t115=true then ((spec_PackOk.f k l1).bind fun t116=>(spec_Update.j0 k l0 l1 y109 y112 (!t116))) else (spec_Update.j0 k l0 l1 y109 y112 true)))=some (r1,r2):=by first|(rw [hy112];with_reducible exact H)|(have H2_:=(Option.bind_some _ _).symm.trans H;rw [hy112];with_reducible exact H2_)|(have H2_:=(Option.bind_some _ _).symm.trans H;with_reducible exact H2_)|with_reducible exact H|(rw [hy112];exact H)|exact H
  have yz:=Fa hy112
  clear hy112
  have HC3:=Fa H
  clear H
  go_enter Try.func31,Try.ntmps31
  go_upto_region 3 with (first|((with_reducible refine gate_dst (N:=11) rfl ?_);refine Kd.R_lit Kd.string _ 9 ?hg (N:=11) ?hd (xs:=([]:List ByteArray)) (inner:=[]) (ok:=fun _=>True) (okp:=fun _=>True) ?hr ?hp (fun _ hk=>hk) trivial (Below.refl _ _) (Nat.le_refl _) (by simp) ?_;(case hd=>rfl);(case hg=>rfl);(case hr=>first|(go_simp;done)|(go_simp;rfl));(case hp=>exact(Reps.none _ _));intro v110 w4 ho5 hb hg_ hnew_;clear hg_ hnew_;(first|rw [← yy.out] at ho5|(simp only [Int.reduceToNat] at ho5;rw [← yy.out] at ho5));have ql:=Fa (Kd.R_lower ho5 (below_size (by repeat(first|(with_reducible first|exact HB.out|apply Ff|apply Fe|apply Fg)|exact HB.out))));have qm:=Fa (below_step (by repeat(first|(with_reducible first|exact HB.out|apply Ff|apply Fe|apply Fg)|exact HB.out)) hb);clear HB;have qb:=ql;have HB:=qm;clear ql qm;clear hb ho5)|((with_reducible refine gate_dst (N:=12) rfl ?_);refine Kd.R_lit Kd.string _ 9 ?hg (N:=12) ?hd (xs:=([]:List ByteArray)) (inner:=[]) (ok:=fun _=>True) (okp:=fun _=>True) ?hr ?hp (fun _ hk=>hk) trivial (Below.refl _ _) (Nat.le_refl _) (by simp) ?_;(case hd=>rfl);(case hg=>rfl);(case hr=>first|(go_simp;done)|(go_simp;rfl));(case hp=>exact(Reps.none _ _));intro yr w6 ho7 hb hg_ hnew_;clear hg_ hnew_;(first|rw [← yz.out] at ho7|(simp only [Int.reduceToNat] at ho7;rw [← yz.out] at ho7));have ql:=Fa (Kd.R_elder' (by(with_reducible repeat(first|apply Fc|apply Fd|apply Fb));exact qb.out) (Kd.R_base ho7) hb);have qm:=Fa (Kd.R_lower (Kd.R_new' ho7 (Kd.R_lt (by(with_reducible repeat(first|apply Fc|apply Fd|apply Fb));exact qb.out))) (below_size (by repeat(first|(with_reducible first|exact HB.out|apply Ff|apply Fe|apply Fg)|exact HB.out))));have qx:=Fa (below_step (by repeat(first|(with_reducible first|exact HB.out|apply Ff|apply Fe|apply Fg)|exact HB.out)) hb);clear qb;clear HB;have qb:=ql;have qj:=qm;have HB:=qx;clear ql qm qx;clear hb ho7))
  repeat(go_quiet (first|((with_reducible refine gate_dst (N:=11) rfl ?_);refine Kd.R_lit Kd.string _ 9 ?hg (N:=11) ?hd (xs:=([]:List ByteArray)) (inner:=[]) (ok:=fun _=>True) (okp:=fun _=>True) ?hr ?hp (fun _ hk=>hk) trivial (Below.refl _ _) (Nat.le_refl _) (by simp) ?_;(case hd=>rfl);(case hg=>rfl);(case hr=>first|(go_simp;done)|(go_simp;rfl));(case hp=>exact(Reps.none _ _));intro v110 w4 ho5 hb hg_ hnew_;clear hg_ hnew_;(first|rw [← yy.out] at ho5|(simp only [Int.reduceToNat] at ho5;rw [← yy.out] at ho5));have ql:=Fa (Kd.R_lower ho5 (below_size (by repeat(first|(with_reducible first|exact HB.out|apply Ff|apply Fe|apply Fg)|exact HB.out))));have qm:=Fa (below_step (by repeat(first|(with_reducible first|exact HB.out|apply Ff|apply Fe|apply Fg)|exact HB.out)) hb);clear HB;have qb:=ql;have HB:=qm;clear ql qm;clear hb ho5)|((with_reducible refine gate_dst (N:=12) rfl ?_);refine Kd.R_lit Kd.string _ 9 ?hg (N:=12) ?hd (xs:=([]:List ByteArray)) (inner:=[]) (ok:=fun _=>True) (okp:=fun _=>True) ?hr ?hp (fun _ hk=>hk) trivial (Below.refl _ _) (Nat.le_refl _) (by simp) ?_;(case hd=>rfl);(case hg=>rfl);(case hr=>first|(go_simp;done)|(go_simp;rfl));(case hp=>exact(Reps.none _ _));intro yr w6 ho7 hb hg_ hnew_;clear hg_ hnew_;(first|rw [← yz.out] at ho7|(simp only [Int.reduceToNat] at ho7;rw [← yz.out] at ho7));have ql:=Fa (Kd.R_elder' (by(with_reducible repeat(first|apply Fc|apply Fd|apply Fb));exact qb.out) (Kd.R_base ho7) hb);have qm:=Fa (Kd.R_lower (Kd.R_new' ho7 (Kd.R_lt (by(with_reducible repeat(first|apply Fc|apply Fd|apply Fb));exact qb.out))) (below_size (by repeat(first|(with_reducible first|exact HB.out|apply Ff|apply Fe|apply Fg)|exact HB.out))));have qx:=Fa (below_step (by repeat(first|(with_reducible first|exact HB.out|apply Ff|apply Fe|apply Fg)|exact HB.out)) hb);clear qb;clear HB;have qb:=ql;have qj:=qm;have HB:=qx;clear ql qm qx;clear hb ho7));go_upto_region 3 with (first|((with_reducible refine gate_dst (N:=11) rfl ?_);refine Kd.R_lit Kd.string _ 9 ?hg (N:=11) ?hd (xs:=([]:List ByteArray)) (inner:=[]) (ok:=fun _=>True) (okp:=fun _=>True) ?hr ?hp (fun _ hk=>hk) trivial (Below.refl _ _) (Nat.le_refl _) (by simp) ?_;(case hd=>rfl);(case hg=>rfl);(case hr=>first|(go_simp;done)|(go_simp;rfl));(case hp=>exact(Reps.none _ _));intro v110 w4 ho5 hb hg_ hnew_;clear hg_ hnew_;(first|rw [← yy.out] at ho5|(simp only [Int.reduceToNat] at ho5;rw [← yy.out] at ho5));have ql:=Fa (Kd.R_lower ho5 (below_size (by repeat(first|(with_reducible first|exact HB.out|apply Ff|apply Fe|apply Fg)|exact HB.out))));have qm:=Fa (below_step (by repeat(first|(with_reducible first|exact HB.out|apply Ff|apply Fe|apply Fg)|exact HB.out)) hb);clear HB;have qb:=ql;have HB:=qm;clear ql qm;clear hb ho5)|((with_reducible refine gate_dst (N:=12) rfl ?_);refine Kd.R_lit Kd.string _ 9 ?hg (N:=12) ?hd (xs:=([]:List ByteArray)) (inner:=[]) (ok:=fun _=>True) (okp:=fun _=>True) ?hr ?hp (fun _ hk=>hk) trivial (Below.refl _ _) (Nat.le_refl _) (by simp) ?_;(case hd=>rfl);(case hg=>rfl);(case hr=>first|(go_simp;done)|(go_simp;rfl));(case hp=>exact(Reps.none _ _));intro yr w6 ho7 hb hg_ hnew_;clear hg_ hnew_;(first|rw [← yz.out] at ho7|(simp only [Int.reduceToNat] at ho7;rw [← yz.out] at ho7));have ql:=Fa (Kd.R_elder' (by(with_reducible repeat(first|apply Fc|apply Fd|apply Fb));exact qb.out) (Kd.R_base ho7) hb);have qm:=Fa (Kd.R_lower (Kd.R_new' ho7 (Kd.R_lt (by(with_reducible repeat(first|apply Fc|apply Fd|apply Fb));exact qb.out))) (below_size (by repeat(first|(with_reducible first|exact HB.out|apply Ff|apply Fe|apply Fg)|exact HB.out))));have qx:=Fa (below_step (by repeat(first|(with_reducible first|exact HB.out|apply Ff|apply Fe|apply Fg)|exact HB.out)) hb);clear qb;clear HB;have qb:=ql;have qj:=qm;have HB:=qx;clear ql qm qx;clear hb ho7)))
  (try simp only [Act.put,List.setIfInBounds_toArray,List.set_cons_zero,List.set_cons_succ])
  go_cut [20] (fun v20 wc=>∃ (kq:Nat) (x20_2:Bool),v20=.bool x20_2∧Aside0 (spec_Update.j0 kq l0 l1 y109 y112 x20_2=some (r1,r2))∧Aside0 (kq≤k)∧Aside0 (Kd.R Kd.string 9 wc w.heap.size (fun k_=>some k_≠(yr:Value).ownBlock) v110 y109)∧Aside0 (Kd.R Kd.string 9 wc w.heap.size (fun k_=>some k_≠(v110:Value).ownBlock) yr y112)∧Aside0 (Below w.heap.size w wc))
  case first=>
    have H:=HC3.out
    clear HC3
    replace H:=Option.bind_eq_some_iff.mp H
    obtain⟨t115,A80,H⟩:=H
    replace H:(if t115=true then ((spec_PackOk.f k l1).bind fun t116=>(spec_Update.j0 k l0 l1 y109 y112 (!t116))) else (spec_Update.j0 k l0 l1 y109 y112 true))=some (r1,r2):=H
    have A8:=Fa A80
    clear A80
    by_cases c9:t115=true
    · subst c9
      have H1:((spec_PackOk.f k l1).bind fun t116=>(spec_Update.j0 k l0 l1 y109 y112 (!t116)))=some (r1,r2):=by rw [if_pos rfl] at H;exact H
      clear H
      have H:=H1
      clear H1
      replace H:=Option.bind_eq_some_iff.mp H
      obtain⟨t116,A100,H⟩:=H
      replace H:(spec_Update.j0 k l0 l1 y109 y112 (!t116))=some (r1,r2):=H
      have A10:=Fa A100
      clear A100
      have H':=Fa H
      clear H
      go_wp2_with (first|(go_at_call 25;(with_reducible refine(spec_PackOk.calls k _ _ l0 true _ ?side1 ?side2 A8.out).mono ?_);(case side1=>repeat(first|exact(Fj HR0.out HB.out)|(with_reducible refine Fi ?_ _)|(with_reducible refine Fk ?_ _)|(with_reducible refine Fh ?_)));(case side2=>exact HC0.out);rintro e w11 ⟨rfl,hb⟩;have ql:=Fa (Fl (by(with_reducible repeat(first|apply Fc|apply Fd|apply Fb));exact qb.out) hb);have qm:=Fa (Fl (by(with_reducible repeat(first|apply Fc|apply Fd|apply Fb));exact qj.out) hb);have qx:=Fa (below_step (by repeat(first|(with_reducible first|exact HB.out|apply Ff|apply Fe|apply Fg)|exact HB.out)) hb);clear qb;clear qj;clear HB;have qb:=ql;have qj:=qm;have HB:=qx;clear ql qm qx;(try clear hb);(try clear hb2);(try clear hk);(try clear hi))|(go_at_call 25;(with_reducible refine(spec_PackOk.calls k _ _ l1 t116 _ ?side1 ?side2 A10.out).mono ?_);(case side1=>repeat(first|exact(Fj yt.out HB.out)|(with_reducible refine Fi ?_ _)|(with_reducible refine Fk ?_ _)|(with_reducible refine Fh ?_)));(case side2=>exact HC1.out);rintro e w12 ⟨rfl,hb⟩;have ql:=Fa (Fl (by(with_reducible repeat(first|apply Fc|apply Fd|apply Fb));exact qb.out) hb);have qm:=Fa (Fl (by(with_reducible repeat(first|apply Fc|apply Fd|apply Fb));exact qj.out) hb);have qx:=Fa (below_step (by repeat(first|(with_reducible first|exact HB.out|apply Ff|apply Fe|apply Fg)|exact HB.out)) hb);clear qb;clear qj;clear HB;have qb:=ql;have qj:=qm;have HB:=qx;clear ql qm qx;(try clear hb);(try clear hb2);(try clear hk);(try clear hi)))
      repeat(go_quiet (first|(go_at_call 25;(with_reducible refine(spec_PackOk.calls k _ _ l0 true _ ?side1 ?side2 A8.out).mono ?_);(case side1=>repeat(first|exact(Fj HR0.out HB.out)|(with_reducible refine Fi ?_ _)|(with_reducible refine Fk ?_ _)|(with_reducible refine Fh ?_)));(case side2=>exact HC0.out);rintro e w11 ⟨rfl,hb⟩;have ql:=Fa (Fl (by(with_reducible repeat(first|apply Fc|apply Fd|apply Fb));exact qb.out) hb);have qm:=Fa (Fl (by(with_reducible repeat(first|apply Fc|apply Fd|apply Fb));exact qj.out) hb);have qx:=Fa (below_step (by repeat(first|(with_reducible first|exact HB.out|apply Ff|apply Fe|apply Fg)|exact HB.out)) hb);clear qb;clear qj;clear HB;have qb:=ql;have qj:=qm;have HB:=qx;clear ql qm qx;(try clear hb);(try clear hb2);(try clear hk);(try clear hi))|(go_at_call 25;(with_reducible refine(spec_PackOk.calls k _ _ l1 t116 _ ?side1 ?side2 A10.out).mono ?_);(case side1=>repeat(first|exact(Fj yt.out HB.out)|(with_reducible refine Fi ?_ _)|(with_reducible refine Fk ?_ _)|(with_reducible refine Fh ?_)));(case side2=>exact HC1.out);rintro e w12 ⟨rfl,hb⟩;have ql:=Fa (Fl (by(with_reducible repeat(first|apply Fc|apply Fd|apply Fb));exact qb.out) hb);have qm:=Fa (Fl (by(with_reducible repeat(first|apply Fc|apply Fd|apply Fb));exact qj.out) hb);have qx:=Fa (below_step (by repeat(first|(with_reducible first|exact HB.out|apply Ff|apply Fe|apply Fg)|exact HB.out)) hb);clear qb;clear qj;clear HB;have qb:=ql;have qj:=qm;have HB:=qx;clear ql qm qx;(try clear hb);(try clear hb2);(try clear hk);(try clear hi)));try go_wp2_with (first|(go_at_call 25;(with_reducible refine(spec_PackOk.calls k _ _ l0 true _ ?side1 ?side2 A8.out).mono ?_);(case side1=>repeat(first|exact(Fj HR0.out HB.out)|(with_reducible refine Fi ?_ _)|(with_reducible refine Fk ?_ _)|(with_reducible refine Fh ?_)));(case side2=>exact HC0.out);rintro e w11 ⟨rfl,hb⟩;have ql:=Fa (Fl (by(with_reducible repeat(first|apply Fc|apply Fd|apply Fb));exact qb.out) hb);have qm:=Fa (Fl (by(with_reducible repeat(first|apply Fc|apply Fd|apply Fb));exact qj.out) hb);have qx:=Fa (below_step (by repeat(first|(with_reducible first|exact HB.out|apply Ff|apply Fe|apply Fg)|exact HB.out)) hb);clear qb;clear qj;clear HB;have qb:=ql;have qj:=qm;have HB:=qx;clear ql qm qx;(try clear hb);(try clear hb2);(try clear hk);(try clear hi))|(go_at_call 25;(with_reducible refine(spec_PackOk.calls k _ _ l1 t116 _ ?side1 ?side2 A10.out).mono ?_);(case side1=>repeat(first|exact(Fj yt.out HB.out)|(with_reducible refine Fi ?_ _)|(with_reducible refine Fk ?_ _)|(with_reducible refine Fh ?_)));(case side2=>exact HC1.out);rintro e w12 ⟨rfl,hb⟩;have ql:=Fa (Fl (by(with_reducible repeat(first|apply Fc|apply Fd|apply Fb));exact qb.out) hb);have qm:=Fa (Fl (by(with_reducible repeat(first|apply Fc|apply Fd|apply Fb));exact qj.out) hb);have qx:=Fa (below_step (by repeat(first|(with_reducible first|exact HB.out|apply Ff|apply Fe|apply Fg)|exact HB.out)) hb);clear qb;clear qj;clear HB;have qb:=ql;have qj:=qm;have HB:=qx;clear ql qm qx;(try clear hb);(try clear hb2);(try clear hk);(try clear hi))))
      go_meet
      case rel=>exact⟨_,(!t116),(by first|rfl|(simp;done)|(simp [*];done)),H',⟨by first|omega|exact Nat.le_refl _⟩,⟨by(with_reducible repeat(first|apply Fc|apply Fd|apply Fb));exact Kd.R_mono qb.out (fun _ hk=>hk.2)⟩,⟨by(with_reducible repeat(first|apply Fc|apply Fd|apply Fb));exact Kd.R_mono qj.out (fun _ hk=>hk.2)⟩,⟨by repeat(first|(with_reducible first|exact HB.out|apply Ff|apply Fe|apply Fg)|exact HB.out)⟩⟩
    · replace c9:=Bool.eq_false_iff.mpr c9
      subst c9
      have H1:(spec_Update.j0 k l0 l1 y109 y112 true)=some (r1,r2):=by rw [if_neg (show ¬ (false=true) by decide)] at H;exact H
      clear H
      have H:=H1
      clear H1
      have H':=Fa H
      clear H
      go_wp2_with (first|(go_at_call 25;(with_reducible refine(spec_PackOk.calls k _ _ l0 false _ ?side1 ?side2 A8.out).mono ?_);(case side1=>repeat(first|exact(Fj HR0.out HB.out)|(with_reducible refine Fi ?_ _)|(with_reducible refine Fk ?_ _)|(with_reducible refine Fh ?_)));(case side2=>exact HC0.out);rintro e w13 ⟨rfl,hb⟩;have ql:=Fa (Fl (by(with_reducible repeat(first|apply Fc|apply Fd|apply Fb));exact qb.out) hb);have qm:=Fa (Fl (by(with_reducible repeat(first|apply Fc|apply Fd|apply Fb));exact qj.out) hb);have qx:=Fa (below_step (by repeat(first|(with_reducible first|exact HB.out|apply Ff|apply Fe|apply Fg)|exact HB.out)) hb);clear qb;clear qj;clear HB;have qb:=ql;have qj:=qm;have HB:=qx;clear ql qm qx;(try clear hb);(try clear hb2);(try clear hk);(try clear hi)))
      repeat(go_quiet (first|(go_at_call 25;(with_reducible refine(spec_PackOk.calls k _ _ l0 false _ ?side1 ?side2 A8.out).mono ?_);(case side1=>repeat(first|exact(Fj HR0.out HB.out)|(with_reducible refine Fi ?_ _)|(with_reducible refine Fk ?_ _)|(with_reducible refine Fh ?_)));(case side2=>exact HC0.out);rintro e w13 ⟨rfl,hb⟩;have ql:=Fa (Fl (by(with_reducible repeat(first|apply Fc|apply Fd|apply Fb));exact qb.out) hb);have qm:=Fa (Fl (by(with_reducible repeat(first|apply Fc|apply Fd|apply Fb));exact qj.out) hb);have qx:=Fa (below_step (by repeat(first|(with_reducible first|exact HB.out|apply Ff|apply Fe|apply Fg)|exact HB.out)) hb);clear qb;clear qj;clear HB;have qb:=ql;have qj:=qm;have HB:=qx;clear ql qm qx;(try clear hb);(try clear hb2);(try clear hk);(try clear hi)));try go_wp2_with (first|(go_at_call 25;(with_reducible refine(spec_PackOk.calls k _ _ l0 false _ ?side1 ?side2 A8.out).mono ?_);(case side1=>repeat(first|exact(Fj HR0.out HB.out)|(with_reducible refine Fi ?_ _)|(with_reducible refine Fk ?_ _)|(with_reducible refine Fh ?_)));(case side2=>exact HC0.out);rintro e w13 ⟨rfl,hb⟩;have ql:=Fa (Fl (by(with_reducible repeat(first|apply Fc|apply Fd|apply Fb));exact qb.out) hb);have qm:=Fa (Fl (by(with_reducible repeat(first|apply Fc|apply Fd|apply Fb));exact qj.out) hb);have qx:=Fa (below_step (by repeat(first|(with_reducible first|exact HB.out|apply Ff|apply Fe|apply Fg)|exact HB.out)) hb);clear qb;clear qj;clear HB;have qb:=ql;have qj:=qm;have HB:=qx;clear ql qm qx;(try clear hb);(try clear hb2);(try clear hk);(try clear hi))))
      go_meet
      case rel=>exact⟨_,(true),(by first|rfl|(simp;done)|(simp [*];done)),H',⟨by first|omega|exact Nat.le_refl _⟩,⟨by(with_reducible repeat(first|apply Fc|apply Fd|apply Fb));exact Kd.R_mono qb.out (fun _ hk=>hk.2)⟩,⟨by(with_reducible repeat(first|apply Fc|apply Fd|apply Fb));exact Kd.R_mono qj.out (fun _ hk=>hk.2)⟩,⟨by repeat(first|(with_reducible first|exact HB.out|apply Ff|apply Fe|apply Fg)|exact HB.out)⟩⟩
  case rest=>
    clear HC3
    try clear c1
    try clear p2
    try clear c3
    try clear c9
    obtain⟨kq,x20_2,rfl,HA,HJ2,qn,qk,HB⟩:=hcut
    cases kq with
    | zero => exact absurd HA.out (by simp [spec_Update.j0])
    | succ kj2 =>
      have H:=HA.out
      clear HA
      simp only [spec_Update.j0] at H
      by_cases c14:x20_2=true
      · subst c14
        have H1:(some (y109,y112))=some (r1,r2):=by rw [if_pos rfl] at H;exact H
        clear H
        have H:=H1
        clear H1
        simp only [Option.some.injEq,Prod.mk.injEq] at H
        obtain⟨rfl,rfl⟩:=H
        go_wp2
        repeat(go_quiet (fail);try go_wp2)
        go_ret2
        exact⟨_,_,by first|rfl|(simp [errW_none,errW_some] <;> rfl)|(simp [*,errW_none,errW_some] <;> rfl),by(with_reducible repeat(first|apply Fc|apply Fd|apply Fb));exact qn.out,by(with_reducible repeat(first|apply Fc|apply Fd|apply Fb));exact qk.out,by repeat(first|(with_reducible first|exact HB.out|apply Ff|apply Fe|apply Fg)|exact HB.out)⟩
      · replace c14:=Bool.eq_false_iff.mpr c14
        subst c14
        have H1:(spec_Update.l0 kj2 l0 l1 y109 y112 0)=some (r1,r2):=by rw [if_neg (show ¬ (false=true) by decide)] at H;exact H
        clear H
        have H:=H1
        clear H1
        have H':=Fa H
        clear H
        go_wp2
        repeat(go_quiet (fail);try go_wp2)
        go_loopg [6,8] kj2 (fun kq v6 v8 w'=>∃ (yf:List ByteArray) (qa:Int),v8=.int .i64 qa∧Aside0 (spec_Update.l0 kq l0 l1 yf y112 qa=some (r1,r2))∧Aside0 (kq≤kj2)∧Aside0 (Kd.R Kd.string 9 w' w.heap.size (fun k_=>some k_≠(yr:Value).ownBlock) v6 yf)∧Aside0 (Kd.R Kd.string 9 w' w.heap.size (fun k_=>some k_≠(v6:Value).ownBlock) yr y112)∧Aside0 (Below w.heap.size w w'))
        case atStart=>exact⟨(y109),(0),(by first|rfl|(simp;done)|(simp [*];done)),H',⟨Nat.le_refl _⟩,⟨by(with_reducible repeat(first|apply Fc|apply Fd|apply Fb));exact qn.out⟩,⟨by(with_reducible repeat(first|apply Fc|apply Fd|apply Fb));exact qk.out⟩,⟨by repeat(first|(with_reducible first|exact HB.out|apply Ff|apply Fe|apply Fg)|exact HB.out)⟩⟩
        case round=>
          clear H'
          try clear c1
          try clear p2
          try clear c3
          try clear c9
          try clear c14
          try clear p2
          obtain⟨yf,qa,rfl,HA,HK2,qn,qk,HB⟩:=hrel
          cases gk with
          | zero => exact absurd HA.out (by simp [spec_Update.l0])
          | succ k2 =>
            have H:=HA.out
            clear HA
            simp only [spec_Update.l0] at H
            by_cases c15:qa < (l1.length:Int)
            · rw [if_pos c15] at H
              have c15b0:decide (qa < (l1.length:Int))=true:=decide_eq_true c15
              clear c15
              by_cases c16:0≤qa
              · rw [if_pos c16] at H
                have c16b0:decide (0≤qa)=true:=decide_eq_true c16
                clear c16
                replace H:=Option.bind_eq_some_iff.mp H
                obtain⟨t118,A170,H⟩:=H
                replace H:(if t118 < 0 then (if yf.length < 8796093022208 then (spec_Update.l0 k2 l0 l1 (yf ++ [(rd_T71 l1 qa).f0]) y112 (wrap64 (qa+1))) else (none)) else (if 0≤t118 then (if t118 < (l0.length:Int) then (if (!((((rd_T71 l0 t118).f0).toList) == (((rd_T71 l1 qa).f0).toList))||(!(((rd_T71 l0 t118).f1) == ((rd_T71 l1 qa).f1))||(!(((rd_T71 l0 t118).f2) == ((rd_T71 l1 qa).f2)))))=true then (if yf.length < 8796093022208 then (spec_Update.l0 k2 l0 l1 (yf ++ [(rd_T71 l1 qa).f0]) y112 (wrap64 (qa+1))) else (none)) else (spec_Update.l0 k2 l0 l1 yf y112 (wrap64 (qa+1)))) else (none)) else (none)))=some (r1,r2):=H
                have A17:=Fa A170
                clear A170
                by_cases c18:t118 < 0
                · rw [if_pos c18] at H
                  have c18b0:decide (t118 < 0)=true:=decide_eq_true c18
                  clear c18
                  by_cases c19:yf.length < 8796093022208
                  · rw [if_pos c19] at H
                    have LMc19:=Fa c19
                    clear c19
                    obtain⟨y120,hy120⟩:∃ y_:List ByteArray,y_=(yf ++ [(rd_T71 l1 qa).f0]):=⟨_,rfl⟩
                    replace H:(spec_Update.l0 k2 l0 l1 y120 y112 (wrap64 (qa+1)))=some (r1,r2):=by first|(rw [hy120];with_reducible exact H)|(have H2_:=(Option.bind_some _ _).symm.trans H;rw [hy120];with_reducible exact H2_)|(have H2_:=(Option.bind_some _ _).symm.trans H;with_reducible exact H2_)|with_reducible exact H|(rw [hy120];exact H)|exact H
                    have Ny120:=Fa hy120
                    clear hy120
                    have H':=Fa H
                    clear H
                    have yl:0≤(qa:Int):=of_decide_eq_true (by first|(with_reducible assumption)|assumption)
                    have yo:qa < (l1.length:Int):=of_decide_eq_true (by first|(with_reducible assumption)|assumption)
                    obtain⟨yg,e117,qo,qp,qq⟩:=at_T71 yt.out qa yl yo
                    cases e117
                    replace qo:=(HB.out.cell (World.block_lt_of_cell? w _ qo)).trans qo
                    replace qp:=(HB.out.cell (World.block_lt_of_cell? w _ qp)).trans qp
                    replace qq:=(HB.out.cell (World.block_lt_of_cell? w _ qq)).trans qq
                    replace yl:=eq_true yl
                    replace yo:=eq_true yo
                    go_wp2_with (first|(go_at_call 71;(with_reducible refine(spec_l15Find.calls k2 _ _ l0 ((rd_T71 l1 qa).f0) t118 _ ?side1 ?side2 A17.out).mono ?_);(case side1=>repeat(first|exact(Fj HR0.out HB.out)|(with_reducible refine Fi ?_ _)|(with_reducible refine Fk ?_ _)|(with_reducible refine Fh ?_)));(case side2=>exact HC0.out);rintro e w' ⟨rfl,⟨nd,rfl⟩⟩;(try first|exact⟨rfl,_,World.drewN_drewN _ _ _⟩|exact⟨rfl,_,Eq.trans (World.drewN_drewN _ _ _) (congrArg (World.drewN _) (Nat.add_assoc _ _ _))⟩);have ym:0≤(qa:Int):=of_decide_eq_true (by first|(with_reducible assumption)|assumption);have yp:qa < (l1.length:Int):=of_decide_eq_true (by first|(with_reducible assumption)|assumption);obtain⟨ad119,e119,qr,qs,qt⟩:=at_T71 yt.out qa ym yp;obtain rfl:yg=ad119:=(by injection e119);replace qr:=(HB.out.cell (World.block_lt_of_cell? w _ qr)).trans qr;replace qs:=(HB.out.cell (World.block_lt_of_cell? w _ qs)).trans qs;replace qt:=(HB.out.cell (World.block_lt_of_cell? w _ qt)).trans qt;replace ym:=eq_true ym;replace yp:=eq_true yp)|((with_reducible refine gate_builtin (b:=.append) (xs:=#[.tmp 49,.tmp 55]) rfl ?_);at_builtin;refine Kd.R_append Kd.string (w0:=w) w.heap.size rfl (.tmp 49) (.tmp 55) 46 9 (.string ⟨#[]⟩) 16 rfl Try.underlying46 info9 rfl (by decide) (by omega) u6 yf ((rd_T71 l1 qa).f0) [.string ((rd_T71 l1 qa).f0)] (fun k_=>some k_≠(yr:Value).ownBlock) (fun _=>False) rfl rfl ?aP (fun _ hk=>hk.elim) ?aF ?aO ?aB ?aS ?aL ?_;(case aP=>exact rfl);(case aB=>exact(by repeat(first|(with_reducible first|exact HB.out|apply Ff|apply Fe|apply Fg)|exact HB.out)));(case aF=>exact(fun k_ hk=>Kd.fresh' (Kd.R_lt (by(with_reducible repeat(first|apply Fc|apply Fd|apply Fb));exact qk.out)) k_ hk));(case aO=>exact(by(with_reducible repeat(first|apply Fc|apply Fd|apply Fb));exact qn.out));(case aS=>exact(below_size (by repeat(first|(with_reducible first|exact HB.out|apply Ff|apply Fe|apply Fg)|exact HB.out))));(case aL=>have:=LMc19.out;omega);intro v121 w20 ho hb hg hat;rw [← Ny120.out] at ho;have ql:=Fa (Kd.R_after (ok:=(fun _=>True)) (by(with_reducible repeat(first|apply Fc|apply Fd|apply Fb));exact Kd.R_mono qk.out (fun _ hk=>⟨trivial,hk⟩)) hg hat);have qm:=Fa (hb);have qx:=Fa (ho);clear qk;clear HB;clear qn;have qk:=ql;have HB:=qm;have HO122:=qx;clear ql qm qx;clear ho hb hg hat))
                    repeat(go_quiet (first|(go_at_call 71;(with_reducible refine(spec_l15Find.calls k2 _ _ l0 ((rd_T71 l1 qa).f0) t118 _ ?side1 ?side2 A17.out).mono ?_);(case side1=>repeat(first|exact(Fj HR0.out HB.out)|(with_reducible refine Fi ?_ _)|(with_reducible refine Fk ?_ _)|(with_reducible refine Fh ?_)));(case side2=>exact HC0.out);rintro e w' ⟨rfl,⟨nd,rfl⟩⟩;(try first|exact⟨rfl,_,World.drewN_drewN _ _ _⟩|exact⟨rfl,_,Eq.trans (World.drewN_drewN _ _ _) (congrArg (World.drewN _) (Nat.add_assoc _ _ _))⟩);have ym:0≤(qa:Int):=of_decide_eq_true (by first|(with_reducible assumption)|assumption);have yp:qa < (l1.length:Int):=of_decide_eq_true (by first|(with_reducible assumption)|assumption);obtain⟨ad119,e119,qr,qs,qt⟩:=at_T71 yt.out qa ym yp;obtain rfl:yg=ad119:=(by injection e119);replace qr:=(HB.out.cell (World.block_lt_of_cell? w _ qr)).trans qr;replace qs:=(HB.out.cell (World.block_lt_of_cell? w _ qs)).trans qs;replace qt:=(HB.out.cell (World.block_lt_of_cell? w _ qt)).trans qt;replace ym:=eq_true ym;replace yp:=eq_true yp)|((with_reducible refine gate_builtin (b:=.append) (xs:=#[.tmp 49,.tmp 55]) rfl ?_);at_builtin;refine Kd.R_append Kd.string (w0:=w) w.heap.size rfl (.tmp 49) (.tmp 55) 46 9 (.string ⟨#[]⟩) 16 rfl Try.underlying46 info9 rfl (by decide) (by omega) u6 yf ((rd_T71 l1 qa).f0) [.string ((rd_T71 l1 qa).f0)] (fun k_=>some k_≠(yr:Value).ownBlock) (fun _=>False) rfl rfl ?aP (fun _ hk=>hk.elim) ?aF ?aO ?aB ?aS ?aL ?_;(case aP=>exact rfl);(case aB=>exact(by repeat(first|(with_reducible first|exact HB.out|apply Ff|apply Fe|apply Fg)|exact HB.out)));(case aF=>exact(fun k_ hk=>Kd.fresh' (Kd.R_lt (by(with_reducible repeat(first|apply Fc|apply Fd|apply Fb));exact qk.out)) k_ hk));(case aO=>exact(by(with_reducible repeat(first|apply Fc|apply Fd|apply Fb));exact qn.out));(case aS=>exact(below_size (by repeat(first|(with_reducible first|exact HB.out|apply Ff|apply Fe|apply Fg)|exact HB.out))));(case aL=>have:=LMc19.out;omega);intro v121 w20 ho hb hg hat;rw [← Ny120.out] at ho;have ql:=Fa (Kd.R_after (ok:=(fun _=>True)) (by(with_reducible repeat(first|apply Fc|apply Fd|apply Fb));exact Kd.R_mono qk.out (fun _ hk=>⟨trivial,hk⟩)) hg hat);have qm:=Fa (hb);have qx:=Fa (ho);clear qk;clear HB;clear qn;have qk:=ql;have HB:=qm;have HO122:=qx;clear ql qm qx;clear ho hb hg hat));try go_wp2_with (first|(go_at_call 71;(with_reducible refine(spec_l15Find.calls k2 _ _ l0 ((rd_T71 l1 qa).f0) t118 _ ?side1 ?side2 A17.out).mono ?_);(case side1=>repeat(first|exact(Fj HR0.out HB.out)|(with_reducible refine Fi ?_ _)|(with_reducible refine Fk ?_ _)|(with_reducible refine Fh ?_)));(case side2=>exact HC0.out);rintro e w' ⟨rfl,⟨nd,rfl⟩⟩;(try first|exact⟨rfl,_,World.drewN_drewN _ _ _⟩|exact⟨rfl,_,Eq.trans (World.drewN_drewN _ _ _) (congrArg (World.drewN _) (Nat.add_assoc _ _ _))⟩);have ym:0≤(qa:Int):=of_decide_eq_true (by first|(with_reducible assumption)|assumption);have yp:qa < (l1.length:Int):=of_decide_eq_true (by first|(with_reducible assumption)|assumption);obtain⟨ad119,e119,qr,qs,qt⟩:=at_T71 yt.out qa ym yp;obtain rfl:yg=ad119:=(by injection e119);replace qr:=(HB.out.cell (World.block_lt_of_cell? w _ qr)).trans qr;replace qs:=(HB.out.cell (World.block_lt_of_cell? w _ qs)).trans qs;replace qt:=(HB.out.cell (World.block_lt_of_cell? w _ qt)).trans qt;replace ym:=eq_true ym;replace yp:=eq_true yp)|((with_reducible refine gate_builtin (b:=.append) (xs:=#[.tmp 49,.tmp 55]) rfl ?_);at_builtin;refine Kd.R_append Kd.string (w0:=w) w.heap.size rfl (.tmp 49) (.tmp 55) 46 9 (.string ⟨#[]⟩) 16 rfl Try.underlying46 info9 rfl (by decide) (by omega) u6 yf ((rd_T71 l1 qa).f0) [.string ((rd_T71 l1 qa).f0)] (fun k_=>some k_≠(yr:Value).ownBlock) (fun _=>False) rfl rfl ?aP (fun _ hk=>hk.elim) ?aF ?aO ?aB ?aS ?aL ?_;(case aP=>exact rfl);(case aB=>exact(by repeat(first|(with_reducible first|exact HB.out|apply Ff|apply Fe|apply Fg)|exact HB.out)));(case aF=>exact(fun k_ hk=>Kd.fresh' (Kd.R_lt (by(with_reducible repeat(first|apply Fc|apply Fd|apply Fb));exact qk.out)) k_ hk));(case aO=>exact(by(with_reducible repeat(first|apply Fc|apply Fd|apply Fb));exact qn.out));(case aS=>exact(below_size (by repeat(first|(with_reducible first|exact HB.out|apply Ff|apply Fe|apply Fg)|exact HB.out))));(case aL=>have:=LMc19.out;omega);intro v121 w20 ho hb hg hat;rw [← Ny120.out] at ho;have ql:=Fa (Kd.R_after (ok:=(fun _=>True)) (by(with_reducible repeat(first|apply Fc|apply Fd|apply Fb));exact Kd.R_mono qk.out (fun _ hk=>⟨trivial,hk⟩)) hg hat);have qm:=Fa (hb);have qx:=Fa (ho);clear qk;clear HB;clear qn;have qk:=ql;have HB:=qm;have HO122:=qx;clear ql qm qx;clear ho hb hg hat)))
                    go_roundg k2
                    case measure=>have:=HJ2.out;have:=HK2.out;omega
                    case rel=>exact⟨(y120),(wrap64 (qa+1)),(by first|rfl|(simp;done)|(simp [*];done)),H',⟨by have:=HJ2.out;have:=HK2.out;omega⟩,⟨by(with_reducible repeat(first|apply Fc|apply Fd|apply Fb));exact HO122.out⟩,⟨by(with_reducible repeat(first|apply Fc|apply Fd|apply Fb));exact Kd.R_mono qk.out (fun _ hk=>hk.2)⟩,⟨by repeat(first|(with_reducible first|exact HB.out|apply Ff|apply Fe|apply Fg)|exact HB.out)⟩⟩
                  · rw [if_neg c19] at H
                    exact absurd H (by simp)
                · rw [if_neg c18] at H
                  have c18b0:decide (t118 < 0)=false:=decide_eq_false c18
                  clear c18
                  by_cases c21:0≤t118
                  · rw [if_pos c21] at H
                    have c21b0:decide (0≤t118)=true:=decide_eq_true c21
                    clear c21
                    by_cases c22:t118 < (l0.length:Int)
                    · rw [if_pos c22] at H
                      have c22b0:decide (t118 < (l0.length:Int))=true:=decide_eq_true c22
                      clear c22
                      by_cases c23:(!((((rd_T71 l0 t118).f0).toList) == (((rd_T71 l1 qa).f0).toList))||(!(((rd_T71 l0 t118).f1) == ((rd_T71 l1 qa).f1))||(!(((rd_T71 l0 t118).f2) == ((rd_T71 l1 qa).f2)))))=true
                      · rw [if_pos c23] at H
                        have c23b0:(!((((rd_T71 l0 t118).f0).toList) == (((rd_T71 l1 qa).f0).toList))||(!(((rd_T71 l0 t118).f1) == ((rd_T71 l1 qa).f1))||(!(((rd_T71 l0 t118).f2) == ((rd_T71 l1 qa).f2)))))=true:=c23
                        clear c23
                        by_cases c24:yf.length < 8796093022208
                        · rw [if_pos c24] at H
                          have LMc24:=Fa c24
                          clear c24
                          obtain⟨y126,hy126⟩:∃ y_:List ByteArray,y_=(yf ++ [(rd_T71 l1 qa).f0]):=⟨_,rfl⟩
                          replace H:(spec_Update.l0 k2 l0 l1 y126 y112 (wrap64 (qa+1)))=some (r1,r2):=by first|(rw [hy126];with_reducible exact H)|(have H2_:=(Option.bind_some _ _).symm.trans H;rw [hy126];with_reducible exact H2_)|(have H2_:=(Option.bind_some _ _).symm.trans H;with_reducible exact H2_)|with_reducible exact H|(rw [hy126];exact H)|exact H
                          have Ny126:=Fa hy126
                          clear hy126
                          have H':=Fa H
                          clear H
                          have yl:0≤(qa:Int):=of_decide_eq_true (by first|(with_reducible assumption)|assumption)
                          have yo:qa < (l1.length:Int):=of_decide_eq_true (by first|(with_reducible assumption)|assumption)
                          obtain⟨yg,e117,qo,qp,qq⟩:=at_T71 yt.out qa yl yo
                          cases e117
                          replace qo:=(HB.out.cell (World.block_lt_of_cell? w _ qo)).trans qo
                          replace qp:=(HB.out.cell (World.block_lt_of_cell? w _ qp)).trans qp
                          replace qq:=(HB.out.cell (World.block_lt_of_cell? w _ qq)).trans qq
                          replace yl:=eq_true yl
                          replace yo:=eq_true yo
                          go_wp2_with (first|(go_at_call 71;(with_reducible refine(spec_l15Find.calls k2 _ _ l0 ((rd_T71 l1 qa).f0) t118 _ ?side1 ?side2 A17.out).mono ?_);(case side1=>repeat(first|exact(Fj HR0.out HB.out)|(with_reducible refine Fi ?_ _)|(with_reducible refine Fk ?_ _)|(with_reducible refine Fh ?_)));(case side2=>exact HC0.out);rintro e w' ⟨rfl,⟨nd,rfl⟩⟩;(try first|exact⟨rfl,_,World.drewN_drewN _ _ _⟩|exact⟨rfl,_,Eq.trans (World.drewN_drewN _ _ _) (congrArg (World.drewN _) (Nat.add_assoc _ _ _))⟩);have yb:0≤(t118:Int):=of_decide_eq_true (by first|(with_reducible assumption)|assumption);have yd:t118 < (l0.length:Int):=of_decide_eq_true (by first|(with_reducible assumption)|assumption);obtain⟨ad123,yu,qd,qe,qf⟩:=at_T71 HR0.out t118 yb yd;cases yu;replace qd:=(HB.out.cell (World.block_lt_of_cell? w _ qd)).trans qd;replace qe:=(HB.out.cell (World.block_lt_of_cell? w _ qe)).trans qe;replace qf:=(HB.out.cell (World.block_lt_of_cell? w _ qf)).trans qf;replace yb:=eq_true yb;replace yd:=eq_true yd;have yc:0≤(qa:Int):=of_decide_eq_true (by first|(with_reducible assumption)|assumption);have ye:qa < (l1.length:Int):=of_decide_eq_true (by first|(with_reducible assumption)|assumption);obtain⟨yk,yv,qg,qh,qi⟩:=at_T71 yt.out qa yc ye;obtain rfl:yg=yk:=(by injection yv);replace qg:=(HB.out.cell (World.block_lt_of_cell? w _ qg)).trans qg;replace qh:=(HB.out.cell (World.block_lt_of_cell? w _ qh)).trans qh;replace qi:=(HB.out.cell (World.block_lt_of_cell? w _ qi)).trans qi;replace yc:=eq_true yc;replace ye:=eq_true ye;have yn:0≤(qa:Int):=of_decide_eq_true (by first|(with_reducible assumption)|assumption);have yq:qa < (l1.length:Int):=of_decide_eq_true (by first|(with_reducible assumption)|assumption);obtain⟨ad125,e125,qu,qv,qw⟩:=at_T71 yt.out qa yn yq;obtain rfl:yg=ad125:=(by injection e125);replace qu:=(HB.out.cell (World.block_lt_of_cell? w _ qu)).trans qu;replace qv:=(HB.out.cell (World.block_lt_of_cell? w _ qv)).trans qv;replace qw:=(HB.out.cell (World.block_lt_of_cell? w _ qw)).trans qw;replace yn:=eq_true yn;replace yq:=eq_true yq)|((with_reducible refine gate_builtin (b:=.append) (xs:=#[.tmp 49,.tmp 55]) rfl ?_);at_builtin;refine Kd.R_append Kd.string (w0:=w) w.heap.size rfl (.tmp 49) (.tmp 55) 46 9 (.string ⟨#[]⟩) 16 rfl Try.underlying46 info9 rfl (by decide) (by omega) u6 yf ((rd_T71 l1 qa).f0) [.string ((rd_T71 l1 qa).f0)] (fun k_=>some k_≠(yr:Value).ownBlock) (fun _=>False) rfl rfl ?aP (fun _ hk=>hk.elim) ?aF ?aO ?aB ?aS ?aL ?_;(case aP=>exact rfl);(case aB=>exact(by repeat(first|(with_reducible first|exact HB.out|apply Ff|apply Fe|apply Fg)|exact HB.out)));(case aF=>exact(fun k_ hk=>Kd.fresh' (Kd.R_lt (by(with_reducible repeat(first|apply Fc|apply Fd|apply Fb));exact qk.out)) k_ hk));(case aO=>exact(by(with_reducible repeat(first|apply Fc|apply Fd|apply Fb));exact qn.out));(case aS=>exact(below_size (by repeat(first|(with_reducible first|exact HB.out|apply Ff|apply Fe|apply Fg)|exact HB.out))));(case aL=>have:=LMc24.out;omega);intro v127 w25 ho hb hg hat;rw [← Ny126.out] at ho;have ql:=Fa (Kd.R_after (ok:=(fun _=>True)) (by(with_reducible repeat(first|apply Fc|apply Fd|apply Fb));exact Kd.R_mono qk.out (fun _ hk=>⟨trivial,hk⟩)) hg hat);have qm:=Fa (hb);have qx:=Fa (ho);clear qk;clear HB;clear qn;have qk:=ql;have HB:=qm;have HO128:=qx;clear ql qm qx;clear ho hb hg hat))
                          repeat(go_quiet (first|(go_at_call 71;(with_reducible refine(spec_l15Find.calls k2 _ _ l0 ((rd_T71 l1 qa).f0) t118 _ ?side1 ?side2 A17.out).mono ?_);(case side1=>repeat(first|exact(Fj HR0.out HB.out)|(with_reducible refine Fi ?_ _)|(with_reducible refine Fk ?_ _)|(with_reducible refine Fh ?_)));(case side2=>exact HC0.out);rintro e w' ⟨rfl,⟨nd,rfl⟩⟩;(try first|exact⟨rfl,_,World.drewN_drewN _ _ _⟩|exact⟨rfl,_,Eq.trans (World.drewN_drewN _ _ _) (congrArg (World.drewN _) (Nat.add_assoc _ _ _))⟩);have yb:0≤(t118:Int):=of_decide_eq_true (by first|(with_reducible assumption)|assumption);have yd:t118 < (l0.length:Int):=of_decide_eq_true (by first|(with_reducible assumption)|assumption);obtain⟨ad123,yu,qd,qe,qf⟩:=at_T71 HR0.out t118 yb yd;cases yu;replace qd:=(HB.out.cell (World.block_lt_of_cell? w _ qd)).trans qd;replace qe:=(HB.out.cell (World.block_lt_of_cell? w _ qe)).trans qe;replace qf:=(HB.out.cell (World.block_lt_of_cell? w _ qf)).trans qf;replace yb:=eq_true yb;replace yd:=eq_true yd;have yc:0≤(qa:Int):=of_decide_eq_true (by first|(with_reducible assumption)|assumption);have ye:qa < (l1.length:Int):=of_decide_eq_true (by first|(with_reducible assumption)|assumption);obtain⟨yk,yv,qg,qh,qi⟩:=at_T71 yt.out qa yc ye;obtain rfl:yg=yk:=(by injection yv);replace qg:=(HB.out.cell (World.block_lt_of_cell? w _ qg)).trans qg;replace qh:=(HB.out.cell (World.block_lt_of_cell? w _ qh)).trans qh;replace qi:=(HB.out.cell (World.block_lt_of_cell? w _ qi)).trans qi;replace yc:=eq_true yc;replace ye:=eq_true ye;have yn:0≤(qa:Int):=of_decide_eq_true (by first|(with_reducible assumption)|assumption);have yq:qa < (l1.length:Int):=of_decide_eq_true (by first|(with_reducible assumption)|assumption);obtain⟨ad125,e125,qu,qv,qw⟩:=at_T71 yt.out qa yn yq;obtain rfl:yg=ad125:=(by injection e125);replace qu:=(HB.out.cell (World.block_lt_of_cell? w _ qu)).trans qu;replace qv:=(HB.out.cell (World.block_lt_of_cell? w _ qv)).trans qv;replace qw:=(HB.out.cell (World.block_lt_of_cell? w _ qw)).trans qw;replace yn:=eq_true yn;replace yq:=eq_true yq)|((with_reducible refine gate_builtin (b:=.append) (xs:=#[.tmp 49,.tmp 55]) rfl ?_);at_builtin;refine Kd.R_append Kd.string (w0:=w) w.heap.size rfl (.tmp 49) (.tmp 55) 46 9 (.string ⟨#[]⟩) 16 rfl Try.underlying46 info9 rfl (by decide) (by omega) u6 yf ((rd_T71 l1 qa).f0) [.string ((rd_T71 l1 qa).f0)] (fun k_=>some k_≠(yr:Value).ownBlock) (fun _=>False) rfl rfl ?aP (fun _ hk=>hk.elim) ?aF ?aO ?aB ?aS ?aL ?_;(case aP=>exact rfl);(case aB=>exact(by repeat(first|(with_reducible first|exact HB.out|apply Ff|apply Fe|apply Fg)|exact HB.out)));(case aF=>exact(fun k_ hk=>Kd.fresh' (Kd.R_lt (by(with_reducible repeat(first|apply Fc|apply Fd|apply Fb));exact qk.out)) k_ hk));(case aO=>exact(by(with_reducible repeat(first|apply Fc|apply Fd|apply Fb));exact qn.out));(case aS=>exact(below_size (by repeat(first|(with_reducible first|exact HB.out|apply Ff|apply Fe|apply Fg)|exact HB.out))));(case aL=>have:=LMc24.out;omega);intro v127 w25 ho hb hg hat;rw [← Ny126.out] at ho;have ql:=Fa (Kd.R_after (ok:=(fun _=>True)) (by(with_reducible repeat(first|apply Fc|apply Fd|apply Fb));exact Kd.R_mono qk.out (fun _ hk=>⟨trivial,hk⟩)) hg hat);have qm:=Fa (hb);have qx:=Fa (ho);clear qk;clear HB;clear qn;have qk:=ql;have HB:=qm;have HO128:=qx;clear ql qm qx;clear ho hb hg hat));try go_wp2_with (first|(go_at_call 71;(with_reducible refine(spec_l15Find.calls k2 _ _ l0 ((rd_T71 l1 qa).f0) t118 _ ?side1 ?side2 A17.out).mono ?_);(case side1=>repeat(first|exact(Fj HR0.out HB.out)|(with_reducible refine Fi ?_ _)|(with_reducible refine Fk ?_ _)|(with_reducible refine Fh ?_)));(case side2=>exact HC0.out);rintro e w' ⟨rfl,⟨nd,rfl⟩⟩;(try first|exact⟨rfl,_,World.drewN_drewN _ _ _⟩|exact⟨rfl,_,Eq.trans (World.drewN_drewN _ _ _) (congrArg (World.drewN _) (Nat.add_assoc _ _ _))⟩);have yb:0≤(t118:Int):=of_decide_eq_true (by first|(with_reducible assumption)|assumption);have yd:t118 < (l0.length:Int):=of_decide_eq_true (by first|(with_reducible assumption)|assumption);obtain⟨ad123,yu,qd,qe,qf⟩:=at_T71 HR0.out t118 yb yd;cases yu;replace qd:=(HB.out.cell (World.block_lt_of_cell? w _ qd)).trans qd;replace qe:=(HB.out.cell (World.block_lt_of_cell? w _ qe)).trans qe;replace qf:=(HB.out.cell (World.block_lt_of_cell? w _ qf)).trans qf;replace yb:=eq_true yb;replace yd:=eq_true yd;have yc:0≤(qa:Int):=of_decide_eq_true (by first|(with_reducible assumption)|assumption);have ye:qa < (l1.length:Int):=of_decide_eq_true (by first|(with_reducible assumption)|assumption);obtain⟨yk,yv,qg,qh,qi⟩:=at_T71 yt.out qa yc ye;obtain rfl:yg=yk:=(by injection yv);replace qg:=(HB.out.cell (World.block_lt_of_cell? w _ qg)).trans qg;replace qh:=(HB.out.cell (World.block_lt_of_cell? w _ qh)).trans qh;replace qi:=(HB.out.cell (World.block_lt_of_cell? w _ qi)).trans qi;replace yc:=eq_true yc;replace ye:=eq_true ye;have yn:0≤(qa:Int):=of_decide_eq_true (by first|(with_reducible assumption)|assumption);have yq:qa < (l1.length:Int):=of_decide_eq_true (by first|(with_reducible assumption)|assumption);obtain⟨ad125,e125,qu,qv,qw⟩:=at_T71 yt.out qa yn yq;obtain rfl:yg=ad125:=(by injection e125);replace qu:=(HB.out.cell (World.block_lt_of_cell? w _ qu)).trans qu;replace qv:=(HB.out.cell (World.block_lt_of_cell? w _ qv)).trans qv;replace qw:=(HB.out.cell (World.block_lt_of_cell? w _ qw)).trans qw;replace yn:=eq_true yn;replace yq:=eq_true yq)|((with_reducible refine gate_builtin (b:=.append) (xs:=#[.tmp 49,.tmp 55]) rfl ?_);at_builtin;refine Kd.R_append Kd.string (w0:=w) w.heap.size rfl (.tmp 49) (.tmp 55) 46 9 (.string ⟨#[]⟩) 16 rfl Try.underlying46 info9 rfl (by decide) (by omega) u6 yf ((rd_T71 l1 qa).f0) [.string ((rd_T71 l1 qa).f0)] (fun k_=>some k_≠(yr:Value).ownBlock) (fun _=>False) rfl rfl ?aP (fun _ hk=>hk.elim) ?aF ?aO ?aB ?aS ?aL ?_;(case aP=>exact rfl);(case aB=>exact(by repeat(first|(with_reducible first|exact HB.out|apply Ff|apply Fe|apply Fg)|exact HB.out)));(case aF=>exact(fun k_ hk=>Kd.fresh' (Kd.R_lt (by(with_reducible repeat(first|apply Fc|apply Fd|apply Fb));exact qk.out)) k_ hk));(case aO=>exact(by(with_reducible repeat(first|apply Fc|apply Fd|apply Fb));exact qn.out));(case aS=>exact(below_size (by repeat(first|(with_reducible first|exact HB.out|apply Ff|apply Fe|apply Fg)|exact HB.out))));(case aL=>have:=LMc24.out;omega);intro v127 w25 ho hb hg hat;rw [← Ny126.out] at ho;have ql:=Fa (Kd.R_after (ok:=(fun _=>True)) (by(with_reducible repeat(first|apply Fc|apply Fd|apply Fb));exact Kd.R_mono qk.out (fun _ hk=>⟨trivial,hk⟩)) hg hat);have qm:=Fa (hb);have qx:=Fa (ho);clear qk;clear HB;clear qn;have qk:=ql;have HB:=qm;have HO128:=qx;clear ql qm qx;clear ho hb hg hat)))
                          go_roundg k2
                          case measure=>have:=HJ2.out;have:=HK2.out;omega
                          case rel=>exact⟨(y126),(wrap64 (qa+1)),(by first|rfl|(simp;done)|(simp [*];done)),H',⟨by have:=HJ2.out;have:=HK2.out;omega⟩,⟨by(with_reducible repeat(first|apply Fc|apply Fd|apply Fb));exact HO128.out⟩,⟨by(with_reducible repeat(first|apply Fc|apply Fd|apply Fb));exact Kd.R_mono qk.out (fun _ hk=>hk.2)⟩,⟨by repeat(first|(with_reducible first|exact HB.out|apply Ff|apply Fe|apply Fg)|exact HB.out)⟩⟩
                        · rw [if_neg c24] at H
                          exact absurd H (by simp)
                      · rw [if_neg c23] at H
                        have c23b0:(!((((rd_T71 l0 t118).f0).toList) == (((rd_T71 l1 qa).f0).toList))||(!(((rd_T71 l0 t118).f1) == ((rd_T71 l1 qa).f1))||(!(((rd_T71 l0 t118).f2) == ((rd_T71 l1 qa).f2)))))=false:=by simpa using c23
                        clear c23
                        have H':=Fa H
                        clear H
                        have yl:0≤(qa:Int):=of_decide_eq_true (by first|(with_reducible assumption)|assumption)
                        have yo:qa < (l1.length:Int):=of_decide_eq_true (by first|(with_reducible assumption)|assumption)
                        obtain⟨yg,e117,qo,qp,qq⟩:=at_T71 yt.out qa yl yo
                        cases e117
                        replace qo:=(HB.out.cell (World.block_lt_of_cell? w _ qo)).trans qo
                        replace qp:=(HB.out.cell (World.block_lt_of_cell? w _ qp)).trans qp
                        replace qq:=(HB.out.cell (World.block_lt_of_cell? w _ qq)).trans qq
                        replace yl:=eq_true yl
                        replace yo:=eq_true yo
                        go_wp2_with (first|(go_at_call 71;(with_reducible refine(spec_l15Find.calls k2 _ _ l0 ((rd_T71 l1 qa).f0) t118 _ ?side1 ?side2 A17.out).mono ?_);(case side1=>repeat(first|exact(Fj HR0.out HB.out)|(with_reducible refine Fi ?_ _)|(with_reducible refine Fk ?_ _)|(with_reducible refine Fh ?_)));(case side2=>exact HC0.out);rintro e w' ⟨rfl,⟨nd,rfl⟩⟩;(try first|exact⟨rfl,_,World.drewN_drewN _ _ _⟩|exact⟨rfl,_,Eq.trans (World.drewN_drewN _ _ _) (congrArg (World.drewN _) (Nat.add_assoc _ _ _))⟩);have yb:0≤(t118:Int):=of_decide_eq_true (by first|(with_reducible assumption)|assumption);have yd:t118 < (l0.length:Int):=of_decide_eq_true (by first|(with_reducible assumption)|assumption);obtain⟨ad123,yu,qd,qe,qf⟩:=at_T71 HR0.out t118 yb yd;cases yu;replace qd:=(HB.out.cell (World.block_lt_of_cell? w _ qd)).trans qd;replace qe:=(HB.out.cell (World.block_lt_of_cell? w _ qe)).trans qe;replace qf:=(HB.out.cell (World.block_lt_of_cell? w _ qf)).trans qf;replace yb:=eq_true yb;replace yd:=eq_true yd;have yc:0≤(qa:Int):=of_decide_eq_true (by first|(with_reducible assumption)|assumption);have ye:qa < (l1.length:Int):=of_decide_eq_true (by first|(with_reducible assumption)|assumption);obtain⟨yk,yv,qg,qh,qi⟩:=at_T71 yt.out qa yc ye;obtain rfl:yg=yk:=(by injection yv);replace qg:=(HB.out.cell (World.block_lt_of_cell? w _ qg)).trans qg;replace qh:=(HB.out.cell (World.block_lt_of_cell? w _ qh)).trans qh;replace qi:=(HB.out.cell (World.block_lt_of_cell? w _ qi)).trans qi;replace yc:=eq_true yc;replace ye:=eq_true ye))
                        repeat(go_quiet (first|(go_at_call 71;(with_reducible refine(spec_l15Find.calls k2 _ _ l0 ((rd_T71 l1 qa).f0) t118 _ ?side1 ?side2 A17.out).mono ?_);(case side1=>repeat(first|exact(Fj HR0.out HB.out)|(with_reducible refine Fi ?_ _)|(with_reducible refine Fk ?_ _)|(with_reducible refine Fh ?_)));(case side2=>exact HC0.out);rintro e w' ⟨rfl,⟨nd,rfl⟩⟩;(try first|exact⟨rfl,_,World.drewN_drewN _ _ _⟩|exact⟨rfl,_,Eq.trans (World.drewN_drewN _ _ _) (congrArg (World.drewN _) (Nat.add_assoc _ _ _))⟩);have yb:0≤(t118:Int):=of_decide_eq_true (by first|(with_reducible assumption)|assumption);have yd:t118 < (l0.length:Int):=of_decide_eq_true (by first|(with_reducible assumption)|assumption);obtain⟨ad123,yu,qd,qe,qf⟩:=at_T71 HR0.out t118 yb yd;cases yu;replace qd:=(HB.out.cell (World.block_lt_of_cell? w _ qd)).trans qd;replace qe:=(HB.out.cell (World.block_lt_of_cell? w _ qe)).trans qe;replace qf:=(HB.out.cell (World.block_lt_of_cell? w _ qf)).trans qf;replace yb:=eq_true yb;replace yd:=eq_true yd;have yc:0≤(qa:Int):=of_decide_eq_true (by first|(with_reducible assumption)|assumption);have ye:qa < (l1.length:Int):=of_decide_eq_true (by first|(with_reducible assumption)|assumption);obtain⟨yk,yv,qg,qh,qi⟩:=at_T71 yt.out qa yc ye;obtain rfl:yg=yk:=(by injection yv);replace qg:=(HB.out.cell (World.block_lt_of_cell? w _ qg)).trans qg;replace qh:=(HB.out.cell (World.block_lt_of_cell? w _ qh)).trans qh;replace qi:=(HB.out.cell (World.block_lt_of_cell? w _ qi)).trans qi;replace yc:=eq_true yc;replace ye:=eq_true ye));try go_wp2_with (first|(go_at_call 71;(with_reducible refine(spec_l15Find.calls k2 _ _ l0 ((rd_T71 l1 qa).f0) t118 _ ?side1 ?side2 A17.out).mono ?_);(case side1=>repeat(first|exact(Fj HR0.out HB.out)|(with_reducible refine Fi ?_ _)|(with_reducible refine Fk ?_ _)|(with_reducible refine Fh ?_)));(case side2=>exact HC0.out);rintro e w' ⟨rfl,⟨nd,rfl⟩⟩;(try first|exact⟨rfl,_,World.drewN_drewN _ _ _⟩|exact⟨rfl,_,Eq.trans (World.drewN_drewN _ _ _) (congrArg (World.drewN _) (Nat.add_assoc _ _ _))⟩);have yb:0≤(t118:Int):=of_decide_eq_true (by first|(with_reducible assumption)|assumption);have yd:t118 < (l0.length:Int):=of_decide_eq_true (by first|(with_reducible assumption)|assumption);obtain⟨ad123,yu,qd,qe,qf⟩:=at_T71 HR0.out t118 yb yd;cases yu;replace qd:=(HB.out.cell (World.block_lt_of_cell? w _ qd)).trans qd;replace qe:=(HB.out.cell (World.block_lt_of_cell? w _ qe)).trans qe;replace qf:=(HB.out.cell (World.block_lt_of_cell? w _ qf)).trans qf;replace yb:=eq_true yb;replace yd:=eq_true yd;have yc:0≤(qa:Int):=of_decide_eq_true (by first|(with_reducible assumption)|assumption);have ye:qa < (l1.length:Int):=of_decide_eq_true (by first|(with_reducible assumption)|assumption);obtain⟨yk,yv,qg,qh,qi⟩:=at_T71 yt.out qa yc ye;obtain rfl:yg=yk:=(by injection yv);replace qg:=(HB.out.cell (World.block_lt_of_cell? w _ qg)).trans qg;replace qh:=(HB.out.cell (World.block_lt_of_cell? w _ qh)).trans qh;replace qi:=(HB.out.cell (World.block_lt_of_cell? w _ qi)).trans qi;replace yc:=eq_true yc;replace ye:=eq_true ye)))
                        go_roundg k2
                        case measure=>have:=HJ2.out;have:=HK2.out;omega
                        case rel=>exact⟨(yf),(wrap64 (qa+1)),(by first|rfl|(simp;done)|(simp [*];done)),H',⟨by have:=HJ2.out;have:=HK2.out;omega⟩,⟨by(with_reducible repeat(first|apply Fc|apply Fd|apply Fb));exact qn.out⟩,⟨by(with_reducible repeat(first|apply Fc|apply Fd|apply Fb));exact qk.out⟩,⟨by repeat(first|(with_reducible first|exact HB.out|apply Ff|apply Fe|apply Fg)|exact HB.out)⟩⟩
                    · rw [if_neg c22] at H
                      exact absurd H (by simp)
                  · rw [if_neg c21] at H
                    exact absurd H (by simp)
              · rw [if_neg c16] at H
                exact absurd H (by simp)
            · rw [if_neg c15] at H
              have c15b0:decide (qa < (l1.length:Int))=false:=decide_eq_false c15
              clear c15
              have H':=Fa H
              clear H
              go_wp2
              repeat(go_quiet (fail);try go_wp2)
              go_loopg [7,10] k2 (fun kq v7 v10 w'=>∃ (ys:List ByteArray) (qc:Int),v10=.int .i64 qc∧Aside0 (spec_Update.l1 kq l0 l1 yf ys qc=some (r1,r2))∧Aside0 (kq≤k2)∧Aside0 (Kd.R Kd.string 9 w' w.heap.size (fun k_=>some k_≠(v7:Value).ownBlock) u6 yf)∧Aside0 (Kd.R Kd.string 9 w' w.heap.size (fun k_=>some k_≠(u6:Value).ownBlock) v7 ys)∧Aside0 (Below w.heap.size w w'))
              case atStart=>exact⟨(y112),(0),(by first|rfl|(simp;done)|(simp [*];done)),H',⟨Nat.le_refl _⟩,⟨by(with_reducible repeat(first|apply Fc|apply Fd|apply Fb));exact qn.out⟩,⟨by(with_reducible repeat(first|apply Fc|apply Fd|apply Fb));exact qk.out⟩,⟨by repeat(first|(with_reducible first|exact HB.out|apply Ff|apply Fe|apply Fg)|exact HB.out)⟩⟩
              case round=>
                clear H'
                try clear c1
                try clear p1
                try clear q1
                try clear hx1
                try clear c2
                try clear p2
                try clear c3
                try clear p6
                try clear c9
                try clear p11
                try clear q11
                try clear hx11
                try clear p12
                try clear q12
                try clear hx12
                try clear c14
                try clear c15
                try clear c15b0
                try clear c16
                try clear c16b0
                try clear c18
                try clear c18b0
                try clear c19
                try clear c21
                try clear c21b0
                try clear c22
                try clear c22b0
                try clear c23
                try clear c23b0
                try clear c24
                try clear qo
                try clear qp
                try clear qq
                try clear qr
                try clear qs
                try clear qt
                try clear qd
                try clear qe
                try clear qf
                try clear qg
                try clear qh
                try clear qi
                try clear qu
                try clear qv
                try clear qw
                try clear yl
                try clear ym
                try clear yb
                try clear yc
                try clear yn
                try clear p2
                try clear yo
                try clear yp
                try clear yd
                try clear ye
                try clear yq
                obtain⟨ys,qc,rfl,HA,HK3,qn,qk,HB⟩:=hrel
                cases gk with
                | zero => exact absurd HA.out (by simp [spec_Update.l1])
                | succ k3 =>
                  have H:=HA.out
                  clear HA
                  simp only [spec_Update.l1] at H
                  by_cases c26:qc < (l0.length:Int)
                  · rw [if_pos c26] at H
                    have c26b0:decide (qc < (l0.length:Int))=true:=decide_eq_true c26
                    clear c26
                    by_cases c27:0≤qc
                    · rw [if_pos c27] at H
                      have c27b0:decide (0≤qc)=true:=decide_eq_true c27
                      clear c27
                      replace H:=Option.bind_eq_some_iff.mp H
                      obtain⟨t130,A280,H⟩:=H
                      replace H:(if t130 < 0 then (if ys.length < 8796093022208 then (spec_Update.l1 k3 l0 l1 yf (ys ++ [(rd_T71 l0 qc).f0]) (wrap64 (qc+1))) else (none)) else (spec_Update.l1 k3 l0 l1 yf ys (wrap64 (qc+1))))=some (r1,r2):=H
                      have A28:=Fa A280
                      clear A280
                      by_cases c29:t130 < 0
                      · rw [if_pos c29] at H
                        have c29b0:decide (t130 < 0)=true:=decide_eq_true c29
                        clear c29
                        by_cases c30:ys.length < 8796093022208
                        · rw [if_pos c30] at H
                          have LMc30:=Fa c30
                          clear c30
                          obtain⟨y132,hy132⟩:∃ y_:List ByteArray,y_=(ys ++ [(rd_T71 l0 qc).f0]):=⟨_,rfl⟩
                          replace H:(spec_Update.l1 k3 l0 l1 yf y132 (wrap64 (qc+1)))=some (r1,r2):=by first|(rw [hy132];with_reducible exact H)|(have H2_:=(Option.bind_some _ _).symm.trans H;rw [hy132];with_reducible exact H2_)|(have H2_:=(Option.bind_some _ _).symm.trans H;with_reducible exact H2_)|with_reducible exact H|(rw [hy132];exact H)|exact H
                          have Ny132:=Fa hy132
                          clear hy132
                          have H':=Fa H
                          clear H
                          have p129:0≤(qc:Int):=of_decide_eq_true (by first|(with_reducible assumption)|assumption)
                          have q129:qc < (l0.length:Int):=of_decide_eq_true (by first|(with_reducible assumption)|assumption)
                          obtain⟨ad129,e129,yh,yi,yj⟩:=at_T71 HR0.out qc p129 q129
                          cases e129
                          replace yh:=(HB.out.cell (World.block_lt_of_cell? w _ yh)).trans yh
                          replace yi:=(HB.out.cell (World.block_lt_of_cell? w _ yi)).trans yi
                          replace yj:=(HB.out.cell (World.block_lt_of_cell? w _ yj)).trans yj
                          replace p129:=eq_true p129
                          replace q129:=eq_true q129
                          go_wp2_with (first|(go_at_call 71;(with_reducible refine(spec_l15Find.calls k3 _ _ l1 ((rd_T71 l0 qc).f0) t130 _ ?side1 ?side2 A28.out).mono ?_);(case side1=>repeat(first|exact(Fj yt.out HB.out)|(with_reducible refine Fi ?_ _)|(with_reducible refine Fk ?_ _)|(with_reducible refine Fh ?_)));(case side2=>exact HC1.out);rintro e w' ⟨rfl,⟨nd,rfl⟩⟩;(try first|exact⟨rfl,_,World.drewN_drewN _ _ _⟩|exact⟨rfl,_,Eq.trans (World.drewN_drewN _ _ _) (congrArg (World.drewN _) (Nat.add_assoc _ _ _))⟩);have yw:0≤(qc:Int):=of_decide_eq_true (by first|(with_reducible assumption)|assumption);have yx:qc < (l0.length:Int):=of_decide_eq_true (by first|(with_reducible assumption)|assumption);obtain⟨ad131,e131,qy,qz,ya⟩:=at_T71 HR0.out qc yw yx;obtain rfl:ad129=ad131:=(by injection e131);replace qy:=(HB.out.cell (World.block_lt_of_cell? w _ qy)).trans qy;replace qz:=(HB.out.cell (World.block_lt_of_cell? w _ qz)).trans qz;replace ya:=(HB.out.cell (World.block_lt_of_cell? w _ ya)).trans ya;replace yw:=eq_true yw;replace yx:=eq_true yx)|((with_reducible refine gate_builtin (b:=.append) (xs:=#[.tmp 71,.tmp 77]) rfl ?_);at_builtin;refine Kd.R_append Kd.string (w0:=w) w.heap.size rfl (.tmp 71) (.tmp 77) 46 9 (.string ⟨#[]⟩) 16 rfl Try.underlying46 info9 rfl (by decide) (by omega) u7 ys ((rd_T71 l0 qc).f0) [.string ((rd_T71 l0 qc).f0)] (fun k_=>some k_≠(u6:Value).ownBlock) (fun _=>False) rfl rfl ?aP (fun _ hk=>hk.elim) ?aF ?aO ?aB ?aS ?aL ?_;(case aP=>exact rfl);(case aB=>exact(by repeat(first|(with_reducible first|exact HB.out|apply Ff|apply Fe|apply Fg)|exact HB.out)));(case aF=>exact(fun k_ hk=>Kd.fresh' (Kd.R_lt (by(with_reducible repeat(first|apply Fc|apply Fd|apply Fb));exact qn.out)) k_ hk));(case aO=>exact(by(with_reducible repeat(first|apply Fc|apply Fd|apply Fb));exact qk.out));(case aS=>exact(below_size (by repeat(first|(with_reducible first|exact HB.out|apply Ff|apply Fe|apply Fg)|exact HB.out))));(case aL=>have:=LMc30.out;omega);intro v133 w31 ho hb hg hat;rw [← Ny132.out] at ho;have ql:=Fa (Kd.R_after (ok:=(fun _=>True)) (by(with_reducible repeat(first|apply Fc|apply Fd|apply Fb));exact Kd.R_mono qn.out (fun _ hk=>⟨trivial,hk⟩)) hg hat);have qm:=Fa (hb);have qx:=Fa (ho);clear qn;clear HB;clear qk;have qn:=ql;have HB:=qm;have HO134:=qx;clear ql qm qx;clear ho hb hg hat))
                          repeat(go_quiet (first|(go_at_call 71;(with_reducible refine(spec_l15Find.calls k3 _ _ l1 ((rd_T71 l0 qc).f0) t130 _ ?side1 ?side2 A28.out).mono ?_);(case side1=>repeat(first|exact(Fj yt.out HB.out)|(with_reducible refine Fi ?_ _)|(with_reducible refine Fk ?_ _)|(with_reducible refine Fh ?_)));(case side2=>exact HC1.out);rintro e w' ⟨rfl,⟨nd,rfl⟩⟩;(try first|exact⟨rfl,_,World.drewN_drewN _ _ _⟩|exact⟨rfl,_,Eq.trans (World.drewN_drewN _ _ _) (congrArg (World.drewN _) (Nat.add_assoc _ _ _))⟩);have yw:0≤(qc:Int):=of_decide_eq_true (by first|(with_reducible assumption)|assumption);have yx:qc < (l0.length:Int):=of_decide_eq_true (by first|(with_reducible assumption)|assumption);obtain⟨ad131,e131,qy,qz,ya⟩:=at_T71 HR0.out qc yw yx;obtain rfl:ad129=ad131:=(by injection e131);replace qy:=(HB.out.cell (World.block_lt_of_cell? w _ qy)).trans qy;replace qz:=(HB.out.cell (World.block_lt_of_cell? w _ qz)).trans qz;replace ya:=(HB.out.cell (World.block_lt_of_cell? w _ ya)).trans ya;replace yw:=eq_true yw;replace yx:=eq_true yx)|((with_reducible refine gate_builtin (b:=.append) (xs:=#[.tmp 71,.tmp 77]) rfl ?_);at_builtin;refine Kd.R_append Kd.string (w0:=w) w.heap.size rfl (.tmp 71) (.tmp 77) 46 9 (.string ⟨#[]⟩) 16 rfl Try.underlying46 info9 rfl (by decide) (by omega) u7 ys ((rd_T71 l0 qc).f0) [.string ((rd_T71 l0 qc).f0)] (fun k_=>some k_≠(u6:Value).ownBlock) (fun _=>False) rfl rfl ?aP (fun _ hk=>hk.elim) ?aF ?aO ?aB ?aS ?aL ?_;(case aP=>exact rfl);(case aB=>exact(by repeat(first|(with_reducible first|exact HB.out|apply Ff|apply Fe|apply Fg)|exact HB.out)));(case aF=>exact(fun k_ hk=>Kd.fresh' (Kd.R_lt (by(with_reducible repeat(first|apply Fc|apply Fd|apply Fb));exact qn.out)) k_ hk));(case aO=>exact(by(with_reducible repeat(first|apply Fc|apply Fd|apply Fb));exact qk.out));(case aS=>exact(below_size (by repeat(first|(with_reducible first|exact HB.out|apply Ff|apply Fe|apply Fg)|exact HB.out))));(case aL=>have:=LMc30.out;omega);intro v133 w31 ho hb hg hat;rw [← Ny132.out] at ho;have ql:=Fa (Kd.R_after (ok:=(fun _=>True)) (by(with_reducible repeat(first|apply Fc|apply Fd|apply Fb));exact Kd.R_mono qn.out (fun _ hk=>⟨trivial,hk⟩)) hg hat);have qm:=Fa (hb);have qx:=Fa (ho);clear qn;clear HB;clear qk;have qn:=ql;have HB:=qm;have HO134:=qx;clear ql qm qx;clear ho hb hg hat));try go_wp2_with (first|(go_at_call 71;(with_reducible refine(spec_l15Find.calls k3 _ _ l1 ((rd_T71 l0 qc).f0) t130 _ ?side1 ?side2 A28.out).mono ?_);(case side1=>repeat(first|exact(Fj yt.out HB.out)|(with_reducible refine Fi ?_ _)|(with_reducible refine Fk ?_ _)|(with_reducible refine Fh ?_)));(case side2=>exact HC1.out);rintro e w' ⟨rfl,⟨nd,rfl⟩⟩;(try first|exact⟨rfl,_,World.drewN_drewN _ _ _⟩|exact⟨rfl,_,Eq.trans (World.drewN_drewN _ _ _) (congrArg (World.drewN _) (Nat.add_assoc _ _ _))⟩);have yw:0≤(qc:Int):=of_decide_eq_true (by first|(with_reducible assumption)|assumption);have yx:qc < (l0.length:Int):=of_decide_eq_true (by first|(with_reducible assumption)|assumption);obtain⟨ad131,e131,qy,qz,ya⟩:=at_T71 HR0.out qc yw yx;obtain rfl:ad129=ad131:=(by injection e131);replace qy:=(HB.out.cell (World.block_lt_of_cell? w _ qy)).trans qy;replace qz:=(HB.out.cell (World.block_lt_of_cell? w _ qz)).trans qz;replace ya:=(HB.out.cell (World.block_lt_of_cell? w _ ya)).trans ya;replace yw:=eq_true yw;replace yx:=eq_true yx)|((with_reducible refine gate_builtin (b:=.append) (xs:=#[.tmp 71,.tmp 77]) rfl ?_);at_builtin;refine Kd.R_append Kd.string (w0:=w) w.heap.size rfl (.tmp 71) (.tmp 77) 46 9 (.string ⟨#[]⟩) 16 rfl Try.underlying46 info9 rfl (by decide) (by omega) u7 ys ((rd_T71 l0 qc).f0) [.string ((rd_T71 l0 qc).f0)] (fun k_=>some k_≠(u6:Value).ownBlock) (fun _=>False) rfl rfl ?aP (fun _ hk=>hk.elim) ?aF ?aO ?aB ?aS ?aL ?_;(case aP=>exact rfl);(case aB=>exact(by repeat(first|(with_reducible first|exact HB.out|apply Ff|apply Fe|apply Fg)|exact HB.out)));(case aF=>exact(fun k_ hk=>Kd.fresh' (Kd.R_lt (by(with_reducible repeat(first|apply Fc|apply Fd|apply Fb));exact qn.out)) k_ hk));(case aO=>exact(by(with_reducible repeat(first|apply Fc|apply Fd|apply Fb));exact qk.out));(case aS=>exact(below_size (by repeat(first|(with_reducible first|exact HB.out|apply Ff|apply Fe|apply Fg)|exact HB.out))));(case aL=>have:=LMc30.out;omega);intro v133 w31 ho hb hg hat;rw [← Ny132.out] at ho;have ql:=Fa (Kd.R_after (ok:=(fun _=>True)) (by(with_reducible repeat(first|apply Fc|apply Fd|apply Fb));exact Kd.R_mono qn.out (fun _ hk=>⟨trivial,hk⟩)) hg hat);have qm:=Fa (hb);have qx:=Fa (ho);clear qn;clear HB;clear qk;have qn:=ql;have HB:=qm;have HO134:=qx;clear ql qm qx;clear ho hb hg hat)))
                          go_roundg k3
                          case measure=>have:=HJ2.out;have:=HK2.out;have:=HK3.out;omega
                          case rel=>exact⟨(y132),(wrap64 (qc+1)),(by first|rfl|(simp;done)|(simp [*];done)),H',⟨by have:=HJ2.out;have:=HK2.out;have:=HK3.out;omega⟩,⟨by(with_reducible repeat(first|apply Fc|apply Fd|apply Fb));exact Kd.R_mono qn.out (fun _ hk=>hk.2)⟩,⟨by(with_reducible repeat(first|apply Fc|apply Fd|apply Fb));exact HO134.out⟩,⟨by repeat(first|(with_reducible first|exact HB.out|apply Ff|apply Fe|apply Fg)|exact HB.out)⟩⟩
                        · rw [if_neg c30] at H
                          exact absurd H (by simp)
                      · rw [if_neg c29] at H
                        have c29b0:decide (t130 < 0)=false:=decide_eq_false c29
                        clear c29
                        have H':=Fa H
                        clear H
                        have p129:0≤(qc:Int):=of_decide_eq_true (by first|(with_reducible assumption)|assumption)
                        have q129:qc < (l0.length:Int):=of_decide_eq_true (by first|(with_reducible assumption)|assumption)
                        obtain⟨ad129,e129,yh,yi,yj⟩:=at_T71 HR0.out qc p129 q129
                        cases e129
                        replace yh:=(HB.out.cell (World.block_lt_of_cell? w _ yh)).trans yh
                        replace yi:=(HB.out.cell (World.block_lt_of_cell? w _ yi)).trans yi
                        replace yj:=(HB.out.cell (World.block_lt_of_cell? w _ yj)).trans yj
                        replace p129:=eq_true p129
                        replace q129:=eq_true q129
                        go_wp2_with (first|(go_at_call 71;(with_reducible refine(spec_l15Find.calls k3 _ _ l1 ((rd_T71 l0 qc).f0) t130 _ ?side1 ?side2 A28.out).mono ?_);(case side1=>repeat(first|exact(Fj yt.out HB.out)|(with_reducible refine Fi ?_ _)|(with_reducible refine Fk ?_ _)|(with_reducible refine Fh ?_)));(case side2=>exact HC1.out);rintro e w' ⟨rfl,⟨nd,rfl⟩⟩;(try first|exact⟨rfl,_,World.drewN_drewN _ _ _⟩|exact⟨rfl,_,Eq.trans (World.drewN_drewN _ _ _) (congrArg (World.drewN _) (Nat.add_assoc _ _ _))⟩)))
                        repeat(go_quiet (first|(go_at_call 71;(with_reducible refine(spec_l15Find.calls k3 _ _ l1 ((rd_T71 l0 qc).f0) t130 _ ?side1 ?side2 A28.out).mono ?_);(case side1=>repeat(first|exact(Fj yt.out HB.out)|(with_reducible refine Fi ?_ _)|(with_reducible refine Fk ?_ _)|(with_reducible refine Fh ?_)));(case side2=>exact HC1.out);rintro e w' ⟨rfl,⟨nd,rfl⟩⟩;(try first|exact⟨rfl,_,World.drewN_drewN _ _ _⟩|exact⟨rfl,_,Eq.trans (World.drewN_drewN _ _ _) (congrArg (World.drewN _) (Nat.add_assoc _ _ _))⟩)));try go_wp2_with (first|(go_at_call 71;(with_reducible refine(spec_l15Find.calls k3 _ _ l1 ((rd_T71 l0 qc).f0) t130 _ ?side1 ?side2 A28.out).mono ?_);(case side1=>repeat(first|exact(Fj yt.out HB.out)|(with_reducible refine Fi ?_ _)|(with_reducible refine Fk ?_ _)|(with_reducible refine Fh ?_)));(case side2=>exact HC1.out);rintro e w' ⟨rfl,⟨nd,rfl⟩⟩;(try first|exact⟨rfl,_,World.drewN_drewN _ _ _⟩|exact⟨rfl,_,Eq.trans (World.drewN_drewN _ _ _) (congrArg (World.drewN _) (Nat.add_assoc _ _ _))⟩))))
                        go_roundg k3
                        case measure=>have:=HJ2.out;have:=HK2.out;have:=HK3.out;omega
                        case rel=>exact⟨(ys),(wrap64 (qc+1)),(by first|rfl|(simp;done)|(simp [*];done)),H',⟨by have:=HJ2.out;have:=HK2.out;have:=HK3.out;omega⟩,⟨by(with_reducible repeat(first|apply Fc|apply Fd|apply Fb));exact qn.out⟩,⟨by(with_reducible repeat(first|apply Fc|apply Fd|apply Fb));exact qk.out⟩,⟨by repeat(first|(with_reducible first|exact HB.out|apply Ff|apply Fe|apply Fg)|exact HB.out)⟩⟩
                    · rw [if_neg c27] at H
                      exact absurd H (by simp)
                  · rw [if_neg c26] at H
                    have c26b0:decide (qc < (l0.length:Int))=false:=decide_eq_false c26
                    clear c26
                    simp only [Option.some.injEq,Prod.mk.injEq] at H
                    obtain⟨rfl,rfl⟩:=H
                    go_wp2
                    repeat(go_quiet (fail);try go_wp2)
                    go_ret2
                    exact⟨_,_,by first|rfl|(simp [errW_none,errW_some] <;> rfl)|(simp [*,errW_none,errW_some] <;> rfl),by(with_reducible repeat(first|apply Fc|apply Fd|apply Fb));exact qn.out,by(with_reducible repeat(first|apply Fc|apply Fd|apply Fb));exact qk.out,by repeat(first|(with_reducible first|exact HB.out|apply Ff|apply Fe|apply Fg)|exact HB.out)⟩

/-! ### impl_in: function 56 -/
def impl_in.f (a0 : Int) (a1 : Int) (a2 : Int) : Option (Bool) := if a1 ≤ a0 then (some (decide (a0 ≤ a2))) else (some false)
set_option maxHeartbeats 8000000 in
set_option maxRecDepth 100000 in
theorem impl_in.calls (a0 : Int) (a1 : Int) (a2 : Int) (r : Bool) (w : World) (h : impl_in.f a0 a1 a2 = some r) :
    Calls Try.prog 56 #[.int .i64 a0,.int .i64 a1,.int .i64 a2] w fun e w'=>e=.returned (.bool r)∧Drawn0 w w':=by
  have H:(if a1≤a0 then (some (decide (a0≤a2))) else (some false))=some r:=h
  clear h
  by_cases c4:a1≤a0
  · rw [if_pos c4] at H
    have c4b0:decide (a1≤a0)=true:=decide_eq_true c4
    clear c4
    obtain rfl:=Option.some.inj H
    go_enter Try.func56,Try.ntmps56
    go_wp2
    go_ret
    exact⟨by first|rfl|(simp;done)|(simp [*];done),by repeat(first|exact Drawn0.refl _|apply Drawn0.step)⟩
  · rw [if_neg c4] at H
    have c4b0:decide (a1≤a0)=false:=decide_eq_false c4
    clear c4
    obtain rfl:=Option.some.inj H
    go_enter Try.func56,Try.ntmps56
    go_wp2
    go_ret
    exact⟨by first|rfl|(simp;done)|(simp [*];done),by repeat(first|exact Drawn0.refl _|apply Drawn0.step)⟩

/-! ### impl_isLetter: function 83 -/
def impl_isLetter.f (a0 : Int) : Option (Bool) := if 97 ≤ a0 then (if a0 ≤ 122 then (some true) else (if 65 ≤ a0 then (some (decide (a0 ≤ 90))) else (some false))) else (if 65 ≤ a0 then (some (decide (a0 ≤ 90))) else (some false))
set_option maxHeartbeats 8000000 in
set_option maxRecDepth 100000 in
theorem impl_isLetter.calls (a0 : Int) (r : Bool) (w : World) (h : impl_isLetter.f a0 = some r) :
    Calls Try.prog 83 #[.int .u8 a0] w fun e w'=>e=.returned (.bool r)∧Drawn0 w w':=by
  have H:(if 97≤a0 then (if a0≤122 then (some true) else (if 65≤a0 then (some (decide (a0≤90))) else (some false))) else (if 65≤a0 then (some (decide (a0≤90))) else (some false)))=some r:=h
  clear h
  by_cases c2:97≤a0
  · rw [if_pos c2] at H
    have c2b0:decide (97≤a0)=true:=decide_eq_true c2
    clear c2
    by_cases c3:a0≤122
    · rw [if_pos c3] at H
      have c3b0:decide (a0≤122)=true:=decide_eq_true c3
      clear c3
      obtain rfl:=Option.some.inj H
      go_enter Try.func83,Try.ntmps83
      go_wp2
      go_ret
      exact⟨by first|rfl|(simp;done)|(simp [*];done),by repeat(first|exact Drawn0.refl _|apply Drawn0.step)⟩
    · rw [if_neg c3] at H
      have c3b0:decide (a0≤122)=false:=decide_eq_false c3
      clear c3
      by_cases c4:65≤a0
      · rw [if_pos c4] at H
        have c4b0:decide (65≤a0)=true:=decide_eq_true c4
        clear c4
        obtain rfl:=Option.some.inj H
        go_enter Try.func83,Try.ntmps83
        go_wp2
        go_ret
        exact⟨by first|rfl|(simp;done)|(simp [*];done),by repeat(first|exact Drawn0.refl _|apply Drawn0.step)⟩
      · rw [if_neg c4] at H
        have c4b0:decide (65≤a0)=false:=decide_eq_false c4
        clear c4
        obtain rfl:=Option.some.inj H
        go_enter Try.func83,Try.ntmps83
        go_wp2
        go_ret
        exact⟨by first|rfl|(simp;done)|(simp [*];done),by repeat(first|exact Drawn0.refl _|apply Drawn0.step)⟩
  · rw [if_neg c2] at H
    have c2b0:decide (97≤a0)=false:=decide_eq_false c2
    clear c2
    by_cases c5:65≤a0
    · rw [if_pos c5] at H
      have c5b0:decide (65≤a0)=true:=decide_eq_true c5
      clear c5
      obtain rfl:=Option.some.inj H
      go_enter Try.func83,Try.ntmps83
      go_wp2
      go_ret
      exact⟨by first|rfl|(simp;done)|(simp [*];done),by repeat(first|exact Drawn0.refl _|apply Drawn0.step)⟩
    · rw [if_neg c5] at H
      have c5b0:decide (65≤a0)=false:=decide_eq_false c5
      clear c5
      obtain rfl:=Option.some.inj H
      go_enter Try.func83,Try.ntmps83
      go_wp2
      go_ret
      exact⟨by first|rfl|(simp;done)|(simp [*];done),by repeat(first|exact Drawn0.refl _|apply Drawn0.step)⟩

/-! ### impl_isDigit: function 84 -/
def impl_isDigit.f (a0 : Int) : Option (Bool) := if 48 ≤ a0 then (some (decide (a0 ≤ 57))) else (some false)
set_option maxHeartbeats 8000000 in
set_option maxRecDepth 100000 in
theorem impl_isDigit.calls (a0 : Int) (r : Bool) (w : World) (h : impl_isDigit.f a0 = some r) :
    Calls Try.prog 84 #[.int .u8 a0] w fun e w'=>e=.returned (.bool r)∧Drawn0 w w':=by
  have H:(if 48≤a0 then (some (decide (a0≤57))) else (some false))=some r:=h
  clear h
  by_cases c2:48≤a0
  · rw [if_pos c2] at H
    have c2b0:decide (48≤a0)=true:=decide_eq_true c2
    clear c2
    obtain rfl:=Option.some.inj H
    go_enter Try.func84,Try.ntmps84
    go_wp2
    go_ret
    exact⟨by first|rfl|(simp;done)|(simp [*];done),by repeat(first|exact Drawn0.refl _|apply Drawn0.step)⟩
  · rw [if_neg c2] at H
    have c2b0:decide (48≤a0)=false:=decide_eq_false c2
    clear c2
    obtain rfl:=Option.some.inj H
    go_enter Try.func84,Try.ntmps84
    go_wp2
    go_ret
    exact⟨by first|rfl|(simp;done)|(simp [*];done),by repeat(first|exact Drawn0.refl _|apply Drawn0.step)⟩

end Go.Proofs.Ytelcpfanjjfgdaa.HFnUpdated
