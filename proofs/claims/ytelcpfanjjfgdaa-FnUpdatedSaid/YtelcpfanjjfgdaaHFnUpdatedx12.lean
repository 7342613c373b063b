-- Laid by myprint.py, a program of this repo, out of the kit's printer and this repo's own texts (wip/hand).
import Derived.Test.YtelcpfanjjfgdaaHFnUpdatedx0
import Derived.Test.YtelcpfanjjfgdaaHFnUpdatedx8
import Derived.Test.YtelcpfanjjfgdaaHFnUpdatedx10
import Derived.Test.YtelcpfanjjfgdaaHFnUpdatedx11
namespace Go.Proofs.Ytelcpfanjjfgdaa.HFnUpdated
open Go.RowKit Go.Proofs.YtelcpfanjjfgdaaW.PrintWords Go.Proofs.YtelcpfanjjfgdaaW.PrintLast Go.Proofs.YtelcpfanjjfgdaaW.PrintMore
attribute [local go_sem] max2_int min2_int max_two min_two max_three min_three max_four min_four   -- for this text's walks alone
set_option linter.unusedVariables false
set_option linter.unusedSimpArgs false
theorem Ma : type_of% @Aside0.mk := @Aside0.mk
theorem Mb : type_of% @IsS102.alloc := @IsS102.alloc
theorem Mc : type_of% @IsS102.drew := @IsS102.drew
theorem Md : type_of% @IsS102.drewN := @IsS102.drewN
theorem Me : type_of% @IsS102.ge := @IsS102.ge
theorem Mf : type_of% @IsS102.set_1 := @IsS102.set_1
theorem Mg : type_of% @IsS102.set_2 := @IsS102.set_2
theorem Mh : type_of% @Kd.R_drew := @Kd.R_drew
theorem Mi : type_of% @keep_drew := @keep_drew
theorem Mj : type_of% @pw_below_drewN := @pw_below_drewN
theorem Mk : type_of% @KeepBut.set_ := @KeepBut.set_
theorem Ml : type_of% @Kd.R_alloc := @Kd.R_alloc
theorem Mm : type_of% @Kd.R_drewN := @Kd.R_drewN
theorem Mn : type_of% @below_alloc := @below_alloc
theorem Mo : type_of% @below_drew1 := @below_drew1
theorem Mp : type_of% @keep_alloc := @keep_alloc
theorem Mq : type_of% @keep_drewN := @keep_drewN
theorem Mr : type_of% @below_set := @below_set
theorem Ms : type_of% @KeepBut.trans := @KeepBut.trans
theorem Mt : type_of% @gate_callee := @gate_callee
theorem Mu : type_of% @Kd.R_mono := @Kd.R_mono
theorem Mv : type_of% @Kd.R_keep := @Kd.R_keep
theorem Mw : type_of% @Kd.R_reads' := @Kd.R_reads'

/-! ### spec_l1Wide: function 89 -/
def spec_l1Wide.l0 : Nat → Int → ByteArray → Option (ByteArray)
  | 0, _, _ => none
  | k + 1, x1, x5 => if (x5.size : Int) < x1 then (if 1 + x5.size ≤ 9223372036854775807 then (spec_l1Wide.l0 k x1 ((⟨#[48]⟩ : ByteArray) ++ x5)) else (none)) else (some x5)
def spec_l1Wide.f (k : Nat) (a0 : Int) (a1 : Int) : Option (ByteArray) := (spec_l1Int.f k a0).bind fun t287 => (spec_l1Wide.l0 k a1 t287)
theorem spec_l1Wide.mono_l : ∀ k, (∀ y0 y1, LeO (spec_l1Wide.l0 k y0 y1) (spec_l1Wide.l0 (k + 1) y0 y1))
  | 0 => fun _ _ r h => by simp [spec_l1Wide.l0] at h
  | k + 1 => by
    have ih0:=spec_l1Wide.mono_l k
    · intro y0 y1
      unfold spec_l1Wide.l0
      repeat' first
      | (with_reducible exact ih0 _ _)
      | (with_reducible exact spec_l1Int.mono _ _)
      | (with_reducible exact LeO.refl _)
      | (with_reducible exact LeO.none _)
      | (with_reducible refine LeO.ite ?_ ?_)
      | (with_reducible refine LeO.bind ?_ (fun _ => ?_))
      | exact ih0 _ _
      | exact spec_l1Int.mono _ _
      | exact LeO.none _
      | refine LeO.ite ?_ ?_
      | refine LeO.bind ?_ (fun _ => ?_)
theorem spec_l1Wide.mono : ∀ a0 a1 k, LeO (spec_l1Wide.f k a0 a1) (spec_l1Wide.f (k + 1) a0 a1) := by
  intro a0 a1 k
  have ih0:=spec_l1Wide.mono_l k
  unfold spec_l1Wide.f
  repeat' first
      | (with_reducible exact ih0 _ _)
      | (with_reducible exact spec_l1Int.mono _ _)
      | (with_reducible exact LeO.refl _)
      | (with_reducible exact LeO.none _)
      | (with_reducible refine LeO.ite ?_ ?_)
      | (with_reducible refine LeO.bind ?_ (fun _ => ?_))
      | exact ih0 _ _
      | exact spec_l1Int.mono _ _
      | exact LeO.none _
      | refine LeO.ite ?_ ?_
      | refine LeO.bind ?_ (fun _ => ?_)
set_option maxHeartbeats 8000000 in
set_option maxRecDepth 100000 in
theorem spec_l1Wide.calls (k : Nat) (a0 : Int) (a1 : Int) (r : ByteArray) (w : World) (h : spec_l1Wide.f k a0 a1 = some r) :
    Calls Try.prog 89 #[.int .i64 a0,.int .i64 a1] w fun e w'=>e=.returned (.string r)∧Below w.heap.size w w':=by
  have HB:=Ma (Below.refl w.heap.size w)
  have H:((spec_l1Int.f k a0).bind fun t287=>(spec_l1Wide.l0 k a1 t287))=some r:=h
  clear h
  replace H:=Option.bind_eq_some_iff.mp H
  obtain⟨t287,A30,H⟩:=H
  replace H:(spec_l1Wide.l0 k a1 t287)=some r:=H
  have A3:=Ma A30
  clear A30
  have H':=Ma H
  clear H
  go_enter Try.func89,Try.ntmps89
  go_wp2_with (first|((with_reducible refine Mt (f:=79) rfl ?_);refine goesL_ (some 7) rfl rfl Try.func79 (by kernel_rfl) rfl #[.int .i64 a0] rfl (by(try simp only [List.map_toArray,List.map_cons,List.map_nil]);first|done|rfl|(simp only [List.length_drop,List.length_take];rfl)) ?_;(with_reducible refine(spec_l1Int.calls k a0 t287 _ A3.out).mono ?_);rintro e w4 ⟨rfl,hb⟩;refine⟨_,rfl,?_⟩;have n0_:=Ma (below_step (by repeat(first|(with_reducible first|exact HB.out|apply Mn|apply Mj|apply Mo)|exact HB.out)) hb);clear HB;have HB:=n0_;clear n0_;(try clear hb);(try clear hb2);(try clear hk);(try clear hi)))
  go_loopg [5] k (fun kq v5 w'=>∃ (x5_1:ByteArray),v5=.string x5_1∧Aside0 (spec_l1Wide.l0 kq a1 x5_1=some r)∧Aside0 (kq≤k)∧Aside0 (Below w.heap.size w w'))
  case atStart=>exact⟨(t287),(by first|rfl|(simp;done)|(simp [*];done)),H',⟨Nat.le_refl _⟩,⟨by repeat(first|(with_reducible first|exact HB.out|apply Mn|apply Mj|apply Mo)|exact HB.out)⟩⟩
  case round=>
    clear H'
    try clear p2
    obtain⟨x5_1,rfl,HA,HK1,HB⟩:=hrel
    cases gk with
    | zero => exact absurd HA.out (by simp [spec_l1Wide.l0])
    | succ k1 =>
      have H:=HA.out
      clear HA
      simp only [spec_l1Wide.l0] at H
      by_cases c5:(x5_1.size:Int) < a1
      · rw [if_pos c5] at H
        have c5b0:decide ((x5_1.size:Int) < a1)=true:=decide_eq_true c5
        clear c5
        by_cases c6:1+x5_1.size≤9223372036854775807
        · rw [if_pos c6] at H
          have c6b0:=eq_true c6
          have c6b1:decide (1+x5_1.size≤9223372036854775807)=true:=decide_eq_true c6
          try have c6b2:(9223372036854775807 < 1+x5_1.size)=False:=eq_false (Nat.not_lt.2 c6)
          have H':=Ma H
          clear H
          go_wp2
          go_roundg k1
          case measure=>have:=HK1.out;omega
          case rel=>exact⟨((⟨#[48]⟩:ByteArray) ++ x5_1),(by first|rfl|(simp;done)|(simp [*];done)),H',⟨by have:=HK1.out;omega⟩,⟨by repeat(first|(with_reducible first|exact HB.out|apply Mn|apply Mj|apply Mo)|exact HB.out)⟩⟩
        · rw [if_neg c6] at H
          exact absurd H (by simp)
      · rw [if_neg c5] at H
        have c5b0:decide ((x5_1.size:Int) < a1)=false:=decide_eq_false c5
        clear c5
        obtain rfl:=Option.some.inj H
        go_wp2
        go_ret
        exact⟨by first|rfl|(simp [errW_none,errW_some] <;> rfl)|(simp [*,errW_none,errW_some] <;> rfl),by repeat(first|(with_reducible first|exact HB.out|apply Mn|apply Mj|apply Mo)|exact HB.out)⟩

/-! ### spec_l15DrawPack: function 75 -/
mutual
def spec_l15DrawPack.j0 : Nat → List (S71) → Bool → List Int → Int → Int → Option ((List (S71)) × Int × Int)
  | 0, _, _, _, _, _ => none
  | k + 1, x5, x26, x1000, x1001, x1002 => if x26 = true then ((spec_l1Below.f x1000 x1001 x1002 (x5.length : Int)).bind fun bt303 => (if 0 ≤ bt303.1 then (if bt303.1 < (x5.length : Int) then ((spec_l1Below.f x1000 bt303.2.1 bt303.2.2 4).bind fun bt307 => (if bt307.1 = 0 then ((some (([(⟨#[]⟩ : ByteArray), (⟨#[97, 32, 98]⟩ : ByteArray), (⟨#[114, 101, 101, 108]⟩ : ByteArray), (⟨#[122, 122]⟩ : ByteArray), (⟨#[48, 49, 50, 51, 52, 53, 54, 55, 56, 57, 48, 49, 50, 51, 52, 53, 54, 55, 56, 57, 48, 49, 50, 51, 52, 53, 54, 55, 56, 57, 48, 49, 50, 51, 52, 53, 54, 55, 56, 57, 48]⟩ : ByteArray)] : List ByteArray) : List ByteArray)).bind fun y310 => ((spec_l1Below.f x1000 bt307.2.1 bt307.2.2 5).bind fun bt313 => (if 0 ≤ bt313.1 then (if bt313.1 < (y310.length : Int) then (spec_l15DrawPack.j1 k (x5.set (bt303.1 : Int).toNat (⟨rdOf ByteArray.empty y310 bt313.1, (rd_T71 x5 bt303.1).f1, (rd_T71 x5 bt303.1).f2⟩ : S71)) x1000 bt313.2.1 bt313.2.2) else (none)) else (none)))) else (if bt307.1 = 1 then ((some (([(-1), 40000, 40001] : List Int) : List Int)).bind fun y318 => ((spec_l1Below.f x1000 bt307.2.1 bt307.2.2 3).bind fun bt321 => (if 0 ≤ bt321.1 then (if bt321.1 < (y318.length : Int) then (spec_l15DrawPack.j1 k (x5.set (bt303.1 : Int).toNat (⟨(rd_T71 x5 bt303.1).f0, rd y318 bt321.1, (rd_T71 x5 bt303.1).f2⟩ : S71)) x1000 bt321.2.1 bt321.2.2) else (none)) else (none)))) else (if bt307.1 = 2 then ((some (([(-1), 1000000006, 1000000007, 5] : List Int) : List Int)).bind fun y326 => ((spec_l1Below.f x1000 bt307.2.1 bt307.2.2 4).bind fun bt329 => (if 0 ≤ bt329.1 then (if bt329.1 < (y326.length : Int) then (spec_l15DrawPack.j1 k (x5.set (bt303.1 : Int).toNat (⟨(rd_T71 x5 bt303.1).f0, (rd_T71 x5 bt303.1).f1, rd y326 bt329.1⟩ : S71)) x1000 bt329.2.1 bt329.2.2) else (none)) else (none)))) else (if bt307.1 = 3 then (if x5.length < 4398046511104 then (spec_l15DrawPack.j1 k (x5 ++ [(⟨(rd_T71 x5 bt303.1).f0, (rd_T71 x5 bt303.1).f1, (rd_T71 x5 bt303.1).f2⟩ : S71)]) x1000 bt307.2.1 bt307.2.2) else (none)) else (spec_l15DrawPack.j1 k x5 x1000 bt307.2.1 bt307.2.2)))))) else (none)) else (none))) else (spec_l15DrawPack.j1 k x5 x1000 x1001 x1002)
def spec_l15DrawPack.j1 : Nat → List (S71) → List Int → Int → Int → Option ((List (S71)) × Int × Int)
  | 0, _, _, _, _ => none
  | k + 1, x5, x1000, x1001, x1002 => (spec_l1Once.f x1000 x1001 x1002 60).bind fun bt338 => (if bt338.1 = true then (spec_l15DrawPack.l0 k (([] : List (S71))) 0 x1000 bt338.2.1 bt338.2.2) else (some (x5, bt338.2.1, bt338.2.2)))
def spec_l15DrawPack.l0 : Nat → List (S71) → Int → List Int → Int → Int → Option ((List (S71)) × Int × Int)
  | 0, _, _, _, _, _ => none
  | k + 1, x5, x8, x1000, x1001, x1002 => (spec_l1Below.f x1000 x1001 x1002 2).bind fun bt344 => (if x8 < (wrap64 (100 + bt344.1)) then ((spec_l1Wide.f k x8 4).bind fun t347 => (if x5.length < 4398046511104 then (spec_l15DrawPack.l0 k (x5 ++ [(⟨t347, 0, 0⟩ : S71)]) (wrap64 (x8 + 1)) x1000 bt344.2.1 bt344.2.2) else (none))) else (some (x5, bt344.2.1, bt344.2.2)))
end
def spec_l15DrawPack.f (k : Nat) (s0_0 : List Int) (s0_1 : Int) (s0_2 : Int) : Option ((List (S71)) × Int × Int) := (spec_l15DrawNames.f k s0_0 s0_1 s0_2).bind fun bt288 => ((spec_Pack.f k bt288.1 bt288.2.1).bind fun bt296 => ((spec_l1Once.f s0_0 bt288.2.2.1 bt288.2.2.2 14).bind fun bt300 => (if bt300.1 = true then (spec_l15DrawPack.j0 k bt296.1 (decide ((bt296.1.length : Int) > 0)) s0_0 bt300.2.1 bt300.2.2) else (spec_l15DrawPack.j0 k bt296.1 false s0_0 bt300.2.1 bt300.2.2))))
theorem spec_l15DrawPack.mono_l : ∀ k, (∀ y0 y1 y2 y3 y4, LeO (spec_l15DrawPack.j0 k y0 y1 y2 y3 y4) (spec_l15DrawPack.j0 (k + 1) y0 y1 y2 y3 y4)) ∧ (∀ y0 y1 y2 y3, LeO (spec_l15DrawPack.j1 k y0 y1 y2 y3) (spec_l15DrawPack.j1 (k + 1) y0 y1 y2 y3)) ∧ (∀ y0 y1 y2 y3 y4, LeO (spec_l15DrawPack.l0 k y0 y1 y2 y3 y4) (spec_l15DrawPack.l0 (k + 1) y0 y1 y2 y3 y4))
  | 0 => ⟨fun _ _ _ _ _ r h => by simp [spec_l15DrawPack.j0] at h, fun _ _ _ _ r h => by simp [spec_l15DrawPack.j1] at h, fun _ _ _ _ _ r h => by simp [spec_l15DrawPack.l0] at h⟩
  | k + 1 => by
    obtain⟨ih0,ih1,ih2⟩:=spec_l15DrawPack.mono_l k
    refine⟨?_,?_,?_⟩
    · intro y0 y1 y2 y3 y4
      unfold spec_l15DrawPack.j0
      repeat' first
      | (with_reducible exact ih0 _ _ _ _ _)
      | (with_reducible exact ih1 _ _ _ _)
      | (with_reducible exact ih2 _ _ _ _ _)
      | (with_reducible exact spec_Pack.mono _ _ _)
      | (with_reducible exact spec_l15DrawNames.mono _ _ _ _)
      | (with_reducible exact spec_l1Wide.mono _ _ _)
      | (with_reducible exact LeO.refl _)
      | (with_reducible exact LeO.none _)
      | (with_reducible refine LeO.ite ?_ ?_)
      | (with_reducible refine LeO.bind ?_ (fun _ => ?_))
      | exact ih0 _ _ _ _ _
      | exact ih1 _ _ _ _
      | exact ih2 _ _ _ _ _
      | exact spec_Pack.mono _ _ _
      | exact spec_l15DrawNames.mono _ _ _ _
      | exact spec_l1Wide.mono _ _ _
      | exact LeO.none _
      | refine LeO.ite ?_ ?_
      | refine LeO.bind ?_ (fun _ => ?_)
    · intro y0 y1 y2 y3
      unfold spec_l15DrawPack.j1
      repeat' first
      | (with_reducible exact ih0 _ _ _ _ _)
      | (with_reducible exact ih1 _ _ _ _)
      | (with_reducible exact ih2 _ _ _ _ _)
      | (with_reducible exact spec_Pack.mono _ _ _)
      | (with_reducible exact spec_l15DrawNames.mono _ _ _ _)
      | (with_reducible exact spec_l1Wide.mono _ _ _)
      | (with_reducible exact LeO.refl _)
      | (with_reducible exact LeO.none _)
      | (with_reducible refine LeO.ite ?_ ?_)
      | (with_reducible refine LeO.bind ?_ (fun _ => ?_))
      | exact ih0 _ _ _ _ _
      | exact ih1 _ _ _ _
      | exact ih2 _ _ _ _ _
      | exact spec_Pack.mono _ _ _
      | exact spec_l15DrawNames.mono _ _ _ _
      | exact spec_l1Wide.mono _ _ _
      | exact LeO.none _
      | refine LeO.ite ?_ ?_
      | refine LeO.bind ?_ (fun _ => ?_)
    · intro y0 y1 y2 y3 y4
      unfold spec_l15DrawPack.l0
      repeat' first
      | (with_reducible exact ih0 _ _ _ _ _)
      | (with_reducible exact ih1 _ _ _ _)
      | (with_reducible exact ih2 _ _ _ _ _)
      | (with_reducible exact spec_Pack.mono _ _ _)
      | (with_reducible exact spec_l15DrawNames.mono _ _ _ _)
      | (with_reducible exact spec_l1Wide.mono _ _ _)
      | (with_reducible exact LeO.refl _)
      | (with_reducible exact LeO.none _)
      | (with_reducible refine LeO.ite ?_ ?_)
      | (with_reducible refine LeO.bind ?_ (fun _ => ?_))
      | exact ih0 _ _ _ _ _
      | exact ih1 _ _ _ _
      | exact ih2 _ _ _ _ _
      | exact spec_Pack.mono _ _ _
      | exact spec_l15DrawNames.mono _ _ _ _
      | exact spec_l1Wide.mono _ _ _
      | exact LeO.none _
      | refine LeO.ite ?_ ?_
      | refine LeO.bind ?_ (fun _ => ?_)
theorem spec_l15DrawPack.mono : ∀ a0 a1 a2 k, LeO (spec_l15DrawPack.f k a0 a1 a2) (spec_l15DrawPack.f (k + 1) a0 a1 a2) := by
  intro a0 a1 a2 k
  obtain⟨ih0,ih1,ih2⟩:=spec_l15DrawPack.mono_l k
  unfold spec_l15DrawPack.f
  repeat' first
      | (with_reducible exact ih0 _ _ _ _ _)
      | (with_reducible exact ih1 _ _ _ _)
      | (with_reducible exact ih2 _ _ _ _ _)
      | (with_reducible exact spec_Pack.mono _ _ _)
      | (with_reducible exact spec_l15DrawNames.mono _ _ _ _)
      | (with_reducible exact spec_l1Wide.mono _ _ _)
      | (with_reducible exact LeO.refl _)
      | (with_reducible exact LeO.none _)
      | (with_reducible refine LeO.ite ?_ ?_)
      | (with_reducible refine LeO.bind ?_ (fun _ => ?_))
      | exact ih0 _ _ _ _ _
      | exact ih1 _ _ _ _
      | exact ih2 _ _ _ _ _
      | exact spec_Pack.mono _ _ _
      | exact spec_l15DrawNames.mono _ _ _ _
      | exact spec_l1Wide.mono _ _ _
      | exact LeO.none _
      | refine LeO.ite ?_ ?_
      | refine LeO.bind ?_ (fun _ => ?_)
set_option maxHeartbeats 8000000 in
set_option maxRecDepth 100000 in
theorem spec_l15DrawPack.calls (k : Nat) (g : Nat) (s0_0 : List Int) (s0_1 : Int) (s0_2 : Int) (r1 : List (S71)) (r2 : Int) (r3 : Int) (w0 w : World) (hI : IsS102 w0 w g s0_0 s0_1 s0_2) (hB : Below w0.heap.size w0 w) (h : spec_l15DrawPack.f k s0_0 s0_1 s0_2 = some (r1, r2, r3)) :
    Calls Try.prog 75 #[.pointer (some ⟨g,0,none⟩)] w fun e w'=>∃ v0_:Value,e=.returned (v0_)∧Kd.R k71 71 w' w.heap.size (fun _=>True) v0_ r1∧IsS102 w0 w' g s0_0 r2 r3∧Below w0.heap.size w0 w'∧KeepBut w w' g none:=by
  have hu71:=Try.underlying71
  have HI0:=Ma hI
  have HK:=Ma (KeepBut.refl w g none)
  have HL:=Ma hB.size
  clear hI
  have HW0:=Ma hB.size
  have HB:=Ma hB
  clear hB
  have H:((spec_l15DrawNames.f k s0_0 s0_1 s0_2).bind fun bt288=>((spec_Pack.f k bt288.1 bt288.2.1).bind fun bt296=>((spec_l1Once.f s0_0 bt288.2.2.1 bt288.2.2.2 14).bind fun bt300=>(if bt300.1=true then (spec_l15DrawPack.j0 k bt296.1 (decide ((bt296.1.length:Int) > 0)) s0_0 bt300.2.1 bt300.2.2) else (spec_l15DrawPack.j0 k bt296.1 false s0_0 bt300.2.1 bt300.2.2)))))=some (r1,r2,r3):=h
  clear h
  replace H:=Option.bind_eq_some_iff.mp H
  obtain⟨⟨t288,t291,t294,t295⟩,A20,H⟩:=H
  replace H:((spec_Pack.f k t288 t291).bind fun bt296=>((spec_l1Once.f s0_0 t294 t295 14).bind fun bt300=>(if bt300.1=true then (spec_l15DrawPack.j0 k bt296.1 (decide ((bt296.1.length:Int) > 0)) s0_0 bt300.2.1 bt300.2.2) else (spec_l15DrawPack.j0 k bt296.1 false s0_0 bt300.2.1 bt300.2.2))))=some (r1,r2,r3):=H
  have A2:=Ma A20
  clear A20
  replace H:=Option.bind_eq_some_iff.mp H
  obtain⟨⟨t296,t297⟩,A30,H⟩:=H
  replace H:((spec_l1Once.f s0_0 t294 t295 14).bind fun bt300=>(if bt300.1=true then (spec_l15DrawPack.j0 k t296 (decide ((t296.length:Int) > 0)) s0_0 bt300.2.1 bt300.2.2) else (spec_l15DrawPack.j0 k t296 false s0_0 bt300.2.1 bt300.2.2)))=some (r1,r2,r3):=H
  have A3:=Ma A30
  clear A30
  have HC4:=Ma H
  clear H
  go_enter Try.func75,Try.ntmps75
  go_upto_region 3 with (first|((with_reducible refine Mt (f:=78) rfl ?_);refine goesL_ (some 11) rfl rfl Try.func78 (by kernel_rfl) rfl #[.pointer (some ⟨g,0,none⟩)] rfl (by(try simp only [List.map_toArray,List.map_cons,List.map_nil]);first|done|rfl|(simp only [List.length_drop,List.length_take];rfl)) ?_;(with_reducible refine(spec_l15DrawNames.calls k g s0_0 s0_1 s0_2 t288 t291 t294 t295 w0 _ ?side1 ?side2 A2.out).mono ?_);(case side1=>repeat(first|(with_reducible first|exact HI0.out|apply Mb|apply Md|apply Mc|apply Mf|apply Mg)|exact HI0.out));(case side2=>repeat(first|(with_reducible first|exact HB.out|apply Mn|apply Mj|apply Mo|refine Mr ?_ (Me HI0.out))|exact HB.out));rintro e w5 ⟨v289,v292,rfl,ho0,ho1,hi,hb,hk⟩;refine⟨_,rfl,?_⟩;have n0_:=Ma (Kd.R_lower ho0 (keep_size (w:=w) (g:=g) (row:=none) (by repeat(first|(with_reducible first|exact HK.out|apply Mk|apply Mq|apply Mi|apply Mp)|exact HK.out))));have n1_:=Ma (Kd.S_lower ho1 (keep_size (w:=w) (g:=g) (row:=none) (by repeat(first|(with_reducible first|exact HK.out|apply Mk|apply Mq|apply Mi|apply Mp)|exact HK.out))));have n2_:=Ma (Ms (by repeat(first|(with_reducible first|exact HK.out|apply Mk|apply Mq|apply Mi|apply Mp)|exact HK.out)) hk (.inl rfl));have n3_:=Ma (hb);have n4_:=Ma (hi);clear HK;clear HB;clear HI0;have HO290:=n0_;have HO293:=n1_;have HK:=n2_;have HB:=n3_;have HI0:=n4_;clear n0_ n1_ n2_ n3_ n4_;(try clear hb);(try clear hb2);(try clear hk);(try clear hi);(try clear ho0);(try clear ho1);obtain⟨Ao6,co6,eo6⟩:=Kd.R_slice HO290.out;subst eo6;obtain⟨Ao7,co7,eo7⟩:=Kd.S_slice HO293.out;subst eo7)|((with_reducible refine Mt (f:=51) rfl ?_);refine goesL_ (some 17) rfl rfl Try.func51 (by kernel_rfl) rfl #[.slice Ao6 t288.length co6,.slice Ao7 t291.length co7] rfl (by(try simp only [List.map_toArray,List.map_cons,List.map_nil]);first|done|rfl|(simp only [List.length_drop,List.length_take];rfl)) ?_;(with_reducible refine(spec_Pack.calls k _ _ t288 _ _ t291 t296 t297 _ ?side1 ?side2 ?side3 ?side4 A3.out).mono ?_);(case side1=>repeat(first|exact(Mw HO290.out).2.2|(with_reducible refine Kd.C_alloc ?_ _)|(with_reducible refine Kd.C_drewN ?_ _)|(with_reducible refine Kd.C_drew ?_)));(case side2=>exact(Mw HO290.out).2.1);(case side3=>repeat(first|exact(Kd.S_reads' HO293.out).2.2|(with_reducible refine Kd.C_alloc ?_ _)|(with_reducible refine Kd.C_drewN ?_ _)|(with_reducible refine Kd.C_drew ?_)));(case side4=>exact(Kd.S_reads' HO293.out).2.1);rintro e w8 ⟨v298,rfl,ho0,hb⟩;refine⟨_,rfl,?_⟩;have n0_:=Ma (Kd.R_below (by(with_reducible repeat(first|apply Ml|apply Mm|apply Mh));exact HO290.out) hb);have n1_:=Ma (Kd.S_below (by(with_reducible repeat(first|apply Kd.S_alloc|apply Kd.S_drewN|apply Kd.S_drew));exact HO293.out) hb);have n2_:=Ma (Kd.R_lower ho0 (keep_size (w:=w) (g:=g) (row:=none) (by repeat(first|(with_reducible first|exact HK.out|apply Mk|apply Mq|apply Mi|apply Mp)|exact HK.out))));have n3_:=Ma (IsS102.below (by repeat(first|(with_reducible first|exact HI0.out|apply Mb|apply Md|apply Mc|apply Mf|apply Mg)|exact HI0.out)) hb);have n4_:=Ma (Ms (by repeat(first|(with_reducible first|exact HK.out|apply Mk|apply Mq|apply Mi|apply Mp)|exact HK.out)) (KeepBut.of_below hb g none) (.inl rfl));have n5_:=Ma (below_step (by repeat(first|(with_reducible first|exact HB.out|apply Mn|apply Mj|apply Mo|refine Mr ?_ (Me HI0.out))|exact HB.out)) hb);clear HO290;clear HO293;clear HI0;clear HK;clear HB;have HO290:=n0_;have HO293:=n1_;have HO299:=n2_;have HI0:=n3_;have HK:=n4_;have HB:=n5_;clear n0_ n1_ n2_ n3_ n4_ n5_;(try clear hb);(try clear hb2);(try clear hk);(try clear hi);(try clear ho0)))
  (try simp only [Act.put,List.setIfInBounds_toArray,List.set_cons_zero,List.set_cons_succ])
  go_cut [26] (fun v26 wc=>∃ (kq:Nat) (x26_3:Bool) (x1001_3:Int) (x1002_3:Int),v26=.bool x26_3∧Aside0 (spec_l15DrawPack.j0 kq t296 x26_3 s0_0 x1001_3 x1002_3=some (r1,r2,r3))∧Aside0 (kq≤k)∧Aside0 (Kd.R k71 71 wc w.heap.size (fun _=>True) v298 t296)∧Aside0 (IsS102 w0 wc g s0_0 x1001_3 x1002_3)∧Aside0 (KeepBut w wc g none)∧Aside0 (Below w0.heap.size w0 wc))
  case first=>
    have H:=HC4.out
    clear HC4
    replace H:=Option.bind_eq_some_iff.mp H
    obtain⟨⟨t300,t301,t302⟩,A90,H⟩:=H
    replace H:(if t300=true then (spec_l15DrawPack.j0 k t296 (decide ((t296.length:Int) > 0)) s0_0 t301 t302) else (spec_l15DrawPack.j0 k t296 false s0_0 t301 t302))=some (r1,r2,r3):=H
    have A9:=Ma A90
    clear A90
    by_cases c10:t300=true
    · subst c10
      have H1:(spec_l15DrawPack.j0 k t296 (decide ((t296.length:Int) > 0)) s0_0 t301 t302)=some (r1,r2,r3):=by rw [if_pos rfl] at H;exact H
      clear H
      have H:=H1
      clear H1
      have H':=Ma H
      clear H
      go_wp2_with (first|((with_reducible refine Mt (f:=68) rfl ?_);refine goesL_ (some 21) rfl rfl Try.func68 (by kernel_rfl) rfl #[.pointer (some ⟨g,0,none⟩),.int .i64 14] rfl (by(try simp only [List.map_toArray,List.map_cons,List.map_nil]);first|done|rfl|(simp only [List.length_drop,List.length_take];rfl)) ?_;(with_reducible refine(spec_l1Once.calls g s0_0 t294 t295 14 true t301 t302 w0 _ ?side1 ?side2 A9.out).mono ?_);(case side1=>repeat(first|(with_reducible first|exact HI0.out|apply Mb|apply Md|apply Mc|apply Mf|apply Mg)|exact HI0.out));(case side2=>repeat(first|(with_reducible first|exact HB.out|apply Mn|apply Mj|apply Mo|refine Mr ?_ (Me HI0.out))|exact HB.out));rintro e w11 ⟨rfl,hi,hb,hk⟩;refine⟨_,rfl,?_⟩;have n0_:=Ma (Mu (Mv (IsS102.apart (show IsS102 w0 _ g s0_0 t294 t295 from by repeat(first|(with_reducible first|exact HI0.out|apply Mb|apply Md|apply Mc|apply Mf|apply Mg)|exact HI0.out)) (by(with_reducible repeat(first|apply Ml|apply Mm|apply Mh));exact HO290.out) (by decide)) hk (fun _ h=>h.2)) (fun _ h=>h.1));have n1_:=Ma (Kd.S_mono (Kd.S_keep (IsS102.apartS (show IsS102 w0 _ g s0_0 t294 t295 from by repeat(first|(with_reducible first|exact HI0.out|apply Mb|apply Md|apply Mc|apply Mf|apply Mg)|exact HI0.out)) (by(with_reducible repeat(first|apply Kd.S_alloc|apply Kd.S_drewN|apply Kd.S_drew));exact HO293.out) (by decide)) hk (fun _ h=>h.2)) (fun _ h=>h.1));have n2_:=Ma (Mu (Mv (IsS102.apart (show IsS102 w0 _ g s0_0 t294 t295 from by repeat(first|(with_reducible first|exact HI0.out|apply Mb|apply Md|apply Mc|apply Mf|apply Mg)|exact HI0.out)) (by(with_reducible repeat(first|apply Ml|apply Mm|apply Mh));exact HO299.out) (by decide)) hk (fun _ h=>h.2)) (fun _ h=>h.1));have n3_:=Ma (Ms (by repeat(first|(with_reducible first|exact HK.out|apply Mk|apply Mq|apply Mi|apply Mp)|exact HK.out)) hk (.inl rfl));have n4_:=Ma (hb);have n5_:=Ma (hi);clear HO290;clear HO293;clear HO299;clear HK;clear HB;clear HI0;have HO290:=n0_;have HO293:=n1_;have HO299:=n2_;have HK:=n3_;have HB:=n4_;have HI0:=n5_;clear n0_ n1_ n2_ n3_ n4_ n5_;(try clear hb);(try clear hb2);(try clear hk);(try clear hi);obtain⟨Ao12,co12,eo12⟩:=Kd.R_slice HO299.out;subst eo12))
      go_meet
      case rel=>exact⟨_,(decide ((t296.length:Int) > 0)),(t301),(t302),(by first|rfl|(simp;done)|(simp [*];done)),H',⟨by first|omega|exact Nat.le_refl _⟩,⟨by(with_reducible repeat(first|apply Ml|apply Mm|apply Mh));exact HO299.out⟩,⟨by repeat(first|(with_reducible first|exact HI0.out|apply Mb|apply Md|apply Mc|apply Mf|apply Mg)|exact HI0.out)⟩,⟨by repeat(first|(with_reducible first|exact HK.out|apply Mk|apply Mq|apply Mi|apply Mp)|exact HK.out)⟩,⟨by repeat(first|(with_reducible first|exact HB.out|apply Mn|apply Mj|apply Mo|refine Mr ?_ (Me HI0.out))|exact HB.out)⟩⟩
    · replace c10:=Bool.eq_false_iff.mpr c10
      subst c10
      have H1:(spec_l15DrawPack.j0 k t296 false s0_0 t301 t302)=some (r1,r2,r3):=by rw [if_neg (show ¬ (false=true) by decide)] at H;exact H
      clear H
      have H:=H1
      clear H1
      have H':=Ma H
      clear H
      go_wp2_with (first|((with_reducible refine Mt (f:=68) rfl ?_);refine goesL_ (some 21) rfl rfl Try.func68 (by kernel_rfl) rfl #[.pointer (some ⟨g,0,none⟩),.int .i64 14] rfl (by(try simp only [List.map_toArray,List.map_cons,List.map_nil]);first|done|rfl|(simp only [List.length_drop,List.length_take];rfl)) ?_;(with_reducible refine(spec_l1Once.calls g s0_0 t294 t295 14 false t301 t302 w0 _ ?side1 ?side2 A9.out).mono ?_);(case side1=>repeat(first|(with_reducible first|exact HI0.out|apply Mb|apply Md|apply Mc|apply Mf|apply Mg)|exact HI0.out));(case side2=>repeat(first|(with_reducible first|exact HB.out|apply Mn|apply Mj|apply Mo|refine Mr ?_ (Me HI0.out))|exact HB.out));rintro e w13 ⟨rfl,hi,hb,hk⟩;refine⟨_,rfl,?_⟩;have n0_:=Ma (Mu (Mv (IsS102.apart (show IsS102 w0 _ g s0_0 t294 t295 from by repeat(first|(with_reducible first|exact HI0.out|apply Mb|apply Md|apply Mc|apply Mf|apply Mg)|exact HI0.out)) (by(with_reducible repeat(first|apply Ml|apply Mm|apply Mh));exact HO290.out) (by decide)) hk (fun _ h=>h.2)) (fun _ h=>h.1));have n1_:=Ma (Kd.S_mono (Kd.S_keep (IsS102.apartS (show IsS102 w0 _ g s0_0 t294 t295 from by repeat(first|(with_reducible first|exact HI0.out|apply Mb|apply Md|apply Mc|apply Mf|apply Mg)|exact HI0.out)) (by(with_reducible repeat(first|apply Kd.S_alloc|apply Kd.S_drewN|apply Kd.S_drew));exact HO293.out) (by decide)) hk (fun _ h=>h.2)) (fun _ h=>h.1));have n2_:=Ma (Mu (Mv (IsS102.apart (show IsS102 w0 _ g s0_0 t294 t295 from by repeat(first|(with_reducible first|exact HI0.out|apply Mb|apply Md|apply Mc|apply Mf|apply Mg)|exact HI0.out)) (by(with_reducible repeat(first|apply Ml|apply Mm|apply Mh));exact HO299.out) (by decide)) hk (fun _ h=>h.2)) (fun _ h=>h.1));have n3_:=Ma (Ms (by repeat(first|(with_reducible first|exact HK.out|apply Mk|apply Mq|apply Mi|apply Mp)|exact HK.out)) hk (.inl rfl));have n4_:=Ma (hb);have n5_:=Ma (hi);clear HO290;clear HO293;clear HO299;clear HK;clear HB;clear HI0;have HO290:=n0_;have HO293:=n1_;have HO299:=n2_;have HK:=n3_;have HB:=n4_;have HI0:=n5_;clear n0_ n1_ n2_ n3_ n4_ n5_;(try clear hb);(try clear hb2);(try clear hk);(try clear hi)))
      go_meet
      case rel=>exact⟨_,(false),(t301),(t302),(by first|rfl|(simp;done)|(simp [*];done)),H',⟨by first|omega|exact Nat.le_refl _⟩,⟨by(with_reducible repeat(first|apply Ml|apply Mm|apply Mh));exact HO299.out⟩,⟨by repeat(first|(with_reducible first|exact HI0.out|apply Mb|apply Md|apply Mc|apply Mf|apply Mg)|exact HI0.out)⟩,⟨by repeat(first|(with_reducible first|exact HK.out|apply Mk|apply Mq|apply Mi|apply Mp)|exact HK.out)⟩,⟨by repeat(first|(with_reducible first|exact HB.out|apply Mn|apply Mj|apply Mo|refine Mr ?_ (Me HI0.out))|exact HB.out)⟩⟩
  case rest=>
    clear HC4
    try clear c1
    try clear p2
    try clear c5
    try clear c6
    try clear c7
    try clear c10
    obtain⟨kq,x26_3,x1001_3,x1002_3,rfl,HA,HJ3,HO_5,HI0,HK,HB⟩:=hcut
    cases kq with
    | zero => exact absurd HA.out (by simp [spec_l15DrawPack.j0])
    | succ kj3 =>
      have H:=HA.out
      clear HA
      simp only [spec_l15DrawPack.j0] at H
      have HC14:=Ma H
      clear H
      go_upto_if 26 with (fail)
      go_cut [5] (fun v5 wc=>∃ (kq:Nat) (x5_13:List (S71)) (x1001_13:Int) (x1002_13:Int),Aside0 (spec_l15DrawPack.j1 kq x5_13 s0_0 x1001_13 x1002_13=some (r1,r2,r3))∧Aside0 (kq≤kj3)∧Aside0 (Kd.R k71 71 wc w.heap.size (fun _=>True) v5 x5_13)∧Aside0 (IsS102 w0 wc g s0_0 x1001_13 x1002_13)∧Aside0 (KeepBut w wc g none)∧Aside0 (Below w0.heap.size w0 wc))
      case first=>
        have H:=HC14.out
        clear HC14
        by_cases c15:x26_3=true
        · subst c15
          have H1:((spec_l1Below.f s0_0 x1001_3 x1002_3 (t296.length:Int)).bind fun bt303=>(if 0≤bt303.1 then (if bt303.1 < (t296.length:Int) then ((spec_l1Below.f s0_0 bt303.2.1 bt303.2.2 4).bind fun bt307=>(if bt307.1=0 then ((some (([(⟨#[]⟩:ByteArray),(⟨#[97,32,98]⟩:ByteArray),(⟨#[114,101,101,108]⟩:ByteArray),(⟨#[122,122]⟩:ByteArray),(⟨#[48,49,50,51,52,53,54,55,56,57,48,49,50,51,52,53,54,55,56,57,48,49,50,51,52,53,54,55,56,57,48,49,50,51,52,53,54,55,56,57,48]⟩:ByteArray)]:List ByteArray):List ByteArray)).bind fun y310=>((spec_l1Below.f s0_0 bt307.2.1 bt307.2.2 5).bind fun bt313=>(if 0≤bt313.1 then (if bt313.1 < (y310.length:Int) then (spec_l15DrawPack.j1 kj3 (t296.set (bt303.1:Int).toNat (⟨rdOf ByteArray.empty y310 bt313.1,(rd_T71 t296 bt303.1).f1,(rd_T71 t296 bt303.1).f2⟩:S71)) s0_0 bt313.2.1 bt313.2.2) else (none)) else (none)))) else (if bt307.1=1 then ((some (([(-1),40000,40001]:List Int):List Int)).bind fun y318=>((spec_l1Below.f s0_0 bt307.2.1 bt307.2.2 3).bind fun bt321=>(if 0≤bt321.1 then (if bt321.1 < (y318.length:Int) then (spec_l15DrawPack.j1 kj3 (t296.set (bt303.1:Int).toNat (⟨(rd_T71 t296 bt303.1).f0,rd y318 bt321.1,(rd_T71 t296 bt303.1).f2⟩:S71)) s0_0 bt321.2.1 bt321.2.2) else (none)) else (none)))) else (if bt307.1=2 then ((some (([(-1),1000000006,1000000007,5]:List Int):List Int)).bind fun y326=>((spec_l1Below.f s0_0 bt307.2.1 bt307.2.2 4).bind fun bt329=>(if 0≤bt329.1 then (if bt329.1 < (y326.length:Int) then (spec_l15DrawPack.j1 kj3 (t296.set (bt303.1:Int).toNat (⟨(rd_T71 t296 bt303.1).f0,(rd_T71 t296 bt303.1).f1,rd y326 bt329.1⟩:S71)) s0_0 bt329.2.1 bt329.2.2) else (none)) else (none)))) else (if bt307.1=3 then (if t296.length < 4398046511104 then (spec_l15DrawPack.j1 kj3 (t296 ++ [(⟨(rd_T71 t296 bt303.1).f0,(rd_T71 t296 bt303.1).f1,(rd_T71 t296 bt303.1).f2⟩:S71)]) s0_0 bt307.2.1 bt307.2.2) else (none)) else (spec_l15DrawPack.j1 kj3 t296 s0_0 bt307.2.1 bt307.2.2)))))) else (none)) else (none)))=some (r1,r2,r3):=by rw [if_pos rfl] at H;exact H
          clear H
          have H:=H1
          clear H1
          replace H:=Option.bind_eq_some_iff.mp H
          obtain⟨⟨t303,t304,t305⟩,A160,H⟩:=H
          replace H:(if 0≤t303 then (if t303 < (t296.length:Int) then ((spec_l1Below.f s0_0 t304 t305 4).bind fun bt307=>(if bt307.1=0 then ((some (([(⟨#[]⟩:ByteArray),(⟨#[97,32,98]⟩:ByteArray),(⟨#[114,101,101,108]⟩:ByteArray),(⟨#[122,122]⟩:ByteArray),(⟨#[48,49,50,51,52,53,54,55,56,57,48,49,50,51,52,53,54,55,56,57,48,49,50,51,52,53,54,55,56,57,48,49,50,51,52,53,54,55,56,57,48]⟩:ByteArray)]:List ByteArray):List ByteArray)).bind fun y310=>((spec_l1Below.f s0_0 bt307.2.1 bt307.2.2 5).bind fun bt313=>(if 0≤bt313.1 then (if bt313.1 < (y310.length:Int) then (spec_l15DrawPack.j1 kj3 (t296.set (t303:Int).toNat (⟨rdOf ByteArray.empty y310 bt313.1,(rd_T71 t296 t303).f1,(rd_T71 t296 t303).f2⟩:S71)) s0_0 bt313.2.1 bt313.2.2) else (none)) else (none)))) else (if bt307.1=1 then ((some (([(-1),40000,40001]:List Int):List Int)).bind fun y318=>((spec_l1Below.f s0_0 bt307.2.1 bt307.2.2 3).bind fun bt321=>(if 0≤bt321.1 then (if bt321.1 < (y318.length:Int) then (spec_l15DrawPack.j1 kj3 (t296.set (t303:Int).toNat (⟨(rd_T71 t296 t303).f0,rd y318 bt321.1,(rd_T71 t296 t303).f2⟩:S71)) s0_0 bt321.2.1 bt321.2.2) else (none)) else (none)))) else (if bt307.1=2 then ((some (([(-1),1000000006,1000000007,5]:List Int):List Int)).bind fun y326=>((spec_l1Below.f s0_0 bt307.2.1 bt307.2.2 4).bind fun bt329=>(if 0≤bt329.1 then (if bt329.1 < (y326.length:Int) then (spec_l15DrawPack.j1 kj3 (t296.set (t303:Int).toNat (⟨(rd_T71 t296 t303).f0,(rd_T71 t296 t303).f1,rd y326 bt329.1⟩:S71)) s0_0 bt329.2.1 bt329.2.2) else (none)) else (none)))) else (if bt307.1=3 then (if t296.length < 4398046511104 then (spec_l15DrawPack.j1 kj3 (t296 ++ [(⟨(rd_T71 t296 t303).f0,(rd_T71 t296 t303).f1,(rd_T71 t296 t303).f2⟩:S71)]) s0_0 bt307.2.1 bt307.2.2) else (none)) else (spec_l15DrawPack.j1 kj3 t296 s0_0 bt307.2.1 bt307.2.2)))))) else (none)) else (none))=some (r1,r2,r3):=H
          have A16:=Ma A160
          clear A160
          by_cases c17:0≤t303
          · rw [if_pos c17] at H
            have c17b0:decide (0≤t303)=true:=decide_eq_true c17
            clear c17
            (first|rw [c17b0]|(simp only [i64_w,i32_w];rw [c17b0])|skip)
            by_cases c18:t303 < (t296.length:Int)
            · rw [if_pos c18] at H
              have c18b0:decide (t303 < (t296.length:Int))=true:=decide_eq_true c18
              clear c18
              replace H:=Option.bind_eq_some_iff.mp H
              obtain⟨⟨t307,t308,t309⟩,A190,H⟩:=H
              replace H:(if t307=0 then ((some (([(⟨#[]⟩:ByteArray),(⟨#[97,32,98]⟩:ByteArray),(⟨#[114,101,101,108]⟩:ByteArray),(⟨#[122,122]⟩:ByteArray),(⟨#[48,49,50,51,52,53,54,55,56,57,48,49,50,51,52,53,54,55,56,57,48,49,50,51,52,53,54,55,56,57,48,49,50,51,52,53,54,55,56,57,48]⟩:ByteArray)]:List ByteArray):List ByteArray)).bind fun y310=>((spec_l1Below.f s0_0 t308 t309 5).bind fun bt313=>(if 0≤bt313.1 then (if bt313.1 < (y310.length:Int) then (spec_l15DrawPack.j1 kj3 (t296.set (t303:Int).toNat (⟨rdOf ByteArray.empty y310 bt313.1,(rd_T71 t296 t303).f1,(rd_T71 t296 t303).f2⟩:S71)) s0_0 bt313.2.1 bt313.2.2) else (none)) else (none)))) else (if t307=1 then ((some (([(-1),40000,40001]:List Int):List Int)).bind fun y318=>((spec_l1Below.f s0_0 t308 t309 3).bind fun bt321=>(if 0≤bt321.1 then (if bt321.1 < (y318.length:Int) then (spec_l15DrawPack.j1 kj3 (t296.set (t303:Int).toNat (⟨(rd_T71 t296 t303).f0,rd y318 bt321.1,(rd_T71 t296 t303).f2⟩:S71)) s0_0 bt321.2.1 bt321.2.2) else (none)) else (none)))) else (if t307=2 then ((some (([(-1),1000000006,1000000007,5]:List Int):List Int)).bind fun y326=>((spec_l1Below.f s0_0 t308 t309 4).bind fun bt329=>(if 0≤bt329.1 then (if bt329.1 < (y326.length:Int) then (spec_l15DrawPack.j1 kj3 (t296.set (t303:Int).toNat (⟨(rd_T71 t296 t303).f0,(rd_T71 t296 t303).f1,rd y326 bt329.1⟩:S71)) s0_0 bt329.2.1 bt329.2.2) else (none)) else (none)))) else (if t307=3 then (if t296.length < 4398046511104 then (spec_l15DrawPack.j1 kj3 (t296 ++ [(⟨(rd_T71 t296 t303).f0,(rd_T71 t296 t303).f1,(rd_T71 t296 t303).f2⟩:S71)]) s0_0 t308 t309) else (none)) else (spec_l15DrawPack.j1 kj3 t296 s0_0 t308 t309)))))=some (r1,r2,r3):=H
              have A19:=Ma A190
              clear A190
              by_cases c20:t307=0
              · rw [if_pos c20] at H
                have c20b0:(t307 == 0)=true:=beq_iff_eq.mpr c20
                have c20b1:(t307 != 0)=false:=bne_eq_false_iff_eq.mpr c20
                clear c20
                obtain⟨y310,hy310⟩:∃ y_:List ByteArray,y_=(([(⟨#[]⟩:ByteArray),(⟨#[97,32,98]⟩:ByteArray),(⟨#[114,101,101,108]⟩:ByteArray),(⟨#[122,122]⟩:ByteArray),(⟨#[48,49,50,51,52,53,54,55,56,57,48,49,50,51,52,53,54,55,56,57,48,49,50,51,52,53,54,55,56,57,48,49,50,51,52,53,54,55,56,57,48]⟩:ByteArray)]:List ByteArray)):=⟨_,rfl⟩
                replace H:((spec_l1Below.f s0_0 t308 t309 5).bind fun bt313=>(if 0≤bt313.1 then (if bt313.1 < (y310.length:Int) then (spec_l15DrawPack.j1 kj3 (t296.set (t303:Int).toNat (⟨rdOf ByteArray.empty y310 bt313.1,(rd_T71 t296 t303).f1,(rd_T71 t296 t303).f2⟩:S71)) s0_0 bt313.2.1 bt313.2.2) else (none)) else (none)))=some (r1,r2,r3):=by first|(rw [hy310];with_reducible exact H)|(have H2_:=(Option.bind_some _ _).symm.trans H;rw [hy310];with_reducible exact H2_)|(have H2_:=(Option.bind_some _ _).symm.trans H;with_reducible exact H2_)|with_reducible exact H|(rw [hy310];exact H)|exact H
                have Ny310:=Ma hy310
                clear hy310
                replace H:=Option.bind_eq_some_iff.mp H
                obtain⟨⟨t313,t314,t315⟩,A210,H⟩:=H
                replace H:(if 0≤t313 then (if t313 < (y310.length:Int) then (spec_l15DrawPack.j1 kj3 (t296.set (t303:Int).toNat (⟨rdOf ByteArray.empty y310 t313,(rd_T71 t296 t303).f1,(rd_T71 t296 t303).f2⟩:S71)) s0_0 t314 t315) else (none)) else (none))=some (r1,r2,r3):=H
                have A21:=Ma A210
                clear A210
                by_cases c22:0≤t313
                · rw [if_pos c22] at H
                  have c22b0:decide (0≤t313)=true:=decide_eq_true c22
                  clear c22
                  by_cases c23:t313 < (y310.length:Int)
                  · rw [if_pos c23] at H
                    have c23b0:decide (t313 < (y310.length:Int))=true:=decide_eq_true c23
                    clear c23
                    obtain⟨y317,hy317⟩:∃ y_:List (S71),y_=(t296.set (t303:Int).toNat (⟨rdOf ByteArray.empty y310 t313,(rd_T71 t296 t303).f1,(rd_T71 t296 t303).f2⟩:S71)):=⟨_,rfl⟩
                    replace H:(spec_l15DrawPack.j1 kj3 y317 s0_0 t314 t315)=some (r1,r2,r3):=by first|(rw [hy317];with_reducible exact H)|(have H2_:=(Option.bind_some _ _).symm.trans H;rw [hy317];with_reducible exact H2_)|(have H2_:=(Option.bind_some _ _).symm.trans H;with_reducible exact H2_)|with_reducible exact H|(rw [hy317];exact H)|exact H
                    have Ny317:=Ma hy317
                    clear hy317
                    have H':=Ma H
                    clear H
                    obtain⟨Ao25,co25,eo25⟩:=Kd.R_slice HO_5.out
                    subst eo25
                    go_wp2_with (first|((with_reducible refine Mt (f:=65) rfl ?_);refine goesL_ (some 31) rfl rfl Try.func65 (by kernel_rfl) rfl #[.pointer (some ⟨g,0,none⟩),.int .i64 (t296.length:Int)] rfl (by(try simp only [List.map_toArray,List.map_cons,List.map_nil]);first|done|rfl|(simp only [List.length_drop,List.length_take];rfl)) ?_;(with_reducible refine(spec_l1Below.calls g s0_0 x1001_3 x1002_3 (t296.length:Int) t303 t304 t305 w0 _ ?side1 ?side2 A16.out).mono ?_);(case side1=>repeat(first|(with_reducible first|exact HI0.out|apply Mb|apply Md|apply Mc|apply Mf|apply Mg)|exact HI0.out));(case side2=>repeat(first|(with_reducible first|exact HB.out|apply Mn|apply Mj|apply Mo|refine Mr ?_ (Me HI0.out))|exact HB.out));rintro e w26 ⟨rfl,hi,hb,hk⟩;refine⟨_,rfl,?_⟩;have n0_:=Ma (Mu (Mv (IsS102.apart (show IsS102 w0 _ g s0_0 x1001_3 x1002_3 from by repeat(first|(with_reducible first|exact HI0.out|apply Mb|apply Md|apply Mc|apply Mf|apply Mg)|exact HI0.out)) (by(with_reducible repeat(first|apply Ml|apply Mm|apply Mh));exact HO_5.out) (by decide)) hk (fun _ h=>h.2)) (fun _ h=>h.1));have n1_:=Ma (Ms (by repeat(first|(with_reducible first|exact HK.out|apply Mk|apply Mq|apply Mi|apply Mp)|exact HK.out)) hk (.inl rfl));have n2_:=Ma (hb);have n3_:=Ma (hi);clear HO_5;clear HK;clear HB;clear HI0;have HO_5:=n0_;have HK:=n1_;have HB:=n2_;have HI0:=n3_;clear n0_ n1_ n2_ n3_;(try clear hb);(try clear hb2);(try clear hk);(try clear hi);have p306:0≤(t303:Int):=of_decide_eq_true (by first|(with_reducible assumption)|assumption);have q306:t303 < (t296.length:Int):=of_decide_eq_true (by first|(with_reducible assumption)|assumption);obtain⟨ad306,e306,hx306_0,hx306_1,hx306_2⟩:=at_T71 (Mw HO_5.out).2.2 t303 p306 q306;cases e306;replace p306:=eq_true p306;replace q306:=eq_true q306)|((with_reducible refine Mt (f:=65) rfl ?_);refine goesL_ (some 34) rfl rfl Try.func65 (by kernel_rfl) rfl #[.pointer (some ⟨g,0,none⟩),.int .i64 4] rfl (by(try simp only [List.map_toArray,List.map_cons,List.map_nil]);first|done|rfl|(simp only [List.length_drop,List.length_take];rfl)) ?_;(with_reducible refine(spec_l1Below.calls g s0_0 t304 t305 4 t307 t308 t309 w0 _ ?side1 ?side2 A19.out).mono ?_);(case side1=>repeat(first|(with_reducible first|exact HI0.out|apply Mb|apply Md|apply Mc|apply Mf|apply Mg)|exact HI0.out));(case side2=>repeat(first|(with_reducible first|exact HB.out|apply Mn|apply Mj|apply Mo|refine Mr ?_ (Me HI0.out))|exact HB.out));rintro e w27 ⟨rfl,hi,hb,hk⟩;refine⟨_,rfl,?_⟩;have n0_:=Ma (Mu (Mv (IsS102.apart (show IsS102 w0 _ g s0_0 t304 t305 from by repeat(first|(with_reducible first|exact HI0.out|apply Mb|apply Md|apply Mc|apply Mf|apply Mg)|exact HI0.out)) (by(with_reducible repeat(first|apply Ml|apply Mm|apply Mh));exact HO_5.out) (by decide)) hk (fun _ h=>h.2)) (fun _ h=>h.1));have n1_:=Ma (Ms (by repeat(first|(with_reducible first|exact HK.out|apply Mk|apply Mq|apply Mi|apply Mp)|exact HK.out)) hk (.inl rfl));have n2_:=Ma (hb);have n3_:=Ma (hi);clear HO_5;clear HK;clear HB;clear HI0;have HO_5:=n0_;have HK:=n1_;have HB:=n2_;have HI0:=n3_;clear n0_ n1_ n2_ n3_;(try clear hb);(try clear hb2);(try clear hk);(try clear hi))|((with_reducible refine gate_dst (N:=38) rfl ?_);(try(refine gate_guard (by rfl) ?_;dsimp only));refine Kd.R_lit Kd.string _ 9 ?hg (N:=38) ?hd (xs:=([(⟨#[]⟩:ByteArray),(⟨#[97,32,98]⟩:ByteArray),(⟨#[114,101,101,108]⟩:ByteArray),(⟨#[122,122]⟩:ByteArray),(⟨#[48,49,50,51,52,53,54,55,56,57,48,49,50,51,52,53,54,55,56,57,48,49,50,51,52,53,54,55,56,57,48,49,50,51,52,53,54,55,56,57,48]⟩:ByteArray)]:List ByteArray)) (inner:=[.string (⟨#[]⟩:ByteArray),.string (⟨#[97,32,98]⟩:ByteArray),.string (⟨#[114,101,101,108]⟩:ByteArray),.string (⟨#[122,122]⟩:ByteArray),.string (⟨#[48,49,50,51,52,53,54,55,56,57,48,49,50,51,52,53,54,55,56,57,48,49,50,51,52,53,54,55,56,57,48,49,50,51,52,53,54,55,56,57,48]⟩:ByteArray)]) (ok:=fun _=>True) (okp:=fun _=>True) ?hr ?hp (fun _ hk=>hk) trivial (Below.refl _ _) (Nat.le_refl _) (by simp) ?_;(case hd=>rfl);(case hg=>rfl);(case hr=>first|(go_simp;done)|(go_simp;rfl));(case hp=>exact(Reps.one (show Kd.M Kd.string _ _ _ (⟨#[]⟩:ByteArray) [.string (⟨#[]⟩:ByteArray)] from rfl) (Reps.one (show Kd.M Kd.string _ _ _ (⟨#[97,32,98]⟩:ByteArray) [.string (⟨#[97,32,98]⟩:ByteArray)] from rfl) (Reps.one (show Kd.M Kd.string _ _ _ (⟨#[114,101,101,108]⟩:ByteArray) [.string (⟨#[114,101,101,108]⟩:ByteArray)] from rfl) (Reps.one (show Kd.M Kd.string _ _ _ (⟨#[122,122]⟩:ByteArray) [.string (⟨#[122,122]⟩:ByteArray)] from rfl) (Reps.one (show Kd.M Kd.string _ _ _ (⟨#[48,49,50,51,52,53,54,55,56,57,48,49,50,51,52,53,54,55,56,57,48,49,50,51,52,53,54,55,56,57,48,49,50,51,52,53,54,55,56,57,48]⟩:ByteArray) [.string (⟨#[48,49,50,51,52,53,54,55,56,57,48,49,50,51,52,53,54,55,56,57,48,49,50,51,52,53,54,55,56,57,48,49,50,51,52,53,54,55,56,57,48]⟩:ByteArray)] from rfl) (Reps.none _ _)))))));intro v311 w28 ho29 hb hg_ hnew_;clear hg_ hnew_;(first|rw [← Ny310.out] at ho29|(simp only [Int.reduceToNat] at ho29;rw [← Ny310.out] at ho29));have n0_:=Ma (Kd.R_below (by(with_reducible repeat(first|apply Ml|apply Mm|apply Mh));exact HO_5.out) hb);have n1_:=Ma (Kd.R_lower ho29 (keep_size (w:=w) (g:=g) (row:=none) (by repeat(first|(with_reducible first|exact HK.out|apply Mk|apply Mq|apply Mi|apply Mp)|exact HK.out))));have n2_:=Ma (IsS102.below (by repeat(first|(with_reducible first|exact HI0.out|apply Mb|apply Md|apply Mc|apply Mf|apply Mg)|exact HI0.out)) hb);have n3_:=Ma (Ms (by repeat(first|(with_reducible first|exact HK.out|apply Mk|apply Mq|apply Mi|apply Mp)|exact HK.out)) (KeepBut.of_below hb g none) (.inl rfl));have n4_:=Ma (below_step (by repeat(first|(with_reducible first|exact HB.out|apply Mn|apply Mj|apply Mo|refine Mr ?_ (Me HI0.out))|exact HB.out)) hb);clear HO_5;clear HI0;clear HK;clear HB;have HO_5:=n0_;have HO312:=n1_;have HI0:=n2_;have HK:=n3_;have HB:=n4_;clear n0_ n1_ n2_ n3_ n4_;clear hb ho29)|((with_reducible refine Mt (f:=65) rfl ?_);refine goesL_ (some 40) rfl rfl Try.func65 (by kernel_rfl) rfl #[.pointer (some ⟨g,0,none⟩),.int .i64 5] rfl (by(try simp only [List.map_toArray,List.map_cons,List.map_nil]);first|done|rfl|(simp only [List.length_drop,List.length_take];rfl)) ?_;(with_reducible refine(spec_l1Below.calls g s0_0 t308 t309 5 t313 t314 t315 w0 _ ?side1 ?side2 A21.out).mono ?_);(case side1=>repeat(first|(with_reducible first|exact HI0.out|apply Mb|apply Md|apply Mc|apply Mf|apply Mg)|exact HI0.out));(case side2=>repeat(first|(with_reducible first|exact HB.out|apply Mn|apply Mj|apply Mo|refine Mr ?_ (Me HI0.out))|exact HB.out));rintro e w30 ⟨rfl,hi,hb,hk⟩;refine⟨_,rfl,?_⟩;have n0_:=Ma (Mu (Mv (IsS102.apart (show IsS102 w0 _ g s0_0 t308 t309 from by repeat(first|(with_reducible first|exact HI0.out|apply Mb|apply Md|apply Mc|apply Mf|apply Mg)|exact HI0.out)) (by(with_reducible repeat(first|apply Ml|apply Mm|apply Mh));exact HO_5.out) (by decide)) hk (fun _ h=>h.2)) (fun _ h=>h.1));have n1_:=Ma (Mu (Mv (IsS102.apart (show IsS102 w0 _ g s0_0 t308 t309 from by repeat(first|(with_reducible first|exact HI0.out|apply Mb|apply Md|apply Mc|apply Mf|apply Mg)|exact HI0.out)) (by(with_reducible repeat(first|apply Ml|apply Mm|apply Mh));exact HO312.out) (by decide)) hk (fun _ h=>h.2)) (fun _ h=>h.1));have n2_:=Ma (Ms (by repeat(first|(with_reducible first|exact HK.out|apply Mk|apply Mq|apply Mi|apply Mp)|exact HK.out)) hk (.inl rfl));have n3_:=Ma (hb);have n4_:=Ma (hi);clear HO_5;clear HO312;clear HK;clear HB;clear HI0;have HO_5:=n0_;have HO312:=n1_;have HK:=n2_;have HB:=n3_;have HI0:=n4_;clear n0_ n1_ n2_ n3_ n4_;(try clear hb);(try clear hb2);(try clear hk);(try clear hi);obtain⟨Ao31,co31,eo31⟩:=Kd.R_slice HO312.out;subst eo31;have p316:0≤(t313:Int):=of_decide_eq_true (by first|(with_reducible assumption)|assumption);have q316:t313 < (y310.length:Int):=of_decide_eq_true (by first|(with_reducible assumption)|assumption);obtain⟨ad316,e316,hx316_0⟩:=Kd.at_string (Mw HO312.out).2.2 t313 p316 q316;cases e316;replace p316:=eq_true p316;replace q316:=eq_true q316;have p24:0≤(t303:Int):=of_decide_eq_true (by first|(with_reducible assumption)|assumption);have q24:(t303:Int) < ((t296.length:Int):Int):=of_decide_eq_true (by first|(with_reducible assumption)|assumption);obtain⟨go24,co24,eo24,gb24,gl24,cl24,HG24⟩:=Kd.R_form HO_5.out (by omega);(first|cases eo24|(injection eo24 with ea_ en_ ec_;(first|subst ea_|(injection ea_ with ea_;subst ea_));subst ec_;clear en_));have GB24:=Ma gb24;have GG24:=Ma HG24;clear gb24 gl24 HG24;(first|simp only [add_plain] at hx306_0|skip);(first|simp only [add_plain] at hx306_1|skip);(first|simp only [add_plain] at hx306_2|skip);obtain⟨ce24,hcl24,hM24,hcc24,hfr24⟩:=Kd.R_elem HO_5.out z71 (t303:Int) p24 q24;obtain rfl:=k71_openM hM24;have hx24_0:w30.cell? ⟨go24,(t303:Int).toNat*3,none⟩=some (.string ((rd_T71 t296 t303).f0)):=hcc24 0 _ rfl;have hx24_1:w30.cell? ⟨go24,(t303:Int).toNat*3+1,none⟩=some (.int .i64 ((rd_T71 t296 t303).f1)):=hcc24 1 _ rfl;have hx24_2:w30.cell? ⟨go24,(t303:Int).toNat*3+2,none⟩=some (.int .i64 ((rd_T71 t296 t303).f2)):=hcc24 2 _ rfl;have hf24_0:w30.frozen? ⟨go24,(t303:Int).toNat*3,none⟩=false:=hfr24 0;have hf24_1:w30.frozen? ⟨go24,(t303:Int).toNat*3+1,none⟩=false:=hfr24 1;have hf24_2:w30.frozen? ⟨go24,(t303:Int).toNat*3+2,none⟩=false:=hfr24 2;clear hcl24 hcc24 hfr24 hM24;replace p24:=eq_true p24;replace q24:=eq_true q24;have HX32:=Ma (show Kd.R k71 71 w30 w.heap.size (fun _=>True) (.slice (some ⟨go24,0,none⟩) t296.length co25) t296 from(by(with_reducible repeat(first|apply Ml|apply Mm|apply Mh));exact HO_5.out));obtain⟨ce32,hcl32,hM32,hcc32,hfr32⟩:=Kd.R_elem HX32.out z71 (t303:Int) (of_decide_eq_true (by first|(with_reducible assumption)|assumption)) (by have h_:(t303:Int) < ((t296.length:Int):Int):=of_decide_eq_true (by first|(with_reducible assumption)|assumption);first|exact h_|(have e_:=(Mw HO_5.out).1;omega)|simpa using h_);obtain rfl:=k71_openM hM32;have HP32:=Kd.R_seg HX32.out (t303:Int) (of_decide_eq_true (by first|(with_reducible assumption)|assumption)) (by have h_:(t303:Int) < ((t296.length:Int):Int):=of_decide_eq_true (by first|(with_reducible assumption)|assumption);first|exact h_|(have e_:=(Mw HO_5.out).1;omega)|simpa using h_) (seg:=[.string (rdOf ByteArray.empty y310 t313)]) (j:=0) hcl32 hcc32 (show 1≤3 from by decide) (x':=(⟨rdOf ByteArray.empty y310 t313,(rd_T71 t296 t303).f1,(rd_T71 t296 t303).f2⟩:S71)) (k71_mkM _ _ _ (⟨rdOf ByteArray.empty y310 t313,(rd_T71 t296 t303).f1,(rd_T71 t296 t303).f2⟩:S71) ) (fun _ hk=>hk);have hx32_0:=hcc32 0 _ rfl;(try simp only [show(k71).sz=3 from rfl,Nat.mul_one,Nat.add_zero] at hx32_0);have hf32_0:=hfr32 0;(try simp only [show(k71).sz=3 from rfl,Nat.mul_one,Nat.add_zero] at hf32_0);clear hcl32 hcc32 hfr32 hM32)|((with_reducible refine gate_store (t:=9) (p:=44) rfl ?_);refine store_event (t:=9) (p:=44) (v:=?vo_w33) (w1:=(w30.setCell ⟨go24,(t303:Int).toNat*3,none⟩ (.string (rdOf ByteArray.empty y310 t313)))) ?hg ?ho ?hn ?hr ?_;(case ho=>rfl);(case hg=>rfl);(case hn=>rfl);(case hr=>first|(go_simp;done)|(go_simp;rfl));intro w33 hw;have hg:w30.grownBy w33 (some go24):=(by rw [hw];exact HP32.2);have hp_:Kd.R k71 71 w33 w.heap.size (fun _=>True) (.slice (some ⟨go24,0,none⟩) t296.length co25) y317:=(by rw [hw,Ny317.out];exact HP32.1);clear HP32;have n0_:=Ma (hp_);have n1_:=Ma (IsS102.grown (by repeat(first|(with_reducible first|exact HI0.out|apply Mb|apply Md|apply Mc|apply Mf|apply Mg)|exact HI0.out)) hg (IsS102.own_ne HI0.out HO_5.out (by decide)));have n2_:=Ma (Kd.R_over' (v:=(.slice (some ⟨go24,0,none⟩) t296.length co25)) (by(with_reducible repeat(first|apply Ml|apply Mm|apply Mh));exact HO312.out) (Kd.R_typed HO_5.out) (by decide) hg);have n3_:=Ma ((by rw [hw];exact Mr (HB.out) (Nat.le_trans HL.out GB24.out):Below w0.heap.size w0 w33));have n4_:=Ma (Ms (by repeat(first|(with_reducible first|exact HK.out|apply Mk|apply Mq|apply Mi|apply Mp)|exact HK.out)) (KeepBut.of_grown hg g) (Kd.R_base2 HO_5.out));clear HO_5;clear HI0;clear HO312;clear HB;clear HK;have HO_5:=n0_;have HI0:=n1_;have HO312:=n2_;have HB:=n3_;have HK:=n4_;clear n0_ n1_ n2_ n3_ n4_;clear hg hw hp_))
                    go_meet
                    case rel=>exact⟨_,(y317),(t314),(t315),H',⟨by have:=HJ3.out;first|omega|exact Nat.le_refl _⟩,⟨by(with_reducible repeat(first|apply Ml|apply Mm|apply Mh));exact HO_5.out⟩,⟨by repeat(first|(with_reducible first|exact HI0.out|apply Mb|apply Md|apply Mc|apply Mf|apply Mg)|exact HI0.out)⟩,⟨by repeat(first|(with_reducible first|exact HK.out|apply Mk|apply Mq|apply Mi|apply Mp)|exact HK.out)⟩,⟨by repeat(first|(with_reducible first|exact HB.out|apply Mn|apply Mj|apply Mo|refine Mr ?_ (Me HI0.out))|exact HB.out)⟩⟩
                  · rw [if_neg c23] at H
                    exact absurd H (by simp)
                · rw [if_neg c22] at H
                  exact absurd H (by simp)
              · rw [if_neg c20] at H
                have c20b0:(t307 == 0)=false:=beq_eq_false_iff_ne.mpr c20
                have c20b1:(t307 != 0)=true:=bne_iff_ne.mpr c20
                by_cases c34:t307=1
                · rw [if_pos c34] at H
                  have c34b0:(t307 == 1)=true:=beq_iff_eq.mpr c34
                  have c34b1:(t307 != 1)=false:=bne_eq_false_iff_eq.mpr c34
                  clear c34
                  obtain⟨y318,hy318⟩:∃ y_:List Int,y_=(([(-1),40000,40001]:List Int)):=⟨_,rfl⟩
                  replace H:((spec_l1Below.f s0_0 t308 t309 3).bind fun bt321=>(if 0≤bt321.1 then (if bt321.1 < (y318.length:Int) then (spec_l15DrawPack.j1 kj3 (t296.set (t303:Int).toNat (⟨(rd_T71 t296 t303).f0,rd y318 bt321.1,(rd_T71 t296 t303).f2⟩:S71)) s0_0 bt321.2.1 bt321.2.2) else (none)) else (none)))=some (r1,r2,r3):=by first|(rw [hy318];with_reducible exact H)|(have H2_:=(Option.bind_some _ _).symm.trans H;rw [hy318];with_reducible exact H2_)|(have H2_:=(Option.bind_some _ _).symm.trans H;with_reducible exact H2_)|with_reducible exact H|(rw [hy318];exact H)|exact H
                  have Ny318:=Ma hy318
                  clear hy318
                  replace H:=Option.bind_eq_some_iff.mp H
                  obtain⟨⟨t321,t322,t323⟩,A350,H⟩:=H
                  replace H:(if 0≤t321 then (if t321 < (y318.length:Int) then (spec_l15DrawPack.j1 kj3 (t296.set (t303:Int).toNat (⟨(rd_T71 t296 t303).f0,rd y318 t321,(rd_T71 t296 t303).f2⟩:S71)) s0_0 t322 t323) else (none)) else (none))=some (r1,r2,r3):=H
                  have A35:=Ma A350
                  clear A350
                  by_cases c36:0≤t321
                  · rw [if_pos c36] at H
                    have c36b0:decide (0≤t321)=true:=decide_eq_true c36
                    clear c36
                    by_cases c37:t321 < (y318.length:Int)
                    · rw [if_pos c37] at H
                      have c37b0:decide (t321 < (y318.length:Int))=true:=decide_eq_true c37
                      clear c37
                      obtain⟨y325,hy325⟩:∃ y_:List (S71),y_=(t296.set (t303:Int).toNat (⟨(rd_T71 t296 t303).f0,rd y318 t321,(rd_T71 t296 t303).f2⟩:S71)):=⟨_,rfl⟩
                      replace H:(spec_l15DrawPack.j1 kj3 y325 s0_0 t322 t323)=some (r1,r2,r3):=by first|(rw [hy325];with_reducible exact H)|(have H2_:=(Option.bind_some _ _).symm.trans H;rw [hy325];with_reducible exact H2_)|(have H2_:=(Option.bind_some _ _).symm.trans H;with_reducible exact H2_)|with_reducible exact H|(rw [hy325];exact H)|exact H
                      have Ny325:=Ma hy325
                      clear hy325
                      have H':=Ma H
                      clear H
                      obtain⟨Ao39,co39,eo39⟩:=Kd.R_slice HO_5.out
                      subst eo39
                      go_wp2_with (first|((with_reducible refine Mt (f:=65) rfl ?_);refine goesL_ (some 31) rfl rfl Try.func65 (by kernel_rfl) rfl #[.pointer (some ⟨g,0,none⟩),.int .i64 (t296.length:Int)] rfl (by(try simp only [List.map_toArray,List.map_cons,List.map_nil]);first|done|rfl|(simp only [List.length_drop,List.length_take];rfl)) ?_;(with_reducible refine(spec_l1Below.calls g s0_0 x1001_3 x1002_3 (t296.length:Int) t303 t304 t305 w0 _ ?side1 ?side2 A16.out).mono ?_);(case side1=>repeat(first|(with_reducible first|exact HI0.out|apply Mb|apply Md|apply Mc|apply Mf|apply Mg)|exact HI0.out));(case side2=>repeat(first|(with_reducible first|exact HB.out|apply Mn|apply Mj|apply Mo|refine Mr ?_ (Me HI0.out))|exact HB.out));rintro e w40 ⟨rfl,hi,hb,hk⟩;refine⟨_,rfl,?_⟩;have n0_:=Ma (Mu (Mv (IsS102.apart (show IsS102 w0 _ g s0_0 x1001_3 x1002_3 from by repeat(first|(with_reducible first|exact HI0.out|apply Mb|apply Md|apply Mc|apply Mf|apply Mg)|exact HI0.out)) (by(with_reducible repeat(first|apply Ml|apply Mm|apply Mh));exact HO_5.out) (by decide)) hk (fun _ h=>h.2)) (fun _ h=>h.1));have n1_:=Ma (Ms (by repeat(first|(with_reducible first|exact HK.out|apply Mk|apply Mq|apply Mi|apply Mp)|exact HK.out)) hk (.inl rfl));have n2_:=Ma (hb);have n3_:=Ma (hi);clear HO_5;clear HK;clear HB;clear HI0;have HO_5:=n0_;have HK:=n1_;have HB:=n2_;have HI0:=n3_;clear n0_ n1_ n2_ n3_;(try clear hb);(try clear hb2);(try clear hk);(try clear hi);have p306:0≤(t303:Int):=of_decide_eq_true (by first|(with_reducible assumption)|assumption);have q306:t303 < (t296.length:Int):=of_decide_eq_true (by first|(with_reducible assumption)|assumption);obtain⟨ad306,e306,hx306_0,hx306_1,hx306_2⟩:=at_T71 (Mw HO_5.out).2.2 t303 p306 q306;cases e306;replace p306:=eq_true p306;replace q306:=eq_true q306)|((with_reducible refine Mt (f:=65) rfl ?_);refine goesL_ (some 34) rfl rfl Try.func65 (by kernel_rfl) rfl #[.pointer (some ⟨g,0,none⟩),.int .i64 4] rfl (by(try simp only [List.map_toArray,List.map_cons,List.map_nil]);first|done|rfl|(simp only [List.length_drop,List.length_take];rfl)) ?_;(with_reducible refine(spec_l1Below.calls g s0_0 t304 t305 4 t307 t308 t309 w0 _ ?side1 ?side2 A19.out).mono ?_);(case side1=>repeat(first|(with_reducible first|exact HI0.out|apply Mb|apply Md|apply Mc|apply Mf|apply Mg)|exact HI0.out));(case side2=>repeat(first|(with_reducible first|exact HB.out|apply Mn|apply Mj|apply Mo|refine Mr ?_ (Me HI0.out))|exact HB.out));rintro e w41 ⟨rfl,hi,hb,hk⟩;refine⟨_,rfl,?_⟩;have n0_:=Ma (Mu (Mv (IsS102.apart (show IsS102 w0 _ g s0_0 t304 t305 from by repeat(first|(with_reducible first|exact HI0.out|apply Mb|apply Md|apply Mc|apply Mf|apply Mg)|exact HI0.out)) (by(with_reducible repeat(first|apply Ml|apply Mm|apply Mh));exact HO_5.out) (by decide)) hk (fun _ h=>h.2)) (fun _ h=>h.1));have n1_:=Ma (Ms (by repeat(first|(with_reducible first|exact HK.out|apply Mk|apply Mq|apply Mi|apply Mp)|exact HK.out)) hk (.inl rfl));have n2_:=Ma (hb);have n3_:=Ma (hi);clear HO_5;clear HK;clear HB;clear HI0;have HO_5:=n0_;have HK:=n1_;have HB:=n2_;have HI0:=n3_;clear n0_ n1_ n2_ n3_;(try clear hb);(try clear hb2);(try clear hk);(try clear hi))|((with_reducible refine gate_dst (N:=48) rfl ?_);(try(refine gate_guard (by rfl) ?_;dsimp only));refine Kd.R_lit (Kd.int .i64) _ 2 ?hg (N:=48) ?hd (xs:=([(-1),40000,40001]:List Int)) (inner:=[.int .i64 (-1),.int .i64 40000,.int .i64 40001]) (ok:=fun _=>True) (okp:=fun _=>True) ?hr ?hp (fun _ hk=>hk) trivial (Below.refl _ _) (Nat.le_refl _) (by simp) ?_;(case hd=>rfl);(case hg=>rfl);(case hr=>first|(go_simp;done)|(go_simp;rfl));(case hp=>exact(Reps.one (show Kd.M (Kd.int .i64) _ _ _ (-1) [.int .i64 (-1)] from rfl) (Reps.one (show Kd.M (Kd.int .i64) _ _ _ 40000 [.int .i64 40000] from rfl) (Reps.one (show Kd.M (Kd.int .i64) _ _ _ 40001 [.int .i64 40001] from rfl) (Reps.none _ _)))));intro v319 w42 ho43 hb hg_ hnew_;clear hg_ hnew_;(first|rw [← Ny318.out] at ho43|(simp only [Int.reduceToNat] at ho43;rw [← Ny318.out] at ho43));have n0_:=Ma (Kd.R_below (by(with_reducible repeat(first|apply Ml|apply Mm|apply Mh));exact HO_5.out) hb);have n1_:=Ma (Kd.R_lower ho43 (keep_size (w:=w) (g:=g) (row:=none) (by repeat(first|(with_reducible first|exact HK.out|apply Mk|apply Mq|apply Mi|apply Mp)|exact HK.out))));have n2_:=Ma (IsS102.below (by repeat(first|(with_reducible first|exact HI0.out|apply Mb|apply Md|apply Mc|apply Mf|apply Mg)|exact HI0.out)) hb);have n3_:=Ma (Ms (by repeat(first|(with_reducible first|exact HK.out|apply Mk|apply Mq|apply Mi|apply Mp)|exact HK.out)) (KeepBut.of_below hb g none) (.inl rfl));have n4_:=Ma (below_step (by repeat(first|(with_reducible first|exact HB.out|apply Mn|apply Mj|apply Mo|refine Mr ?_ (Me HI0.out))|exact HB.out)) hb);clear HO_5;clear HI0;clear HK;clear HB;have HO_5:=n0_;have HO320:=n1_;have HI0:=n2_;have HK:=n3_;have HB:=n4_;clear n0_ n1_ n2_ n3_ n4_;clear hb ho43)|((with_reducible refine Mt (f:=65) rfl ?_);refine goesL_ (some 50) rfl rfl Try.func65 (by kernel_rfl) rfl #[.pointer (some ⟨g,0,none⟩),.int .i64 3] rfl (by(try simp only [List.map_toArray,List.map_cons,List.map_nil]);first|done|rfl|(simp only [List.length_drop,List.length_take];rfl)) ?_;(with_reducible refine(spec_l1Below.calls g s0_0 t308 t309 3 t321 t322 t323 w0 _ ?side1 ?side2 A35.out).mono ?_);(case side1=>repeat(first|(with_reducible first|exact HI0.out|apply Mb|apply Md|apply Mc|apply Mf|apply Mg)|exact HI0.out));(case side2=>repeat(first|(with_reducible first|exact HB.out|apply Mn|apply Mj|apply Mo|refine Mr ?_ (Me HI0.out))|exact HB.out));rintro e w44 ⟨rfl,hi,hb,hk⟩;refine⟨_,rfl,?_⟩;have n0_:=Ma (Mu (Mv (IsS102.apart (show IsS102 w0 _ g s0_0 t308 t309 from by repeat(first|(with_reducible first|exact HI0.out|apply Mb|apply Md|apply Mc|apply Mf|apply Mg)|exact HI0.out)) (by(with_reducible repeat(first|apply Ml|apply Mm|apply Mh));exact HO_5.out) (by decide)) hk (fun _ h=>h.2)) (fun _ h=>h.1));have n1_:=Ma (Mu (Mv (IsS102.apart (show IsS102 w0 _ g s0_0 t308 t309 from by repeat(first|(with_reducible first|exact HI0.out|apply Mb|apply Md|apply Mc|apply Mf|apply Mg)|exact HI0.out)) (by(with_reducible repeat(first|apply Ml|apply Mm|apply Mh));exact HO320.out) (by decide)) hk (fun _ h=>h.2)) (fun _ h=>h.1));have n2_:=Ma (Ms (by repeat(first|(with_reducible first|exact HK.out|apply Mk|apply Mq|apply Mi|apply Mp)|exact HK.out)) hk (.inl rfl));have n3_:=Ma (hb);have n4_:=Ma (hi);clear HO_5;clear HO320;clear HK;clear HB;clear HI0;have HO_5:=n0_;have HO320:=n1_;have HK:=n2_;have HB:=n3_;have HI0:=n4_;clear n0_ n1_ n2_ n3_ n4_;(try clear hb);(try clear hb2);(try clear hk);(try clear hi);obtain⟨Ao45,co45,eo45⟩:=Kd.R_slice HO320.out;subst eo45;have p324:0≤(t321:Int):=of_decide_eq_true (by first|(with_reducible assumption)|assumption);have q324:t321 < (y318.length:Int):=of_decide_eq_true (by first|(with_reducible assumption)|assumption);obtain⟨ad324,e324,hx324_0⟩:=Kd.at_int (Mw HO320.out).2.2 t321 p324 q324;cases e324;replace p324:=eq_true p324;replace q324:=eq_true q324;have p38:0≤(t303:Int):=of_decide_eq_true (by first|(with_reducible assumption)|assumption);have q38:(t303:Int) < ((t296.length:Int):Int):=of_decide_eq_true (by first|(with_reducible assumption)|assumption);obtain⟨go38,co38,eo38,gb38,gl38,cl38,HG38⟩:=Kd.R_form HO_5.out (by omega);(first|cases eo38|(injection eo38 with ea_ en_ ec_;(first|subst ea_|(injection ea_ with ea_;subst ea_));subst ec_;clear en_));have GB38:=Ma gb38;have GG38:=Ma HG38;clear gb38 gl38 HG38;(first|simp only [add_plain] at hx306_0|skip);(first|simp only [add_plain] at hx306_1|skip);(first|simp only [add_plain] at hx306_2|skip);obtain⟨ce38,hcl38,hM38,hcc38,hfr38⟩:=Kd.R_elem HO_5.out z71 (t303:Int) p38 q38;obtain rfl:=k71_openM hM38;have hx38_0:w44.cell? ⟨go38,(t303:Int).toNat*3,none⟩=some (.string ((rd_T71 t296 t303).f0)):=hcc38 0 _ rfl;have hx38_1:w44.cell? ⟨go38,(t303:Int).toNat*3+1,none⟩=some (.int .i64 ((rd_T71 t296 t303).f1)):=hcc38 1 _ rfl;have hx38_2:w44.cell? ⟨go38,(t303:Int).toNat*3+2,none⟩=some (.int .i64 ((rd_T71 t296 t303).f2)):=hcc38 2 _ rfl;have hf38_0:w44.frozen? ⟨go38,(t303:Int).toNat*3,none⟩=false:=hfr38 0;have hf38_1:w44.frozen? ⟨go38,(t303:Int).toNat*3+1,none⟩=false:=hfr38 1;have hf38_2:w44.frozen? ⟨go38,(t303:Int).toNat*3+2,none⟩=false:=hfr38 2;clear hcl38 hcc38 hfr38 hM38;replace p38:=eq_true p38;replace q38:=eq_true q38;have HX46:=Ma (show Kd.R k71 71 w44 w.heap.size (fun _=>True) (.slice (some ⟨go38,0,none⟩) t296.length co39) t296 from(by(with_reducible repeat(first|apply Ml|apply Mm|apply Mh));exact HO_5.out));obtain⟨ce46,hcl46,hM46,hcc46,hfr46⟩:=Kd.R_elem HX46.out z71 (t303:Int) (of_decide_eq_true (by first|(with_reducible assumption)|assumption)) (by have h_:(t303:Int) < ((t296.length:Int):Int):=of_decide_eq_true (by first|(with_reducible assumption)|assumption);first|exact h_|(have e_:=(Mw HO_5.out).1;omega)|simpa using h_);obtain rfl:=k71_openM hM46;have HP46:=Kd.R_seg HX46.out (t303:Int) (of_decide_eq_true (by first|(with_reducible assumption)|assumption)) (by have h_:(t303:Int) < ((t296.length:Int):Int):=of_decide_eq_true (by first|(with_reducible assumption)|assumption);first|exact h_|(have e_:=(Mw HO_5.out).1;omega)|simpa using h_) (seg:=[.int .i64 (rd y318 t321)]) (j:=1) hcl46 hcc46 (show 2≤3 from by decide) (x':=(⟨(rd_T71 t296 t303).f0,rd y318 t321,(rd_T71 t296 t303).f2⟩:S71)) (k71_mkM _ _ _ (⟨(rd_T71 t296 t303).f0,rd y318 t321,(rd_T71 t296 t303).f2⟩:S71) ) (fun _ hk=>hk);have hx46_1:=hcc46 1 _ rfl;(try simp only [show(k71).sz=3 from rfl,Nat.mul_one,Nat.add_zero] at hx46_1);have hf46_1:=hfr46 1;(try simp only [show(k71).sz=3 from rfl,Nat.mul_one,Nat.add_zero] at hf46_1);clear hcl46 hcc46 hfr46 hM46)|((with_reducible refine gate_store (t:=2) (p:=54) rfl ?_);refine store_event (t:=2) (p:=54) (v:=?vo_w47) (w1:=(w44.setCell ⟨go38,(t303:Int).toNat*3+1,none⟩ (.int .i64 (rd y318 t321)))) ?hg ?ho ?hn ?hr ?_;(case ho=>rfl);(case hg=>rfl);(case hn=>rfl);(case hr=>first|(go_simp;done)|(go_simp;rfl));intro w47 hw;have hg:w44.grownBy w47 (some go38):=(by rw [hw];exact HP46.2);have hp_:Kd.R k71 71 w47 w.heap.size (fun _=>True) (.slice (some ⟨go38,0,none⟩) t296.length co39) y325:=(by rw [hw,Ny325.out];exact HP46.1);clear HP46;have n0_:=Ma (hp_);have n1_:=Ma (IsS102.grown (by repeat(first|(with_reducible first|exact HI0.out|apply Mb|apply Md|apply Mc|apply Mf|apply Mg)|exact HI0.out)) hg (IsS102.own_ne HI0.out HO_5.out (by decide)));have n2_:=Ma (Kd.R_over' (v:=(.slice (some ⟨go38,0,none⟩) t296.length co39)) (by(with_reducible repeat(first|apply Ml|apply Mm|apply Mh));exact HO320.out) (Kd.R_typed HO_5.out) (by decide) hg);have n3_:=Ma ((by rw [hw];exact Mr (HB.out) (Nat.le_trans HL.out GB38.out):Below w0.heap.size w0 w47));have n4_:=Ma (Ms (by repeat(first|(with_reducible first|exact HK.out|apply Mk|apply Mq|apply Mi|apply Mp)|exact HK.out)) (KeepBut.of_grown hg g) (Kd.R_base2 HO_5.out));clear HO_5;clear HI0;clear HO320;clear HB;clear HK;have HO_5:=n0_;have HI0:=n1_;have HO320:=n2_;have HB:=n3_;have HK:=n4_;clear n0_ n1_ n2_ n3_ n4_;clear hg hw hp_))
                      go_meet
                      case rel=>exact⟨_,(y325),(t322),(t323),H',⟨by have:=HJ3.out;first|omega|exact Nat.le_refl _⟩,⟨by(with_reducible repeat(first|apply Ml|apply Mm|apply Mh));exact HO_5.out⟩,⟨by repeat(first|(with_reducible first|exact HI0.out|apply Mb|apply Md|apply Mc|apply Mf|apply Mg)|exact HI0.out)⟩,⟨by repeat(first|(with_reducible first|exact HK.out|apply Mk|apply Mq|apply Mi|apply Mp)|exact HK.out)⟩,⟨by repeat(first|(with_reducible first|exact HB.out|apply Mn|apply Mj|apply Mo|refine Mr ?_ (Me HI0.out))|exact HB.out)⟩⟩
                    · rw [if_neg c37] at H
                      exact absurd H (by simp)
                  · rw [if_neg c36] at H
                    exact absurd H (by simp)
                · rw [if_neg c34] at H
                  have c34b0:(t307 == 1)=false:=beq_eq_false_iff_ne.mpr c34
                  have c34b1:(t307 != 1)=true:=bne_iff_ne.mpr c34
                  by_cases c48:t307=2
                  · rw [if_pos c48] at H
                    have c48b0:(t307 == 2)=true:=beq_iff_eq.mpr c48
                    have c48b1:(t307 != 2)=false:=bne_eq_false_iff_eq.mpr c48
                    clear c48
                    obtain⟨y326,hy326⟩:∃ y_:List Int,y_=(([(-1),1000000006,1000000007,5]:List Int)):=⟨_,rfl⟩
                    replace H:((spec_l1Below.f s0_0 t308 t309 4).bind fun bt329=>(if 0≤bt329.1 then (if bt329.1 < (y326.length:Int) then (spec_l15DrawPack.j1 kj3 (t296.set (t303:Int).toNat (⟨(rd_T71 t296 t303).f0,(rd_T71 t296 t303).f1,rd y326 bt329.1⟩:S71)) s0_0 bt329.2.1 bt329.2.2) else (none)) else (none)))=some (r1,r2,r3):=by first|(rw [hy326];with_reducible exact H)|(have H2_:=(Option.bind_some _ _).symm.trans H;rw [hy326];with_reducible exact H2_)|(have H2_:=(Option.bind_some _ _).symm.trans H;with_reducible exact H2_)|with_reducible exact H|(rw [hy326];exact H)|exact H
                    have Ny326:=Ma hy326
                    clear hy326
                    replace H:=Option.bind_eq_some_iff.mp H
                    obtain⟨⟨t329,t330,t331⟩,A490,H⟩:=H
                    replace H:(if 0≤t329 then (if t329 < (y326.length:Int) then (spec_l15DrawPack.j1 kj3 (t296.set (t303:Int).toNat (⟨(rd_T71 t296 t303).f0,(rd_T71 t296 t303).f1,rd y326 t329⟩:S71)) s0_0 t330 t331) else (none)) else (none))=some (r1,r2,r3):=H
                    have A49:=Ma A490
                    clear A490
                    by_cases c50:0≤t329
                    · rw [if_pos c50] at H
                      have c50b0:decide (0≤t329)=true:=decide_eq_true c50
                      clear c50
                      by_cases c51:t329 < (y326.length:Int)
                      · rw [if_pos c51] at H
                        have c51b0:decide (t329 < (y326.length:Int))=true:=decide_eq_true c51
                        clear c51
                        obtain⟨y333,hy333⟩:∃ y_:List (S71),y_=(t296.set (t303:Int).toNat (⟨(rd_T71 t296 t303).f0,(rd_T71 t296 t303).f1,rd y326 t329⟩:S71)):=⟨_,rfl⟩
                        replace H:(spec_l15DrawPack.j1 kj3 y333 s0_0 t330 t331)=some (r1,r2,r3):=by first|(rw [hy333];with_reducible exact H)|(have H2_:=(Option.bind_some _ _).symm.trans H;rw [hy333];with_reducible exact H2_)|(have H2_:=(Option.bind_some _ _).symm.trans H;with_reducible exact H2_)|with_reducible exact H|(rw [hy333];exact H)|exact H
                        have Ny333:=Ma hy333
                        clear hy333
                        have H':=Ma H
                        clear H
                        obtain⟨Ao53,co53,eo53⟩:=Kd.R_slice HO_5.out
                        subst eo53
                        go_wp2_with (first|((with_reducible refine Mt (f:=65) rfl ?_);refine goesL_ (some 31) rfl rfl Try.func65 (by kernel_rfl) rfl #[.pointer (some ⟨g,0,none⟩),.int .i64 (t296.length:Int)] rfl (by(try simp only [List.map_toArray,List.map_cons,List.map_nil]);first|done|rfl|(simp only [List.length_drop,List.length_take];rfl)) ?_;(with_reducible refine(spec_l1Below.calls g s0_0 x1001_3 x1002_3 (t296.length:Int) t303 t304 t305 w0 _ ?side1 ?side2 A16.out).mono ?_);(case side1=>repeat(first|(with_reducible first|exact HI0.out|apply Mb|apply Md|apply Mc|apply Mf|apply Mg)|exact HI0.out));(case side2=>repeat(first|(with_reducible first|exact HB.out|apply Mn|apply Mj|apply Mo|refine Mr ?_ (Me HI0.out))|exact HB.out));rintro e w54 ⟨rfl,hi,hb,hk⟩;refine⟨_,rfl,?_⟩;have n0_:=Ma (Mu (Mv (IsS102.apart (show IsS102 w0 _ g s0_0 x1001_3 x1002_3 from by repeat(first|(with_reducible first|exact HI0.out|apply Mb|apply Md|apply Mc|apply Mf|apply Mg)|exact HI0.out)) (by(with_reducible repeat(first|apply Ml|apply Mm|apply Mh));exact HO_5.out) (by decide)) hk (fun _ h=>h.2)) (fun _ h=>h.1));have n1_:=Ma (Ms (by repeat(first|(with_reducible first|exact HK.out|apply Mk|apply Mq|apply Mi|apply Mp)|exact HK.out)) hk (.inl rfl));have n2_:=Ma (hb);have n3_:=Ma (hi);clear HO_5;clear HK;clear HB;clear HI0;have HO_5:=n0_;have HK:=n1_;have HB:=n2_;have HI0:=n3_;clear n0_ n1_ n2_ n3_;(try clear hb);(try clear hb2);(try clear hk);(try clear hi);have p306:0≤(t303:Int):=of_decide_eq_true (by first|(with_reducible assumption)|assumption);have q306:t303 < (t296.length:Int):=of_decide_eq_true (by first|(with_reducible assumption)|assumption);obtain⟨ad306,e306,hx306_0,hx306_1,hx306_2⟩:=at_T71 (Mw HO_5.out).2.2 t303 p306 q306;cases e306;replace p306:=eq_true p306;replace q306:=eq_true q306)|((with_reducible refine Mt (f:=65) rfl ?_);refine goesL_ (some 34) rfl rfl Try.func65 (by kernel_rfl) rfl #[.pointer (some ⟨g,0,none⟩),.int .i64 4] rfl (by(try simp only [List.map_toArray,List.map_cons,List.map_nil]);first|done|rfl|(simp only [List.length_drop,List.length_take];rfl)) ?_;(with_reducible refine(spec_l1Below.calls g s0_0 t304 t305 4 t307 t308 t309 w0 _ ?side1 ?side2 A19.out).mono ?_);(case side1=>repeat(first|(with_reducible first|exact HI0.out|apply Mb|apply Md|apply Mc|apply Mf|apply Mg)|exact HI0.out));(case side2=>repeat(first|(with_reducible first|exact HB.out|apply Mn|apply Mj|apply Mo|refine Mr ?_ (Me HI0.out))|exact HB.out));rintro e w55 ⟨rfl,hi,hb,hk⟩;refine⟨_,rfl,?_⟩;have n0_:=Ma (Mu (Mv (IsS102.apart (show IsS102 w0 _ g s0_0 t304 t305 from by repeat(first|(with_reducible first|exact HI0.out|apply Mb|apply Md|apply Mc|apply Mf|apply Mg)|exact HI0.out)) (by(with_reducible repeat(first|apply Ml|apply Mm|apply Mh));exact HO_5.out) (by decide)) hk (fun _ h=>h.2)) (fun _ h=>h.1));have n1_:=Ma (Ms (by repeat(first|(with_reducible first|exact HK.out|apply Mk|apply Mq|apply Mi|apply Mp)|exact HK.out)) hk (.inl rfl));have n2_:=Ma (hb);have n3_:=Ma (hi);clear HO_5;clear HK;clear HB;clear HI0;have HO_5:=n0_;have HK:=n1_;have HB:=n2_;have HI0:=n3_;clear n0_ n1_ n2_ n3_;(try clear hb);(try clear hb2);(try clear hk);(try clear hi))|((with_reducible refine gate_dst (N:=58) rfl ?_);(try(refine gate_guard (by rfl) ?_;dsimp only));refine Kd.R_lit (Kd.int .i64) _ 2 ?hg (N:=58) ?hd (xs:=([(-1),1000000006,1000000007,5]:List Int)) (inner:=[.int .i64 (-1),.int .i64 1000000006,.int .i64 1000000007,.int .i64 5]) (ok:=fun _=>True) (okp:=fun _=>True) ?hr ?hp (fun _ hk=>hk) trivial (Below.refl _ _) (Nat.le_refl _) (by simp) ?_;(case hd=>rfl);(case hg=>rfl);(case hr=>first|(go_simp;done)|(go_simp;rfl));(case hp=>exact(Reps.one (show Kd.M (Kd.int .i64) _ _ _ (-1) [.int .i64 (-1)] from rfl) (Reps.one (show Kd.M (Kd.int .i64) _ _ _ 1000000006 [.int .i64 1000000006] from rfl) (Reps.one (show Kd.M (Kd.int .i64) _ _ _ 1000000007 [.int .i64 1000000007] from rfl) (Reps.one (show Kd.M (Kd.int .i64) _ _ _ 5 [.int .i64 5] from rfl) (Reps.none _ _))))));intro v327 w56 ho57 hb hg_ hnew_;clear hg_ hnew_;(first|rw [← Ny326.out] at ho57|(simp only [Int.reduceToNat] at ho57;rw [← Ny326.out] at ho57));have n0_:=Ma (Kd.R_below (by(with_reducible repeat(first|apply Ml|apply Mm|apply Mh));exact HO_5.out) hb);have n1_:=Ma (Kd.R_lower ho57 (keep_size (w:=w) (g:=g) (row:=none) (by repeat(first|(with_reducible first|exact HK.out|apply Mk|apply Mq|apply Mi|apply Mp)|exact HK.out))));have n2_:=Ma (IsS102.below (by repeat(first|(with_reducible first|exact HI0.out|apply Mb|apply Md|apply Mc|apply Mf|apply Mg)|exact HI0.out)) hb);have n3_:=Ma (Ms (by repeat(first|(with_reducible first|exact HK.out|apply Mk|apply Mq|apply Mi|apply Mp)|exact HK.out)) (KeepBut.of_below hb g none) (.inl rfl));have n4_:=Ma (below_step (by repeat(first|(with_reducible first|exact HB.out|apply Mn|apply Mj|apply Mo|refine Mr ?_ (Me HI0.out))|exact HB.out)) hb);clear HO_5;clear HI0;clear HK;clear HB;have HO_5:=n0_;have HO328:=n1_;have HI0:=n2_;have HK:=n3_;have HB:=n4_;clear n0_ n1_ n2_ n3_ n4_;clear hb ho57)|((with_reducible refine Mt (f:=65) rfl ?_);refine goesL_ (some 60) rfl rfl Try.func65 (by kernel_rfl) rfl #[.pointer (some ⟨g,0,none⟩),.int .i64 4] rfl (by(try simp only [List.map_toArray,List.map_cons,List.map_nil]);first|done|rfl|(simp only [List.length_drop,List.length_take];rfl)) ?_;(with_reducible refine(spec_l1Below.calls g s0_0 t308 t309 4 t329 t330 t331 w0 _ ?side1 ?side2 A49.out).mono ?_);(case side1=>repeat(first|(with_reducible first|exact HI0.out|apply Mb|apply Md|apply Mc|apply Mf|apply Mg)|exact HI0.out));(case side2=>repeat(first|(with_reducible first|exact HB.out|apply Mn|apply Mj|apply Mo|refine Mr ?_ (Me HI0.out))|exact HB.out));rintro e w58 ⟨rfl,hi,hb,hk⟩;refine⟨_,rfl,?_⟩;have n0_:=Ma (Mu (Mv (IsS102.apart (show IsS102 w0 _ g s0_0 t308 t309 from by repeat(first|(with_reducible first|exact HI0.out|apply Mb|apply Md|apply Mc|apply Mf|apply Mg)|exact HI0.out)) (by(with_reducible repeat(first|apply Ml|apply Mm|apply Mh));exact HO_5.out) (by decide)) hk (fun _ h=>h.2)) (fun _ h=>h.1));have n1_:=Ma (Mu (Mv (IsS102.apart (show IsS102 w0 _ g s0_0 t308 t309 from by repeat(first|(with_reducible first|exact HI0.out|apply Mb|apply Md|apply Mc|apply Mf|apply Mg)|exact HI0.out)) (by(with_reducible repeat(first|apply Ml|apply Mm|apply Mh));exact HO328.out) (by decide)) hk (fun _ h=>h.2)) (fun _ h=>h.1));have n2_:=Ma (Ms (by repeat(first|(with_reducible first|exact HK.out|apply Mk|apply Mq|apply Mi|apply Mp)|exact HK.out)) hk (.inl rfl));have n3_:=Ma (hb);have n4_:=Ma (hi);clear HO_5;clear HO328;clear HK;clear HB;clear HI0;have HO_5:=n0_;have HO328:=n1_;have HK:=n2_;have HB:=n3_;have HI0:=n4_;clear n0_ n1_ n2_ n3_ n4_;(try clear hb);(try clear hb2);(try clear hk);(try clear hi);obtain⟨Ao59,co59,eo59⟩:=Kd.R_slice HO328.out;subst eo59;have p332:0≤(t329:Int):=of_decide_eq_true (by first|(with_reducible assumption)|assumption);have q332:t329 < (y326.length:Int):=of_decide_eq_true (by first|(with_reducible assumption)|assumption);obtain⟨ad332,e332,hx332_0⟩:=Kd.at_int (Mw HO328.out).2.2 t329 p332 q332;cases e332;replace p332:=eq_true p332;replace q332:=eq_true q332;have p52:0≤(t303:Int):=of_decide_eq_true (by first|(with_reducible assumption)|assumption);have q52:(t303:Int) < ((t296.length:Int):Int):=of_decide_eq_true (by first|(with_reducible assumption)|assumption);obtain⟨go52,co52,eo52,gb52,gl52,cl52,HG52⟩:=Kd.R_form HO_5.out (by omega);(first|cases eo52|(injection eo52 with ea_ en_ ec_;(first|subst ea_|(injection ea_ with ea_;subst ea_));subst ec_;clear en_));have GB52:=Ma gb52;have GG52:=Ma HG52;clear gb52 gl52 HG52;(first|simp only [add_plain] at hx306_0|skip);(first|simp only [add_plain] at hx306_1|skip);(first|simp only [add_plain] at hx306_2|skip);obtain⟨ce52,hcl52,hM52,hcc52,hfr52⟩:=Kd.R_elem HO_5.out z71 (t303:Int) p52 q52;obtain rfl:=k71_openM hM52;have hx52_0:w58.cell? ⟨go52,(t303:Int).toNat*3,none⟩=some (.string ((rd_T71 t296 t303).f0)):=hcc52 0 _ rfl;have hx52_1:w58.cell? ⟨go52,(t303:Int).toNat*3+1,none⟩=some (.int .i64 ((rd_T71 t296 t303).f1)):=hcc52 1 _ rfl;have hx52_2:w58.cell? ⟨go52,(t303:Int).toNat*3+2,none⟩=some (.int .i64 ((rd_T71 t296 t303).f2)):=hcc52 2 _ rfl;have hf52_0:w58.frozen? ⟨go52,(t303:Int).toNat*3,none⟩=false:=hfr52 0;have hf52_1:w58.frozen? ⟨go52,(t303:Int).toNat*3+1,none⟩=false:=hfr52 1;have hf52_2:w58.frozen? ⟨go52,(t303:Int).toNat*3+2,none⟩=false:=hfr52 2;clear hcl52 hcc52 hfr52 hM52;replace p52:=eq_true p52;replace q52:=eq_true q52;have HX60:=Ma (show Kd.R k71 71 w58 w.heap.size (fun _=>True) (.slice (some ⟨go52,0,none⟩) t296.length co53) t296 from(by(with_reducible repeat(first|apply Ml|apply Mm|apply Mh));exact HO_5.out));obtain⟨ce60,hcl60,hM60,hcc60,hfr60⟩:=Kd.R_elem HX60.out z71 (t303:Int) (of_decide_eq_true (by first|(with_reducible assumption)|assumption)) (by have h_:(t303:Int) < ((t296.length:Int):Int):=of_decide_eq_true (by first|(with_reducible assumption)|assumption);first|exact h_|(have e_:=(Mw HO_5.out).1;omega)|simpa using h_);obtain rfl:=k71_openM hM60;have HP60:=Kd.R_seg HX60.out (t303:Int) (of_decide_eq_true (by first|(with_reducible assumption)|assumption)) (by have h_:(t303:Int) < ((t296.length:Int):Int):=of_decide_eq_true (by first|(with_reducible assumption)|assumption);first|exact h_|(have e_:=(Mw HO_5.out).1;omega)|simpa using h_) (seg:=[.int .i64 (rd y326 t329)]) (j:=2) hcl60 hcc60 (show 3≤3 from by decide) (x':=(⟨(rd_T71 t296 t303).f0,(rd_T71 t296 t303).f1,rd y326 t329⟩:S71)) (k71_mkM _ _ _ (⟨(rd_T71 t296 t303).f0,(rd_T71 t296 t303).f1,rd y326 t329⟩:S71) ) (fun _ hk=>hk);have hx60_2:=hcc60 2 _ rfl;(try simp only [show(k71).sz=3 from rfl,Nat.mul_one,Nat.add_zero] at hx60_2);have hf60_2:=hfr60 2;(try simp only [show(k71).sz=3 from rfl,Nat.mul_one,Nat.add_zero] at hf60_2);clear hcl60 hcc60 hfr60 hM60)|((with_reducible refine gate_store (t:=2) (p:=64) rfl ?_);refine store_event (t:=2) (p:=64) (v:=?vo_w61) (w1:=(w58.setCell ⟨go52,(t303:Int).toNat*3+2,none⟩ (.int .i64 (rd y326 t329)))) ?hg ?ho ?hn ?hr ?_;(case ho=>rfl);(case hg=>rfl);(case hn=>rfl);(case hr=>first|(go_simp;done)|(go_simp;rfl));intro w61 hw;have hg:w58.grownBy w61 (some go52):=(by rw [hw];exact HP60.2);have hp_:Kd.R k71 71 w61 w.heap.size (fun _=>True) (.slice (some ⟨go52,0,none⟩) t296.length co53) y333:=(by rw [hw,Ny333.out];exact HP60.1);clear HP60;have n0_:=Ma (hp_);have n1_:=Ma (IsS102.grown (by repeat(first|(with_reducible first|exact HI0.out|apply Mb|apply Md|apply Mc|apply Mf|apply Mg)|exact HI0.out)) hg (IsS102.own_ne HI0.out HO_5.out (by decide)));have n2_:=Ma (Kd.R_over' (v:=(.slice (some ⟨go52,0,none⟩) t296.length co53)) (by(with_reducible repeat(first|apply Ml|apply Mm|apply Mh));exact HO328.out) (Kd.R_typed HO_5.out) (by decide) hg);have n3_:=Ma ((by rw [hw];exact Mr (HB.out) (Nat.le_trans HL.out GB52.out):Below w0.heap.size w0 w61));have n4_:=Ma (Ms (by repeat(first|(with_reducible first|exact HK.out|apply Mk|apply Mq|apply Mi|apply Mp)|exact HK.out)) (KeepBut.of_grown hg g) (Kd.R_base2 HO_5.out));clear HO_5;clear HI0;clear HO328;clear HB;clear HK;have HO_5:=n0_;have HI0:=n1_;have HO328:=n2_;have HB:=n3_;have HK:=n4_;clear n0_ n1_ n2_ n3_ n4_;clear hg hw hp_))
                        go_meet
                        case rel=>exact⟨_,(y333),(t330),(t331),H',⟨by have:=HJ3.out;first|omega|exact Nat.le_refl _⟩,⟨by(with_reducible repeat(first|apply Ml|apply Mm|apply Mh));exact HO_5.out⟩,⟨by repeat(first|(with_reducible first|exact HI0.out|apply Mb|apply Md|apply Mc|apply Mf|apply Mg)|exact HI0.out)⟩,⟨by repeat(first|(with_reducible first|exact HK.out|apply Mk|apply Mq|apply Mi|apply Mp)|exact HK.out)⟩,⟨by repeat(first|(with_reducible first|exact HB.out|apply Mn|apply Mj|apply Mo|refine Mr ?_ (Me HI0.out))|exact HB.out)⟩⟩
                      · rw [if_neg c51] at H
                        exact absurd H (by simp)
                    · rw [if_neg c50] at H
                      exact absurd H (by simp)
                  · rw [if_neg c48] at H
                    have c48b0:(t307 == 2)=false:=beq_eq_false_iff_ne.mpr c48
                    have c48b1:(t307 != 2)=true:=bne_iff_ne.mpr c48
                    by_cases c62:t307=3
                    · rw [if_pos c62] at H
                      have c62b0:(t307 == 3)=true:=beq_iff_eq.mpr c62
                      have c62b1:(t307 != 3)=false:=bne_eq_false_iff_eq.mpr c62
                      clear c62
                      by_cases c63:t296.length < 4398046511104
                      · rw [if_pos c63] at H
                        have LMc63:=Ma c63
                        clear c63
                        obtain⟨y335,hy335⟩:∃ y_:List (S71),y_=(t296 ++ [(⟨(rd_T71 t296 t303).f0,(rd_T71 t296 t303).f1,(rd_T71 t296 t303).f2⟩:S71)]):=⟨_,rfl⟩
                        replace H:(spec_l15DrawPack.j1 kj3 y335 s0_0 t308 t309)=some (r1,r2,r3):=by first|(rw [hy335];with_reducible exact H)|(have H2_:=(Option.bind_some _ _).symm.trans H;rw [hy335];with_reducible exact H2_)|(have H2_:=(Option.bind_some _ _).symm.trans H;with_reducible exact H2_)|with_reducible exact H|(rw [hy335];exact H)|exact H
                        have Ny335:=Ma hy335
                        clear hy335
                        have H':=Ma H
                        clear H
                        obtain⟨Ao64,co64,eo64⟩:=Kd.R_slice HO_5.out
                        subst eo64
                        go_wp2_with (first|((with_reducible refine Mt (f:=65) rfl ?_);refine goesL_ (some 31) rfl rfl Try.func65 (by kernel_rfl) rfl #[.pointer (some ⟨g,0,none⟩),.int .i64 (t296.length:Int)] rfl (by(try simp only [List.map_toArray,List.map_cons,List.map_nil]);first|done|rfl|(simp only [List.length_drop,List.length_take];rfl)) ?_;(with_reducible refine(spec_l1Below.calls g s0_0 x1001_3 x1002_3 (t296.length:Int) t303 t304 t305 w0 _ ?side1 ?side2 A16.out).mono ?_);(case side1=>repeat(first|(with_reducible first|exact HI0.out|apply Mb|apply Md|apply Mc|apply Mf|apply Mg)|exact HI0.out));(case side2=>repeat(first|(with_reducible first|exact HB.out|apply Mn|apply Mj|apply Mo|refine Mr ?_ (Me HI0.out))|exact HB.out));rintro e w65 ⟨rfl,hi,hb,hk⟩;refine⟨_,rfl,?_⟩;have n0_:=Ma (Mu (Mv (IsS102.apart (show IsS102 w0 _ g s0_0 x1001_3 x1002_3 from by repeat(first|(with_reducible first|exact HI0.out|apply Mb|apply Md|apply Mc|apply Mf|apply Mg)|exact HI0.out)) (by(with_reducible repeat(first|apply Ml|apply Mm|apply Mh));exact HO_5.out) (by decide)) hk (fun _ h=>h.2)) (fun _ h=>h.1));have n1_:=Ma (Ms (by repeat(first|(with_reducible first|exact HK.out|apply Mk|apply Mq|apply Mi|apply Mp)|exact HK.out)) hk (.inl rfl));have n2_:=Ma (hb);have n3_:=Ma (hi);clear HO_5;clear HK;clear HB;clear HI0;have HO_5:=n0_;have HK:=n1_;have HB:=n2_;have HI0:=n3_;clear n0_ n1_ n2_ n3_;(try clear hb);(try clear hb2);(try clear hk);(try clear hi);have p306:0≤(t303:Int):=of_decide_eq_true (by first|(with_reducible assumption)|assumption);have q306:t303 < (t296.length:Int):=of_decide_eq_true (by first|(with_reducible assumption)|assumption);obtain⟨ad306,e306,hx306_0,hx306_1,hx306_2⟩:=at_T71 (Mw HO_5.out).2.2 t303 p306 q306;cases e306;replace p306:=eq_true p306;replace q306:=eq_true q306)|((with_reducible refine Mt (f:=65) rfl ?_);refine goesL_ (some 34) rfl rfl Try.func65 (by kernel_rfl) rfl #[.pointer (some ⟨g,0,none⟩),.int .i64 4] rfl (by(try simp only [List.map_toArray,List.map_cons,List.map_nil]);first|done|rfl|(simp only [List.length_drop,List.length_take];rfl)) ?_;(with_reducible refine(spec_l1Below.calls g s0_0 t304 t305 4 t307 t308 t309 w0 _ ?side1 ?side2 A19.out).mono ?_);(case side1=>repeat(first|(with_reducible first|exact HI0.out|apply Mb|apply Md|apply Mc|apply Mf|apply Mg)|exact HI0.out));(case side2=>repeat(first|(with_reducible first|exact HB.out|apply Mn|apply Mj|apply Mo|refine Mr ?_ (Me HI0.out))|exact HB.out));rintro e w66 ⟨rfl,hi,hb,hk⟩;refine⟨_,rfl,?_⟩;have n0_:=Ma (Mu (Mv (IsS102.apart (show IsS102 w0 _ g s0_0 t304 t305 from by repeat(first|(with_reducible first|exact HI0.out|apply Mb|apply Md|apply Mc|apply Mf|apply Mg)|exact HI0.out)) (by(with_reducible repeat(first|apply Ml|apply Mm|apply Mh));exact HO_5.out) (by decide)) hk (fun _ h=>h.2)) (fun _ h=>h.1));have n1_:=Ma (Ms (by repeat(first|(with_reducible first|exact HK.out|apply Mk|apply Mq|apply Mi|apply Mp)|exact HK.out)) hk (.inl rfl));have n2_:=Ma (hb);have n3_:=Ma (hi);clear HO_5;clear HK;clear HB;clear HI0;have HO_5:=n0_;have HK:=n1_;have HB:=n2_;have HI0:=n3_;clear n0_ n1_ n2_ n3_;(try clear hb);(try clear hb2);(try clear hk);(try clear hi);have p334:0≤(t303:Int):=of_decide_eq_true (by first|(with_reducible assumption)|assumption);have q334:t303 < (t296.length:Int):=of_decide_eq_true (by first|(with_reducible assumption)|assumption);obtain⟨ad334,e334,hx334_0,hx334_1,hx334_2⟩:=at_T71 (Mw HO_5.out).2.2 t303 p334 q334;obtain rfl:ad306=ad334:=(by injection e334);replace p334:=eq_true p334;replace q334:=eq_true q334)|((with_reducible refine gate_builtin (b:=.append) (xs:=#[.tmp 67,.tmp 71]) rfl ?_);(try(refine gate_guard (by rfl) ?_;dsimp only));at_builtin;refine Kd.R_append k71 w.heap.size rfl (.tmp 67) (.tmp 71) 40 71 (.agg #[(.string ⟨#[]⟩),(.int .i64 0),(.int .i64 0)]) 32 rfl Try.underlying40 info71 rfl (by decide) (by omega) (.slice (some ad306) t296.length co64) t296 (⟨(rd_T71 t296 t303).f0,(rd_T71 t296 t303).f1,(rd_T71 t296 t303).f2⟩:S71) [.string ((rd_T71 t296 t303).f0),.int .i64 ((rd_T71 t296 t303).f1),.int .i64 ((rd_T71 t296 t303).f2)] (fun _=>True) (fun _=>False) rfl rfl ?aP (fun _ hk=>hk.elim) ?aF ?aO (Below.refl _ _) ?aS ?aL ?_;(case aP=>exact k71_mkM _ _ _ (⟨(rd_T71 t296 t303).f0,(rd_T71 t296 t303).f1,(rd_T71 t296 t303).f2⟩:S71));(case aF=>exact(fun _ _=>trivial));(case aO=>exact(by(with_reducible repeat(first|apply Ml|apply Mm|apply Mh));exact HO_5.out));(case aS=>exact(keep_size (w:=w) (g:=g) (row:=none) (by repeat(first|(with_reducible first|exact HK.out|apply Mk|apply Mq|apply Mi|apply Mp)|exact HK.out))));(case aL=>have:=LMc63.out;omega);intro v336 w67 ho hb hg hat;rw [← Ny335.out] at ho;have n0_:=Ma (IsS102.grown (by repeat(first|(with_reducible first|exact HI0.out|apply Mb|apply Md|apply Mc|apply Mf|apply Mg)|exact HI0.out)) hg (IsS102.own_ne HI0.out HO_5.out (by decide)));have n1_:=Ma (below_weaken (by repeat(first|(with_reducible first|exact HB.out|apply Mn|apply Mj|apply Mo|refine Mr ?_ (Me HI0.out))|exact HB.out)) HL.out hb);have n2_:=Ma (Ms (by repeat(first|(with_reducible first|exact HK.out|apply Mk|apply Mq|apply Mi|apply Mp)|exact HK.out)) (KeepBut.of_grown hg g) (Kd.R_base2 HO_5.out));have n3_:=Ma (ho);clear HI0;clear HB;clear HK;clear HO_5;have HI0:=n0_;have HB:=n1_;have HK:=n2_;have HO337:=n3_;clear n0_ n1_ n2_ n3_;clear ho hb hg hat))
                        go_meet
                        case rel=>exact⟨_,(y335),(t308),(t309),H',⟨by have:=HJ3.out;first|omega|exact Nat.le_refl _⟩,⟨by(with_reducible repeat(first|apply Ml|apply Mm|apply Mh));exact HO337.out⟩,⟨by repeat(first|(with_reducible first|exact HI0.out|apply Mb|apply Md|apply Mc|apply Mf|apply Mg)|exact HI0.out)⟩,⟨by repeat(first|(with_reducible first|exact HK.out|apply Mk|apply Mq|apply Mi|apply Mp)|exact HK.out)⟩,⟨by repeat(first|(with_reducible first|exact HB.out|apply Mn|apply Mj|apply Mo|refine Mr ?_ (Me HI0.out))|exact HB.out)⟩⟩
                      · rw [if_neg c63] at H
                        exact absurd H (by simp)
                    · rw [if_neg c62] at H
                      have c62b0:(t307 == 3)=false:=beq_eq_false_iff_ne.mpr c62
                      have c62b1:(t307 != 3)=true:=bne_iff_ne.mpr c62
                      have H':=Ma H
                      clear H
                      obtain⟨Ao68,co68,eo68⟩:=Kd.R_slice HO_5.out
                      subst eo68
                      go_wp2_with (first|((with_reducible refine Mt (f:=65) rfl ?_);refine goesL_ (some 31) rfl rfl Try.func65 (by kernel_rfl) rfl #[.pointer (some ⟨g,0,none⟩),.int .i64 (t296.length:Int)] rfl (by(try simp only [List.map_toArray,List.map_cons,List.map_nil]);first|done|rfl|(simp only [List.length_drop,List.length_take];rfl)) ?_;(with_reducible refine(spec_l1Below.calls g s0_0 x1001_3 x1002_3 (t296.length:Int) t303 t304 t305 w0 _ ?side1 ?side2 A16.out).mono ?_);(case side1=>repeat(first|(with_reducible first|exact HI0.out|apply Mb|apply Md|apply Mc|apply Mf|apply Mg)|exact HI0.out));(case side2=>repeat(first|(with_reducible first|exact HB.out|apply Mn|apply Mj|apply Mo|refine Mr ?_ (Me HI0.out))|exact HB.out));rintro e w69 ⟨rfl,hi,hb,hk⟩;refine⟨_,rfl,?_⟩;have n0_:=Ma (Mu (Mv (IsS102.apart (show IsS102 w0 _ g s0_0 x1001_3 x1002_3 from by repeat(first|(with_reducible first|exact HI0.out|apply Mb|apply Md|apply Mc|apply Mf|apply Mg)|exact HI0.out)) (by(with_reducible repeat(first|apply Ml|apply Mm|apply Mh));exact HO_5.out) (by decide)) hk (fun _ h=>h.2)) (fun _ h=>h.1));have n1_:=Ma (Ms (by repeat(first|(with_reducible first|exact HK.out|apply Mk|apply Mq|apply Mi|apply Mp)|exact HK.out)) hk (.inl rfl));have n2_:=Ma (hb);have n3_:=Ma (hi);clear HO_5;clear HK;clear HB;clear HI0;have HO_5:=n0_;have HK:=n1_;have HB:=n2_;have HI0:=n3_;clear n0_ n1_ n2_ n3_;(try clear hb);(try clear hb2);(try clear hk);(try clear hi);have p306:0≤(t303:Int):=of_decide_eq_true (by first|(with_reducible assumption)|assumption);have q306:t303 < (t296.length:Int):=of_decide_eq_true (by first|(with_reducible assumption)|assumption);obtain⟨ad306,e306,hx306_0,hx306_1,hx306_2⟩:=at_T71 (Mw HO_5.out).2.2 t303 p306 q306;cases e306;replace p306:=eq_true p306;replace q306:=eq_true q306)|((with_reducible refine Mt (f:=65) rfl ?_);refine goesL_ (some 34) rfl rfl Try.func65 (by kernel_rfl) rfl #[.pointer (some ⟨g,0,none⟩),.int .i64 4] rfl (by(try simp only [List.map_toArray,List.map_cons,List.map_nil]);first|done|rfl|(simp only [List.length_drop,List.length_take];rfl)) ?_;(with_reducible refine(spec_l1Below.calls g s0_0 t304 t305 4 t307 t308 t309 w0 _ ?side1 ?side2 A19.out).mono ?_);(case side1=>repeat(first|(with_reducible first|exact HI0.out|apply Mb|apply Md|apply Mc|apply Mf|apply Mg)|exact HI0.out));(case side2=>repeat(first|(with_reducible first|exact HB.out|apply Mn|apply Mj|apply Mo|refine Mr ?_ (Me HI0.out))|exact HB.out));rintro e w70 ⟨rfl,hi,hb,hk⟩;refine⟨_,rfl,?_⟩;have n0_:=Ma (Mu (Mv (IsS102.apart (show IsS102 w0 _ g s0_0 t304 t305 from by repeat(first|(with_reducible first|exact HI0.out|apply Mb|apply Md|apply Mc|apply Mf|apply Mg)|exact HI0.out)) (by(with_reducible repeat(first|apply Ml|apply Mm|apply Mh));exact HO_5.out) (by decide)) hk (fun _ h=>h.2)) (fun _ h=>h.1));have n1_:=Ma (Ms (by repeat(first|(with_reducible first|exact HK.out|apply Mk|apply Mq|apply Mi|apply Mp)|exact HK.out)) hk (.inl rfl));have n2_:=Ma (hb);have n3_:=Ma (hi);clear HO_5;clear HK;clear HB;clear HI0;have HO_5:=n0_;have HK:=n1_;have HB:=n2_;have HI0:=n3_;clear n0_ n1_ n2_ n3_;(try clear hb);(try clear hb2);(try clear hk);(try clear hi)))
                      go_meet
                      case rel=>exact⟨_,(t296),(t308),(t309),H',⟨by have:=HJ3.out;first|omega|exact Nat.le_refl _⟩,⟨by(with_reducible repeat(first|apply Ml|apply Mm|apply Mh));exact HO_5.out⟩,⟨by repeat(first|(with_reducible first|exact HI0.out|apply Mb|apply Md|apply Mc|apply Mf|apply Mg)|exact HI0.out)⟩,⟨by repeat(first|(with_reducible first|exact HK.out|apply Mk|apply Mq|apply Mi|apply Mp)|exact HK.out)⟩,⟨by repeat(first|(with_reducible first|exact HB.out|apply Mn|apply Mj|apply Mo|refine Mr ?_ (Me HI0.out))|exact HB.out)⟩⟩
            · rw [if_neg c18] at H
              exact absurd H (by simp)
          · rw [if_neg c17] at H
            exact absurd H (by simp)
        · replace c15:=Bool.eq_false_iff.mpr c15
          subst c15
          have H1:(spec_l15DrawPack.j1 kj3 t296 s0_0 x1001_3 x1002_3)=some (r1,r2,r3):=by rw [if_neg (show ¬ (false=true) by decide)] at H;exact H
          clear H
          have H:=H1
          clear H1
          have H':=Ma H
          clear H
          go_wp2
          go_meet
          case rel=>exact⟨_,(t296),(x1001_3),(x1002_3),H',⟨by have:=HJ3.out;first|omega|exact Nat.le_refl _⟩,⟨by(with_reducible repeat(first|apply Ml|apply Mm|apply Mh));exact HO_5.out⟩,⟨by repeat(first|(with_reducible first|exact HI0.out|apply Mb|apply Md|apply Mc|apply Mf|apply Mg)|exact HI0.out)⟩,⟨by repeat(first|(with_reducible first|exact HK.out|apply Mk|apply Mq|apply Mi|apply Mp)|exact HK.out)⟩,⟨by repeat(first|(with_reducible first|exact HB.out|apply Mn|apply Mj|apply Mo|refine Mr ?_ (Me HI0.out))|exact HB.out)⟩⟩
      case rest=>
        clear HC14
        try clear c1
        try clear c2
        try clear p2
        try clear q2
        try clear hx2
        try clear hf2
        try clear c3
        try clear p3
        try clear q3
        try clear hx3
        try clear hf3
        try clear c4
        try clear hx4
        try clear hf4
        try clear c5
        try clear p5
        try clear q5
        try clear hx5
        try clear hf5
        try clear c6
        try clear hx6
        try clear hf6
        try clear c7
        try clear c10
        try clear c15
        try clear c17
        try clear c17b0
        try clear c18
        try clear c18b0
        try clear c20
        try clear c20b0
        try clear c20b1
        try clear c22
        try clear c22b0
        try clear c23
        try clear c23b0
        try clear c24
        try clear p24
        try clear q24
        try clear hx24
        try clear hf24
        try clear p30
        try clear q30
        try clear hx30
        try clear p31
        try clear q31
        try clear hx31
        try clear c32
        try clear p32
        try clear q32
        try clear hx32
        try clear hf32
        try clear p33
        try clear q33
        try clear hx33
        try clear c34
        try clear c34b0
        try clear c34b1
        try clear c36
        try clear c36b0
        try clear c37
        try clear c37b0
        try clear c38
        try clear p38
        try clear q38
        try clear hx38
        try clear hf38
        try clear c46
        try clear hx46
        try clear hf46
        try clear c48
        try clear c48b0
        try clear c48b1
        try clear c50
        try clear c50b0
        try clear c51
        try clear c51b0
        try clear c52
        try clear p52
        try clear q52
        try clear hx52
        try clear hf52
        try clear c60
        try clear hx60
        try clear hf60
        try clear c62
        try clear c62b0
        try clear c62b1
        try clear c63
        try clear c65
        try clear c68
        try clear hx24_0
        try clear hx24_1
        try clear hx24_2
        try clear hx306_0
        try clear hx306_1
        try clear hx306_2
        try clear hx316_0
        try clear hx324_0
        try clear hx32_0
        try clear hx332_0
        try clear hx334_0
        try clear hx334_1
        try clear hx334_2
        try clear hx38_0
        try clear hx38_1
        try clear hx38_2
        try clear hx46_1
        try clear hx52_0
        try clear hx52_1
        try clear hx52_2
        try clear hx60_2
        try clear p2
        try clear p24
        try clear p306
        try clear p316
        try clear p324
        try clear p332
        try clear p334
        try clear p38
        try clear p52
        try clear q24
        try clear q306
        try clear q316
        try clear q324
        try clear q332
        try clear q334
        try clear q38
        try clear q52
        obtain⟨kq,x5_13,x1001_13,x1002_13,HA,HJ13,HO_5,HI0,HK,HB⟩:=hcut
        cases kq with
        | zero => exact absurd HA.out (by simp [spec_l15DrawPack.j1])
        | succ kj13 =>
          have H:=HA.out
          clear HA
          simp only [spec_l15DrawPack.j1] at H
          replace H:=Option.bind_eq_some_iff.mp H
          obtain⟨⟨t338,t339,t340⟩,A710,H⟩:=H
          replace H:(if t338=true then (spec_l15DrawPack.l0 kj13 (([]:List (S71))) 0 s0_0 t339 t340) else (some (x5_13,t339,t340)))=some (r1,r2,r3):=H
          have A71:=Ma A710
          clear A710
          by_cases c72:t338=true
          · subst c72
            have H1:(spec_l15DrawPack.l0 kj13 (([]:List (S71))) 0 s0_0 t339 t340)=some (r1,r2,r3):=by rw [if_pos rfl] at H;exact H
            clear H
            have H:=H1
            clear H1
            obtain⟨y341,hy341⟩:∃ y_:List (S71),y_=(([]:List (S71))):=⟨_,rfl⟩
            replace H:(spec_l15DrawPack.l0 kj13 y341 0 s0_0 t339 t340)=some (r1,r2,r3):=by first|(rw [hy341];with_reducible exact H)|(have H2_:=(Option.bind_some _ _).symm.trans H;rw [hy341];with_reducible exact H2_)|(have H2_:=(Option.bind_some _ _).symm.trans H;with_reducible exact H2_)|with_reducible exact H|(rw [hy341];exact H)|exact H
            have Ny341:=Ma hy341
            clear hy341
            have H':=Ma H
            clear H
            go_wp2_with (first|((with_reducible refine Mt (f:=68) rfl ?_);refine goesL_ (some 74) rfl rfl Try.func68 (by kernel_rfl) rfl #[.pointer (some ⟨g,0,none⟩),.int .i64 60] rfl (by(try simp only [List.map_toArray,List.map_cons,List.map_nil]);first|done|rfl|(simp only [List.length_drop,List.length_take];rfl)) ?_;(with_reducible refine(spec_l1Once.calls g s0_0 x1001_13 x1002_13 60 true t339 t340 w0 _ ?side1 ?side2 A71.out).mono ?_);(case side1=>repeat(first|(with_reducible first|exact HI0.out|apply Mb|apply Md|apply Mc|apply Mf|apply Mg)|exact HI0.out));(case side2=>repeat(first|(with_reducible first|exact HB.out|apply Mn|apply Mj|apply Mo|refine Mr ?_ (Me HI0.out))|exact HB.out));rintro e w73 ⟨rfl,hi,hb,hk⟩;refine⟨_,rfl,?_⟩;have n0_:=Ma (Mu (Mv (IsS102.apart (show IsS102 w0 _ g s0_0 x1001_13 x1002_13 from by repeat(first|(with_reducible first|exact HI0.out|apply Mb|apply Md|apply Mc|apply Mf|apply Mg)|exact HI0.out)) (by(with_reducible repeat(first|apply Ml|apply Mm|apply Mh));exact HO_5.out) (by decide)) hk (fun _ h=>h.2)) (fun _ h=>h.1));have n1_:=Ma (Ms (by repeat(first|(with_reducible first|exact HK.out|apply Mk|apply Mq|apply Mi|apply Mp)|exact HK.out)) hk (.inl rfl));have n2_:=Ma (hb);have n3_:=Ma (hi);clear HO_5;clear HK;clear HB;clear HI0;have HO_5:=n0_;have HK:=n1_;have HB:=n2_;have HI0:=n3_;clear n0_ n1_ n2_ n3_;(try clear hb);(try clear hb2);(try clear hk);(try clear hi))|((with_reducible refine gate_dst (N:=75) rfl ?_);(try(refine gate_guard (by rfl) ?_;dsimp only));refine Kd.R_lit k71 _ 71 ?hg (N:=75) ?hd (xs:=([]:List (S71))) (inner:=[]) (ok:=fun _=>True) (okp:=fun _=>True) ?hr ?hp (fun _ hk=>hk) trivial (Below.refl _ _) (Nat.le_refl _) (by simp) ?_;(case hd=>rfl);(case hg=>rfl);(case hr=>first|(go_simp;done)|(go_simp;rfl));(case hp=>exact(Reps.none _ _));intro v342 w74 ho75 hb hg_ hnew_;clear hg_ hnew_;(first|rw [← Ny341.out] at ho75|(simp only [Int.reduceToNat] at ho75;rw [← Ny341.out] at ho75));have n0_:=Ma (Kd.R_elder' (by(with_reducible repeat(first|apply Ml|apply Mm|apply Mh));exact HO_5.out) (Kd.R_base ho75) hb);have n1_:=Ma (Kd.R_lower (Kd.R_new' ho75 (Kd.R_lt (by(with_reducible repeat(first|apply Ml|apply Mm|apply Mh));exact HO_5.out))) (keep_size (w:=w) (g:=g) (row:=none) (by repeat(first|(with_reducible first|exact HK.out|apply Mk|apply Mq|apply Mi|apply Mp)|exact HK.out))));have n2_:=Ma (IsS102.below (by repeat(first|(with_reducible first|exact HI0.out|apply Mb|apply Md|apply Mc|apply Mf|apply Mg)|exact HI0.out)) hb);have n3_:=Ma (Ms (by repeat(first|(with_reducible first|exact HK.out|apply Mk|apply Mq|apply Mi|apply Mp)|exact HK.out)) (KeepBut.of_below hb g none) (.inl rfl));have n4_:=Ma (below_step (by repeat(first|(with_reducible first|exact HB.out|apply Mn|apply Mj|apply Mo|refine Mr ?_ (Me HI0.out))|exact HB.out)) hb);clear HO_5;clear HI0;clear HK;clear HB;have HO_5:=n0_;have HO343:=n1_;have HI0:=n2_;have HK:=n3_;have HB:=n4_;clear n0_ n1_ n2_ n3_ n4_;clear hb ho75))
            go_loopg [5,8] kj13 (fun kq v5 v8 w'=>∃ (x5_3:List (S71)) (x8_3:Int) (x1001_3:Int) (x1002_3:Int),v8=.int .i64 x8_3∧Aside0 (spec_l15DrawPack.l0 kq x5_3 x8_3 s0_0 x1001_3 x1002_3=some (r1,r2,r3))∧Aside0 (kq≤kj13)∧Aside0 (Kd.R k71 71 w' w.heap.size (fun _=>True) v5 x5_3)∧Aside0 (IsS102 w0 w' g s0_0 x1001_3 x1002_3)∧Aside0 (KeepBut w w' g none)∧Aside0 (Below w0.heap.size w0 w'))
            case atStart=>exact⟨(y341),(0),(t339),(t340),(by first|rfl|(simp;done)|(simp [*];done)),H',⟨Nat.le_refl _⟩,⟨by(with_reducible repeat(first|apply Ml|apply Mm|apply Mh));exact Mu HO343.out (fun _ hk=>trivial)⟩,⟨by repeat(first|(with_reducible first|exact HI0.out|apply Mb|apply Md|apply Mc|apply Mf|apply Mg)|exact HI0.out)⟩,⟨by repeat(first|(with_reducible first|exact HK.out|apply Mk|apply Mq|apply Mi|apply Mp)|exact HK.out)⟩,⟨by repeat(first|(with_reducible first|exact HB.out|apply Mn|apply Mj|apply Mo|refine Mr ?_ (Me HI0.out))|exact HB.out)⟩⟩
            case round=>
              clear H'
              try clear c1
              try clear c2
              try clear p2
              try clear q2
              try clear hx2
              try clear hf2
              try clear c3
              try clear p3
              try clear q3
              try clear hx3
              try clear hf3
              try clear c4
              try clear hx4
              try clear hf4
              try clear c5
              try clear p5
              try clear q5
              try clear hx5
              try clear hf5
              try clear c6
              try clear hx6
              try clear hf6
              try clear c7
              try clear c10
              try clear c15
              try clear c17
              try clear c17b0
              try clear c18
              try clear c18b0
              try clear c20
              try clear c20b0
              try clear c20b1
              try clear c22
              try clear c22b0
              try clear c23
              try clear c23b0
              try clear c24
              try clear p24
              try clear q24
              try clear hx24
              try clear hf24
              try clear p30
              try clear q30
              try clear hx30
              try clear p31
              try clear q31
              try clear hx31
              try clear c32
              try clear p32
              try clear q32
              try clear hx32
              try clear hf32
              try clear p33
              try clear q33
              try clear hx33
              try clear c34
              try clear c34b0
              try clear c34b1
              try clear c36
              try clear c36b0
              try clear c37
              try clear c37b0
              try clear c38
              try clear p38
              try clear q38
              try clear hx38
              try clear hf38
              try clear c46
              try clear hx46
              try clear hf46
              try clear c48
              try clear c48b0
              try clear c48b1
              try clear c50
              try clear c50b0
              try clear c51
              try clear c51b0
              try clear c52
              try clear p52
              try clear q52
              try clear hx52
              try clear hf52
              try clear c60
              try clear hx60
              try clear hf60
              try clear c62
              try clear c62b0
              try clear c62b1
              try clear c63
              try clear c65
              try clear c68
              try clear c72
              try clear c75
              try clear hx24_0
              try clear hx24_1
              try clear hx24_2
              try clear hx306_0
              try clear hx306_1
              try clear hx306_2
              try clear hx316_0
              try clear hx324_0
              try clear hx32_0
              try clear hx332_0
              try clear hx334_0
              try clear hx334_1
              try clear hx334_2
              try clear hx38_0
              try clear hx38_1
              try clear hx38_2
              try clear hx46_1
              try clear hx52_0
              try clear hx52_1
              try clear hx52_2
              try clear hx60_2
              try clear p2
              try clear p24
              try clear p3
              try clear p30
              try clear p306
              try clear p31
              try clear p316
              try clear p32
              try clear p324
              try clear p33
              try clear p332
              try clear p334
              try clear p38
              try clear p5
              try clear p52
              try clear q2
              try clear q24
              try clear q3
              try clear q30
              try clear q306
              try clear q31
              try clear q316
              try clear q32
              try clear q324
              try clear q33
              try clear q332
              try clear q334
              try clear q38
              try clear q5
              try clear q52
              obtain⟨x5_3,x8_3,x1001_3,x1002_3,rfl,HA,HK3,HO_5,HI0,HK,HB⟩:=hrel
              cases gk with
              | zero => exact absurd HA.out (by simp [spec_l15DrawPack.l0])
              | succ k3 =>
                have H:=HA.out
                clear HA
                simp only [spec_l15DrawPack.l0] at H
                replace H:=Option.bind_eq_some_iff.mp H
                obtain⟨⟨t344,t345,t346⟩,A760,H⟩:=H
                replace H:(if x8_3 < (wrap64 (100+t344)) then ((spec_l1Wide.f k3 x8_3 4).bind fun t347=>(if x5_3.length < 4398046511104 then (spec_l15DrawPack.l0 k3 (x5_3 ++ [(⟨t347,0,0⟩:S71)]) (wrap64 (x8_3+1)) s0_0 t345 t346) else (none))) else (some (x5_3,t345,t346)))=some (r1,r2,r3):=H
                have A76:=Ma A760
                clear A760
                by_cases c77:x8_3 < (wrap64 (100+t344))
                · rw [if_pos c77] at H
                  have c77b0:decide (x8_3 < (wrap64 (100+t344)))=true:=decide_eq_true c77
                  clear c77
                  replace H:=Option.bind_eq_some_iff.mp H
                  obtain⟨t347,A780,H⟩:=H
                  replace H:(if x5_3.length < 4398046511104 then (spec_l15DrawPack.l0 k3 (x5_3 ++ [(⟨t347,0,0⟩:S71)]) (wrap64 (x8_3+1)) s0_0 t345 t346) else (none))=some (r1,r2,r3):=H
                  have A78:=Ma A780
                  clear A780
                  by_cases c79:x5_3.length < 4398046511104
                  · rw [if_pos c79] at H
                    have LMc79:=Ma c79
                    clear c79
                    obtain⟨y348,hy348⟩:∃ y_:List (S71),y_=(x5_3 ++ [(⟨t347,0,0⟩:S71)]):=⟨_,rfl⟩
                    replace H:(spec_l15DrawPack.l0 k3 y348 (wrap64 (x8_3+1)) s0_0 t345 t346)=some (r1,r2,r3):=by first|(rw [hy348];with_reducible exact H)|(have H2_:=(Option.bind_some _ _).symm.trans H;rw [hy348];with_reducible exact H2_)|(have H2_:=(Option.bind_some _ _).symm.trans H;with_reducible exact H2_)|with_reducible exact H|(rw [hy348];exact H)|exact H
                    have Ny348:=Ma hy348
                    clear hy348
                    have H':=Ma H
                    clear H
                    go_wp2_with (first|((with_reducible refine Mt (f:=65) rfl ?_);refine goesL_ (some 78) rfl rfl Try.func65 (by kernel_rfl) rfl #[.pointer (some ⟨g,0,none⟩),.int .i64 2] rfl (by(try simp only [List.map_toArray,List.map_cons,List.map_nil]);first|done|rfl|(simp only [List.length_drop,List.length_take];rfl)) ?_;(with_reducible refine(spec_l1Below.calls g s0_0 x1001_3 x1002_3 2 t344 t345 t346 w0 _ ?side1 ?side2 A76.out).mono ?_);(case side1=>repeat(first|(with_reducible first|exact HI0.out|apply Mb|apply Md|apply Mc|apply Mf|apply Mg)|exact HI0.out));(case side2=>repeat(first|(with_reducible first|exact HB.out|apply Mn|apply Mj|apply Mo|refine Mr ?_ (Me HI0.out))|exact HB.out));rintro e w80 ⟨rfl,hi,hb,hk⟩;refine⟨_,rfl,?_⟩;have n0_:=Ma (Mu (Mv (IsS102.apart (show IsS102 w0 _ g s0_0 x1001_3 x1002_3 from by repeat(first|(with_reducible first|exact HI0.out|apply Mb|apply Md|apply Mc|apply Mf|apply Mg)|exact HI0.out)) (by(with_reducible repeat(first|apply Ml|apply Mm|apply Mh));exact HO_5.out) (by decide)) hk (fun _ h=>h.2)) (fun _ h=>h.1));have n1_:=Ma (Ms (by repeat(first|(with_reducible first|exact HK.out|apply Mk|apply Mq|apply Mi|apply Mp)|exact HK.out)) hk (.inl rfl));have n2_:=Ma (hb);have n3_:=Ma (hi);clear HO_5;clear HK;clear HB;clear HI0;have HO_5:=n0_;have HK:=n1_;have HB:=n2_;have HI0:=n3_;clear n0_ n1_ n2_ n3_;(try clear hb);(try clear hb2);(try clear hk);(try clear hi))|((with_reducible refine Mt (f:=89) rfl ?_);refine goesL_ (some 85) rfl rfl Try.func89 (by kernel_rfl) rfl #[.int .i64 x8_3,.int .i64 4] rfl (by(try simp only [List.map_toArray,List.map_cons,List.map_nil]);first|done|rfl|(simp only [List.length_drop,List.length_take];rfl)) ?_;(with_reducible refine(spec_l1Wide.calls k3 x8_3 4 t347 _ A78.out).mono ?_);rintro e w81 ⟨rfl,hb⟩;refine⟨_,rfl,?_⟩;have n0_:=Ma (Kd.R_below (by(with_reducible repeat(first|apply Ml|apply Mm|apply Mh));exact HO_5.out) hb);have n1_:=Ma (IsS102.below (by repeat(first|(with_reducible first|exact HI0.out|apply Mb|apply Md|apply Mc|apply Mf|apply Mg)|exact HI0.out)) hb);have n2_:=Ma (Ms (by repeat(first|(with_reducible first|exact HK.out|apply Mk|apply Mq|apply Mi|apply Mp)|exact HK.out)) (KeepBut.of_below hb g none) (.inl rfl));have n3_:=Ma (below_step (by repeat(first|(with_reducible first|exact HB.out|apply Mn|apply Mj|apply Mo|refine Mr ?_ (Me HI0.out))|exact HB.out)) hb);clear HO_5;clear HI0;clear HK;clear HB;have HO_5:=n0_;have HI0:=n1_;have HK:=n2_;have HB:=n3_;clear n0_ n1_ n2_ n3_;(try clear hb);(try clear hb2);(try clear hk);(try clear hi))|((with_reducible refine gate_builtin (b:=.append) (xs:=#[.tmp 83,.tmp 87]) rfl ?_);(try(refine gate_guard (by rfl) ?_;dsimp only));at_builtin;refine Kd.R_append k71 w.heap.size rfl (.tmp 83) (.tmp 87) 40 71 (.agg #[(.string ⟨#[]⟩),(.int .i64 0),(.int .i64 0)]) 32 rfl Try.underlying40 info71 rfl (by decide) (by omega) u5 x5_3 (⟨t347,0,0⟩:S71) [.string t347,.int .i64 0,.int .i64 0] (fun _=>True) (fun _=>False) rfl rfl ?aP (fun _ hk=>hk.elim) ?aF ?aO (Below.refl _ _) ?aS ?aL ?_;(case aP=>exact k71_mkM _ _ _ (⟨t347,0,0⟩:S71));(case aF=>exact(fun _ _=>trivial));(case aO=>exact(by(with_reducible repeat(first|apply Ml|apply Mm|apply Mh));exact HO_5.out));(case aS=>exact(keep_size (w:=w) (g:=g) (row:=none) (by repeat(first|(with_reducible first|exact HK.out|apply Mk|apply Mq|apply Mi|apply Mp)|exact HK.out))));(case aL=>have:=LMc79.out;omega);intro v349 w82 ho hb hg hat;rw [← Ny348.out] at ho;have n0_:=Ma (IsS102.grown (by repeat(first|(with_reducible first|exact HI0.out|apply Mb|apply Md|apply Mc|apply Mf|apply Mg)|exact HI0.out)) hg (IsS102.own_ne HI0.out HO_5.out (by decide)));have n1_:=Ma (below_weaken (by repeat(first|(with_reducible first|exact HB.out|apply Mn|apply Mj|apply Mo|refine Mr ?_ (Me HI0.out))|exact HB.out)) HL.out hb);have n2_:=Ma (Ms (by repeat(first|(with_reducible first|exact HK.out|apply Mk|apply Mq|apply Mi|apply Mp)|exact HK.out)) (KeepBut.of_grown hg g) (Kd.R_base2 HO_5.out));have n3_:=Ma (ho);clear HI0;clear HB;clear HK;clear HO_5;have HI0:=n0_;have HB:=n1_;have HK:=n2_;have HO350:=n3_;clear n0_ n1_ n2_ n3_;clear ho hb hg hat))
                    go_roundg k3
                    case measure=>have:=HJ3.out;have:=HJ13.out;have:=HK3.out;omega
                    case rel=>exact⟨(y348),(wrap64 (x8_3+1)),(t345),(t346),(by first|rfl|(simp;done)|(simp [*];done)),H',⟨by have:=HJ3.out;have:=HJ13.out;have:=HK3.out;omega⟩,⟨by(with_reducible repeat(first|apply Ml|apply Mm|apply Mh));exact HO350.out⟩,⟨by repeat(first|(with_reducible first|exact HI0.out|apply Mb|apply Md|apply Mc|apply Mf|apply Mg)|exact HI0.out)⟩,⟨by repeat(first|(with_reducible first|exact HK.out|apply Mk|apply Mq|apply Mi|apply Mp)|exact HK.out)⟩,⟨by repeat(first|(with_reducible first|exact HB.out|apply Mn|apply Mj|apply Mo|refine Mr ?_ (Me HI0.out))|exact HB.out)⟩⟩
                  · rw [if_neg c79] at H
                    exact absurd H (by simp)
                · rw [if_neg c77] at H
                  have c77b0:decide (x8_3 < (wrap64 (100+t344)))=false:=decide_eq_false c77
                  clear c77
                  simp only [Option.some.injEq,Prod.mk.injEq] at H
                  obtain⟨rfl,rfl,rfl⟩:=H
                  go_wp2_with (first|((with_reducible refine Mt (f:=65) rfl ?_);refine goesL_ (some 78) rfl rfl Try.func65 (by kernel_rfl) rfl #[.pointer (some ⟨g,0,none⟩),.int .i64 2] rfl (by(try simp only [List.map_toArray,List.map_cons,List.map_nil]);first|done|rfl|(simp only [List.length_drop,List.length_take];rfl)) ?_;(with_reducible refine(spec_l1Below.calls g s0_0 x1001_3 x1002_3 2 t344 t345 t346 w0 _ ?side1 ?side2 A76.out).mono ?_);(case side1=>repeat(first|(with_reducible first|exact HI0.out|apply Mb|apply Md|apply Mc|apply Mf|apply Mg)|exact HI0.out));(case side2=>repeat(first|(with_reducible first|exact HB.out|apply Mn|apply Mj|apply Mo|refine Mr ?_ (Me HI0.out))|exact HB.out));rintro e w83 ⟨rfl,hi,hb,hk⟩;refine⟨_,rfl,?_⟩;have n0_:=Ma (Mu (Mv (IsS102.apart (show IsS102 w0 _ g s0_0 x1001_3 x1002_3 from by repeat(first|(with_reducible first|exact HI0.out|apply Mb|apply Md|apply Mc|apply Mf|apply Mg)|exact HI0.out)) (by(with_reducible repeat(first|apply Ml|apply Mm|apply Mh));exact HO_5.out) (by decide)) hk (fun _ h=>h.2)) (fun _ h=>h.1));have n1_:=Ma (Ms (by repeat(first|(with_reducible first|exact HK.out|apply Mk|apply Mq|apply Mi|apply Mp)|exact HK.out)) hk (.inl rfl));have n2_:=Ma (hb);have n3_:=Ma (hi);clear HO_5;clear HK;clear HB;clear HI0;have HO_5:=n0_;have HK:=n1_;have HB:=n2_;have HI0:=n3_;clear n0_ n1_ n2_ n3_;(try clear hb);(try clear hb2);(try clear hk);(try clear hi)))
                  go_ret
                  exact⟨_,by first|rfl|(simp [errW_none,errW_some] <;> rfl)|(simp [*,errW_none,errW_some] <;> rfl),by(with_reducible repeat(first|apply Ml|apply Mm|apply Mh));exact HO_5.out,by repeat(first|(with_reducible first|exact HI0.out|apply Mb|apply Md|apply Mc|apply Mf|apply Mg)|exact HI0.out),by repeat(first|(with_reducible first|exact HB.out|apply Mn|apply Mj|apply Mo|refine Mr ?_ (Me HI0.out))|exact HB.out),by repeat(first|(with_reducible first|exact HK.out|apply Mk|apply Mq|apply Mi|apply Mp)|exact HK.out)⟩
          · replace c72:=Bool.eq_false_iff.mpr c72
            subst c72
            have H1:(some (x5_13,t339,t340))=some (r1,r2,r3):=by rw [if_neg (show ¬ (false=true) by decide)] at H;exact H
            clear H
            have H:=H1
            clear H1
            simp only [Option.some.injEq,Prod.mk.injEq] at H
            obtain⟨rfl,rfl,rfl⟩:=H
            go_wp2_with (first|((with_reducible refine Mt (f:=68) rfl ?_);refine goesL_ (some 74) rfl rfl Try.func68 (by kernel_rfl) rfl #[.pointer (some ⟨g,0,none⟩),.int .i64 60] rfl (by(try simp only [List.map_toArray,List.map_cons,List.map_nil]);first|done|rfl|(simp only [List.length_drop,List.length_take];rfl)) ?_;(with_reducible refine(spec_l1Once.calls g s0_0 x1001_13 x1002_13 60 false t339 t340 w0 _ ?side1 ?side2 A71.out).mono ?_);(case side1=>repeat(first|(with_reducible first|exact HI0.out|apply Mb|apply Md|apply Mc|apply Mf|apply Mg)|exact HI0.out));(case side2=>repeat(first|(with_reducible first|exact HB.out|apply Mn|apply Mj|apply Mo|refine Mr ?_ (Me HI0.out))|exact HB.out));rintro e w84 ⟨rfl,hi,hb,hk⟩;refine⟨_,rfl,?_⟩;have n0_:=Ma (Mu (Mv (IsS102.apart (show IsS102 w0 _ g s0_0 x1001_13 x1002_13 from by repeat(first|(with_reducible first|exact HI0.out|apply Mb|apply Md|apply Mc|apply Mf|apply Mg)|exact HI0.out)) (by(with_reducible repeat(first|apply Ml|apply Mm|apply Mh));exact HO_5.out) (by decide)) hk (fun _ h=>h.2)) (fun _ h=>h.1));have n1_:=Ma (Ms (by repeat(first|(with_reducible first|exact HK.out|apply Mk|apply Mq|apply Mi|apply Mp)|exact HK.out)) hk (.inl rfl));have n2_:=Ma (hb);have n3_:=Ma (hi);clear HO_5;clear HK;clear HB;clear HI0;have HO_5:=n0_;have HK:=n1_;have HB:=n2_;have HI0:=n3_;clear n0_ n1_ n2_ n3_;(try clear hb);(try clear hb2);(try clear hk);(try clear hi)))
            go_ret
            exact⟨_,by first|rfl|(simp [errW_none,errW_some] <;> rfl)|(simp [*,errW_none,errW_some] <;> rfl),by(with_reducible repeat(first|apply Ml|apply Mm|apply Mh));exact HO_5.out,by repeat(first|(with_reducible first|exact HI0.out|apply Mb|apply Md|apply Mc|apply Mf|apply Mg)|exact HI0.out),by repeat(first|(with_reducible first|exact HB.out|apply Mn|apply Mj|apply Mo|refine Mr ?_ (Me HI0.out))|exact HB.out),by repeat(first|(with_reducible first|exact HK.out|apply Mk|apply Mq|apply Mi|apply Mp)|exact HK.out)⟩

/-! ### spec_DrawUpdate: function 37 -/
def spec_DrawUpdate.f (k : Nat) (l0 : List Int) : Option ((List (S71)) × (List (S71))) := (spec_l1New.f k l0).bind fun bt351 => ((spec_l15DrawPack.f k bt351.1 bt351.2.1 bt351.2.2).bind fun bt355 => ((spec_l15DrawPack.f k bt351.1 bt355.2.1 bt355.2.2).bind fun bt360 => (some (bt355.1, bt360.1))))
theorem spec_DrawUpdate.mono : ∀ a0 k, LeO (spec_DrawUpdate.f k a0) (spec_DrawUpdate.f (k + 1) a0) := by
  intro a0 k
  unfold spec_DrawUpdate.f
  repeat' first
      | (with_reducible exact spec_l15DrawPack.mono _ _ _ _)
      | (with_reducible exact spec_l1New.mono _ _)
      | (with_reducible exact LeO.refl _)
      | (with_reducible exact LeO.none _)
      | (with_reducible refine LeO.ite ?_ ?_)
      | (with_reducible refine LeO.bind ?_ (fun _ => ?_))
      | exact spec_l15DrawPack.mono _ _ _ _
      | exact spec_l1New.mono _ _
      | exact LeO.none _
      | refine LeO.ite ?_ ?_
      | refine LeO.bind ?_ (fun _ => ?_)
set_option maxHeartbeats 8000000 in
set_option maxRecDepth 100000 in
theorem spec_DrawUpdate.calls (k : Nat) (A0 : Option Addr) (c0 : Nat) (l0 : List Int) (r1 : List (S71)) (r2 : List (S71)) (w : World) (hr0 : Kd.C (Kd.int .u8) w A0 l0.length l0) (hc0 : l0.length ≤ c0) (h : spec_DrawUpdate.f k l0 = some (r1, r2)) :
    Calls Try.prog 37 #[.slice A0 l0.length c0] w fun e w'=>∃ v0_ v1_:Value,e=.returned (.tuple #[v0_,v1_])∧Kd.R k71 71 w' w.heap.size (fun k_=>some k_≠(v1_:Value).ownBlock) v0_ r1∧Kd.R k71 71 w' w.heap.size (fun k_=>some k_≠(v0_:Value).ownBlock) v1_ r2∧Below w.heap.size w w':=by
  have HR0:=Ma hr0
  have HC0:=Ma hc0
  clear hr0 hc0
  have HB:=Ma (Below.refl w.heap.size w)
  have H:((spec_l1New.f k l0).bind fun bt351=>((spec_l15DrawPack.f k bt351.1 bt351.2.1 bt351.2.2).bind fun bt355=>((spec_l15DrawPack.f k bt351.1 bt355.2.1 bt355.2.2).bind fun bt360=>(some (bt355.1,bt360.1)))))=some (r1,r2):=h
  clear h
  replace H:=Option.bind_eq_some_iff.mp H
  obtain⟨⟨t351,t352,t353⟩,A20,H⟩:=H
  replace H:((spec_l15DrawPack.f k t351 t352 t353).bind fun bt355=>((spec_l15DrawPack.f k t351 bt355.2.1 bt355.2.2).bind fun bt360=>(some (bt355.1,bt360.1))))=some (r1,r2):=H
  have A2:=Ma A20
  clear A20
  replace H:=Option.bind_eq_some_iff.mp H
  obtain⟨⟨t355,t358,t359⟩,A30,H⟩:=H
  replace H:((spec_l15DrawPack.f k t351 t358 t359).bind fun bt360=>(some (t355,bt360.1)))=some (r1,r2):=H
  have A3:=Ma A30
  clear A30
  replace H:=Option.bind_eq_some_iff.mp H
  obtain⟨⟨t360,t363,t364⟩,A40,H⟩:=H
  replace H:(some (t355,t360))=some (r1,r2):=H
  have A4:=Ma A40
  clear A40
  simp only [Option.some.injEq,Prod.mk.injEq] at H
  obtain⟨rfl,rfl⟩:=H
  go_enter Try.func37,Try.ntmps37
  go_wp2_with (first|((with_reducible refine Mt (f:=64) rfl ?_);refine goesL_ (some 7) rfl rfl Try.func64 (by kernel_rfl) rfl #[.slice A0 l0.length c0] rfl (by(try simp only [List.map_toArray,List.map_cons,List.map_nil]);first|done|rfl|(simp only [List.length_drop,List.length_take];rfl)) ?_;(with_reducible refine(spec_l1New.calls k _ _ l0 t351 t352 t353 w _ ?side1 ?side2 ?side3 A2.out).mono ?_);(case side1=>repeat(first|(with_reducible first|exact HB.out|apply Mn|apply Mj|apply Mo)|exact HB.out));(case side2=>exact HR0.out);(case side3=>exact HC0.out);rintro e w5 ⟨g354,rfl,hi,hb,hb2⟩;refine⟨_,rfl,?_⟩;have n0_:=Ma (hb);have n1_:=Ma (hi);clear HB;have HB:=n0_;have qa:=n1_;clear n0_ n1_;(try clear hb);(try clear hb2);(try clear hk);(try clear hi))|((with_reducible refine Mt (f:=75) rfl ?_);refine goesL_ (some 9) rfl rfl Try.func75 (by kernel_rfl) rfl #[.pointer (some ⟨g354,0,none⟩)] rfl (by(try simp only [List.map_toArray,List.map_cons,List.map_nil]);first|done|rfl|(simp only [List.length_drop,List.length_take];rfl)) ?_;(with_reducible refine(spec_l15DrawPack.calls k g354 t351 t352 t353 t355 t358 t359 w _ ?side1 ?side2 A3.out).mono ?_);(case side1=>repeat(first|(with_reducible first|exact qa.out|apply Mb|apply Md|apply Mc|apply Mf|apply Mg)|exact qa.out));(case side2=>repeat(first|(with_reducible first|exact HB.out|apply Mn|apply Mj|apply Mo|refine Mr ?_ (Me qa.out))|exact HB.out));rintro e w6 ⟨v356,rfl,ho0,hi,hb,hk⟩;refine⟨_,rfl,?_⟩;have n0_:=Ma (Kd.R_lower ho0 (below_size (by repeat(first|(with_reducible first|exact HB.out|apply Mn|apply Mj|apply Mo|refine Mr ?_ (Me qa.out))|exact HB.out))));have n1_:=Ma (hb);have n2_:=Ma (hi);clear HB;clear qa;have HO357:=n0_;have HB:=n1_;have qa:=n2_;clear n0_ n1_ n2_;(try clear hb);(try clear hb2);(try clear hk);(try clear hi);(try clear ho0))|((with_reducible refine Mt (f:=75) rfl ?_);refine goesL_ (some 12) rfl rfl Try.func75 (by kernel_rfl) rfl #[.pointer (some ⟨g354,0,none⟩)] rfl (by(try simp only [List.map_toArray,List.map_cons,List.map_nil]);first|done|rfl|(simp only [List.length_drop,List.length_take];rfl)) ?_;(with_reducible refine(spec_l15DrawPack.calls k g354 t351 t358 t359 t360 t363 t364 w _ ?side1 ?side2 A4.out).mono ?_);(case side1=>repeat(first|(with_reducible first|exact qa.out|apply Mb|apply Md|apply Mc|apply Mf|apply Mg)|exact qa.out));(case side2=>repeat(first|(with_reducible first|exact HB.out|apply Mn|apply Mj|apply Mo|refine Mr ?_ (Me qa.out))|exact HB.out));rintro e w7 ⟨v361,rfl,ho0,hi,hb,hk⟩;refine⟨_,rfl,?_⟩;have n0_:=Ma (Mu (Kd.R_told (Kd.R_oldK (IsS102.apart (show IsS102 w _ g354 t351 t358 t359 from by repeat(first|(with_reducible first|exact qa.out|apply Mb|apply Md|apply Mc|apply Mf|apply Mg)|exact qa.out)) (by(with_reducible repeat(first|apply Ml|apply Mm|apply Mh));exact HO357.out) (by decide)) hk) (Kd.R_base ho0)) (fun _ h_=>h_.1));have n1_:=Ma (Kd.R_lower (Kd.R_new' ho0 (Kd.R_lt (by(with_reducible repeat(first|apply Ml|apply Mm|apply Mh));exact HO357.out))) (below_size (by repeat(first|(with_reducible first|exact HB.out|apply Mn|apply Mj|apply Mo|refine Mr ?_ (Me qa.out))|exact HB.out))));have n2_:=Ma (hb);have n3_:=Ma (hi);clear HO357;clear HB;clear qa;have HO357:=n0_;have HO362:=n1_;have HB:=n2_;have qa:=n3_;clear n0_ n1_ n2_ n3_;(try clear hb);(try clear hb2);(try clear hk);(try clear hi);(try clear ho0)))
  go_ret2
  exact⟨_,_,by first|rfl|(simp [errW_none,errW_some] <;> rfl)|(simp [*,errW_none,errW_some] <;> rfl),by(with_reducible repeat(first|apply Ml|apply Mm|apply Mh));exact Mu HO357.out (fun _ hk=>hk.2),by(with_reducible repeat(first|apply Ml|apply Mm|apply Mh));exact Mu HO362.out (fun _ hk=>hk.2),by repeat(first|(with_reducible first|exact HB.out|apply Mn|apply Mj|apply Mo|refine Mr ?_ (Me qa.out))|exact HB.out)⟩

end Go.Proofs.Ytelcpfanjjfgdaa.HFnUpdated
