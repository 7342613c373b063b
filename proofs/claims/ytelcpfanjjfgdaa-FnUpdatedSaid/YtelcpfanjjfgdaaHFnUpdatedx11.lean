-- Laid by myprint.py, a program of this repo, out of the kit's printer and this repo's own texts (wip/hand).
import Derived.Test.YtelcpfanjjfgdaaHFnUpdatedx0
import Derived.Test.YtelcpfanjjfgdaaHFnUpdatedx8
namespace Go.Proofs.Ytelcpfanjjfgdaa.HFnUpdated
open Go.RowKit Go.Proofs.YtelcpfanjjfgdaaW.PrintWords Go.Proofs.YtelcpfanjjfgdaaW.PrintLast Go.Proofs.YtelcpfanjjfgdaaW.PrintMore
attribute [local go_sem] max2_int min2_int max_two min_two max_three min_three max_four min_four   -- for this text's walks alone
set_option linter.unusedVariables false
set_option linter.unusedSimpArgs false
theorem La : type_of% @Aside0.mk := @Aside0.mk
theorem Lb : type_of% @IsS102.alloc := @IsS102.alloc
theorem Lc : type_of% @IsS102.drew := @IsS102.drew
theorem Ld : type_of% @IsS102.drewN := @IsS102.drewN
theorem Le : type_of% @IsS102.ge := @IsS102.ge
theorem Lf : type_of% @IsS102.set_1 := @IsS102.set_1
theorem Lg : type_of% @IsS102.set_2 := @IsS102.set_2
theorem Lh : type_of% @keep_drew := @keep_drew
theorem Li : type_of% @pw_below_drewN := @pw_below_drewN
theorem Lj : type_of% @KeepBut.set_ := @KeepBut.set_
theorem Lk : type_of% @Kd.R_drew := @Kd.R_drew
theorem Ll : type_of% @below_alloc := @below_alloc
theorem Lm : type_of% @below_drew1 := @below_drew1
theorem Ln : type_of% @keep_alloc := @keep_alloc
theorem Lo : type_of% @keep_drewN := @keep_drewN
theorem Lp : type_of% @below_set := @below_set
theorem Lq : type_of% @Kd.S_drew := @Kd.S_drew
theorem Lr : type_of% @Kd.R_alloc := @Kd.R_alloc
theorem Ls : type_of% @Kd.R_drewN := @Kd.R_drewN
theorem Lt : type_of% @KeepBut.trans := @KeepBut.trans
theorem Lu : type_of% @Kd.S_alloc := @Kd.S_alloc
theorem Lv : type_of% @Kd.S_drewN := @Kd.S_drewN
theorem Lw : type_of% @Kd.R_mono := @Kd.R_mono
theorem Lx : type_of% @gate_callee := @gate_callee

/-! ### spec_l1Byte: function 85 -/
def spec_l1Byte.f (s0_0 : List Int) (s0_1 : Int) (s0_2 : Int) : Option (Int × Int × Int) := if s0_1 < (s0_0.length : Int) then (if 0 ≤ s0_1 then (some (Go.bits .and .i64 (wrap64 ((Go.bits .and .i64 (Go.bits .xor .i64 ((wrap64 ((wrap64 (s0_2 * 6364136223846793005)) + 1442695040888963407)) / 8589934592) ((wrap64 ((wrap64 (s0_2 * 6364136223846793005)) + 1442695040888963407)) / 35184372088832)) 255) + (wrap64 (rd s0_0 s0_1)))) 255, wrap64 (s0_1 + 1), wrap64 ((wrap64 (s0_2 * 6364136223846793005)) + 1442695040888963407))) else (none)) else (some (Go.bits .and .i64 (Go.bits .xor .i64 ((wrap64 ((wrap64 (s0_2 * 6364136223846793005)) + 1442695040888963407)) / 8589934592) ((wrap64 ((wrap64 (s0_2 * 6364136223846793005)) + 1442695040888963407)) / 35184372088832)) 255, s0_1, wrap64 ((wrap64 (s0_2 * 6364136223846793005)) + 1442695040888963407)))
set_option maxHeartbeats 8000000 in
set_option maxRecDepth 100000 in
theorem spec_l1Byte.calls (g : Nat) (s0_0 : List Int) (s0_1 : Int) (s0_2 : Int) (r1 : Int) (r2 : Int) (r3 : Int) (w0 w : World) (hI : IsS102 w0 w g s0_0 s0_1 s0_2) (hB : Below w0.heap.size w0 w) (h : spec_l1Byte.f s0_0 s0_1 s0_2 = some (r1, r2, r3)) :
    Calls Try.prog 85 #[.pointer (some ⟨g,0,none⟩)] w fun e w'=>e=.returned (.int .i64 r1)∧IsS102 w0 w' g s0_0 r2 r3∧Below w0.heap.size w0 w'∧KeepBut w w' g none:=by
  have HI0:=La hI
  have HK:=La (KeepBut.refl w g none)
  have HL:=La hB.size
  clear hI
  have HW0:=La hB.size
  have HB:=La hB
  clear hB
  have H:(if s0_1 < (s0_0.length:Int) then (if 0≤s0_1 then (some (Go.bits .and .i64 (wrap64 ((Go.bits .and .i64 (Go.bits .xor .i64 ((wrap64 ((wrap64 (s0_2*6364136223846793005))+1442695040888963407)) / 8589934592) ((wrap64 ((wrap64 (s0_2*6364136223846793005))+1442695040888963407)) / 35184372088832)) 255)+(wrap64 (rd s0_0 s0_1)))) 255,wrap64 (s0_1+1),wrap64 ((wrap64 (s0_2*6364136223846793005))+1442695040888963407))) else (none)) else (some (Go.bits .and .i64 (Go.bits .xor .i64 ((wrap64 ((wrap64 (s0_2*6364136223846793005))+1442695040888963407)) / 8589934592) ((wrap64 ((wrap64 (s0_2*6364136223846793005))+1442695040888963407)) / 35184372088832)) 255,s0_1,wrap64 ((wrap64 (s0_2*6364136223846793005))+1442695040888963407))))=some (r1,r2,r3):=h
  clear h
  by_cases c2:s0_1 < (s0_0.length:Int)
  · rw [if_pos c2] at H
    have c2b0:decide (s0_1 < (s0_0.length:Int))=true:=decide_eq_true c2
    clear c2
    by_cases c3:0≤s0_1
    · rw [if_pos c3] at H
      have c3b0:decide (0≤s0_1)=true:=decide_eq_true c3
      clear c3
      simp only [Option.some.injEq,Prod.mk.injEq] at H
      obtain⟨rfl,rfl,rfl⟩:=H
      obtain⟨ASz4_0,cSz4_0,HGz4,hgz4,HSz4_0⟩:=HI0.out
      have hcz4_0:=cellS102_0 HGz4
      have hcz4_1:=cellS102_1 HGz4
      have hcz4_2:=cellS102_2 HGz4
      have hfz4_1:=blk_frozen HGz4 1
      have hfz4_2:=blk_frozen HGz4 2
      clear HGz4 hgz4
      have p198:0≤(s0_1:Int):=of_decide_eq_true (by first|(with_reducible assumption)|assumption)
      have q198:s0_1 < (s0_0.length:Int):=of_decide_eq_true (by first|(with_reducible assumption)|assumption)
      obtain⟨ad198,e198,hx198_0⟩:=Kd.at_int HSz4_0 s0_1 p198 q198
      cases e198
      have hn198_0:ad198.block≠g:=Nat.ne_of_lt (Nat.lt_of_lt_of_le (by have:=World.block_lt_of_cell? _ _ hx198_0;first|rwa [add_block] at this|exact this) (Le HI0.out))
      replace hx198_0:=pw_cell_below HB.out hx198_0
      replace hx198_0:=(cell_far (p:=⟨g,2,none⟩) (by first|(rw [add_block];exact hn198_0)|(show(Addr.add _ _).block≠_;rw [add_block];exact hn198_0)|exact hn198_0) (.int .i64 (wrap64 ((wrap64 (s0_2*6364136223846793005))+1442695040888963407)))).trans hx198_0
      (try have hy198_0:=fun (n_:Nat)=>(show(((w.drewN n_).setCell ⟨g,2,none⟩ (.int .i64 (wrap64 ((wrap64 (s0_2*6364136223846793005))+1442695040888963407))))).cell? _=some _ from hx198_0))
      clear hn198_0
      replace p198:=eq_true p198
      replace q198:=eq_true q198
      go_enter Try.func85,Try.ntmps85
      go_wp2
      repeat(go_quiet (fail);try go_wp2)
      go_ret
      exact⟨by first|rfl|(simp [errW_none,errW_some] <;> rfl)|(simp [*,errW_none,errW_some] <;> rfl),by repeat(first|(with_reducible first|exact HI0.out|apply Lb|apply Ld|apply Lc|apply Lf|apply Lg)|exact HI0.out),by repeat(first|(with_reducible first|exact HB.out|apply Ll|apply Li|apply Lm|refine Lp ?_ (Le HI0.out))|exact HB.out),by repeat(first|(with_reducible first|exact HK.out|apply Lj|apply Lo|apply Lh|apply Ln)|exact HK.out)⟩
    · rw [if_neg c3] at H
      exact absurd H (by simp)
  · rw [if_neg c2] at H
    have c2b0:decide (s0_1 < (s0_0.length:Int))=false:=decide_eq_false c2
    clear c2
    simp only [Option.some.injEq,Prod.mk.injEq] at H
    obtain⟨rfl,rfl,rfl⟩:=H
    obtain⟨ASz5_0,cSz5_0,HGz5,hgz5,HSz5_0⟩:=HI0.out
    have hcz5_0:=cellS102_0 HGz5
    have hcz5_1:=cellS102_1 HGz5
    have hcz5_2:=cellS102_2 HGz5
    have hfz5_1:=blk_frozen HGz5 1
    have hfz5_2:=blk_frozen HGz5 2
    clear HGz5 hgz5
    go_enter Try.func85,Try.ntmps85
    go_wp2
    repeat(go_quiet (fail);try go_wp2)
    go_ret
    exact⟨by first|rfl|(simp [errW_none,errW_some] <;> rfl)|(simp [*,errW_none,errW_some] <;> rfl),by repeat(first|(with_reducible first|exact HI0.out|apply Lb|apply Ld|apply Lc|apply Lf|apply Lg)|exact HI0.out),by repeat(first|(with_reducible first|exact HB.out|apply Ll|apply Li|apply Lm|refine Lp ?_ (Le HI0.out))|exact HB.out),by repeat(first|(with_reducible first|exact HK.out|apply Lj|apply Lo|apply Lh|apply Ln)|exact HK.out)⟩

/-! ### spec_l1Below: function 65 -/
def spec_l1Below.f (s0_0 : List Int) (s0_1 : Int) (s0_2 : Int) (a1 : Int) : Option (Int × Int × Int) := if a1 ≤ 0 then (some (0, s0_1, s0_2)) else (if a1 ≤ 256 then ((spec_l1Byte.f s0_0 s0_1 s0_2).bind fun bt199 => (if a1 = 0 then (none) else (some (Int.tmod bt199.1 a1, bt199.2.1, bt199.2.2)))) else ((spec_l1Byte.f s0_0 s0_1 s0_2).bind fun bt202 => ((spec_l1Byte.f s0_0 bt202.2.1 bt202.2.2).bind fun bt205 => ((spec_l1Byte.f s0_0 bt205.2.1 bt205.2.2).bind fun bt208 => ((spec_l1Byte.f s0_0 bt208.2.1 bt208.2.2).bind fun bt211 => (if a1 = 0 then (none) else (some (Int.tmod (wrap64 ((wrap64 ((wrap64 ((wrap64 (bt202.1 * 16777216)) + (wrap64 (bt205.1 * 65536)))) + (wrap64 (bt208.1 * 256)))) + bt211.1)) a1, bt211.2.1, bt211.2.2))))))))
set_option maxHeartbeats 8000000 in
set_option maxRecDepth 100000 in
theorem spec_l1Below.calls (g : Nat) (s0_0 : List Int) (s0_1 : Int) (s0_2 : Int) (a1 : Int) (r1 : Int) (r2 : Int) (r3 : Int) (w0 w : World) (hI : IsS102 w0 w g s0_0 s0_1 s0_2) (hB : Below w0.heap.size w0 w) (h : spec_l1Below.f s0_0 s0_1 s0_2 a1 = some (r1, r2, r3)) :
    Calls Try.prog 65 #[.pointer (some ⟨g,0,none⟩),.int .i64 a1] w fun e w'=>e=.returned (.int .i64 r1)∧IsS102 w0 w' g s0_0 r2 r3∧Below w0.heap.size w0 w'∧KeepBut w w' g none:=by
  have HI0:=La hI
  have HK:=La (KeepBut.refl w g none)
  have HL:=La hB.size
  clear hI
  have HW0:=La hB.size
  have HB:=La hB
  clear hB
  have H:(if a1≤0 then (some (0,s0_1,s0_2)) else (if a1≤256 then ((spec_l1Byte.f s0_0 s0_1 s0_2).bind fun bt199=>(if a1=0 then (none) else (some (Int.tmod bt199.1 a1,bt199.2.1,bt199.2.2)))) else ((spec_l1Byte.f s0_0 s0_1 s0_2).bind fun bt202=>((spec_l1Byte.f s0_0 bt202.2.1 bt202.2.2).bind fun bt205=>((spec_l1Byte.f s0_0 bt205.2.1 bt205.2.2).bind fun bt208=>((spec_l1Byte.f s0_0 bt208.2.1 bt208.2.2).bind fun bt211=>(if a1=0 then (none) else (some (Int.tmod (wrap64 ((wrap64 ((wrap64 ((wrap64 (bt202.1*16777216))+(wrap64 (bt205.1*65536))))+(wrap64 (bt208.1*256))))+bt211.1)) a1,bt211.2.1,bt211.2.2)))))))))=some (r1,r2,r3):=h
  clear h
  by_cases c3:a1≤0
  · rw [if_pos c3] at H
    have c3b0:decide (a1≤0)=true:=decide_eq_true c3
    clear c3
    simp only [Option.some.injEq,Prod.mk.injEq] at H
    obtain⟨rfl,rfl,rfl⟩:=H
    go_enter Try.func65,Try.ntmps65
    go_wp2
    go_ret
    exact⟨by first|rfl|(simp [errW_none,errW_some] <;> rfl)|(simp [*,errW_none,errW_some] <;> rfl),by repeat(first|(with_reducible first|exact HI0.out|apply Lb|apply Ld|apply Lc|apply Lf|apply Lg)|exact HI0.out),by repeat(first|(with_reducible first|exact HB.out|apply Ll|apply Li|apply Lm|refine Lp ?_ (Le HI0.out))|exact HB.out),by repeat(first|(with_reducible first|exact HK.out|apply Lj|apply Lo|apply Lh|apply Ln)|exact HK.out)⟩
  · rw [if_neg c3] at H
    have c3b0:decide (a1≤0)=false:=decide_eq_false c3
    clear c3
    by_cases c4:a1≤256
    · rw [if_pos c4] at H
      have c4b0:decide (a1≤256)=true:=decide_eq_true c4
      clear c4
      replace H:=Option.bind_eq_some_iff.mp H
      obtain⟨⟨t199,t200,t201⟩,A50,H⟩:=H
      replace H:(if a1=0 then (none) else (some (Int.tmod t199 a1,t200,t201)))=some (r1,r2,r3):=H
      have A5:=La A50
      clear A50
      by_cases c6:a1=0
      · rw [if_pos c6] at H
        exact absurd H (by simp)
      · rw [if_neg c6] at H
        have c6b0:(a1 == 0)=false:=beq_eq_false_iff_ne.mpr c6
        have c6b1:(a1 != 0)=true:=bne_iff_ne.mpr c6
        simp only [Option.some.injEq,Prod.mk.injEq] at H
        obtain⟨rfl,rfl,rfl⟩:=H
        go_enter Try.func65,Try.ntmps65
        go_wp2_with (first|((with_reducible refine Lx (f:=85) rfl ?_);refine goesL_ (some 14) rfl rfl Try.func85 (by kernel_rfl) rfl #[.pointer (some ⟨g,0,none⟩)] rfl (by(try simp only [List.map_toArray,List.map_cons,List.map_nil]);first|done|rfl|(simp only [List.length_drop,List.length_take];rfl)) ?_;(with_reducible refine(spec_l1Byte.calls g s0_0 s0_1 s0_2 t199 t200 t201 w0 _ ?side1 ?side2 A5.out).mono ?_);(case side1=>repeat(first|(with_reducible first|exact HI0.out|apply Lb|apply Ld|apply Lc|apply Lf|apply Lg)|exact HI0.out));(case side2=>repeat(first|(with_reducible first|exact HB.out|apply Ll|apply Li|apply Lm|refine Lp ?_ (Le HI0.out))|exact HB.out));rintro e w7 ⟨rfl,hi,hb,hk⟩;refine⟨_,rfl,?_⟩;have n0_:=La (Lt (by repeat(first|(with_reducible first|exact HK.out|apply Lj|apply Lo|apply Lh|apply Ln)|exact HK.out)) hk (.inl rfl));have n1_:=La (hb);have n2_:=La (hi);clear HK;clear HB;clear HI0;have HK:=n0_;have HB:=n1_;have HI0:=n2_;clear n0_ n1_ n2_;(try clear hb);(try clear hb2);(try clear hk);(try clear hi)))
        go_ret
        exact⟨by first|rfl|(simp [errW_none,errW_some] <;> rfl)|(simp [*,errW_none,errW_some] <;> rfl),by repeat(first|(with_reducible first|exact HI0.out|apply Lb|apply Ld|apply Lc|apply Lf|apply Lg)|exact HI0.out),by repeat(first|(with_reducible first|exact HB.out|apply Ll|apply Li|apply Lm|refine Lp ?_ (Le HI0.out))|exact HB.out),by repeat(first|(with_reducible first|exact HK.out|apply Lj|apply Lo|apply Lh|apply Ln)|exact HK.out)⟩
    · rw [if_neg c4] at H
      have c4b0:decide (a1≤256)=false:=decide_eq_false c4
      clear c4
      replace H:=Option.bind_eq_some_iff.mp H
      obtain⟨⟨t202,t203,t204⟩,A80,H⟩:=H
      replace H:((spec_l1Byte.f s0_0 t203 t204).bind fun bt205=>((spec_l1Byte.f s0_0 bt205.2.1 bt205.2.2).bind fun bt208=>((spec_l1Byte.f s0_0 bt208.2.1 bt208.2.2).bind fun bt211=>(if a1=0 then (none) else (some (Int.tmod (wrap64 ((wrap64 ((wrap64 ((wrap64 (t202*16777216))+(wrap64 (bt205.1*65536))))+(wrap64 (bt208.1*256))))+bt211.1)) a1,bt211.2.1,bt211.2.2))))))=some (r1,r2,r3):=H
      have A8:=La A80
      clear A80
      replace H:=Option.bind_eq_some_iff.mp H
      obtain⟨⟨t205,t206,t207⟩,A90,H⟩:=H
      replace H:((spec_l1Byte.f s0_0 t206 t207).bind fun bt208=>((spec_l1Byte.f s0_0 bt208.2.1 bt208.2.2).bind fun bt211=>(if a1=0 then (none) else (some (Int.tmod (wrap64 ((wrap64 ((wrap64 ((wrap64 (t202*16777216))+(wrap64 (t205*65536))))+(wrap64 (bt208.1*256))))+bt211.1)) a1,bt211.2.1,bt211.2.2)))))=some (r1,r2,r3):=H
      have A9:=La A90
      clear A90
      replace H:=Option.bind_eq_some_iff.mp H
      obtain⟨⟨t208,t209,t210⟩,A100,H⟩:=H
      replace H:((spec_l1Byte.f s0_0 t209 t210).bind fun bt211=>(if a1=0 then (none) else (some (Int.tmod (wrap64 ((wrap64 ((wrap64 ((wrap64 (t202*16777216))+(wrap64 (t205*65536))))+(wrap64 (t208*256))))+bt211.1)) a1,bt211.2.1,bt211.2.2))))=some (r1,r2,r3):=H
      have A10:=La A100
      clear A100
      replace H:=Option.bind_eq_some_iff.mp H
      obtain⟨⟨t211,t212,t213⟩,A110,H⟩:=H
      replace H:(if a1=0 then (none) else (some (Int.tmod (wrap64 ((wrap64 ((wrap64 ((wrap64 (t202*16777216))+(wrap64 (t205*65536))))+(wrap64 (t208*256))))+t211)) a1,t212,t213)))=some (r1,r2,r3):=H
      have A11:=La A110
      clear A110
      by_cases c12:a1=0
      · rw [if_pos c12] at H
        exact absurd H (by simp)
      · rw [if_neg c12] at H
        have c12b0:(a1 == 0)=false:=beq_eq_false_iff_ne.mpr c12
        have c12b1:(a1 != 0)=true:=bne_iff_ne.mpr c12
        simp only [Option.some.injEq,Prod.mk.injEq] at H
        obtain⟨rfl,rfl,rfl⟩:=H
        go_enter Try.func65,Try.ntmps65
        go_wp2_with (first|((with_reducible refine Lx (f:=85) rfl ?_);refine goesL_ (some 18) rfl rfl Try.func85 (by kernel_rfl) rfl #[.pointer (some ⟨g,0,none⟩)] rfl (by(try simp only [List.map_toArray,List.map_cons,List.map_nil]);first|done|rfl|(simp only [List.length_drop,List.length_take];rfl)) ?_;(with_reducible refine(spec_l1Byte.calls g s0_0 s0_1 s0_2 t202 t203 t204 w0 _ ?side1 ?side2 A8.out).mono ?_);(case side1=>repeat(first|(with_reducible first|exact HI0.out|apply Lb|apply Ld|apply Lc|apply Lf|apply Lg)|exact HI0.out));(case side2=>repeat(first|(with_reducible first|exact HB.out|apply Ll|apply Li|apply Lm|refine Lp ?_ (Le HI0.out))|exact HB.out));rintro e w13 ⟨rfl,hi,hb,hk⟩;refine⟨_,rfl,?_⟩;have n0_:=La (Lt (by repeat(first|(with_reducible first|exact HK.out|apply Lj|apply Lo|apply Lh|apply Ln)|exact HK.out)) hk (.inl rfl));have n1_:=La (hb);have n2_:=La (hi);clear HK;clear HB;clear HI0;have HK:=n0_;have HB:=n1_;have HI0:=n2_;clear n0_ n1_ n2_;(try clear hb);(try clear hb2);(try clear hk);(try clear hi))|((with_reducible refine Lx (f:=85) rfl ?_);refine goesL_ (some 20) rfl rfl Try.func85 (by kernel_rfl) rfl #[.pointer (some ⟨g,0,none⟩)] rfl (by(try simp only [List.map_toArray,List.map_cons,List.map_nil]);first|done|rfl|(simp only [List.length_drop,List.length_take];rfl)) ?_;(with_reducible refine(spec_l1Byte.calls g s0_0 t203 t204 t205 t206 t207 w0 _ ?side1 ?side2 A9.out).mono ?_);(case side1=>repeat(first|(with_reducible first|exact HI0.out|apply Lb|apply Ld|apply Lc|apply Lf|apply Lg)|exact HI0.out));(case side2=>repeat(first|(with_reducible first|exact HB.out|apply Ll|apply Li|apply Lm|refine Lp ?_ (Le HI0.out))|exact HB.out));rintro e w14 ⟨rfl,hi,hb,hk⟩;refine⟨_,rfl,?_⟩;have n0_:=La (Lt (by repeat(first|(with_reducible first|exact HK.out|apply Lj|apply Lo|apply Lh|apply Ln)|exact HK.out)) hk (.inl rfl));have n1_:=La (hb);have n2_:=La (hi);clear HK;clear HB;clear HI0;have HK:=n0_;have HB:=n1_;have HI0:=n2_;clear n0_ n1_ n2_;(try clear hb);(try clear hb2);(try clear hk);(try clear hi))|((with_reducible refine Lx (f:=85) rfl ?_);refine goesL_ (some 22) rfl rfl Try.func85 (by kernel_rfl) rfl #[.pointer (some ⟨g,0,none⟩)] rfl (by(try simp only [List.map_toArray,List.map_cons,List.map_nil]);first|done|rfl|(simp only [List.length_drop,List.length_take];rfl)) ?_;(with_reducible refine(spec_l1Byte.calls g s0_0 t206 t207 t208 t209 t210 w0 _ ?side1 ?side2 A10.out).mono ?_);(case side1=>repeat(first|(with_reducible first|exact HI0.out|apply Lb|apply Ld|apply Lc|apply Lf|apply Lg)|exact HI0.out));(case side2=>repeat(first|(with_reducible first|exact HB.out|apply Ll|apply Li|apply Lm|refine Lp ?_ (Le HI0.out))|exact HB.out));rintro e w15 ⟨rfl,hi,hb,hk⟩;refine⟨_,rfl,?_⟩;have n0_:=La (Lt (by repeat(first|(with_reducible first|exact HK.out|apply Lj|apply Lo|apply Lh|apply Ln)|exact HK.out)) hk (.inl rfl));have n1_:=La (hb);have n2_:=La (hi);clear HK;clear HB;clear HI0;have HK:=n0_;have HB:=n1_;have HI0:=n2_;clear n0_ n1_ n2_;(try clear hb);(try clear hb2);(try clear hk);(try clear hi))|((with_reducible refine Lx (f:=85) rfl ?_);refine goesL_ (some 24) rfl rfl Try.func85 (by kernel_rfl) rfl #[.pointer (some ⟨g,0,none⟩)] rfl (by(try simp only [List.map_toArray,List.map_cons,List.map_nil]);first|done|rfl|(simp only [List.length_drop,List.length_take];rfl)) ?_;(with_reducible refine(spec_l1Byte.calls g s0_0 t209 t210 t211 t212 t213 w0 _ ?side1 ?side2 A11.out).mono ?_);(case side1=>repeat(first|(with_reducible first|exact HI0.out|apply Lb|apply Ld|apply Lc|apply Lf|apply Lg)|exact HI0.out));(case side2=>repeat(first|(with_reducible first|exact HB.out|apply Ll|apply Li|apply Lm|refine Lp ?_ (Le HI0.out))|exact HB.out));rintro e w16 ⟨rfl,hi,hb,hk⟩;refine⟨_,rfl,?_⟩;have n0_:=La (Lt (by repeat(first|(with_reducible first|exact HK.out|apply Lj|apply Lo|apply Lh|apply Ln)|exact HK.out)) hk (.inl rfl));have n1_:=La (hb);have n2_:=La (hi);clear HK;clear HB;clear HI0;have HK:=n0_;have HB:=n1_;have HI0:=n2_;clear n0_ n1_ n2_;(try clear hb);(try clear hb2);(try clear hk);(try clear hi)))
        go_ret
        exact⟨by first|rfl|(simp [errW_none,errW_some] <;> rfl)|(simp [*,errW_none,errW_some] <;> rfl),by repeat(first|(with_reducible first|exact HI0.out|apply Lb|apply Ld|apply Lc|apply Lf|apply Lg)|exact HI0.out),by repeat(first|(with_reducible first|exact HB.out|apply Ll|apply Li|apply Lm|refine Lp ?_ (Le HI0.out))|exact HB.out),by repeat(first|(with_reducible first|exact HK.out|apply Lj|apply Lo|apply Lh|apply Ln)|exact HK.out)⟩

/-! ### spec_l1Once: function 68 -/
def spec_l1Once.f (s0_0 : List Int) (s0_1 : Int) (s0_2 : Int) (a1 : Int) : Option (Bool × Int × Int) := (spec_l1Below.f s0_0 s0_1 s0_2 a1).bind fun bt214 => (some ((bt214.1 == 0), bt214.2.1, bt214.2.2))
set_option maxHeartbeats 8000000 in
set_option maxRecDepth 100000 in
theorem spec_l1Once.calls (g : Nat) (s0_0 : List Int) (s0_1 : Int) (s0_2 : Int) (a1 : Int) (r1 : Bool) (r2 : Int) (r3 : Int) (w0 w : World) (hI : IsS102 w0 w g s0_0 s0_1 s0_2) (hB : Below w0.heap.size w0 w) (h : spec_l1Once.f s0_0 s0_1 s0_2 a1 = some (r1, r2, r3)) :
    Calls Try.prog 68 #[.pointer (some ⟨g,0,none⟩),.int .i64 a1] w fun e w'=>e=.returned (.bool r1)∧IsS102 w0 w' g s0_0 r2 r3∧Below w0.heap.size w0 w'∧KeepBut w w' g none:=by
  have HI0:=La hI
  have HK:=La (KeepBut.refl w g none)
  have HL:=La hB.size
  clear hI
  have HW0:=La hB.size
  have HB:=La hB
  clear hB
  have H:((spec_l1Below.f s0_0 s0_1 s0_2 a1).bind fun bt214=>(some ((bt214.1 == 0),bt214.2.1,bt214.2.2)))=some (r1,r2,r3):=h
  clear h
  replace H:=Option.bind_eq_some_iff.mp H
  obtain⟨⟨t214,t215,t216⟩,A30,H⟩:=H
  replace H:(some ((t214 == 0),t215,t216))=some (r1,r2,r3):=H
  have A3:=La A30
  clear A30
  simp only [Option.some.injEq,Prod.mk.injEq] at H
  obtain⟨rfl,rfl,rfl⟩:=H
  go_enter Try.func68,Try.ntmps68
  go_wp2_with (first|((with_reducible refine Lx (f:=65) rfl ?_);refine goesL_ (some 7) rfl rfl Try.func65 (by kernel_rfl) rfl #[.pointer (some ⟨g,0,none⟩),.int .i64 a1] rfl (by(try simp only [List.map_toArray,List.map_cons,List.map_nil]);first|done|rfl|(simp only [List.length_drop,List.length_take];rfl)) ?_;(with_reducible refine(spec_l1Below.calls g s0_0 s0_1 s0_2 a1 t214 t215 t216 w0 _ ?side1 ?side2 A3.out).mono ?_);(case side1=>repeat(first|(with_reducible first|exact HI0.out|apply Lb|apply Ld|apply Lc|apply Lf|apply Lg)|exact HI0.out));(case side2=>repeat(first|(with_reducible first|exact HB.out|apply Ll|apply Li|apply Lm|refine Lp ?_ (Le HI0.out))|exact HB.out));rintro e w4 ⟨rfl,hi,hb,hk⟩;refine⟨_,rfl,?_⟩;have n0_:=La (Lt (by repeat(first|(with_reducible first|exact HK.out|apply Lj|apply Lo|apply Lh|apply Ln)|exact HK.out)) hk (.inl rfl));have n1_:=La (hb);have n2_:=La (hi);clear HK;clear HB;clear HI0;have HK:=n0_;have HB:=n1_;have HI0:=n2_;clear n0_ n1_ n2_;(try clear hb);(try clear hb2);(try clear hk);(try clear hi)))
  go_ret
  exact⟨by first|rfl|(simp [errW_none,errW_some] <;> rfl)|(simp [*,errW_none,errW_some] <;> rfl),by repeat(first|(with_reducible first|exact HI0.out|apply Lb|apply Ld|apply Lc|apply Lf|apply Lg)|exact HI0.out),by repeat(first|(with_reducible first|exact HB.out|apply Ll|apply Li|apply Lm|refine Lp ?_ (Le HI0.out))|exact HB.out),by repeat(first|(with_reducible first|exact HK.out|apply Lj|apply Lo|apply Lh|apply Ln)|exact HK.out)⟩

/-! ### spec_l15DrawBody: function 70 -/
def spec_l15DrawBody.l0 : Nat → List Int → Int → List Int → Int → Int → Option (List Int × Int × Int)
  | 0, _, _, _, _, _ => none
  | k + 1, x3, x4, x1000, x1001, x1002 => if x4 > 0 then ((spec_l1Byte.f x1000 x1001 x1002).bind fun bt223 => (if x3.length < 140737488355328 then (spec_l15DrawBody.l0 k (x3 ++ [(bt223.1) % 256]) (wrap64 (x4 - 1)) x1000 bt223.2.1 bt223.2.2) else (none))) else ((spec_l1Once.f x1000 x1001 x1002 90).bind fun bt229 => (if bt229.1 = true then ((spec_l1Below.f x1000 bt229.2.1 bt229.2.2 2).bind fun bt232 => (if 0 ≤ (wrap64 (40000 + bt232.1)) then (if (wrap64 (40000 + bt232.1) : Int).toNat ≤ 281474976710656 then (some ((List.replicate (wrap64 (40000 + bt232.1) : Int).toNat 0), bt232.2.1, bt232.2.2)) else (none)) else (none))) else (some (x3, bt229.2.1, bt229.2.2))))
def spec_l15DrawBody.f (k : Nat) (s0_0 : List Int) (s0_1 : Int) (s0_2 : Int) : Option (List Int × Int × Int) := (spec_l1Below.f s0_0 s0_1 s0_2 10).bind fun bt220 => (spec_l15DrawBody.l0 k (([] : List Int)) bt220.1 s0_0 bt220.2.1 bt220.2.2)
theorem spec_l15DrawBody.mono_l : ∀ k, (∀ y0 y1 y2 y3 y4, LeO (spec_l15DrawBody.l0 k y0 y1 y2 y3 y4) (spec_l15DrawBody.l0 (k + 1) y0 y1 y2 y3 y4))
  | 0 => fun _ _ _ _ _ r h => by simp [spec_l15DrawBody.l0] at h
  | k + 1 => by
    have ih0:=spec_l15DrawBody.mono_l k
    · intro y0 y1 y2 y3 y4
      unfold spec_l15DrawBody.l0
      repeat' first
      | (with_reducible exact ih0 _ _ _ _ _)
      | (with_reducible exact LeO.refl _)
      | (with_reducible exact LeO.none _)
      | (with_reducible refine LeO.ite ?_ ?_)
      | (with_reducible refine LeO.bind ?_ (fun _ => ?_))
      | exact ih0 _ _ _ _ _
      | exact LeO.none _
      | refine LeO.ite ?_ ?_
      | refine LeO.bind ?_ (fun _ => ?_)
theorem spec_l15DrawBody.mono : ∀ a0 a1 a2 k, LeO (spec_l15DrawBody.f k a0 a1 a2) (spec_l15DrawBody.f (k + 1) a0 a1 a2) := by
  intro a0 a1 a2 k
  have ih0:=spec_l15DrawBody.mono_l k
  unfold spec_l15DrawBody.f
  repeat' first
      | (with_reducible exact ih0 _ _ _ _ _)
      | (with_reducible exact LeO.refl _)
      | (with_reducible exact LeO.none _)
      | (with_reducible refine LeO.ite ?_ ?_)
      | (with_reducible refine LeO.bind ?_ (fun _ => ?_))
      | exact ih0 _ _ _ _ _
      | exact LeO.none _
      | refine LeO.ite ?_ ?_
      | refine LeO.bind ?_ (fun _ => ?_)
set_option maxHeartbeats 8000000 in
set_option maxRecDepth 100000 in
theorem spec_l15DrawBody.calls (k : Nat) (g : Nat) (s0_0 : List Int) (s0_1 : Int) (s0_2 : Int) (r1 : List Int) (r2 : Int) (r3 : Int) (w0 w : World) (hI : IsS102 w0 w g s0_0 s0_1 s0_2) (hB : Below w0.heap.size w0 w) (h : spec_l15DrawBody.f k s0_0 s0_1 s0_2 = some (r1, r2, r3)) :
    Calls Try.prog 70 #[.pointer (some ⟨g,0,none⟩)] w fun e w'=>∃ v0_:Value,e=.returned (v0_)∧Kd.R (Kd.int .u8) 5 w' w.heap.size (fun _=>True) v0_ r1∧IsS102 w0 w' g s0_0 r2 r3∧Below w0.heap.size w0 w'∧KeepBut w w' g none:=by
  have HI0:=La hI
  have HK:=La (KeepBut.refl w g none)
  have HL:=La hB.size
  clear hI
  have HW0:=La hB.size
  have HB:=La hB
  clear hB
  have H:((spec_l1Below.f s0_0 s0_1 s0_2 10).bind fun bt220=>(spec_l15DrawBody.l0 k (([]:List Int)) bt220.1 s0_0 bt220.2.1 bt220.2.2))=some (r1,r2,r3):=h
  clear h
  obtain⟨y217,hy217⟩:∃ y_:List Int,y_=(([]:List Int)):=⟨_,rfl⟩
  replace H:((spec_l1Below.f s0_0 s0_1 s0_2 10).bind fun bt220=>(spec_l15DrawBody.l0 k y217 bt220.1 s0_0 bt220.2.1 bt220.2.2))=some (r1,r2,r3):=by first|(rw [hy217];with_reducible exact H)|(have H2_:=(Option.bind_some _ _).symm.trans H;rw [hy217];with_reducible exact H2_)|(have H2_:=(Option.bind_some _ _).symm.trans H;with_reducible exact H2_)|with_reducible exact H|(rw [hy217];exact H)|exact H
  have Ny217:=La hy217
  clear hy217
  replace H:=Option.bind_eq_some_iff.mp H
  obtain⟨⟨t220,t221,t222⟩,A20,H⟩:=H
  replace H:(spec_l15DrawBody.l0 k y217 t220 s0_0 t221 t222)=some (r1,r2,r3):=H
  have A2:=La A20
  clear A20
  have H':=La H
  clear H
  go_enter Try.func70,Try.ntmps70
  go_wp2_with (first|((with_reducible refine gate_dst (N:=5) rfl ?_);refine Kd.R_lit (Kd.int .u8) _ 5 ?hg (N:=5) ?hd (xs:=([]:List Int)) (inner:=[]) (ok:=fun _=>True) (okp:=fun _=>True) ?hr ?hp (fun _ hk=>hk) trivial (Below.refl _ _) (Nat.le_refl _) (by simp) ?_;(case hd=>rfl);(case hg=>rfl);(case hr=>first|(go_simp;done)|(go_simp;rfl));(case hp=>exact(Reps.none _ _));intro v218 w3 ho4 hb hg_ hnew_;clear hg_ hnew_;(first|rw [← Ny217.out] at ho4|(simp only [Int.reduceToNat] at ho4;rw [← Ny217.out] at ho4));have n0_:=La (Kd.R_lower ho4 (keep_size (w:=w) (g:=g) (row:=none) (by repeat(first|(with_reducible first|exact HK.out|apply Lj|apply Lo|apply Lh|apply Ln)|exact HK.out))));have n1_:=La (IsS102.below (by repeat(first|(with_reducible first|exact HI0.out|apply Lb|apply Ld|apply Lc|apply Lf|apply Lg)|exact HI0.out)) hb);have n2_:=La (Lt (by repeat(first|(with_reducible first|exact HK.out|apply Lj|apply Lo|apply Lh|apply Ln)|exact HK.out)) (KeepBut.of_below hb g none) (.inl rfl));have n3_:=La (below_step (by repeat(first|(with_reducible first|exact HB.out|apply Ll|apply Li|apply Lm|refine Lp ?_ (Le HI0.out))|exact HB.out)) hb);clear HI0;clear HK;clear HB;have HO219:=n0_;have HI0:=n1_;have HK:=n2_;have HB:=n3_;clear n0_ n1_ n2_ n3_;clear hb ho4)|((with_reducible refine Lx (f:=65) rfl ?_);refine goesL_ (some 7) rfl rfl Try.func65 (by kernel_rfl) rfl #[.pointer (some ⟨g,0,none⟩),.int .i64 10] rfl (by(try simp only [List.map_toArray,List.map_cons,List.map_nil]);first|done|rfl|(simp only [List.length_drop,List.length_take];rfl)) ?_;(with_reducible refine(spec_l1Below.calls g s0_0 s0_1 s0_2 10 t220 t221 t222 w0 _ ?side1 ?side2 A2.out).mono ?_);(case side1=>repeat(first|(with_reducible first|exact HI0.out|apply Lb|apply Ld|apply Lc|apply Lf|apply Lg)|exact HI0.out));(case side2=>repeat(first|(with_reducible first|exact HB.out|apply Ll|apply Li|apply Lm|refine Lp ?_ (Le HI0.out))|exact HB.out));rintro e w5 ⟨rfl,hi,hb,hk⟩;refine⟨_,rfl,?_⟩;have n0_:=La (Lw (Kd.R_keep (IsS102.apart (show IsS102 w0 _ g s0_0 s0_1 s0_2 from by repeat(first|(with_reducible first|exact HI0.out|apply Lb|apply Ld|apply Lc|apply Lf|apply Lg)|exact HI0.out)) (by(with_reducible repeat(first|apply Lr|apply Ls|apply Lk));exact HO219.out) (by decide)) hk (fun _ h=>h.2)) (fun _ h=>h.1));have n1_:=La (Lt (by repeat(first|(with_reducible first|exact HK.out|apply Lj|apply Lo|apply Lh|apply Ln)|exact HK.out)) hk (.inl rfl));have n2_:=La (hb);have n3_:=La (hi);clear HO219;clear HK;clear HB;clear HI0;have HO219:=n0_;have HK:=n1_;have HB:=n2_;have HI0:=n3_;clear n0_ n1_ n2_ n3_;(try clear hb);(try clear hb2);(try clear hk);(try clear hi)))
  go_loopg [3,4] k (fun kq v3 v4 w'=>∃ (x3_1:List Int) (x4_1:Int) (x1001_1:Int) (x1002_1:Int),v4=.int .i64 x4_1∧Aside0 (spec_l15DrawBody.l0 kq x3_1 x4_1 s0_0 x1001_1 x1002_1=some (r1,r2,r3))∧Aside0 (kq≤k)∧Aside0 (Kd.R (Kd.int .u8) 5 w' w.heap.size (fun _=>True) v3 x3_1)∧Aside0 (IsS102 w0 w' g s0_0 x1001_1 x1002_1)∧Aside0 (KeepBut w w' g none)∧Aside0 (Below w0.heap.size w0 w'))
  case atStart=>exact⟨(y217),(t220),(t221),(t222),(by first|rfl|(simp;done)|(simp [*];done)),H',⟨Nat.le_refl _⟩,⟨by(with_reducible repeat(first|apply Lr|apply Ls|apply Lk));exact HO219.out⟩,⟨by repeat(first|(with_reducible first|exact HI0.out|apply Lb|apply Ld|apply Lc|apply Lf|apply Lg)|exact HI0.out)⟩,⟨by repeat(first|(with_reducible first|exact HK.out|apply Lj|apply Lo|apply Lh|apply Ln)|exact HK.out)⟩,⟨by repeat(first|(with_reducible first|exact HB.out|apply Ll|apply Li|apply Lm|refine Lp ?_ (Le HI0.out))|exact HB.out)⟩⟩
  case round=>
    clear H'
    try clear p2
    obtain⟨x3_1,x4_1,x1001_1,x1002_1,rfl,HA,HK1,HO_3,HI0,HK,HB⟩:=hrel
    cases gk with
    | zero => exact absurd HA.out (by simp [spec_l15DrawBody.l0])
    | succ k1 =>
      have H:=HA.out
      clear HA
      simp only [spec_l15DrawBody.l0] at H
      by_cases c6:x4_1 > 0
      · rw [if_pos c6] at H
        have c6b0:decide (0 < x4_1)=true:=decide_eq_true c6
        clear c6
        replace H:=Option.bind_eq_some_iff.mp H
        obtain⟨⟨t223,t224,t225⟩,A70,H⟩:=H
        replace H:(if x3_1.length < 140737488355328 then (spec_l15DrawBody.l0 k1 (x3_1 ++ [(t223) % 256]) (wrap64 (x4_1 - 1)) s0_0 t224 t225) else (none))=some (r1,r2,r3):=H
        have A7:=La A70
        clear A70
        by_cases c8:x3_1.length < 140737488355328
        · rw [if_pos c8] at H
          have LMc8:=La c8
          clear c8
          obtain⟨y226,hy226⟩:∃ y_:List Int,y_=(x3_1 ++ [(t223) % 256]):=⟨_,rfl⟩
          replace H:(spec_l15DrawBody.l0 k1 y226 (wrap64 (x4_1 - 1)) s0_0 t224 t225)=some (r1,r2,r3):=by first|(rw [hy226];with_reducible exact H)|(have H2_:=(Option.bind_some _ _).symm.trans H;rw [hy226];with_reducible exact H2_)|(have H2_:=(Option.bind_some _ _).symm.trans H;with_reducible exact H2_)|with_reducible exact H|(rw [hy226];exact H)|exact H
          have Ny226:=La hy226
          clear hy226
          have H':=La H
          clear H
          go_wp2_with (first|((with_reducible refine Lx (f:=85) rfl ?_);refine goesL_ (some 14) rfl rfl Try.func85 (by kernel_rfl) rfl #[.pointer (some ⟨g,0,none⟩)] rfl (by(try simp only [List.map_toArray,List.map_cons,List.map_nil]);first|done|rfl|(simp only [List.length_drop,List.length_take];rfl)) ?_;(with_reducible refine(spec_l1Byte.calls g s0_0 x1001_1 x1002_1 t223 t224 t225 w0 _ ?side1 ?side2 A7.out).mono ?_);(case side1=>repeat(first|(with_reducible first|exact HI0.out|apply Lb|apply Ld|apply Lc|apply Lf|apply Lg)|exact HI0.out));(case side2=>repeat(first|(with_reducible first|exact HB.out|apply Ll|apply Li|apply Lm|refine Lp ?_ (Le HI0.out))|exact HB.out));rintro e w9 ⟨rfl,hi,hb,hk⟩;refine⟨_,rfl,?_⟩;have n0_:=La (Lw (Kd.R_keep (IsS102.apart (show IsS102 w0 _ g s0_0 x1001_1 x1002_1 from by repeat(first|(with_reducible first|exact HI0.out|apply Lb|apply Ld|apply Lc|apply Lf|apply Lg)|exact HI0.out)) (by(with_reducible repeat(first|apply Lr|apply Ls|apply Lk));exact HO_3.out) (by decide)) hk (fun _ h=>h.2)) (fun _ h=>h.1));have n1_:=La (Lt (by repeat(first|(with_reducible first|exact HK.out|apply Lj|apply Lo|apply Lh|apply Ln)|exact HK.out)) hk (.inl rfl));have n2_:=La (hb);have n3_:=La (hi);clear HO_3;clear HK;clear HB;clear HI0;have HO_3:=n0_;have HK:=n1_;have HB:=n2_;have HI0:=n3_;clear n0_ n1_ n2_ n3_;(try clear hb);(try clear hb2);(try clear hk);(try clear hi))|((with_reducible refine gate_builtin (b:=.append) (xs:=#[.tmp 12,.tmp 16]) rfl ?_);at_builtin;refine Kd.R_append (Kd.int .u8) w.heap.size rfl (.tmp 12) (.tmp 16) 22 5 (.int .u8 0) 1 rfl Try.underlying22 info5 rfl (by decide) (by omega) u3 x3_1 ((t223) % 256) [.int .u8 ((t223) % 256)] (fun _=>True) (fun _=>False) rfl rfl ?aP (fun _ hk=>hk.elim) ?aF ?aO (Below.refl _ _) ?aS ?aL ?_;(case aP=>exact rfl);(case aF=>exact(fun _ _=>trivial));(case aO=>exact(by(with_reducible repeat(first|apply Lr|apply Ls|apply Lk));exact HO_3.out));(case aS=>exact(keep_size (w:=w) (g:=g) (row:=none) (by repeat(first|(with_reducible first|exact HK.out|apply Lj|apply Lo|apply Lh|apply Ln)|exact HK.out))));(case aL=>have:=LMc8.out;omega);intro v227 w10 ho hb hg hat;rw [← Ny226.out] at ho;have n0_:=La (IsS102.grown (by repeat(first|(with_reducible first|exact HI0.out|apply Lb|apply Ld|apply Lc|apply Lf|apply Lg)|exact HI0.out)) hg (IsS102.own_ne HI0.out HO_3.out (by decide)));have n1_:=La (below_weaken (by repeat(first|(with_reducible first|exact HB.out|apply Ll|apply Li|apply Lm|refine Lp ?_ (Le HI0.out))|exact HB.out)) HL.out hb);have n2_:=La (Lt (by repeat(first|(with_reducible first|exact HK.out|apply Lj|apply Lo|apply Lh|apply Ln)|exact HK.out)) (KeepBut.of_grown hg g) (Kd.R_base2 HO_3.out));have n3_:=La (ho);clear HI0;clear HB;clear HK;clear HO_3;have HI0:=n0_;have HB:=n1_;have HK:=n2_;have HO228:=n3_;clear n0_ n1_ n2_ n3_;clear ho hb hg hat))
          go_roundg k1
          case measure=>have:=HK1.out;omega
          case rel=>exact⟨(y226),(wrap64 (x4_1 - 1)),(t224),(t225),(by first|rfl|(simp;done)|(simp [*];done)),H',⟨by have:=HK1.out;omega⟩,⟨by(with_reducible repeat(first|apply Lr|apply Ls|apply Lk));exact HO228.out⟩,⟨by repeat(first|(with_reducible first|exact HI0.out|apply Lb|apply Ld|apply Lc|apply Lf|apply Lg)|exact HI0.out)⟩,⟨by repeat(first|(with_reducible first|exact HK.out|apply Lj|apply Lo|apply Lh|apply Ln)|exact HK.out)⟩,⟨by repeat(first|(with_reducible first|exact HB.out|apply Ll|apply Li|apply Lm|refine Lp ?_ (Le HI0.out))|exact HB.out)⟩⟩
        · rw [if_neg c8] at H
          exact absurd H (by simp)
      · rw [if_neg c6] at H
        have c6b0:decide (0 < x4_1)=false:=decide_eq_false c6
        clear c6
        replace H:=Option.bind_eq_some_iff.mp H
        obtain⟨⟨t229,t230,t231⟩,A110,H⟩:=H
        replace H:(if t229=true then ((spec_l1Below.f s0_0 t230 t231 2).bind fun bt232=>(if 0≤(wrap64 (40000+bt232.1)) then (if (wrap64 (40000+bt232.1):Int).toNat≤281474976710656 then (some ((List.replicate (wrap64 (40000+bt232.1):Int).toNat 0),bt232.2.1,bt232.2.2)) else (none)) else (none))) else (some (x3_1,t230,t231)))=some (r1,r2,r3):=H
        have A11:=La A110
        clear A110
        by_cases c12:t229=true
        · subst c12
          have H1:((spec_l1Below.f s0_0 t230 t231 2).bind fun bt232=>(if 0≤(wrap64 (40000+bt232.1)) then (if (wrap64 (40000+bt232.1):Int).toNat≤281474976710656 then (some ((List.replicate (wrap64 (40000+bt232.1):Int).toNat 0),bt232.2.1,bt232.2.2)) else (none)) else (none)))=some (r1,r2,r3):=by rw [if_pos rfl] at H;exact H
          clear H
          have H:=H1
          clear H1
          replace H:=Option.bind_eq_some_iff.mp H
          obtain⟨⟨t232,t233,t234⟩,A130,H⟩:=H
          replace H:(if 0≤(wrap64 (40000+t232)) then (if (wrap64 (40000+t232):Int).toNat≤281474976710656 then (some ((List.replicate (wrap64 (40000+t232):Int).toNat 0),t233,t234)) else (none)) else (none))=some (r1,r2,r3):=H
          have A13:=La A130
          clear A130
          obtain⟨ji14,hji14⟩:∃ j_:Int,(wrap64 (40000+t232))=j_:=⟨_,rfl⟩
          replace H:(if 0≤(ji14) then (if (ji14:Int).toNat≤281474976710656 then (some ((List.replicate (ji14:Int).toNat 0),t233,t234)) else (none)) else (none))=some (r1,r2,r3):=by first|(rw [hji14] at H;exact H)|(simp only [hji14] at H ⊢;exact H)
          (try rw [hji14] at A11)
          (try rw [hji14] at A13)
          have hji14w:(IntKind.i64.wrap (40000+t232))=ji14:=(i64_w _).trans hji14
          by_cases c15:0≤(ji14)
          · rw [if_pos c15] at H
            have c15b0:=eq_true c15
            have c15b1:decide (0≤(ji14))=true:=decide_eq_true c15
            clear c15
            by_cases c16:(ji14:Int).toNat≤281474976710656
            · rw [if_pos c16] at H
              have c16b0:=eq_true c16
              have c16b1:decide ((ji14:Int).toNat≤281474976710656)=true:=decide_eq_true c16
              clear c16
              obtain⟨y235,hy235⟩:∃ y_:List Int,y_=(List.replicate (ji14:Int).toNat 0):=⟨_,rfl⟩
              replace H:(some (y235,t233,t234))=some (r1,r2,r3):=by first|(rw [hy235];with_reducible exact H)|(have H2_:=(Option.bind_some _ _).symm.trans H;rw [hy235];with_reducible exact H2_)|(have H2_:=(Option.bind_some _ _).symm.trans H;with_reducible exact H2_)|with_reducible exact H|(rw [hy235];exact H)|exact H
              have Ny235:=La hy235
              clear hy235
              simp only [Option.some.injEq,Prod.mk.injEq] at H
              obtain⟨rfl,rfl,rfl⟩:=H
              go_wp2_with (first|((with_reducible refine Lx (f:=68) rfl ?_);refine goesL_ (some 19) rfl rfl Try.func68 (by kernel_rfl) rfl #[.pointer (some ⟨g,0,none⟩),.int .i64 90] rfl (by(try simp only [List.map_toArray,List.map_cons,List.map_nil]);first|done|rfl|(simp only [List.length_drop,List.length_take];rfl)) ?_;(with_reducible refine(spec_l1Once.calls g s0_0 x1001_1 x1002_1 90 true t230 t231 w0 _ ?side1 ?side2 A11.out).mono ?_);(case side1=>repeat(first|(with_reducible first|exact HI0.out|apply Lb|apply Ld|apply Lc|apply Lf|apply Lg)|exact HI0.out));(case side2=>repeat(first|(with_reducible first|exact HB.out|apply Ll|apply Li|apply Lm|refine Lp ?_ (Le HI0.out))|exact HB.out));rintro e w17 ⟨rfl,hi,hb,hk⟩;refine⟨_,rfl,?_⟩;have n0_:=La (Lw (Kd.R_keep (IsS102.apart (show IsS102 w0 _ g s0_0 x1001_1 x1002_1 from by repeat(first|(with_reducible first|exact HI0.out|apply Lb|apply Ld|apply Lc|apply Lf|apply Lg)|exact HI0.out)) (by(with_reducible repeat(first|apply Lr|apply Ls|apply Lk));exact HO_3.out) (by decide)) hk (fun _ h=>h.2)) (fun _ h=>h.1));have n1_:=La (Lt (by repeat(first|(with_reducible first|exact HK.out|apply Lj|apply Lo|apply Lh|apply Ln)|exact HK.out)) hk (.inl rfl));have n2_:=La (hb);have n3_:=La (hi);clear HO_3;clear HK;clear HB;clear HI0;have HO_3:=n0_;have HK:=n1_;have HB:=n2_;have HI0:=n3_;clear n0_ n1_ n2_ n3_;(try clear hb);(try clear hb2);(try clear hk);(try clear hi))|((with_reducible refine Lx (f:=65) rfl ?_);refine goesL_ (some 21) rfl rfl Try.func65 (by kernel_rfl) rfl #[.pointer (some ⟨g,0,none⟩),.int .i64 2] rfl (by(try simp only [List.map_toArray,List.map_cons,List.map_nil]);first|done|rfl|(simp only [List.length_drop,List.length_take];rfl)) ?_;(with_reducible refine(spec_l1Below.calls g s0_0 t230 t231 2 t232 t233 t234 w0 _ ?side1 ?side2 A13.out).mono ?_);(case side1=>repeat(first|(with_reducible first|exact HI0.out|apply Lb|apply Ld|apply Lc|apply Lf|apply Lg)|exact HI0.out));(case side2=>repeat(first|(with_reducible first|exact HB.out|apply Ll|apply Li|apply Lm|refine Lp ?_ (Le HI0.out))|exact HB.out));rintro e w18 ⟨rfl,hi,hb,hk⟩;refine⟨_,rfl,?_⟩;have n0_:=La (Lw (Kd.R_keep (IsS102.apart (show IsS102 w0 _ g s0_0 t230 t231 from by repeat(first|(with_reducible first|exact HI0.out|apply Lb|apply Ld|apply Lc|apply Lf|apply Lg)|exact HI0.out)) (by(with_reducible repeat(first|apply Lr|apply Ls|apply Lk));exact HO_3.out) (by decide)) hk (fun _ h=>h.2)) (fun _ h=>h.1));have n1_:=La (Lt (by repeat(first|(with_reducible first|exact HK.out|apply Lj|apply Lo|apply Lh|apply Ln)|exact HK.out)) hk (.inl rfl));have n2_:=La (hb);have n3_:=La (hi);clear HO_3;clear HK;clear HB;clear HI0;have HO_3:=n0_;have HK:=n1_;have HB:=n2_;have HI0:=n3_;clear n0_ n1_ n2_ n3_;(try clear hb);(try clear hb2);(try clear hk);(try clear hi))|((with_reducible refine gate_dst (N:=23) rfl ?_);refine Kd.R_make (Kd.int .u8) _ 5 rfl (N:=23) rfl 22 _ _ rfl ji14 rfl rfl Try.underlying22 (.int .u8 0) 1 info5 rfl (by decide) (by omega) 0 (ok:=fun _=>True) (okp:=fun _=>True) rfl (fun _ hk=>hk) trivial (of_decide_eq_true (by first|(with_reducible assumption)|assumption)) (Nat.le_trans (Nat.mul_le_mul_right _ (of_decide_eq_true (by first|(with_reducible assumption)|assumption):ji14.toNat≤281474976710656)) (by omega)) (Below.refl _ _) (Nat.le_refl _) ?_;intro v236 w19 ho20 hb hg_ hnew_;clear hg_ hnew_;(first|rw [← Ny235.out] at ho20|(simp only [Int.reduceToNat] at ho20;rw [← Ny235.out] at ho20));have n0_:=La (Kd.R_elder' (by(with_reducible repeat(first|apply Lr|apply Ls|apply Lk));exact HO_3.out) (Kd.R_base ho20) hb);have n1_:=La (Kd.R_lower (Kd.R_new' ho20 (Kd.R_lt (by(with_reducible repeat(first|apply Lr|apply Ls|apply Lk));exact HO_3.out))) (keep_size (w:=w) (g:=g) (row:=none) (by repeat(first|(with_reducible first|exact HK.out|apply Lj|apply Lo|apply Lh|apply Ln)|exact HK.out))));have n2_:=La (IsS102.below (by repeat(first|(with_reducible first|exact HI0.out|apply Lb|apply Ld|apply Lc|apply Lf|apply Lg)|exact HI0.out)) hb);have n3_:=La (Lt (by repeat(first|(with_reducible first|exact HK.out|apply Lj|apply Lo|apply Lh|apply Ln)|exact HK.out)) (KeepBut.of_below hb g none) (.inl rfl));have n4_:=La (below_step (by repeat(first|(with_reducible first|exact HB.out|apply Ll|apply Li|apply Lm|refine Lp ?_ (Le HI0.out))|exact HB.out)) hb);clear HO_3;clear HI0;clear HK;clear HB;have HO_3:=n0_;have HO237:=n1_;have HI0:=n2_;have HK:=n3_;have HB:=n4_;clear n0_ n1_ n2_ n3_ n4_;clear hb ho20))
              go_ret
              exact⟨_,by first|rfl|(simp [errW_none,errW_some] <;> rfl)|(simp only [← hji14];first|rfl|(simp [errW_none,errW_some] <;> rfl))|(simp [*,errW_none,errW_some] <;> rfl),by(with_reducible repeat(first|apply Lr|apply Ls|apply Lk));exact Lw HO237.out (fun _ hk=>trivial),by repeat(first|(with_reducible first|exact HI0.out|apply Lb|apply Ld|apply Lc|apply Lf|apply Lg)|exact HI0.out),by repeat(first|(with_reducible first|exact HB.out|apply Ll|apply Li|apply Lm|refine Lp ?_ (Le HI0.out))|exact HB.out),by repeat(first|(with_reducible first|exact HK.out|apply Lj|apply Lo|apply Lh|apply Ln)|exact HK.out)⟩
            · rw [if_neg c16] at H
              exact absurd H (by simp)
          · rw [if_neg c15] at H
            exact absurd H (by simp)
        · replace c12:=Bool.eq_false_iff.mpr c12
          subst c12
          have H1:(some (x3_1,t230,t231))=some (r1,r2,r3):=by rw [if_neg (show ¬ (false=true) by decide)] at H;exact H
          clear H
          have H:=H1
          clear H1
          simp only [Option.some.injEq,Prod.mk.injEq] at H
          obtain⟨rfl,rfl,rfl⟩:=H
          go_wp2_with (first|((with_reducible refine Lx (f:=68) rfl ?_);refine goesL_ (some 19) rfl rfl Try.func68 (by kernel_rfl) rfl #[.pointer (some ⟨g,0,none⟩),.int .i64 90] rfl (by(try simp only [List.map_toArray,List.map_cons,List.map_nil]);first|done|rfl|(simp only [List.length_drop,List.length_take];rfl)) ?_;(with_reducible refine(spec_l1Once.calls g s0_0 x1001_1 x1002_1 90 false t230 t231 w0 _ ?side1 ?side2 A11.out).mono ?_);(case side1=>repeat(first|(with_reducible first|exact HI0.out|apply Lb|apply Ld|apply Lc|apply Lf|apply Lg)|exact HI0.out));(case side2=>repeat(first|(with_reducible first|exact HB.out|apply Ll|apply Li|apply Lm|refine Lp ?_ (Le HI0.out))|exact HB.out));rintro e w21 ⟨rfl,hi,hb,hk⟩;refine⟨_,rfl,?_⟩;have n0_:=La (Lw (Kd.R_keep (IsS102.apart (show IsS102 w0 _ g s0_0 x1001_1 x1002_1 from by repeat(first|(with_reducible first|exact HI0.out|apply Lb|apply Ld|apply Lc|apply Lf|apply Lg)|exact HI0.out)) (by(with_reducible repeat(first|apply Lr|apply Ls|apply Lk));exact HO_3.out) (by decide)) hk (fun _ h=>h.2)) (fun _ h=>h.1));have n1_:=La (Lt (by repeat(first|(with_reducible first|exact HK.out|apply Lj|apply Lo|apply Lh|apply Ln)|exact HK.out)) hk (.inl rfl));have n2_:=La (hb);have n3_:=La (hi);clear HO_3;clear HK;clear HB;clear HI0;have HO_3:=n0_;have HK:=n1_;have HB:=n2_;have HI0:=n3_;clear n0_ n1_ n2_ n3_;(try clear hb);(try clear hb2);(try clear hk);(try clear hi)))
          go_ret
          exact⟨_,by first|rfl|(simp [errW_none,errW_some] <;> rfl)|(simp [*,errW_none,errW_some] <;> rfl),by(with_reducible repeat(first|apply Lr|apply Ls|apply Lk));exact HO_3.out,by repeat(first|(with_reducible first|exact HI0.out|apply Lb|apply Ld|apply Lc|apply Lf|apply Lg)|exact HI0.out),by repeat(first|(with_reducible first|exact HB.out|apply Ll|apply Li|apply Lm|refine Lp ?_ (Le HI0.out))|exact HB.out),by repeat(first|(with_reducible first|exact HK.out|apply Lj|apply Lo|apply Lh|apply Ln)|exact HK.out)⟩

/-! ### spec_l15DrawNames: function 78 -/
mutual
def spec_l15DrawNames.l0 : Nat → List ByteArray → List (List Int) → Int → List Int → Int → Int → Option (List ByteArray × (List (List Int)) × Int × Int)
  | 0, _, _, _, _, _, _ => none
  | k + 1, x4, x5, x6, x1000, x1001, x1002 => if x6 > 0 then ((some (([(⟨#[114, 101, 101, 108]⟩ : ByteArray), (⟨#[97]⟩ : ByteArray), (⟨#[98, 95, 49]⟩ : ByteArray), (⟨#[77, 73, 88, 46, 119, 97, 118]⟩ : ByteArray), (⟨#[114, 101, 101, 108, 49]⟩ : ByteArray), (⟨#[90]⟩ : ByteArray), (⟨#[115, 117, 98, 46, 116, 120, 116]⟩ : ByteArray), (⟨#[48]⟩ : ByteArray)] : List ByteArray) : List ByteArray)).bind fun y247 => ((spec_l1Below.f x1000 x1001 x1002 8).bind fun bt250 => (if 0 ≤ bt250.1 then (if bt250.1 < (y247.length : Int) then (spec_l15DrawNames.l1 k x4 x5 x6 (rdOf ByteArray.empty y247 bt250.1) false 0 x1000 bt250.2.1 bt250.2.2) else (none)) else (none)))) else (some (x4, x5, x1001, x1002))
def spec_l15DrawNames.l1 : Nat → List ByteArray → List (List Int) → Int → ByteArray → Bool → Int → List Int → Int → Int → Option (List ByteArray × (List (List Int)) × Int × Int)
  | 0, _, _, _, _, _, _, _, _, _ => none
  | k + 1, x4, x5, x6, x7, x8, x9, x1000, x1001, x1002 => if x9 < (x4.length : Int) then (if x8 = true then (spec_l15DrawNames.l1 k x4 x5 x6 x7 true (wrap64 (x9 + 1)) x1000 x1001 x1002) else (if 0 ≤ x9 then (spec_l15DrawNames.l1 k x4 x5 x6 x7 ((rdOf ByteArray.empty x4 x9).toList == x7.toList) (wrap64 (x9 + 1)) x1000 x1001 x1002) else (none))) else (if x8 = true then ((spec_l1Once.f x1000 x1001 x1002 20).bind fun bt255 => (if bt255.1 = true then (if x4.length < 8796093022208 then ((spec_l15DrawBody.f k x1000 bt255.2.1 bt255.2.2).bind fun bt261 => (if x5.length < 5864062014805 then (spec_l15DrawNames.l0 k (x4 ++ [x7]) (x5 ++ [bt261.1]) (wrap64 (x6 - 1)) x1000 bt261.2.1 bt261.2.2) else (none))) else (none)) else (spec_l15DrawNames.l0 k x4 x5 (wrap64 (x6 - 1)) x1000 bt255.2.1 bt255.2.2))) else (if x4.length < 8796093022208 then ((spec_l15DrawBody.f k x1000 x1001 x1002).bind fun bt272 => (if x5.length < 5864062014805 then (spec_l15DrawNames.l0 k (x4 ++ [x7]) (x5 ++ [bt272.1]) (wrap64 (x6 - 1)) x1000 bt272.2.1 bt272.2.2) else (none))) else (none)))
end
def spec_l15DrawNames.f (k : Nat) (s0_0 : List Int) (s0_1 : Int) (s0_2 : Int) : Option (List ByteArray × (List (List Int)) × Int × Int) := (spec_l1Below.f s0_0 s0_1 s0_2 6).bind fun bt244 => (spec_l15DrawNames.l0 k (([] : List ByteArray)) (([] : List (List Int))) bt244.1 s0_0 bt244.2.1 bt244.2.2)
theorem spec_l15DrawNames.mono_l : ∀ k, (∀ y0 y1 y2 y3 y4 y5, LeO (spec_l15DrawNames.l0 k y0 y1 y2 y3 y4 y5) (spec_l15DrawNames.l0 (k + 1) y0 y1 y2 y3 y4 y5)) ∧ (∀ y0 y1 y2 y3 y4 y5 y6 y7 y8, LeO (spec_l15DrawNames.l1 k y0 y1 y2 y3 y4 y5 y6 y7 y8) (spec_l15DrawNames.l1 (k + 1) y0 y1 y2 y3 y4 y5 y6 y7 y8))
  | 0 => ⟨fun _ _ _ _ _ _ r h => by simp [spec_l15DrawNames.l0] at h, fun _ _ _ _ _ _ _ _ _ r h => by simp [spec_l15DrawNames.l1] at h⟩
  | k + 1 => by
    obtain⟨ih0,ih1⟩:=spec_l15DrawNames.mono_l k
    refine⟨?_,?_⟩
    · intro y0 y1 y2 y3 y4 y5
      unfold spec_l15DrawNames.l0
      repeat' first
      | (with_reducible exact ih0 _ _ _ _ _ _)
      | (with_reducible exact ih1 _ _ _ _ _ _ _ _ _)
      | (with_reducible exact spec_l15DrawBody.mono _ _ _ _)
      | (with_reducible exact LeO.refl _)
      | (with_reducible exact LeO.none _)
      | (with_reducible refine LeO.ite ?_ ?_)
      | (with_reducible refine LeO.bind ?_ (fun _ => ?_))
      | exact ih0 _ _ _ _ _ _
      | exact ih1 _ _ _ _ _ _ _ _ _
      | exact spec_l15DrawBody.mono _ _ _ _
      | exact LeO.none _
      | refine LeO.ite ?_ ?_
      | refine LeO.bind ?_ (fun _ => ?_)
    · intro y0 y1 y2 y3 y4 y5 y6 y7 y8
      unfold spec_l15DrawNames.l1
      repeat' first
      | (with_reducible exact ih0 _ _ _ _ _ _)
      | (with_reducible exact ih1 _ _ _ _ _ _ _ _ _)
      | (with_reducible exact spec_l15DrawBody.mono _ _ _ _)
      | (with_reducible exact LeO.refl _)
      | (with_reducible exact LeO.none _)
      | (with_reducible refine LeO.ite ?_ ?_)
      | (with_reducible refine LeO.bind ?_ (fun _ => ?_))
      | exact ih0 _ _ _ _ _ _
      | exact ih1 _ _ _ _ _ _ _ _ _
      | exact spec_l15DrawBody.mono _ _ _ _
      | exact LeO.none _
      | refine LeO.ite ?_ ?_
      | refine LeO.bind ?_ (fun _ => ?_)
theorem spec_l15DrawNames.mono : ∀ a0 a1 a2 k, LeO (spec_l15DrawNames.f k a0 a1 a2) (spec_l15DrawNames.f (k + 1) a0 a1 a2) := by
  intro a0 a1 a2 k
  obtain⟨ih0,ih1⟩:=spec_l15DrawNames.mono_l k
  unfold spec_l15DrawNames.f
  repeat' first
      | (with_reducible exact ih0 _ _ _ _ _ _)
      | (with_reducible exact ih1 _ _ _ _ _ _ _ _ _)
      | (with_reducible exact spec_l15DrawBody.mono _ _ _ _)
      | (with_reducible exact LeO.refl _)
      | (with_reducible exact LeO.none _)
      | (with_reducible refine LeO.ite ?_ ?_)
      | (with_reducible refine LeO.bind ?_ (fun _ => ?_))
      | exact ih0 _ _ _ _ _ _
      | exact ih1 _ _ _ _ _ _ _ _ _
      | exact spec_l15DrawBody.mono _ _ _ _
      | exact LeO.none _
      | refine LeO.ite ?_ ?_
      | refine LeO.bind ?_ (fun _ => ?_)
set_option maxHeartbeats 8000000 in
set_option maxRecDepth 100000 in
theorem spec_l15DrawNames.calls (k : Nat) (g : Nat) (s0_0 : List Int) (s0_1 : Int) (s0_2 : Int) (r1 : List ByteArray) (r2 : List (List Int)) (r3 : Int) (r4 : Int) (w0 w : World) (hI : IsS102 w0 w g s0_0 s0_1 s0_2) (hB : Below w0.heap.size w0 w) (h : spec_l15DrawNames.f k s0_0 s0_1 s0_2 = some (r1, r2, r3, r4)) :
    Calls Try.prog 78 #[.pointer (some ⟨g,0,none⟩)] w fun e w'=>∃ v0_ v1_:Value,e=.returned (.tuple #[v0_,v1_])∧Kd.R Kd.string 9 w' w.heap.size (fun _=>True) v0_ r1∧Kd.S (Kd.slice 5 (Kd.int .u8)) 22 w' w.heap.size (fun _=>True) v1_ r2∧IsS102 w0 w' g s0_0 r3 r4∧Below w0.heap.size w0 w'∧KeepBut w w' g none:=by
  have HI0:=La hI
  have HK:=La (KeepBut.refl w g none)
  have HL:=La hB.size
  clear hI
  have HW0:=La hB.size
  have HB:=La hB
  clear hB
  have H:((spec_l1Below.f s0_0 s0_1 s0_2 6).bind fun bt244=>(spec_l15DrawNames.l0 k (([]:List ByteArray)) (([]:List (List Int))) bt244.1 s0_0 bt244.2.1 bt244.2.2))=some (r1,r2,r3,r4):=h
  clear h
  obtain⟨y238,hy238⟩:∃ y_:List ByteArray,y_=(([]:List ByteArray)):=⟨_,rfl⟩
  replace H:((spec_l1Below.f s0_0 s0_1 s0_2 6).bind fun bt244=>(spec_l15DrawNames.l0 k y238 (([]:List (List Int))) bt244.1 s0_0 bt244.2.1 bt244.2.2))=some (r1,r2,r3,r4):=by first|(rw [hy238];with_reducible exact H)|(have H2_:=(Option.bind_some _ _).symm.trans H;rw [hy238];with_reducible exact H2_)|(have H2_:=(Option.bind_some _ _).symm.trans H;with_reducible exact H2_)|with_reducible exact H|(rw [hy238];exact H)|exact H
  have Ny238:=La hy238
  clear hy238
  obtain⟨y241,hy241⟩:∃ y_:List (List Int),y_=(([]:List (List Int))):=⟨_,rfl⟩
  replace H:((spec_l1Below.f s0_0 s0_1 s0_2 6).bind fun bt244=>(spec_l15DrawNames.l0 k y238 y241 bt244.1 s0_0 bt244.2.1 bt244.2.2))=some (r1,r2,r3,r4):=by first|(rw [hy241];with_reducible exact H)|(have H2_:=(Option.bind_some _ _).symm.trans H;rw [hy241];with_reducible exact H2_)|(have H2_:=(Option.bind_some _ _).symm.trans H;with_reducible exact H2_)|with_reducible exact H|(rw [hy241];exact H)|exact H
  have Ny241:=La hy241
  clear hy241
  replace H:=Option.bind_eq_some_iff.mp H
  obtain⟨⟨t244,t245,t246⟩,A20,H⟩:=H
  replace H:(spec_l15DrawNames.l0 k y238 y241 t244 s0_0 t245 t246)=some (r1,r2,r3,r4):=H
  have A2:=La A20
  clear A20
  have H':=La H
  clear H
  go_enter Try.func78,Try.ntmps78
  go_wp2_with (first|((with_reducible refine gate_dst (N:=10) rfl ?_);refine Kd.R_lit Kd.string _ 9 ?hg (N:=10) ?hd (xs:=([]:List ByteArray)) (inner:=[]) (ok:=fun _=>True) (okp:=fun _=>True) ?hr ?hp (fun _ hk=>hk) trivial (Below.refl _ _) (Nat.le_refl _) (by simp) ?_;(case hd=>rfl);(case hg=>rfl);(case hr=>first|(go_simp;done)|(go_simp;rfl));(case hp=>exact(Reps.none _ _));intro v239 w3 ho4 hb hg_ hnew_;clear hg_ hnew_;(first|rw [← Ny238.out] at ho4|(simp only [Int.reduceToNat] at ho4;rw [← Ny238.out] at ho4));have n0_:=La (Kd.R_lower ho4 (keep_size (w:=w) (g:=g) (row:=none) (by repeat(first|(with_reducible first|exact HK.out|apply Lj|apply Lo|apply Lh|apply Ln)|exact HK.out))));have n1_:=La (IsS102.below (by repeat(first|(with_reducible first|exact HI0.out|apply Lb|apply Ld|apply Lc|apply Lf|apply Lg)|exact HI0.out)) hb);have n2_:=La (Lt (by repeat(first|(with_reducible first|exact HK.out|apply Lj|apply Lo|apply Lh|apply Ln)|exact HK.out)) (KeepBut.of_below hb g none) (.inl rfl));have n3_:=La (below_step (by repeat(first|(with_reducible first|exact HB.out|apply Ll|apply Li|apply Lm|refine Lp ?_ (Le HI0.out))|exact HB.out)) hb);clear HI0;clear HK;clear HB;have HO240:=n0_;have HI0:=n1_;have HK:=n2_;have HB:=n3_;clear n0_ n1_ n2_ n3_;clear hb ho4)|((with_reducible refine gate_dst (N:=11) rfl ?_);refine Kd.S_lit (Kd.slice 5 (Kd.int .u8)) _ 22 ?hg (N:=11) ?hd (xs:=([]:List (List Int))) (inner:=[]) (ok:=fun _=>True) (okp:=fun _=>True) ?hr ?hp (fun _ hk=>hk) trivial (Below.refl _ _) (Nat.le_refl _) (by simp) ?_;(case hd=>rfl);(case hg=>rfl);(case hr=>first|(go_simp;done)|(go_simp;rfl));(case hp=>exact(Reps.none _ _));intro v242 w5 ho6 hb hg_ hnew_;clear hg_ hnew_;(first|rw [← Ny241.out] at ho6|(simp only [Int.reduceToNat] at ho6;rw [← Ny241.out] at ho6));have n0_:=La (Kd.R_below (by(with_reducible repeat(first|apply Lr|apply Ls|apply Lk));exact HO240.out) hb);have n1_:=La (Kd.S_lower ho6 (keep_size (w:=w) (g:=g) (row:=none) (by repeat(first|(with_reducible first|exact HK.out|apply Lj|apply Lo|apply Lh|apply Ln)|exact HK.out))));have n2_:=La (IsS102.below (by repeat(first|(with_reducible first|exact HI0.out|apply Lb|apply Ld|apply Lc|apply Lf|apply Lg)|exact HI0.out)) hb);have n3_:=La (Lt (by repeat(first|(with_reducible first|exact HK.out|apply Lj|apply Lo|apply Lh|apply Ln)|exact HK.out)) (KeepBut.of_below hb g none) (.inl rfl));have n4_:=La (below_step (by repeat(first|(with_reducible first|exact HB.out|apply Ll|apply Li|apply Lm|refine Lp ?_ (Le HI0.out))|exact HB.out)) hb);clear HO240;clear HI0;clear HK;clear HB;have HO240:=n0_;have HO243:=n1_;have HI0:=n2_;have HK:=n3_;have HB:=n4_;clear n0_ n1_ n2_ n3_ n4_;clear hb ho6)|((with_reducible refine Lx (f:=65) rfl ?_);refine goesL_ (some 13) rfl rfl Try.func65 (by kernel_rfl) rfl #[.pointer (some ⟨g,0,none⟩),.int .i64 6] rfl (by(try simp only [List.map_toArray,List.map_cons,List.map_nil]);first|done|rfl|(simp only [List.length_drop,List.length_take];rfl)) ?_;(with_reducible refine(spec_l1Below.calls g s0_0 s0_1 s0_2 6 t244 t245 t246 w0 _ ?side1 ?side2 A2.out).mono ?_);(case side1=>repeat(first|(with_reducible first|exact HI0.out|apply Lb|apply Ld|apply Lc|apply Lf|apply Lg)|exact HI0.out));(case side2=>repeat(first|(with_reducible first|exact HB.out|apply Ll|apply Li|apply Lm|refine Lp ?_ (Le HI0.out))|exact HB.out));rintro e w7 ⟨rfl,hi,hb,hk⟩;refine⟨_,rfl,?_⟩;have n0_:=La (Lw (Kd.R_keep (IsS102.apart (show IsS102 w0 _ g s0_0 s0_1 s0_2 from by repeat(first|(with_reducible first|exact HI0.out|apply Lb|apply Ld|apply Lc|apply Lf|apply Lg)|exact HI0.out)) (by(with_reducible repeat(first|apply Lr|apply Ls|apply Lk));exact HO240.out) (by decide)) hk (fun _ h=>h.2)) (fun _ h=>h.1));have n1_:=La (Kd.S_mono (Kd.S_keep (IsS102.apartS (show IsS102 w0 _ g s0_0 s0_1 s0_2 from by repeat(first|(with_reducible first|exact HI0.out|apply Lb|apply Ld|apply Lc|apply Lf|apply Lg)|exact HI0.out)) (by(with_reducible repeat(first|apply Lu|apply Lv|apply Lq));exact HO243.out) (by decide)) hk (fun _ h=>h.2)) (fun _ h=>h.1));have n2_:=La (Lt (by repeat(first|(with_reducible first|exact HK.out|apply Lj|apply Lo|apply Lh|apply Ln)|exact HK.out)) hk (.inl rfl));have n3_:=La (hb);have n4_:=La (hi);clear HO240;clear HO243;clear HK;clear HB;clear HI0;have HO240:=n0_;have HO243:=n1_;have HK:=n2_;have HB:=n3_;have HI0:=n4_;clear n0_ n1_ n2_ n3_ n4_;(try clear hb);(try clear hb2);(try clear hk);(try clear hi)))
  go_loopg [4,5,6] k (fun kq v4 v5 v6 w'=>∃ (x4_1:List ByteArray) (x5_1:List (List Int)) (x6_1:Int) (x1001_1:Int) (x1002_1:Int),v6=.int .i64 x6_1∧Aside0 (spec_l15DrawNames.l0 kq x4_1 x5_1 x6_1 s0_0 x1001_1 x1002_1=some (r1,r2,r3,r4))∧Aside0 (kq≤k)∧Aside0 (Kd.R Kd.string 9 w' w.heap.size (fun _=>True) v4 x4_1)∧Aside0 (Kd.S (Kd.slice 5 (Kd.int .u8)) 22 w' w.heap.size (fun _=>True) v5 x5_1)∧Aside0 (IsS102 w0 w' g s0_0 x1001_1 x1002_1)∧Aside0 (KeepBut w w' g none)∧Aside0 (Below w0.heap.size w0 w'))
  case atStart=>exact⟨(y238),(y241),(t244),(t245),(t246),(by first|rfl|(simp;done)|(simp [*];done)),H',⟨Nat.le_refl _⟩,⟨by(with_reducible repeat(first|apply Lr|apply Ls|apply Lk));exact HO240.out⟩,⟨by(with_reducible repeat(first|apply Lu|apply Lv|apply Lq));exact HO243.out⟩,⟨by repeat(first|(with_reducible first|exact HI0.out|apply Lb|apply Ld|apply Lc|apply Lf|apply Lg)|exact HI0.out)⟩,⟨by repeat(first|(with_reducible first|exact HK.out|apply Lj|apply Lo|apply Lh|apply Ln)|exact HK.out)⟩,⟨by repeat(first|(with_reducible first|exact HB.out|apply Ll|apply Li|apply Lm|refine Lp ?_ (Le HI0.out))|exact HB.out)⟩⟩
  case round=>
    clear H'
    try clear p2
    try clear c6
    try clear c7
    obtain⟨x4_1,x5_1,x6_1,x1001_1,x1002_1,rfl,HA,HK1,HO_4,HO_5,HI0,HK,HB⟩:=hrel
    cases gk with
    | zero => exact absurd HA.out (by simp [spec_l15DrawNames.l0])
    | succ k1 =>
      have H:=HA.out
      clear HA
      simp only [spec_l15DrawNames.l0] at H
      by_cases c8:x6_1 > 0
      · rw [if_pos c8] at H
        have c8b0:decide (0 < x6_1)=true:=decide_eq_true c8
        clear c8
        obtain⟨y247,hy247⟩:∃ y_:List ByteArray,y_=(([(⟨#[114,101,101,108]⟩:ByteArray),(⟨#[97]⟩:ByteArray),(⟨#[98,95,49]⟩:ByteArray),(⟨#[77,73,88,46,119,97,118]⟩:ByteArray),(⟨#[114,101,101,108,49]⟩:ByteArray),(⟨#[90]⟩:ByteArray),(⟨#[115,117,98,46,116,120,116]⟩:ByteArray),(⟨#[48]⟩:ByteArray)]:List ByteArray)):=⟨_,rfl⟩
        replace H:((spec_l1Below.f s0_0 x1001_1 x1002_1 8).bind fun bt250=>(if 0≤bt250.1 then (if bt250.1 < (y247.length:Int) then (spec_l15DrawNames.l1 k1 x4_1 x5_1 x6_1 (rdOf ByteArray.empty y247 bt250.1) false 0 s0_0 bt250.2.1 bt250.2.2) else (none)) else (none)))=some (r1,r2,r3,r4):=by first|(rw [hy247];with_reducible exact H)|(have H2_:=(Option.bind_some _ _).symm.trans H;rw [hy247];with_reducible exact H2_)|(have H2_:=(Option.bind_some _ _).symm.trans H;with_reducible exact H2_)|with_reducible exact H|(rw [hy247];exact H)|exact H
        have Ny247:=La hy247
        clear hy247
        replace H:=Option.bind_eq_some_iff.mp H
        obtain⟨⟨t250,t251,t252⟩,A90,H⟩:=H
        replace H:(if 0≤t250 then (if t250 < (y247.length:Int) then (spec_l15DrawNames.l1 k1 x4_1 x5_1 x6_1 (rdOf ByteArray.empty y247 t250) false 0 s0_0 t251 t252) else (none)) else (none))=some (r1,r2,r3,r4):=H
        have A9:=La A90
        clear A90
        by_cases c10:0≤t250
        · rw [if_pos c10] at H
          have c10b0:decide (0≤t250)=true:=decide_eq_true c10
          clear c10
          by_cases c11:t250 < (y247.length:Int)
          · rw [if_pos c11] at H
            have c11b0:decide (t250 < (y247.length:Int))=true:=decide_eq_true c11
            clear c11
            have H':=La H
            clear H
            go_wp2_with (first|((with_reducible refine gate_dst (N:=18) rfl ?_);refine Kd.R_lit Kd.string _ 9 ?hg (N:=18) ?hd (xs:=([(⟨#[114,101,101,108]⟩:ByteArray),(⟨#[97]⟩:ByteArray),(⟨#[98,95,49]⟩:ByteArray),(⟨#[77,73,88,46,119,97,118]⟩:ByteArray),(⟨#[114,101,101,108,49]⟩:ByteArray),(⟨#[90]⟩:ByteArray),(⟨#[115,117,98,46,116,120,116]⟩:ByteArray),(⟨#[48]⟩:ByteArray)]:List ByteArray)) (inner:=[.string (⟨#[114,101,101,108]⟩:ByteArray),.string (⟨#[97]⟩:ByteArray),.string (⟨#[98,95,49]⟩:ByteArray),.string (⟨#[77,73,88,46,119,97,118]⟩:ByteArray),.string (⟨#[114,101,101,108,49]⟩:ByteArray),.string (⟨#[90]⟩:ByteArray),.string (⟨#[115,117,98,46,116,120,116]⟩:ByteArray),.string (⟨#[48]⟩:ByteArray)]) (ok:=fun _=>True) (okp:=fun _=>True) ?hr ?hp (fun _ hk=>hk) trivial (Below.refl _ _) (Nat.le_refl _) (by simp) ?_;(case hd=>rfl);(case hg=>rfl);(case hr=>first|(go_simp;done)|(go_simp;rfl));(case hp=>exact(Reps.one (show Kd.M Kd.string _ _ _ (⟨#[114,101,101,108]⟩:ByteArray) [.string (⟨#[114,101,101,108]⟩:ByteArray)] from rfl) (Reps.one (show Kd.M Kd.string _ _ _ (⟨#[97]⟩:ByteArray) [.string (⟨#[97]⟩:ByteArray)] from rfl) (Reps.one (show Kd.M Kd.string _ _ _ (⟨#[98,95,49]⟩:ByteArray) [.string (⟨#[98,95,49]⟩:ByteArray)] from rfl) (Reps.one (show Kd.M Kd.string _ _ _ (⟨#[77,73,88,46,119,97,118]⟩:ByteArray) [.string (⟨#[77,73,88,46,119,97,118]⟩:ByteArray)] from rfl) (Reps.one (show Kd.M Kd.string _ _ _ (⟨#[114,101,101,108,49]⟩:ByteArray) [.string (⟨#[114,101,101,108,49]⟩:ByteArray)] from rfl) (Reps.one (show Kd.M Kd.string _ _ _ (⟨#[90]⟩:ByteArray) [.string (⟨#[90]⟩:ByteArray)] from rfl) (Reps.one (show Kd.M Kd.string _ _ _ (⟨#[115,117,98,46,116,120,116]⟩:ByteArray) [.string (⟨#[115,117,98,46,116,120,116]⟩:ByteArray)] from rfl) (Reps.one (show Kd.M Kd.string _ _ _ (⟨#[48]⟩:ByteArray) [.string (⟨#[48]⟩:ByteArray)] from rfl) (Reps.none _ _))))))))));intro v248 w12 ho13 hb hg_ hnew_;clear hg_ hnew_;(first|rw [← Ny247.out] at ho13|(simp only [Int.reduceToNat] at ho13;rw [← Ny247.out] at ho13));have n0_:=La (Kd.R_elder' (by(with_reducible repeat(first|apply Lr|apply Ls|apply Lk));exact HO_4.out) (Kd.R_base ho13) hb);have n1_:=La (Kd.S_below (by(with_reducible repeat(first|apply Lu|apply Lv|apply Lq));exact HO_5.out) hb);have n2_:=La (Kd.R_lower (Kd.R_new' ho13 (Kd.R_lt (by(with_reducible repeat(first|apply Lr|apply Ls|apply Lk));exact HO_4.out))) (keep_size (w:=w) (g:=g) (row:=none) (by repeat(first|(with_reducible first|exact HK.out|apply Lj|apply Lo|apply Lh|apply Ln)|exact HK.out))));have n3_:=La (IsS102.below (by repeat(first|(with_reducible first|exact HI0.out|apply Lb|apply Ld|apply Lc|apply Lf|apply Lg)|exact HI0.out)) hb);have n4_:=La (Lt (by repeat(first|(with_reducible first|exact HK.out|apply Lj|apply Lo|apply Lh|apply Ln)|exact HK.out)) (KeepBut.of_below hb g none) (.inl rfl));have n5_:=La (below_step (by repeat(first|(with_reducible first|exact HB.out|apply Ll|apply Li|apply Lm|refine Lp ?_ (Le HI0.out))|exact HB.out)) hb);clear HO_4;clear HO_5;clear HI0;clear HK;clear HB;have HO_4:=n0_;have HO_5:=n1_;have HO249:=n2_;have HI0:=n3_;have HK:=n4_;have HB:=n5_;clear n0_ n1_ n2_ n3_ n4_ n5_;clear hb ho13)|((with_reducible refine Lx (f:=65) rfl ?_);refine goesL_ (some 20) rfl rfl Try.func65 (by kernel_rfl) rfl #[.pointer (some ⟨g,0,none⟩),.int .i64 8] rfl (by(try simp only [List.map_toArray,List.map_cons,List.map_nil]);first|done|rfl|(simp only [List.length_drop,List.length_take];rfl)) ?_;(with_reducible refine(spec_l1Below.calls g s0_0 x1001_1 x1002_1 8 t250 t251 t252 w0 _ ?side1 ?side2 A9.out).mono ?_);(case side1=>repeat(first|(with_reducible first|exact HI0.out|apply Lb|apply Ld|apply Lc|apply Lf|apply Lg)|exact HI0.out));(case side2=>repeat(first|(with_reducible first|exact HB.out|apply Ll|apply Li|apply Lm|refine Lp ?_ (Le HI0.out))|exact HB.out));rintro e w14 ⟨rfl,hi,hb,hk⟩;refine⟨_,rfl,?_⟩;have n0_:=La (Lw (Kd.R_keep (IsS102.apart (show IsS102 w0 _ g s0_0 x1001_1 x1002_1 from by repeat(first|(with_reducible first|exact HI0.out|apply Lb|apply Ld|apply Lc|apply Lf|apply Lg)|exact HI0.out)) (by(with_reducible repeat(first|apply Lr|apply Ls|apply Lk));exact HO_4.out) (by decide)) hk (fun _ h=>h.2)) (fun _ h=>h.1));have n1_:=La (Kd.S_mono (Kd.S_keep (IsS102.apartS (show IsS102 w0 _ g s0_0 x1001_1 x1002_1 from by repeat(first|(with_reducible first|exact HI0.out|apply Lb|apply Ld|apply Lc|apply Lf|apply Lg)|exact HI0.out)) (by(with_reducible repeat(first|apply Lu|apply Lv|apply Lq));exact HO_5.out) (by decide)) hk (fun _ h=>h.2)) (fun _ h=>h.1));have n2_:=La (Lw (Kd.R_keep (IsS102.apart (show IsS102 w0 _ g s0_0 x1001_1 x1002_1 from by repeat(first|(with_reducible first|exact HI0.out|apply Lb|apply Ld|apply Lc|apply Lf|apply Lg)|exact HI0.out)) (by(with_reducible repeat(first|apply Lr|apply Ls|apply Lk));exact HO249.out) (by decide)) hk (fun _ h=>h.2)) (fun _ h=>h.1));have n3_:=La (Lt (by repeat(first|(with_reducible first|exact HK.out|apply Lj|apply Lo|apply Lh|apply Ln)|exact HK.out)) hk (.inl rfl));have n4_:=La (hb);have n5_:=La (hi);clear HO_4;clear HO_5;clear HO249;clear HK;clear HB;clear HI0;have HO_4:=n0_;have HO_5:=n1_;have HO249:=n2_;have HK:=n3_;have HB:=n4_;have HI0:=n5_;clear n0_ n1_ n2_ n3_ n4_ n5_;(try clear hb);(try clear hb2);(try clear hk);(try clear hi);obtain⟨Ao15,co15,eo15⟩:=Kd.R_slice HO249.out;subst eo15;have p253:0≤(t250:Int):=of_decide_eq_true (by first|(with_reducible assumption)|assumption);have q253:t250 < (y247.length:Int):=of_decide_eq_true (by first|(with_reducible assumption)|assumption);obtain⟨ad253,e253,hx253_0⟩:=Kd.at_string (Kd.R_reads' HO249.out).2.2 t250 p253 q253;cases e253;replace p253:=eq_true p253;replace q253:=eq_true q253))
            go_loopg [8,9] k1 (fun kq v8 v9 w'=>∃ (x8_2:Bool) (x9_2:Int),v8=.bool x8_2∧v9=.int .i64 x9_2∧Aside0 (spec_l15DrawNames.l1 kq x4_1 x5_1 x6_1 (rdOf ByteArray.empty y247 t250) x8_2 x9_2 s0_0 t251 t252=some (r1,r2,r3,r4))∧Aside0 (kq≤k1)∧Aside0 (Kd.R Kd.string 9 w' w.heap.size (fun _=>True) u4 x4_1)∧Aside0 (Kd.S (Kd.slice 5 (Kd.int .u8)) 22 w' w.heap.size (fun _=>True) u5 x5_1)∧Aside0 (IsS102 w0 w' g s0_0 t251 t252)∧Aside0 (KeepBut w w' g none)∧Aside0 (Below w0.heap.size w0 w'))
            case atStart=>exact⟨(false),(0),(by first|rfl|(simp;done)|(simp [*];done)),(by first|rfl|(simp;done)|(simp [*];done)),H',⟨Nat.le_refl _⟩,⟨by(with_reducible repeat(first|apply Lr|apply Ls|apply Lk));exact Lw HO_4.out (fun _ hk=>trivial)⟩,⟨by(with_reducible repeat(first|apply Lu|apply Lv|apply Lq));exact HO_5.out⟩,⟨by repeat(first|(with_reducible first|exact HI0.out|apply Lb|apply Ld|apply Lc|apply Lf|apply Lg)|exact HI0.out)⟩,⟨by repeat(first|(with_reducible first|exact HK.out|apply Lj|apply Lo|apply Lh|apply Ln)|exact HK.out)⟩,⟨by repeat(first|(with_reducible first|exact HB.out|apply Ll|apply Li|apply Lm|refine Lp ?_ (Le HI0.out))|exact HB.out)⟩⟩
            case round=>
              clear H'
              try clear c1
              try clear p2
              try clear q2
              try clear hx2
              try clear c6
              try clear c7
              try clear c8
              try clear c8b0
              try clear c10
              try clear c10b0
              try clear c11
              try clear c11b0
              try clear hx253_0
              try clear p2
              try clear p253
              try clear q253
              obtain⟨x8_2,x9_2,rfl,rfl,HA,HK2,HO_4,HO_5,HI0,HK,HB⟩:=hrel
              cases gk with
              | zero => exact absurd HA.out (by simp [spec_l15DrawNames.l1])
              | succ k2 =>
                have H:=HA.out
                clear HA
                simp only [spec_l15DrawNames.l1] at H
                by_cases c16:x9_2 < (x4_1.length:Int)
                · rw [if_pos c16] at H
                  have c16b0:decide (x9_2 < (x4_1.length:Int))=true:=decide_eq_true c16
                  clear c16
                  by_cases c17:x8_2=true
                  · subst c17
                    have H1:(spec_l15DrawNames.l1 k2 x4_1 x5_1 x6_1 (rdOf ByteArray.empty y247 t250) true (wrap64 (x9_2+1)) s0_0 t251 t252)=some (r1,r2,r3,r4):=by rw [if_pos rfl] at H;exact H
                    clear H
                    have H:=H1
                    clear H1
                    have H':=La H
                    clear H
                    obtain⟨Ao18,co18,eo18⟩:=Kd.R_slice HO_4.out
                    subst eo18
                    go_wp2
                    go_roundg k2
                    case measure=>have:=HK1.out;have:=HK2.out;omega
                    case rel=>exact⟨(true),(wrap64 (x9_2+1)),(by first|rfl|(simp;done)|(simp [*];done)),(by first|rfl|(simp;done)|(simp [*];done)),H',⟨by have:=HK1.out;have:=HK2.out;omega⟩,⟨by(with_reducible repeat(first|apply Lr|apply Ls|apply Lk));exact HO_4.out⟩,⟨by(with_reducible repeat(first|apply Lu|apply Lv|apply Lq));exact HO_5.out⟩,⟨by repeat(first|(with_reducible first|exact HI0.out|apply Lb|apply Ld|apply Lc|apply Lf|apply Lg)|exact HI0.out)⟩,⟨by repeat(first|(with_reducible first|exact HK.out|apply Lj|apply Lo|apply Lh|apply Ln)|exact HK.out)⟩,⟨by repeat(first|(with_reducible first|exact HB.out|apply Ll|apply Li|apply Lm|refine Lp ?_ (Le HI0.out))|exact HB.out)⟩⟩
                  · replace c17:=Bool.eq_false_iff.mpr c17
                    subst c17
                    have H1:(if 0≤x9_2 then (spec_l15DrawNames.l1 k2 x4_1 x5_1 x6_1 (rdOf ByteArray.empty y247 t250) ((rdOf ByteArray.empty x4_1 x9_2).toList == (rdOf ByteArray.empty y247 t250).toList) (wrap64 (x9_2+1)) s0_0 t251 t252) else (none))=some (r1,r2,r3,r4):=by rw [if_neg (show ¬ (false=true) by decide)] at H;exact H
                    clear H
                    have H:=H1
                    clear H1
                    by_cases c19:0≤x9_2
                    · rw [if_pos c19] at H
                      have c19b0:decide (0≤x9_2)=true:=decide_eq_true c19
                      clear c19
                      have H':=La H
                      clear H
                      obtain⟨Ao20,co20,eo20⟩:=Kd.R_slice HO_4.out
                      subst eo20
                      have p254:0≤(x9_2:Int):=of_decide_eq_true (by first|(with_reducible assumption)|assumption)
                      have q254:x9_2 < (x4_1.length:Int):=of_decide_eq_true (by first|(with_reducible assumption)|assumption)
                      obtain⟨ad254,e254,hx254_0⟩:=Kd.at_string (Kd.R_reads' HO_4.out).2.2 x9_2 p254 q254
                      cases e254
                      replace p254:=eq_true p254
                      replace q254:=eq_true q254
                      go_wp2
                      go_roundg k2
                      case measure=>have:=HK1.out;have:=HK2.out;omega
                      case rel=>exact⟨(((rdOf ByteArray.empty x4_1 x9_2).toList == (rdOf ByteArray.empty y247 t250).toList)),(wrap64 (x9_2+1)),(by first|rfl|(simp;done)|(simp [*];done)),(by first|rfl|(simp;done)|(simp [*];done)),H',⟨by have:=HK1.out;have:=HK2.out;omega⟩,⟨by(with_reducible repeat(first|apply Lr|apply Ls|apply Lk));exact HO_4.out⟩,⟨by(with_reducible repeat(first|apply Lu|apply Lv|apply Lq));exact HO_5.out⟩,⟨by repeat(first|(with_reducible first|exact HI0.out|apply Lb|apply Ld|apply Lc|apply Lf|apply Lg)|exact HI0.out)⟩,⟨by repeat(first|(with_reducible first|exact HK.out|apply Lj|apply Lo|apply Lh|apply Ln)|exact HK.out)⟩,⟨by repeat(first|(with_reducible first|exact HB.out|apply Ll|apply Li|apply Lm|refine Lp ?_ (Le HI0.out))|exact HB.out)⟩⟩
                    · rw [if_neg c19] at H
                      exact absurd H (by simp)
                · rw [if_neg c16] at H
                  have c16b0:decide (x9_2 < (x4_1.length:Int))=false:=decide_eq_false c16
                  clear c16
                  by_cases c21:x8_2=true
                  · subst c21
                    have H1:((spec_l1Once.f s0_0 t251 t252 20).bind fun bt255=>(if bt255.1=true then (if x4_1.length < 8796093022208 then ((spec_l15DrawBody.f k2 s0_0 bt255.2.1 bt255.2.2).bind fun bt261=>(if x5_1.length < 5864062014805 then (spec_l15DrawNames.l0 k2 (x4_1 ++ [(rdOf ByteArray.empty y247 t250)]) (x5_1 ++ [bt261.1]) (wrap64 (x6_1 - 1)) s0_0 bt261.2.1 bt261.2.2) else (none))) else (none)) else (spec_l15DrawNames.l0 k2 x4_1 x5_1 (wrap64 (x6_1 - 1)) s0_0 bt255.2.1 bt255.2.2)))=some (r1,r2,r3,r4):=by rw [if_pos rfl] at H;exact H
                    clear H
                    have H:=H1
                    clear H1
                    replace H:=Option.bind_eq_some_iff.mp H
                    obtain⟨⟨t255,t256,t257⟩,A220,H⟩:=H
                    replace H:(if t255=true then (if x4_1.length < 8796093022208 then ((spec_l15DrawBody.f k2 s0_0 t256 t257).bind fun bt261=>(if x5_1.length < 5864062014805 then (spec_l15DrawNames.l0 k2 (x4_1 ++ [(rdOf ByteArray.empty y247 t250)]) (x5_1 ++ [bt261.1]) (wrap64 (x6_1 - 1)) s0_0 bt261.2.1 bt261.2.2) else (none))) else (none)) else (spec_l15DrawNames.l0 k2 x4_1 x5_1 (wrap64 (x6_1 - 1)) s0_0 t256 t257))=some (r1,r2,r3,r4):=H
                    have A22:=La A220
                    clear A220
                    by_cases c23:t255=true
                    · subst c23
                      have H1:(if x4_1.length < 8796093022208 then ((spec_l15DrawBody.f k2 s0_0 t256 t257).bind fun bt261=>(if x5_1.length < 5864062014805 then (spec_l15DrawNames.l0 k2 (x4_1 ++ [(rdOf ByteArray.empty y247 t250)]) (x5_1 ++ [bt261.1]) (wrap64 (x6_1 - 1)) s0_0 bt261.2.1 bt261.2.2) else (none))) else (none))=some (r1,r2,r3,r4):=by rw [if_pos rfl] at H;exact H
                      clear H
                      have H:=H1
                      clear H1
                      by_cases c24:x4_1.length < 8796093022208
                      · rw [if_pos c24] at H
                        have LMc24:=La c24
                        clear c24
                        obtain⟨y258,hy258⟩:∃ y_:List ByteArray,y_=(x4_1 ++ [(rdOf ByteArray.empty y247 t250)]):=⟨_,rfl⟩
                        replace H:((spec_l15DrawBody.f k2 s0_0 t256 t257).bind fun bt261=>(if x5_1.length < 5864062014805 then (spec_l15DrawNames.l0 k2 y258 (x5_1 ++ [bt261.1]) (wrap64 (x6_1 - 1)) s0_0 bt261.2.1 bt261.2.2) else (none)))=some (r1,r2,r3,r4):=by first|(rw [hy258];with_reducible exact H)|(have H2_:=(Option.bind_some _ _).symm.trans H;rw [hy258];with_reducible exact H2_)|(have H2_:=(Option.bind_some _ _).symm.trans H;with_reducible exact H2_)|with_reducible exact H|(rw [hy258];exact H)|exact H
                        have Ny258:=La hy258
                        clear hy258
                        replace H:=Option.bind_eq_some_iff.mp H
                        obtain⟨⟨t261,t264,t265⟩,A250,H⟩:=H
                        replace H:(if x5_1.length < 5864062014805 then (spec_l15DrawNames.l0 k2 y258 (x5_1 ++ [t261]) (wrap64 (x6_1 - 1)) s0_0 t264 t265) else (none))=some (r1,r2,r3,r4):=H
                        have A25:=La A250
                        clear A250
                        by_cases c26:x5_1.length < 5864062014805
                        · rw [if_pos c26] at H
                          have LMc26:=La c26
                          clear c26
                          obtain⟨y266,hy266⟩:∃ y_:List (List Int),y_=(x5_1 ++ [t261]):=⟨_,rfl⟩
                          replace H:(spec_l15DrawNames.l0 k2 y258 y266 (wrap64 (x6_1 - 1)) s0_0 t264 t265)=some (r1,r2,r3,r4):=by first|(rw [hy266];with_reducible exact H)|(have H2_:=(Option.bind_some _ _).symm.trans H;rw [hy266];with_reducible exact H2_)|(have H2_:=(Option.bind_some _ _).symm.trans H;with_reducible exact H2_)|with_reducible exact H|(rw [hy266];exact H)|exact H
                          have Ny266:=La hy266
                          clear hy266
                          have H':=La H
                          clear H
                          obtain⟨Ao27,co27,eo27⟩:=Kd.R_slice HO_4.out
                          subst eo27
                          go_wp2_with (first|(go_at_call 68;(with_reducible refine(spec_l1Once.calls g s0_0 t251 t252 20 true t256 t257 w0 _ ?side1 ?side2 A22.out).mono ?_);(case side1=>repeat(first|(with_reducible first|exact HI0.out|apply Lb|apply Ld|apply Lc|apply Lf|apply Lg)|exact HI0.out));(case side2=>repeat(first|(with_reducible first|exact HB.out|apply Ll|apply Li|apply Lm|refine Lp ?_ (Le HI0.out))|exact HB.out));rintro e w28 ⟨rfl,hi,hb,hk⟩;have n0_:=La (Lw (Kd.R_keep (IsS102.apart (show IsS102 w0 _ g s0_0 t251 t252 from by repeat(first|(with_reducible first|exact HI0.out|apply Lb|apply Ld|apply Lc|apply Lf|apply Lg)|exact HI0.out)) (by(with_reducible repeat(first|apply Lr|apply Ls|apply Lk));exact HO_4.out) (by decide)) hk (fun _ h=>h.2)) (fun _ h=>h.1));have n1_:=La (Kd.S_mono (Kd.S_keep (IsS102.apartS (show IsS102 w0 _ g s0_0 t251 t252 from by repeat(first|(with_reducible first|exact HI0.out|apply Lb|apply Ld|apply Lc|apply Lf|apply Lg)|exact HI0.out)) (by(with_reducible repeat(first|apply Lu|apply Lv|apply Lq));exact HO_5.out) (by decide)) hk (fun _ h=>h.2)) (fun _ h=>h.1));have n2_:=La (Lt (by repeat(first|(with_reducible first|exact HK.out|apply Lj|apply Lo|apply Lh|apply Ln)|exact HK.out)) hk (.inl rfl));have n3_:=La (hb);have n4_:=La (hi);clear HO_4;clear HO_5;clear HK;clear HB;clear HI0;have HO_4:=n0_;have HO_5:=n1_;have HK:=n2_;have HB:=n3_;have HI0:=n4_;clear n0_ n1_ n2_ n3_ n4_;(try clear hb);(try clear hb2);(try clear hk);(try clear hi))|((with_reducible refine gate_builtin (b:=.append) (xs:=#[.tmp 44,.tmp 46]) rfl ?_);at_builtin;refine Kd.R_append Kd.string w.heap.size rfl (.tmp 44) (.tmp 46) 46 9 (.string ⟨#[]⟩) 16 rfl Try.underlying46 info9 rfl (by decide) (by omega) (.slice Ao27 x4_1.length co27) x4_1 (rdOf ByteArray.empty y247 t250) [.string (rdOf ByteArray.empty y247 t250)] (fun _=>True) (fun _=>False) rfl rfl ?aP (fun _ hk=>hk.elim) ?aF ?aO (Below.refl _ _) ?aS ?aL ?_;(case aP=>exact rfl);(case aF=>exact(fun _ _=>trivial));(case aO=>exact(by(with_reducible repeat(first|apply Lr|apply Ls|apply Lk));exact HO_4.out));(case aS=>exact(keep_size (w:=w) (g:=g) (row:=none) (by repeat(first|(with_reducible first|exact HK.out|apply Lj|apply Lo|apply Lh|apply Ln)|exact HK.out))));(case aL=>have:=LMc24.out;omega);intro v259 w29 ho hb hg hat;rw [← Ny258.out] at ho;have n0_:=La (Kd.S_over' (by(with_reducible repeat(first|apply Lu|apply Lv|apply Lq));exact HO_5.out) (Kd.R_typed (by(with_reducible repeat(first|apply Lr|apply Ls|apply Lk));exact HO_4.out)) (by decide) hg);have n1_:=La (IsS102.grown (by repeat(first|(with_reducible first|exact HI0.out|apply Lb|apply Ld|apply Lc|apply Lf|apply Lg)|exact HI0.out)) hg (IsS102.own_ne HI0.out HO_4.out (by decide)));have n2_:=La (below_weaken (by repeat(first|(with_reducible first|exact HB.out|apply Ll|apply Li|apply Lm|refine Lp ?_ (Le HI0.out))|exact HB.out)) HL.out hb);have n3_:=La (Lt (by repeat(first|(with_reducible first|exact HK.out|apply Lj|apply Lo|apply Lh|apply Ln)|exact HK.out)) (KeepBut.of_grown hg g) (Kd.R_base2 HO_4.out));have n4_:=La (ho);clear HO_5;clear HI0;clear HB;clear HK;clear HO_4;have HO_5:=n0_;have HI0:=n1_;have HB:=n2_;have HK:=n3_;have HO260:=n4_;clear n0_ n1_ n2_ n3_ n4_;clear ho hb hg hat)|((with_reducible refine Lx (f:=70) rfl ?_);refine goesL_ (some 50) rfl rfl Try.func70 (by kernel_rfl) rfl #[.pointer (some ⟨g,0,none⟩)] rfl (by(try simp only [List.map_toArray,List.map_cons,List.map_nil]);first|done|rfl|(simp only [List.length_drop,List.length_take];rfl)) ?_;(with_reducible refine(spec_l15DrawBody.calls k2 g s0_0 t256 t257 t261 t264 t265 w0 _ ?side1 ?side2 A25.out).mono ?_);(case side1=>repeat(first|(with_reducible first|exact HI0.out|apply Lb|apply Ld|apply Lc|apply Lf|apply Lg)|exact HI0.out));(case side2=>repeat(first|(with_reducible first|exact HB.out|apply Ll|apply Li|apply Lm|refine Lp ?_ (Le HI0.out))|exact HB.out));rintro e w30 ⟨v262,rfl,ho0,hi,hb,hk⟩;refine⟨_,rfl,?_⟩;have n0_:=La (Kd.S_mono (Kd.S_told (Kd.S_oldK (IsS102.apartS (show IsS102 w0 _ g s0_0 t256 t257 from by repeat(first|(with_reducible first|exact HI0.out|apply Lb|apply Ld|apply Lc|apply Lf|apply Lg)|exact HI0.out)) (by(with_reducible repeat(first|apply Lu|apply Lv|apply Lq));exact HO_5.out) (by decide)) hk) (Kd.R_base ho0)) (fun _ h_=>h_.1));have n1_:=La (Lw (Kd.R_keep (IsS102.apart (show IsS102 w0 _ g s0_0 t256 t257 from by repeat(first|(with_reducible first|exact HI0.out|apply Lb|apply Ld|apply Lc|apply Lf|apply Lg)|exact HI0.out)) (by(with_reducible repeat(first|apply Lr|apply Ls|apply Lk));exact HO260.out) (by decide)) hk (fun _ h=>h.2)) (fun _ h=>h.1));have n2_:=La (Kd.R_lower ho0 (keep_size (w:=w) (g:=g) (row:=none) (by repeat(first|(with_reducible first|exact HK.out|apply Lj|apply Lo|apply Lh|apply Ln)|exact HK.out))));have n3_:=La (Lt (by repeat(first|(with_reducible first|exact HK.out|apply Lj|apply Lo|apply Lh|apply Ln)|exact HK.out)) hk (.inl rfl));have n4_:=La (hb);have n5_:=La (hi);clear HO_5;clear HO260;clear HK;clear HB;clear HI0;have HO_5:=n0_;have HO260:=n1_;have HO263:=n2_;have HK:=n3_;have HB:=n4_;have HI0:=n5_;clear n0_ n1_ n2_ n3_ n4_ n5_;(try clear hb);(try clear hb2);(try clear hk);(try clear hi);(try clear ho0);obtain⟨Ao32,co32,eo32⟩:=Kd.R_slice HO263.out;subst eo32)|((with_reducible refine gate_builtin (b:=.append) (xs:=#[.tmp 48,.tmp 51]) rfl ?_);at_builtin;refine Kd.S_append (Kd.slice 5 (Kd.int .u8)) w.heap.size rfl (.tmp 48) (.tmp 51) 55 22 (.slice none 0 0) 24 rfl Try.underlying55 info22 rfl (by decide) (by omega) u5 x5_1 t261 [.slice Ao32 t261.length co32] (fun _=>True) (fun k_=>some k_=(.slice Ao32 t261.length co32:Value).ownBlock) rfl rfl ?aP (fun k_ hk_=>((Lw (ok':=fun k_=>((fun _=>True)) k_∧some k_≠(u5:Value).ownBlock) (Kd.R_apart' (HO263.out) (Kd.S_typed HO_5.out) (by decide)) (fun k_ hk=>⟨trivial,hk.2⟩))).1 k_ hk_.symm) ?aF ?aO (Below.refl _ _) ?aS ?aL ?_;(case aP=>exact Kd.M_row (Lw (Kd.R_tight rfl (Lw (ok':=fun k_=>((fun _=>True)) k_∧some k_≠(u5:Value).ownBlock) (Kd.R_apart' (HO263.out) (Kd.S_typed HO_5.out) (by decide)) (fun k_ hk=>⟨trivial,hk.2⟩))) (fun _ h_=>h_)));(case aF=>exact(fun _ _=>trivial));(case aO=>exact(by(with_reducible repeat(first|apply Lu|apply Lv|apply Lq));exact Kd.S_mono HO_5.out (fun k_ hk=>⟨trivial,fun e_=>hk.2 e_⟩)));(case aS=>exact(keep_size (w:=w) (g:=g) (row:=none) (by repeat(first|(with_reducible first|exact HK.out|apply Lj|apply Lo|apply Lh|apply Ln)|exact HK.out))));(case aL=>have:=LMc26.out;omega);intro v267 w31 ho hb hg hat;rw [← Ny266.out] at ho;have n0_:=La (IsS102.grown (by repeat(first|(with_reducible first|exact HI0.out|apply Lb|apply Ld|apply Lc|apply Lf|apply Lg)|exact HI0.out)) hg (IsS102.own_neS HI0.out HO_5.out (by decide)));have n1_:=La (Kd.R_over' (by(with_reducible repeat(first|apply Lr|apply Ls|apply Lk));exact HO260.out) (Kd.S_typed (by(with_reducible repeat(first|apply Lu|apply Lv|apply Lq));exact HO_5.out)) (by decide) hg);have n2_:=La (below_weaken (by repeat(first|(with_reducible first|exact HB.out|apply Ll|apply Li|apply Lm|refine Lp ?_ (Le HI0.out))|exact HB.out)) HL.out hb);have n3_:=La (Lt (by repeat(first|(with_reducible first|exact HK.out|apply Lj|apply Lo|apply Lh|apply Ln)|exact HK.out)) (KeepBut.of_grown hg g) (Kd.S_base2 HO_5.out));have n4_:=La (ho);clear HI0;clear HO260;clear HB;clear HK;clear HO_5;clear HO263;have HI0:=n0_;have HO260:=n1_;have HB:=n2_;have HK:=n3_;have HO268:=n4_;clear n0_ n1_ n2_ n3_ n4_;clear ho hb hg hat))
                          go_roundg k2
                          case measure=>have:=HK1.out;have:=HK2.out;omega
                          case rel=>exact⟨(y258),(y266),(wrap64 (x6_1 - 1)),(t264),(t265),(by first|rfl|(simp;done)|(simp [*];done)),H',⟨by have:=HK1.out;have:=HK2.out;omega⟩,⟨by(with_reducible repeat(first|apply Lr|apply Ls|apply Lk));exact HO260.out⟩,⟨by(with_reducible repeat(first|apply Lu|apply Lv|apply Lq));exact HO268.out⟩,⟨by repeat(first|(with_reducible first|exact HI0.out|apply Lb|apply Ld|apply Lc|apply Lf|apply Lg)|exact HI0.out)⟩,⟨by repeat(first|(with_reducible first|exact HK.out|apply Lj|apply Lo|apply Lh|apply Ln)|exact HK.out)⟩,⟨by repeat(first|(with_reducible first|exact HB.out|apply Ll|apply Li|apply Lm|refine Lp ?_ (Le HI0.out))|exact HB.out)⟩⟩
                        · rw [if_neg c26] at H
                          exact absurd H (by simp)
                      · rw [if_neg c24] at H
                        exact absurd H (by simp)
                    · replace c23:=Bool.eq_false_iff.mpr c23
                      subst c23
                      have H1:(spec_l15DrawNames.l0 k2 x4_1 x5_1 (wrap64 (x6_1 - 1)) s0_0 t256 t257)=some (r1,r2,r3,r4):=by rw [if_neg (show ¬ (false=true) by decide)] at H;exact H
                      clear H
                      have H:=H1
                      clear H1
                      have H':=La H
                      clear H
                      obtain⟨Ao33,co33,eo33⟩:=Kd.R_slice HO_4.out
                      subst eo33
                      go_wp2_with (first|(go_at_call 68;(with_reducible refine(spec_l1Once.calls g s0_0 t251 t252 20 false t256 t257 w0 _ ?side1 ?side2 A22.out).mono ?_);(case side1=>repeat(first|(with_reducible first|exact HI0.out|apply Lb|apply Ld|apply Lc|apply Lf|apply Lg)|exact HI0.out));(case side2=>repeat(first|(with_reducible first|exact HB.out|apply Ll|apply Li|apply Lm|refine Lp ?_ (Le HI0.out))|exact HB.out));rintro e w34 ⟨rfl,hi,hb,hk⟩;have n0_:=La (Lw (Kd.R_keep (IsS102.apart (show IsS102 w0 _ g s0_0 t251 t252 from by repeat(first|(with_reducible first|exact HI0.out|apply Lb|apply Ld|apply Lc|apply Lf|apply Lg)|exact HI0.out)) (by(with_reducible repeat(first|apply Lr|apply Ls|apply Lk));exact HO_4.out) (by decide)) hk (fun _ h=>h.2)) (fun _ h=>h.1));have n1_:=La (Kd.S_mono (Kd.S_keep (IsS102.apartS (show IsS102 w0 _ g s0_0 t251 t252 from by repeat(first|(with_reducible first|exact HI0.out|apply Lb|apply Ld|apply Lc|apply Lf|apply Lg)|exact HI0.out)) (by(with_reducible repeat(first|apply Lu|apply Lv|apply Lq));exact HO_5.out) (by decide)) hk (fun _ h=>h.2)) (fun _ h=>h.1));have n2_:=La (Lt (by repeat(first|(with_reducible first|exact HK.out|apply Lj|apply Lo|apply Lh|apply Ln)|exact HK.out)) hk (.inl rfl));have n3_:=La (hb);have n4_:=La (hi);clear HO_4;clear HO_5;clear HK;clear HB;clear HI0;have HO_4:=n0_;have HO_5:=n1_;have HK:=n2_;have HB:=n3_;have HI0:=n4_;clear n0_ n1_ n2_ n3_ n4_;(try clear hb);(try clear hb2);(try clear hk);(try clear hi)))
                      go_roundg k2
                      case measure=>have:=HK1.out;have:=HK2.out;omega
                      case rel=>exact⟨(x4_1),(x5_1),(wrap64 (x6_1 - 1)),(t256),(t257),(by first|rfl|(simp;done)|(simp [*];done)),H',⟨by have:=HK1.out;have:=HK2.out;omega⟩,⟨by(with_reducible repeat(first|apply Lr|apply Ls|apply Lk));exact HO_4.out⟩,⟨by(with_reducible repeat(first|apply Lu|apply Lv|apply Lq));exact HO_5.out⟩,⟨by repeat(first|(with_reducible first|exact HI0.out|apply Lb|apply Ld|apply Lc|apply Lf|apply Lg)|exact HI0.out)⟩,⟨by repeat(first|(with_reducible first|exact HK.out|apply Lj|apply Lo|apply Lh|apply Ln)|exact HK.out)⟩,⟨by repeat(first|(with_reducible first|exact HB.out|apply Ll|apply Li|apply Lm|refine Lp ?_ (Le HI0.out))|exact HB.out)⟩⟩
                  · replace c21:=Bool.eq_false_iff.mpr c21
                    subst c21
                    have H1:(if x4_1.length < 8796093022208 then ((spec_l15DrawBody.f k2 s0_0 t251 t252).bind fun bt272=>(if x5_1.length < 5864062014805 then (spec_l15DrawNames.l0 k2 (x4_1 ++ [(rdOf ByteArray.empty y247 t250)]) (x5_1 ++ [bt272.1]) (wrap64 (x6_1 - 1)) s0_0 bt272.2.1 bt272.2.2) else (none))) else (none))=some (r1,r2,r3,r4):=by rw [if_neg (show ¬ (false=true) by decide)] at H;exact H
                    clear H
                    have H:=H1
                    clear H1
                    by_cases c35:x4_1.length < 8796093022208
                    · rw [if_pos c35] at H
                      have LMc35:=La c35
                      clear c35
                      obtain⟨y269,hy269⟩:∃ y_:List ByteArray,y_=(x4_1 ++ [(rdOf ByteArray.empty y247 t250)]):=⟨_,rfl⟩
                      replace H:((spec_l15DrawBody.f k2 s0_0 t251 t252).bind fun bt272=>(if x5_1.length < 5864062014805 then (spec_l15DrawNames.l0 k2 y269 (x5_1 ++ [bt272.1]) (wrap64 (x6_1 - 1)) s0_0 bt272.2.1 bt272.2.2) else (none)))=some (r1,r2,r3,r4):=by first|(rw [hy269];with_reducible exact H)|(have H2_:=(Option.bind_some _ _).symm.trans H;rw [hy269];with_reducible exact H2_)|(have H2_:=(Option.bind_some _ _).symm.trans H;with_reducible exact H2_)|with_reducible exact H|(rw [hy269];exact H)|exact H
                      have Ny269:=La hy269
                      clear hy269
                      replace H:=Option.bind_eq_some_iff.mp H
                      obtain⟨⟨t272,t275,t276⟩,A360,H⟩:=H
                      replace H:(if x5_1.length < 5864062014805 then (spec_l15DrawNames.l0 k2 y269 (x5_1 ++ [t272]) (wrap64 (x6_1 - 1)) s0_0 t275 t276) else (none))=some (r1,r2,r3,r4):=H
                      have A36:=La A360
                      clear A360
                      by_cases c37:x5_1.length < 5864062014805
                      · rw [if_pos c37] at H
                        have LMc37:=La c37
                        clear c37
                        obtain⟨y277,hy277⟩:∃ y_:List (List Int),y_=(x5_1 ++ [t272]):=⟨_,rfl⟩
                        replace H:(spec_l15DrawNames.l0 k2 y269 y277 (wrap64 (x6_1 - 1)) s0_0 t275 t276)=some (r1,r2,r3,r4):=by first|(rw [hy277];with_reducible exact H)|(have H2_:=(Option.bind_some _ _).symm.trans H;rw [hy277];with_reducible exact H2_)|(have H2_:=(Option.bind_some _ _).symm.trans H;with_reducible exact H2_)|with_reducible exact H|(rw [hy277];exact H)|exact H
                        have Ny277:=La hy277
                        clear hy277
                        have H':=La H
                        clear H
                        obtain⟨Ao38,co38,eo38⟩:=Kd.R_slice HO_4.out
                        subst eo38
                        go_wp2_with (first|((with_reducible refine gate_builtin (b:=.append) (xs:=#[.tmp 44,.tmp 46]) rfl ?_);at_builtin;refine Kd.R_append Kd.string w.heap.size rfl (.tmp 44) (.tmp 46) 46 9 (.string ⟨#[]⟩) 16 rfl Try.underlying46 info9 rfl (by decide) (by omega) (.slice Ao38 x4_1.length co38) x4_1 (rdOf ByteArray.empty y247 t250) [.string (rdOf ByteArray.empty y247 t250)] (fun _=>True) (fun _=>False) rfl rfl ?aP (fun _ hk=>hk.elim) ?aF ?aO (Below.refl _ _) ?aS ?aL ?_;(case aP=>exact rfl);(case aF=>exact(fun _ _=>trivial));(case aO=>exact(by(with_reducible repeat(first|apply Lr|apply Ls|apply Lk));exact HO_4.out));(case aS=>exact(keep_size (w:=w) (g:=g) (row:=none) (by repeat(first|(with_reducible first|exact HK.out|apply Lj|apply Lo|apply Lh|apply Ln)|exact HK.out))));(case aL=>have:=LMc35.out;omega);intro v270 w39 ho hb hg hat;rw [← Ny269.out] at ho;have n0_:=La (Kd.S_over' (by(with_reducible repeat(first|apply Lu|apply Lv|apply Lq));exact HO_5.out) (Kd.R_typed (by(with_reducible repeat(first|apply Lr|apply Ls|apply Lk));exact HO_4.out)) (by decide) hg);have n1_:=La (IsS102.grown (by repeat(first|(with_reducible first|exact HI0.out|apply Lb|apply Ld|apply Lc|apply Lf|apply Lg)|exact HI0.out)) hg (IsS102.own_ne HI0.out HO_4.out (by decide)));have n2_:=La (below_weaken (by repeat(first|(with_reducible first|exact HB.out|apply Ll|apply Li|apply Lm|refine Lp ?_ (Le HI0.out))|exact HB.out)) HL.out hb);have n3_:=La (Lt (by repeat(first|(with_reducible first|exact HK.out|apply Lj|apply Lo|apply Lh|apply Ln)|exact HK.out)) (KeepBut.of_grown hg g) (Kd.R_base2 HO_4.out));have n4_:=La (ho);clear HO_5;clear HI0;clear HB;clear HK;clear HO_4;have HO_5:=n0_;have HI0:=n1_;have HB:=n2_;have HK:=n3_;have HO271:=n4_;clear n0_ n1_ n2_ n3_ n4_;clear ho hb hg hat)|((with_reducible refine Lx (f:=70) rfl ?_);refine goesL_ (some 50) rfl rfl Try.func70 (by kernel_rfl) rfl #[.pointer (some ⟨g,0,none⟩)] rfl (by(try simp only [List.map_toArray,List.map_cons,List.map_nil]);first|done|rfl|(simp only [List.length_drop,List.length_take];rfl)) ?_;(with_reducible refine(spec_l15DrawBody.calls k2 g s0_0 t251 t252 t272 t275 t276 w0 _ ?side1 ?side2 A36.out).mono ?_);(case side1=>repeat(first|(with_reducible first|exact HI0.out|apply Lb|apply Ld|apply Lc|apply Lf|apply Lg)|exact HI0.out));(case side2=>repeat(first|(with_reducible first|exact HB.out|apply Ll|apply Li|apply Lm|refine Lp ?_ (Le HI0.out))|exact HB.out));rintro e w40 ⟨v273,rfl,ho0,hi,hb,hk⟩;refine⟨_,rfl,?_⟩;have n0_:=La (Kd.S_mono (Kd.S_told (Kd.S_oldK (IsS102.apartS (show IsS102 w0 _ g s0_0 t251 t252 from by repeat(first|(with_reducible first|exact HI0.out|apply Lb|apply Ld|apply Lc|apply Lf|apply Lg)|exact HI0.out)) (by(with_reducible repeat(first|apply Lu|apply Lv|apply Lq));exact HO_5.out) (by decide)) hk) (Kd.R_base ho0)) (fun _ h_=>h_.1));have n1_:=La (Lw (Kd.R_keep (IsS102.apart (show IsS102 w0 _ g s0_0 t251 t252 from by repeat(first|(with_reducible first|exact HI0.out|apply Lb|apply Ld|apply Lc|apply Lf|apply Lg)|exact HI0.out)) (by(with_reducible repeat(first|apply Lr|apply Ls|apply Lk));exact HO271.out) (by decide)) hk (fun _ h=>h.2)) (fun _ h=>h.1));have n2_:=La (Kd.R_lower ho0 (keep_size (w:=w) (g:=g) (row:=none) (by repeat(first|(with_reducible first|exact HK.out|apply Lj|apply Lo|apply Lh|apply Ln)|exact HK.out))));have n3_:=La (Lt (by repeat(first|(with_reducible first|exact HK.out|apply Lj|apply Lo|apply Lh|apply Ln)|exact HK.out)) hk (.inl rfl));have n4_:=La (hb);have n5_:=La (hi);clear HO_5;clear HO271;clear HK;clear HB;clear HI0;have HO_5:=n0_;have HO271:=n1_;have HO274:=n2_;have HK:=n3_;have HB:=n4_;have HI0:=n5_;clear n0_ n1_ n2_ n3_ n4_ n5_;(try clear hb);(try clear hb2);(try clear hk);(try clear hi);(try clear ho0);obtain⟨Ao42,co42,eo42⟩:=Kd.R_slice HO274.out;subst eo42)|((with_reducible refine gate_builtin (b:=.append) (xs:=#[.tmp 48,.tmp 51]) rfl ?_);at_builtin;refine Kd.S_append (Kd.slice 5 (Kd.int .u8)) w.heap.size rfl (.tmp 48) (.tmp 51) 55 22 (.slice none 0 0) 24 rfl Try.underlying55 info22 rfl (by decide) (by omega) u5 x5_1 t272 [.slice Ao42 t272.length co42] (fun _=>True) (fun k_=>some k_=(.slice Ao42 t272.length co42:Value).ownBlock) rfl rfl ?aP (fun k_ hk_=>((Lw (ok':=fun k_=>((fun _=>True)) k_∧some k_≠(u5:Value).ownBlock) (Kd.R_apart' (HO274.out) (Kd.S_typed HO_5.out) (by decide)) (fun k_ hk=>⟨trivial,hk.2⟩))).1 k_ hk_.symm) ?aF ?aO (Below.refl _ _) ?aS ?aL ?_;(case aP=>exact Kd.M_row (Lw (Kd.R_tight rfl (Lw (ok':=fun k_=>((fun _=>True)) k_∧some k_≠(u5:Value).ownBlock) (Kd.R_apart' (HO274.out) (Kd.S_typed HO_5.out) (by decide)) (fun k_ hk=>⟨trivial,hk.2⟩))) (fun _ h_=>h_)));(case aF=>exact(fun _ _=>trivial));(case aO=>exact(by(with_reducible repeat(first|apply Lu|apply Lv|apply Lq));exact Kd.S_mono HO_5.out (fun k_ hk=>⟨trivial,fun e_=>hk.2 e_⟩)));(case aS=>exact(keep_size (w:=w) (g:=g) (row:=none) (by repeat(first|(with_reducible first|exact HK.out|apply Lj|apply Lo|apply Lh|apply Ln)|exact HK.out))));(case aL=>have:=LMc37.out;omega);intro v278 w41 ho hb hg hat;rw [← Ny277.out] at ho;have n0_:=La (IsS102.grown (by repeat(first|(with_reducible first|exact HI0.out|apply Lb|apply Ld|apply Lc|apply Lf|apply Lg)|exact HI0.out)) hg (IsS102.own_neS HI0.out HO_5.out (by decide)));have n1_:=La (Kd.R_over' (by(with_reducible repeat(first|apply Lr|apply Ls|apply Lk));exact HO271.out) (Kd.S_typed (by(with_reducible repeat(first|apply Lu|apply Lv|apply Lq));exact HO_5.out)) (by decide) hg);have n2_:=La (below_weaken (by repeat(first|(with_reducible first|exact HB.out|apply Ll|apply Li|apply Lm|refine Lp ?_ (Le HI0.out))|exact HB.out)) HL.out hb);have n3_:=La (Lt (by repeat(first|(with_reducible first|exact HK.out|apply Lj|apply Lo|apply Lh|apply Ln)|exact HK.out)) (KeepBut.of_grown hg g) (Kd.S_base2 HO_5.out));have n4_:=La (ho);clear HI0;clear HO271;clear HB;clear HK;clear HO_5;clear HO274;have HI0:=n0_;have HO271:=n1_;have HB:=n2_;have HK:=n3_;have HO279:=n4_;clear n0_ n1_ n2_ n3_ n4_;clear ho hb hg hat))
                        go_roundg k2
                        case measure=>have:=HK1.out;have:=HK2.out;omega
                        case rel=>exact⟨(y269),(y277),(wrap64 (x6_1 - 1)),(t275),(t276),(by first|rfl|(simp;done)|(simp [*];done)),H',⟨by have:=HK1.out;have:=HK2.out;omega⟩,⟨by(with_reducible repeat(first|apply Lr|apply Ls|apply Lk));exact HO271.out⟩,⟨by(with_reducible repeat(first|apply Lu|apply Lv|apply Lq));exact HO279.out⟩,⟨by repeat(first|(with_reducible first|exact HI0.out|apply Lb|apply Ld|apply Lc|apply Lf|apply Lg)|exact HI0.out)⟩,⟨by repeat(first|(with_reducible first|exact HK.out|apply Lj|apply Lo|apply Lh|apply Ln)|exact HK.out)⟩,⟨by repeat(first|(with_reducible first|exact HB.out|apply Ll|apply Li|apply Lm|refine Lp ?_ (Le HI0.out))|exact HB.out)⟩⟩
                      · rw [if_neg c37] at H
                        exact absurd H (by simp)
                    · rw [if_neg c35] at H
                      exact absurd H (by simp)
          · rw [if_neg c11] at H
            exact absurd H (by simp)
        · rw [if_neg c10] at H
          exact absurd H (by simp)
      · rw [if_neg c8] at H
        have c8b0:decide (0 < x6_1)=false:=decide_eq_false c8
        clear c8
        simp only [Option.some.injEq,Prod.mk.injEq] at H
        obtain⟨rfl,rfl,rfl,rfl⟩:=H
        go_wp2
        go_ret2
        exact⟨_,_,by first|rfl|(simp [errW_none,errW_some] <;> rfl)|(simp [*,errW_none,errW_some] <;> rfl),by(with_reducible repeat(first|apply Lr|apply Ls|apply Lk));exact HO_4.out,by(with_reducible repeat(first|apply Lu|apply Lv|apply Lq));exact HO_5.out,by repeat(first|(with_reducible first|exact HI0.out|apply Lb|apply Ld|apply Lc|apply Lf|apply Lg)|exact HI0.out),by repeat(first|(with_reducible first|exact HB.out|apply Ll|apply Li|apply Lm|refine Lp ?_ (Le HI0.out))|exact HB.out),by repeat(first|(with_reducible first|exact HK.out|apply Lj|apply Lo|apply Lh|apply Ln)|exact HK.out)⟩

/-! ### spec_l1Int: function 79 -/
mutual
def spec_l1Int.l0 : Nat → Int → ByteArray → Option (ByteArray)
  | 0, _, _ => none
  | k + 1, x0, x3 => if x3.toList = ([] : List UInt8) then ((some (([(wrap64 (48 + (Int.tmod x0 10))) % 256] : List Int) : List Int)).bind fun y281 => (if (strOfNums y281).size + x3.size ≤ 9223372036854775807 then (spec_l1Int.l0 k (wrap64 (Int.tdiv x0 10)) ((strOfNums y281) ++ x3)) else (none))) else (if x0 > 0 then ((some (([(wrap64 (48 + (Int.tmod x0 10))) % 256] : List Int) : List Int)).bind fun y284 => (if (strOfNums y284).size + x3.size ≤ 9223372036854775807 then (spec_l1Int.l0 k (wrap64 (Int.tdiv x0 10)) ((strOfNums y284) ++ x3)) else (none))) else (some x3))
def spec_l1Int.f : Nat → Int → Option (ByteArray)
  | 0, _ => none
  | k + 1, a0 => if a0 < 0 then ((spec_l1Int.f k (wrap64 (-a0))).bind fun t280 => (if 1 + t280.size ≤ 9223372036854775807 then (some ((⟨#[45]⟩ : ByteArray) ++ t280)) else (none))) else (spec_l1Int.l0 k a0 (⟨#[]⟩ : ByteArray))
end
theorem spec_l1Int.mono_l : ∀ k, (∀ y0, LeO (spec_l1Int.f k y0) (spec_l1Int.f (k + 1) y0)) ∧ (∀ y0 y1, LeO (spec_l1Int.l0 k y0 y1) (spec_l1Int.l0 (k + 1) y0 y1))
  | 0 => ⟨fun _ r h => by simp [spec_l1Int.f] at h, fun _ _ r h => by simp [spec_l1Int.l0] at h⟩
  | k + 1 => by
    obtain⟨ih0,ih1⟩:=spec_l1Int.mono_l k
    refine⟨?_,?_⟩
    · intro y0
      unfold spec_l1Int.f
      repeat' first
      | (with_reducible exact ih0 _)
      | (with_reducible exact ih1 _ _)
      | (with_reducible exact LeO.refl _)
      | (with_reducible exact LeO.none _)
      | (with_reducible refine LeO.ite ?_ ?_)
      | (with_reducible refine LeO.bind ?_ (fun _ => ?_))
      | exact ih0 _
      | exact ih1 _ _
      | exact LeO.none _
      | refine LeO.ite ?_ ?_
      | refine LeO.bind ?_ (fun _ => ?_)
    · intro y0 y1
      unfold spec_l1Int.l0
      repeat' first
      | (with_reducible exact ih0 _)
      | (with_reducible exact ih1 _ _)
      | (with_reducible exact LeO.refl _)
      | (with_reducible exact LeO.none _)
      | (with_reducible refine LeO.ite ?_ ?_)
      | (with_reducible refine LeO.bind ?_ (fun _ => ?_))
      | exact ih0 _
      | exact ih1 _ _
      | exact LeO.none _
      | refine LeO.ite ?_ ?_
      | refine LeO.bind ?_ (fun _ => ?_)
theorem spec_l1Int.mono : ∀ a0 k, LeO (spec_l1Int.f k a0) (spec_l1Int.f (k + 1) a0) := by
  intro a0 k
  obtain⟨ih0,ih1⟩:=spec_l1Int.mono_l k
  exact ih0 a0
set_option maxHeartbeats 8000000 in
set_option maxRecDepth 100000 in
theorem spec_l1Int.calls (k : Nat) : ∀ (a0 : Int) (r : ByteArray) (w : World) (h : spec_l1Int.f k a0 = some r),
    Calls Try.prog 79 #[.int .i64 a0] w fun e w'=>e=.returned (.string r)∧Below w.heap.size w w':=by
  induction k using Nat.strongRecOn with
  | _ k ih =>
  intro a0 r w h
  cases k with
  | zero => exact absurd h (by simp [spec_l1Int.f])
  | succ k =>
  simp only [spec_l1Int.f] at h
  have HB:=La (Below.refl w.heap.size w)
  have H:(if a0 < 0 then ((spec_l1Int.f k (wrap64 (-a0))).bind fun t280=>(if 1+t280.size≤9223372036854775807 then (some ((⟨#[45]⟩:ByteArray) ++ t280)) else (none))) else (spec_l1Int.l0 k a0 (⟨#[]⟩:ByteArray)))=some r:=h
  clear h
  by_cases c2:a0 < 0
  · rw [if_pos c2] at H
    have c2b0:decide (a0 < 0)=true:=decide_eq_true c2
    clear c2
    replace H:=Option.bind_eq_some_iff.mp H
    obtain⟨t280,A30,H⟩:=H
    replace H:(if 1+t280.size≤9223372036854775807 then (some ((⟨#[45]⟩:ByteArray) ++ t280)) else (none))=some r:=H
    have A3:=La A30
    clear A30
    by_cases c4:1+t280.size≤9223372036854775807
    · rw [if_pos c4] at H
      have c4b0:=eq_true c4
      have c4b1:decide (1+t280.size≤9223372036854775807)=true:=decide_eq_true c4
      try have c4b2:(9223372036854775807 < 1+t280.size)=False:=eq_false (Nat.not_lt.2 c4)
      obtain rfl:=Option.some.inj H
      go_enter Try.func79,Try.ntmps79
      go_wp2_with (first|((with_reducible refine Lx (f:=79) rfl ?_);refine goesL_ (some 8) rfl rfl Try.func79 (by kernel_rfl) rfl #[.int .i64 (wrap64 (-a0))] rfl (by(try simp only [List.map_toArray,List.map_cons,List.map_nil]);first|done|rfl|(simp only [List.length_drop,List.length_take];rfl)) ?_;(with_reducible refine(ih k (by omega) (wrap64 (-a0)) t280 _ A3.out).mono ?_);rintro e w5 ⟨rfl,hb⟩;refine⟨_,rfl,?_⟩;have n0_:=La (below_step (by repeat(first|(with_reducible first|exact HB.out|apply Ll|apply Li|apply Lm)|exact HB.out)) hb);clear HB;have HB:=n0_;clear n0_;(try clear hb);(try clear hb2);(try clear hk);(try clear hi)))
      go_ret
      exact⟨by first|rfl|(simp [errW_none,errW_some] <;> rfl)|(simp [*,errW_none,errW_some] <;> rfl),by repeat(first|(with_reducible first|exact HB.out|apply Ll|apply Li|apply Lm)|exact HB.out)⟩
    · rw [if_neg c4] at H
      exact absurd H (by simp)
  · rw [if_neg c2] at H
    have c2b0:decide (a0 < 0)=false:=decide_eq_false c2
    clear c2
    have H':=La H
    clear H
    go_enter Try.func79,Try.ntmps79
    go_wp2
    go_loopg [0,3] k (fun kq v0 v3 w'=>∃ (qa:Int) (x3_1:ByteArray),v0=.int .i64 qa∧v3=.string x3_1∧Aside0 (spec_l1Int.l0 kq qa x3_1=some r)∧Aside0 (kq≤k)∧Aside0 (Below w.heap.size w w'))
    case atStart=>exact⟨(a0),((⟨#[]⟩:ByteArray)),(by first|rfl|(simp;done)|(simp [*];done)),(by first|rfl|(simp;done)|(simp [*];done)),H',⟨Nat.le_refl _⟩,⟨by repeat(first|(with_reducible first|exact HB.out|apply Ll|apply Li|apply Lm)|exact HB.out)⟩⟩
    case round=>
      clear H'
      try clear c2
      try clear c2b0
      try clear p2
      try clear c4
      try clear c4b0
      try clear c4b1
      try clear c4b2
      obtain⟨qa,x3_1,rfl,rfl,HA,HK1,HB⟩:=hrel
      cases gk with
      | zero => exact absurd HA.out (by simp [spec_l1Int.l0])
      | succ k1 =>
        have H:=HA.out
        clear HA
        simp only [spec_l1Int.l0] at H
        by_cases c6:x3_1.toList=([]:List UInt8)
        · rw [if_pos c6] at H
          have c6b0:(x3_1.toList == ([]:List UInt8))=true:=beq_iff_eq.mpr c6
          have c6b1:(x3_1.toList != ([]:List UInt8))=false:=bne_eq_false_iff_eq.mpr c6
          clear c6
          obtain⟨y281,hy281⟩:∃ y_:List Int,y_=(([(wrap64 (48+(Int.tmod qa 10))) % 256]:List Int)):=⟨_,rfl⟩
          replace H:(if (strOfNums y281).size+x3_1.size≤9223372036854775807 then (spec_l1Int.l0 k1 (wrap64 (Int.tdiv qa 10)) ((strOfNums y281) ++ x3_1)) else (none))=some r:=by first|(rw [hy281];with_reducible exact H)|(have H2_:=(Option.bind_some _ _).symm.trans H;rw [hy281];with_reducible exact H2_)|(have H2_:=(Option.bind_some _ _).symm.trans H;with_reducible exact H2_)|with_reducible exact H|(rw [hy281];exact H)|exact H
          have Ny281:=La hy281
          clear hy281
          by_cases c7:(strOfNums y281).size+x3_1.size≤9223372036854775807
          · rw [if_pos c7] at H
            have c7b0:=eq_true c7
            have c7b1:decide ((strOfNums y281).size+x3_1.size≤9223372036854775807)=true:=decide_eq_true c7
            try have c7b2:(9223372036854775807 < (strOfNums y281).size+x3_1.size)=False:=eq_false (Nat.not_lt.2 c7)
            have H':=La H
            clear H
            go_wp2_with (first|((with_reducible refine gate_dst (N:=20) rfl ?_);refine Kd.R_lit (Kd.int .u8) _ 5 ?hg (N:=20) ?hd (xs:=([(wrap64 (48+(Int.tmod qa 10))) % 256]:List Int)) (inner:=[.int .u8 ((wrap64 (48+(Int.tmod qa 10))) % 256)]) (ok:=fun _=>True) (okp:=fun _=>True) ?hr ?hp (fun _ hk=>hk) trivial (Below.refl _ _) (Nat.le_refl _) (by simp) ?_;(case hd=>rfl);(case hg=>rfl);(case hr=>first|(go_simp;done)|(go_simp;rfl));(case hp=>exact(Reps.one (show Kd.M (Kd.int .u8) _ _ _ ((wrap64 (48+(Int.tmod qa 10))) % 256) [.int .u8 ((wrap64 (48+(Int.tmod qa 10))) % 256)] from rfl) (Reps.none _ _)));intro v282 w8 ho9 hb hg_ hnew_;clear hg_ hnew_;(first|rw [← Ny281.out] at ho9|(simp only [Int.reduceToNat] at ho9;rw [← Ny281.out] at ho9));have n0_:=La (Kd.R_lower ho9 (below_size (by repeat(first|(with_reducible first|exact HB.out|apply Ll|apply Li|apply Lm)|exact HB.out))));have n1_:=La (below_step (by repeat(first|(with_reducible first|exact HB.out|apply Ll|apply Li|apply Lm)|exact HB.out)) hb);clear HB;have HO283:=n0_;have HB:=n1_;clear n0_ n1_;clear hb ho9;have hcv10:=own_string (P:=Try.prog) Try.underlying22 Try.underlying5 Try.underlying9 (Kd.own_of_R HO283.out)))
            go_roundg k1
            case measure=>have:=HK1.out;omega
            case rel=>exact⟨(wrap64 (Int.tdiv qa 10)),((strOfNums y281) ++ x3_1),(by first|rfl|(simp;done)|(simp [*];done)),(by first|rfl|(simp;done)|(simp [*];done)),H',⟨by have:=HK1.out;omega⟩,⟨by repeat(first|(with_reducible first|exact HB.out|apply Ll|apply Li|apply Lm)|exact HB.out)⟩⟩
          · rw [if_neg c7] at H
            exact absurd H (by simp)
        · rw [if_neg c6] at H
          have c6b0:(x3_1.toList == ([]:List UInt8))=false:=beq_eq_false_iff_ne.mpr c6
          have c6b1:(x3_1.toList != ([]:List UInt8))=true:=bne_iff_ne.mpr c6
          by_cases c11:qa > 0
          · rw [if_pos c11] at H
            have c11b0:decide (0 < qa)=true:=decide_eq_true c11
            clear c11
            obtain⟨y284,hy284⟩:∃ y_:List Int,y_=(([(wrap64 (48+(Int.tmod qa 10))) % 256]:List Int)):=⟨_,rfl⟩
            replace H:(if (strOfNums y284).size+x3_1.size≤9223372036854775807 then (spec_l1Int.l0 k1 (wrap64 (Int.tdiv qa 10)) ((strOfNums y284) ++ x3_1)) else (none))=some r:=by first|(rw [hy284];with_reducible exact H)|(have H2_:=(Option.bind_some _ _).symm.trans H;rw [hy284];with_reducible exact H2_)|(have H2_:=(Option.bind_some _ _).symm.trans H;with_reducible exact H2_)|with_reducible exact H|(rw [hy284];exact H)|exact H
            have Ny284:=La hy284
            clear hy284
            by_cases c12:(strOfNums y284).size+x3_1.size≤9223372036854775807
            · rw [if_pos c12] at H
              have c12b0:=eq_true c12
              have c12b1:decide ((strOfNums y284).size+x3_1.size≤9223372036854775807)=true:=decide_eq_true c12
              try have c12b2:(9223372036854775807 < (strOfNums y284).size+x3_1.size)=False:=eq_false (Nat.not_lt.2 c12)
              have H':=La H
              clear H
              go_wp2_with (first|((with_reducible refine gate_dst (N:=20) rfl ?_);refine Kd.R_lit (Kd.int .u8) _ 5 ?hg (N:=20) ?hd (xs:=([(wrap64 (48+(Int.tmod qa 10))) % 256]:List Int)) (inner:=[.int .u8 ((wrap64 (48+(Int.tmod qa 10))) % 256)]) (ok:=fun _=>True) (okp:=fun _=>True) ?hr ?hp (fun _ hk=>hk) trivial (Below.refl _ _) (Nat.le_refl _) (by simp) ?_;(case hd=>rfl);(case hg=>rfl);(case hr=>first|(go_simp;done)|(go_simp;rfl));(case hp=>exact(Reps.one (show Kd.M (Kd.int .u8) _ _ _ ((wrap64 (48+(Int.tmod qa 10))) % 256) [.int .u8 ((wrap64 (48+(Int.tmod qa 10))) % 256)] from rfl) (Reps.none _ _)));intro v285 w13 ho14 hb hg_ hnew_;clear hg_ hnew_;(first|rw [← Ny284.out] at ho14|(simp only [Int.reduceToNat] at ho14;rw [← Ny284.out] at ho14));have n0_:=La (Kd.R_lower ho14 (below_size (by repeat(first|(with_reducible first|exact HB.out|apply Ll|apply Li|apply Lm)|exact HB.out))));have n1_:=La (below_step (by repeat(first|(with_reducible first|exact HB.out|apply Ll|apply Li|apply Lm)|exact HB.out)) hb);clear HB;have HO286:=n0_;have HB:=n1_;clear n0_ n1_;clear hb ho14;have hcv15:=own_string (P:=Try.prog) Try.underlying22 Try.underlying5 Try.underlying9 (Kd.own_of_R HO286.out)))
              go_roundg k1
              case measure=>have:=HK1.out;omega
              case rel=>exact⟨(wrap64 (Int.tdiv qa 10)),((strOfNums y284) ++ x3_1),(by first|rfl|(simp;done)|(simp [*];done)),(by first|rfl|(simp;done)|(simp [*];done)),H',⟨by have:=HK1.out;omega⟩,⟨by repeat(first|(with_reducible first|exact HB.out|apply Ll|apply Li|apply Lm)|exact HB.out)⟩⟩
            · rw [if_neg c12] at H
              exact absurd H (by simp)
          · rw [if_neg c11] at H
            have c11b0:decide (0 < qa)=false:=decide_eq_false c11
            clear c11
            obtain rfl:=Option.some.inj H
            go_wp2
            go_ret
            exact⟨by first|rfl|(simp [errW_none,errW_some] <;> rfl)|(simp [*,errW_none,errW_some] <;> rfl),by repeat(first|(with_reducible first|exact HB.out|apply Ll|apply Li|apply Lm)|exact HB.out)⟩

end Go.Proofs.Ytelcpfanjjfgdaa.HFnUpdated
