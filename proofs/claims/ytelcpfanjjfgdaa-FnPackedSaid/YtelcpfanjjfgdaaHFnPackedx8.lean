-- Laid by myprint.py, a program of this repo, out of the kit's printer and this repo's own texts (wip/hand).
import Derived.Test.YtelcpfanjjfgdaaHFnPackedx0
import Derived.Test.YtelcpfanjjfgdaaHFnPackedx7
namespace Go.Proofs.Ytelcpfanjjfgdaa.HFnPacked
open Go.RowKit Go.Proofs.YtelcpfanjjfgdaaW.PrintWords Go.Proofs.YtelcpfanjjfgdaaW.PrintLast Go.Proofs.YtelcpfanjjfgdaaW.PrintMore
attribute [local go_sem] max2_int min2_int max_two min_two max_three min_three max_four min_four   -- for this text's walks alone
set_option linter.unusedVariables false
set_option linter.unusedSimpArgs false
theorem Ia : type_of% @Aside0.mk := @Aside0.mk
theorem Ib : type_of% @IsS102.alloc := @IsS102.alloc
theorem Ic : type_of% @IsS102.drew := @IsS102.drew
theorem Id : type_of% @IsS102.drewN := @IsS102.drewN
theorem Ie : type_of% @IsS102.ge := @IsS102.ge
theorem If : type_of% @IsS102.set_1 := @IsS102.set_1
theorem Ig : type_of% @IsS102.set_2 := @IsS102.set_2
theorem Ih : type_of% @pw_below_drewN := @pw_below_drewN
theorem Ii : type_of% @below_alloc := @below_alloc
theorem Ij : type_of% @below_drew1 := @below_drew1
theorem Ik : type_of% @Kd.R_drew := @Kd.R_drew
theorem Il : type_of% @Kd.S_drew := @Kd.S_drew
theorem Im : type_of% @below_set := @below_set
theorem In : type_of% @Kd.R_alloc := @Kd.R_alloc
theorem Io : type_of% @Kd.R_drewN := @Kd.R_drewN
theorem Ip : type_of% @Kd.S_alloc := @Kd.S_alloc
theorem Iq : type_of% @Kd.S_drewN := @Kd.S_drewN
theorem Ir : type_of% @gate_callee := @gate_callee
theorem Is : type_of% @below_size := @below_size
theorem It : type_of% @Kd.R_mono := @Kd.R_mono

/-! ### spec_l1Int: function 79 -/
mutual
def spec_l1Int.l0 : Nat → Int → ByteArray → Option (ByteArray)
 | 0, _, _ => none
 | k + 1, x0, x3 => if x3.toList = ([] : List UInt8) then ((some (([(wrap64 (48 + (Int.tmod x0 10))) % 256] : List Int) : List Int)).bind fun y246 => (if (strOfNums y246).size + x3.size ≤ 9223372036854775807 then (spec_l1Int.l0 k (wrap64 (Int.tdiv x0 10)) ((strOfNums y246) ++ x3)) else (none))) else (if x0 > 0 then ((some (([(wrap64 (48 + (Int.tmod x0 10))) % 256] : List Int) : List Int)).bind fun y249 => (if (strOfNums y249).size + x3.size ≤ 9223372036854775807 then (spec_l1Int.l0 k (wrap64 (Int.tdiv x0 10)) ((strOfNums y249) ++ x3)) else (none))) else (some x3))
def spec_l1Int.f : Nat → Int → Option (ByteArray)
 | 0, _ => none
 | k + 1, a0 => if a0 < 0 then ((spec_l1Int.f k (wrap64 (-a0))).bind fun t245 => (if 1 + t245.size ≤ 9223372036854775807 then (some ((⟨#[45]⟩ : ByteArray) ++ t245)) else (none))) else (spec_l1Int.l0 k a0 (⟨#[]⟩ : ByteArray))
end
theorem spec_l1Int.mono_l : ∀ k, (∀ y0, LeO (spec_l1Int.f k y0) (spec_l1Int.f (k + 1) y0)) ∧ (∀ y0 y1, LeO (spec_l1Int.l0 k y0 y1) (spec_l1Int.l0 (k + 1) y0 y1))
 | 0 => ⟨fun _ r h => by simp [spec_l1Int.f] at h, fun _ _ r h => by simp [spec_l1Int.l0] at h⟩
 | k + 1 => by
  obtain⟨ih0,ih1⟩:=spec_l1Int.mono_l k
  refine⟨?_,?_⟩
  ·intro y0
   unfold spec_l1Int.f
   repeat' first
   | (with_reducible exact ih0 _)
   | (with_reducible exact ih1 _ _)
   | (with_reducible exact LeO.refl _)
   | (with_reducible exact LeO.none _)
   | (with_reducible refine LeO.ite ?_ ?_)
   | (with_reducible refine LeO.bind ?_ (fun _ => ?_))
   | exact ih0 _
   | exact ih1 _ _
   | exact LeO.none _
   | refine LeO.ite ?_ ?_
   | refine LeO.bind ?_ (fun _ => ?_)
  ·intro y0 y1
   unfold spec_l1Int.l0
   repeat' first
   | (with_reducible exact ih0 _)
   | (with_reducible exact ih1 _ _)
   | (with_reducible exact LeO.refl _)
   | (with_reducible exact LeO.none _)
   | (with_reducible refine LeO.ite ?_ ?_)
   | (with_reducible refine LeO.bind ?_ (fun _ => ?_))
   | exact ih0 _
   | exact ih1 _ _
   | exact LeO.none _
   | refine LeO.ite ?_ ?_
   | refine LeO.bind ?_ (fun _ => ?_)
theorem spec_l1Int.mono : ∀ a0 k, LeO (spec_l1Int.f k a0) (spec_l1Int.f (k + 1) a0) := by
 intro a0 k
 obtain⟨ih0,ih1⟩:=spec_l1Int.mono_l k
 exact ih0 a0
set_option maxHeartbeats 8000000 in
set_option maxRecDepth 100000 in
theorem spec_l1Int.calls (k : Nat) : ∀ (a0 : Int) (r : ByteArray) (w : World) (h : spec_l1Int.f k a0 = some r),
  Calls Try.prog 79 #[.int .i64 a0] w fun e w'=>e=.returned (.string r)∧Below w.heap.size w w':=by
 induction k using Nat.strongRecOn with
 | _ k ih =>
 intro a0 r w h
 cases k with
 | zero => exact absurd h (by simp [spec_l1Int.f])
 | succ k =>
 simp only [spec_l1Int.f] at h
 have HB:=Ia (Below.refl w.heap.size w)
 have H:(if a0 < 0 then ((spec_l1Int.f k (wrap64 (-a0))).bind fun t245=>(if 1+t245.size≤9223372036854775807 then (some ((⟨#[45]⟩:ByteArray) ++ t245)) else (none))) else (spec_l1Int.l0 k a0 (⟨#[]⟩:ByteArray)))=some r:=h
 clear h
 by_cases c2:a0 < 0
 ·rw [if_pos c2] at H
  have c2b0:decide (a0 < 0)=true:=decide_eq_true c2
  clear c2
  replace H:=Option.bind_eq_some_iff.mp H
  obtain⟨t245,A30,H⟩:=H
  replace H:(if 1+t245.size≤9223372036854775807 then (some ((⟨#[45]⟩:ByteArray) ++ t245)) else (none))=some r:=H
  have A3:=Ia A30
  clear A30
  by_cases c4:1+t245.size≤9223372036854775807
  ·rw [if_pos c4] at H
   have c4b0:=eq_true c4
   have c4b1:decide (1+t245.size≤9223372036854775807)=true:=decide_eq_true c4
   try have c4b2:(9223372036854775807 < 1+t245.size)=False:=eq_false (Nat.not_lt.2 c4)
   obtain rfl:=Option.some.inj H
   go_enter Try.func79,Try.ntmps79
   go_wp2_with (first|((with_reducible refine Ir (f:=79) rfl ?_);refine goesL_ (some 8) rfl rfl Try.func79 (by kernel_rfl) rfl #[.int .i64 (wrap64 (-a0))] rfl (by(try simp only [List.map_toArray,List.map_cons,List.map_nil]);first|done|rfl|(simp only [List.length_drop,List.length_take];rfl)) ?_;(with_reducible refine(ih k (by omega) (wrap64 (-a0)) t245 _ A3.out).mono ?_);rintro e w5 ⟨rfl,hb⟩;refine⟨_,rfl,?_⟩;have n0_:=Ia (below_step (by repeat(first|(with_reducible first|exact HB.out|apply Ii|apply Ih|apply Ij)|exact HB.out)) hb);clear HB;have HB:=n0_;clear n0_;(try clear hb);(try clear hb2);(try clear hk);(try clear hi)))
   go_ret
   exact⟨by first|rfl|(simp [errW_none,errW_some] <;> rfl)|(simp [*,errW_none,errW_some] <;> rfl),by repeat(first|(with_reducible first|exact HB.out|apply Ii|apply Ih|apply Ij)|exact HB.out)⟩
  ·rw [if_neg c4] at H
   exact absurd H (by simp)
 ·rw [if_neg c2] at H
  have c2b0:decide (a0 < 0)=false:=decide_eq_false c2
  clear c2
  have H':=Ia H
  clear H
  go_enter Try.func79,Try.ntmps79
  go_wp2
  go_loopg [0,3] k (fun kq v0 v3 w'=>∃ (x0_1:Int) (x3_1:ByteArray),v0=.int .i64 x0_1∧v3=.string x3_1∧Aside0 (spec_l1Int.l0 kq x0_1 x3_1=some r)∧Aside0 (kq≤k)∧Aside0 (Below w.heap.size w w'))
  case atStart=>exact⟨(a0),((⟨#[]⟩:ByteArray)),(by first|rfl|(simp;done)|(simp [*];done)),(by first|rfl|(simp;done)|(simp [*];done)),H',⟨Nat.le_refl _⟩,⟨by repeat(first|(with_reducible first|exact HB.out|apply Ii|apply Ih|apply Ij)|exact HB.out)⟩⟩
  case round=>
   clear H'
   try clear c2
   try clear c2b0
   try clear p2
   try clear c4
   try clear c4b0
   try clear c4b1
   try clear c4b2
   obtain⟨x0_1,x3_1,rfl,rfl,HA,HK1,HB⟩:=hrel
   cases gk with
   | zero => exact absurd HA.out (by simp [spec_l1Int.l0])
   | succ k1 =>
    have H:=HA.out
    clear HA
    simp only [spec_l1Int.l0] at H
    by_cases c6:x3_1.toList=([]:List UInt8)
    ·rw [if_pos c6] at H
     have c6b0:(x3_1.toList == ([]:List UInt8))=true:=beq_iff_eq.mpr c6
     have c6b1:(x3_1.toList != ([]:List UInt8))=false:=bne_eq_false_iff_eq.mpr c6
     clear c6
     obtain⟨y246,hy246⟩:∃ y_:List Int,y_=(([(wrap64 (48+(Int.tmod x0_1 10))) % 256]:List Int)):=⟨_,rfl⟩
     replace H:(if (strOfNums y246).size+x3_1.size≤9223372036854775807 then (spec_l1Int.l0 k1 (wrap64 (Int.tdiv x0_1 10)) ((strOfNums y246) ++ x3_1)) else (none))=some r:=by first|(rw [hy246];with_reducible exact H)|(have H2_:=(Option.bind_some _ _).symm.trans H;rw [hy246];with_reducible exact H2_)|(have H2_:=(Option.bind_some _ _).symm.trans H;with_reducible exact H2_)|with_reducible exact H|(rw [hy246];exact H)|exact H
     have Ny246:=Ia hy246
     clear hy246
     by_cases c7:(strOfNums y246).size+x3_1.size≤9223372036854775807
     ·rw [if_pos c7] at H
      have c7b0:=eq_true c7
      have c7b1:decide ((strOfNums y246).size+x3_1.size≤9223372036854775807)=true:=decide_eq_true c7
      try have c7b2:(9223372036854775807 < (strOfNums y246).size+x3_1.size)=False:=eq_false (Nat.not_lt.2 c7)
      have H':=Ia H
      clear H
      go_wp2_with (first|((with_reducible refine gate_dst (N:=20) rfl ?_);refine Kd.R_lit (Kd.int .u8) _ 5 ?hg (N:=20) ?hd (xs:=([(wrap64 (48+(Int.tmod x0_1 10))) % 256]:List Int)) (inner:=[.int .u8 ((wrap64 (48+(Int.tmod x0_1 10))) % 256)]) (ok:=fun _=>True) (okp:=fun _=>True) ?hr ?hp (fun _ hk=>hk) trivial (Below.refl _ _) (Nat.le_refl _) (by simp) ?_;(case hd=>rfl);(case hg=>rfl);(case hr=>first|(go_simp;done)|(go_simp;rfl));(case hp=>exact(Reps.one (show Kd.M (Kd.int .u8) _ _ _ ((wrap64 (48+(Int.tmod x0_1 10))) % 256) [.int .u8 ((wrap64 (48+(Int.tmod x0_1 10))) % 256)] from rfl) (Reps.none _ _)));intro v247 w8 ho9 hb hg_ hnew_;clear hg_ hnew_;(first|rw [← Ny246.out] at ho9|(simp only [Int.reduceToNat] at ho9;rw [← Ny246.out] at ho9));have n0_:=Ia (Kd.R_lower ho9 (Is (by repeat(first|(with_reducible first|exact HB.out|apply Ii|apply Ih|apply Ij)|exact HB.out))));have n1_:=Ia (below_step (by repeat(first|(with_reducible first|exact HB.out|apply Ii|apply Ih|apply Ij)|exact HB.out)) hb);clear HB;have HO248:=n0_;have HB:=n1_;clear n0_ n1_;clear hb ho9;have hcv10:=own_string (P:=Try.prog) Try.underlying22 Try.underlying5 Try.underlying9 (Kd.own_of_R HO248.out)))
      go_roundg k1
      case measure=>have:=HK1.out;omega
      case rel=>exact⟨(wrap64 (Int.tdiv x0_1 10)),((strOfNums y246) ++ x3_1),(by first|rfl|(simp;done)|(simp [*];done)),(by first|rfl|(simp;done)|(simp [*];done)),H',⟨by have:=HK1.out;omega⟩,⟨by repeat(first|(with_reducible first|exact HB.out|apply Ii|apply Ih|apply Ij)|exact HB.out)⟩⟩
     ·rw [if_neg c7] at H
      exact absurd H (by simp)
    ·rw [if_neg c6] at H
     have c6b0:(x3_1.toList == ([]:List UInt8))=false:=beq_eq_false_iff_ne.mpr c6
     have c6b1:(x3_1.toList != ([]:List UInt8))=true:=bne_iff_ne.mpr c6
     by_cases c11:x0_1 > 0
     ·rw [if_pos c11] at H
      have c11b0:decide (0 < x0_1)=true:=decide_eq_true c11
      clear c11
      obtain⟨y249,hy249⟩:∃ y_:List Int,y_=(([(wrap64 (48+(Int.tmod x0_1 10))) % 256]:List Int)):=⟨_,rfl⟩
      replace H:(if (strOfNums y249).size+x3_1.size≤9223372036854775807 then (spec_l1Int.l0 k1 (wrap64 (Int.tdiv x0_1 10)) ((strOfNums y249) ++ x3_1)) else (none))=some r:=by first|(rw [hy249];with_reducible exact H)|(have H2_:=(Option.bind_some _ _).symm.trans H;rw [hy249];with_reducible exact H2_)|(have H2_:=(Option.bind_some _ _).symm.trans H;with_reducible exact H2_)|with_reducible exact H|(rw [hy249];exact H)|exact H
      have Ny249:=Ia hy249
      clear hy249
      by_cases c12:(strOfNums y249).size+x3_1.size≤9223372036854775807
      ·rw [if_pos c12] at H
       have c12b0:=eq_true c12
       have c12b1:decide ((strOfNums y249).size+x3_1.size≤9223372036854775807)=true:=decide_eq_true c12
       try have c12b2:(9223372036854775807 < (strOfNums y249).size+x3_1.size)=False:=eq_false (Nat.not_lt.2 c12)
       have H':=Ia H
       clear H
       go_wp2_with (first|((with_reducible refine gate_dst (N:=20) rfl ?_);refine Kd.R_lit (Kd.int .u8) _ 5 ?hg (N:=20) ?hd (xs:=([(wrap64 (48+(Int.tmod x0_1 10))) % 256]:List Int)) (inner:=[.int .u8 ((wrap64 (48+(Int.tmod x0_1 10))) % 256)]) (ok:=fun _=>True) (okp:=fun _=>True) ?hr ?hp (fun _ hk=>hk) trivial (Below.refl _ _) (Nat.le_refl _) (by simp) ?_;(case hd=>rfl);(case hg=>rfl);(case hr=>first|(go_simp;done)|(go_simp;rfl));(case hp=>exact(Reps.one (show Kd.M (Kd.int .u8) _ _ _ ((wrap64 (48+(Int.tmod x0_1 10))) % 256) [.int .u8 ((wrap64 (48+(Int.tmod x0_1 10))) % 256)] from rfl) (Reps.none _ _)));intro v250 w13 ho14 hb hg_ hnew_;clear hg_ hnew_;(first|rw [← Ny249.out] at ho14|(simp only [Int.reduceToNat] at ho14;rw [← Ny249.out] at ho14));have n0_:=Ia (Kd.R_lower ho14 (Is (by repeat(first|(with_reducible first|exact HB.out|apply Ii|apply Ih|apply Ij)|exact HB.out))));have n1_:=Ia (below_step (by repeat(first|(with_reducible first|exact HB.out|apply Ii|apply Ih|apply Ij)|exact HB.out)) hb);clear HB;have HO251:=n0_;have HB:=n1_;clear n0_ n1_;clear hb ho14;have hcv15:=own_string (P:=Try.prog) Try.underlying22 Try.underlying5 Try.underlying9 (Kd.own_of_R HO251.out)))
       go_roundg k1
       case measure=>have:=HK1.out;omega
       case rel=>exact⟨(wrap64 (Int.tdiv x0_1 10)),((strOfNums y249) ++ x3_1),(by first|rfl|(simp;done)|(simp [*];done)),(by first|rfl|(simp;done)|(simp [*];done)),H',⟨by have:=HK1.out;omega⟩,⟨by repeat(first|(with_reducible first|exact HB.out|apply Ii|apply Ih|apply Ij)|exact HB.out)⟩⟩
      ·rw [if_neg c12] at H
       exact absurd H (by simp)
     ·rw [if_neg c11] at H
      have c11b0:decide (0 < x0_1)=false:=decide_eq_false c11
      clear c11
      obtain rfl:=Option.some.inj H
      go_wp2
      go_ret
      exact⟨by first|rfl|(simp [errW_none,errW_some] <;> rfl)|(simp [*,errW_none,errW_some] <;> rfl),by repeat(first|(with_reducible first|exact HB.out|apply Ii|apply Ih|apply Ij)|exact HB.out)⟩

/-! ### spec_DrawPack: function 49 -/
def spec_DrawPack.l0 : Nat → List ByteArray → List (List Int) → List Int → Int → Int → Option (List ByteArray × (List (List Int)))
 | 0, _, _, _, _, _ => none
 | k + 1, x5, x6, x256000, x256001, x256002 => (spec_l1Below.f x256000 x256001 x256002 2).bind fun bt289 => (if (x5.length : Int) < (wrap64 (100 + bt289.1)) then ((spec_l1Int.f k (x5.length : Int)).bind fun t292 => (if 1 + t292.size ≤ 9223372036854775807 then (if x5.length < 8796093022208 then (if x6.length < 5864062014805 then (spec_DrawPack.l0 k (x5 ++ [(⟨#[110]⟩ : ByteArray) ++ t292]) (x6 ++ [(([] : List Int))]) x256000 bt289.2.1 bt289.2.2) else (none)) else (none)) else (none))) else (if x6.length + 3 < 5864062014805 then ((some (x6 ++ List.replicate 3 [] : List (List Int))).bind fun y302 => (if 0 ≤ (x5.length : Int) then (if (x5.length : Int) ≤ (y302.length : Int) then (some (x5, (y302.take ((x5.length : Int) : Int).toNat))) else (none)) else (none))) else (none)))
def spec_DrawPack.f (k : Nat) (l0 : List Int) : Option (List ByteArray × (List (List Int))) := (spec_l1New.f k l0).bind fun bt252 => ((spec_l15DrawNames.f k bt252.1 bt252.2.1 bt252.2.2).bind fun bt256 => ((spec_l1Once.f bt252.1 bt256.2.2.1 bt256.2.2.2 16).bind fun bt264 => (if bt264.1 = true then ((spec_l1Below.f bt252.1 bt264.2.1 bt264.2.2 3).bind fun bt267 => (if bt267.1 = 0 then (if bt256.1.length < 8796093022208 then (some ((bt256.1 ++ [(⟨#[109, 111, 114, 101]⟩ : ByteArray)]), bt256.2.1)) else (none)) else (if bt267.1 = 1 then ((some (([(⟨#[]⟩ : ByteArray), (⟨#[97, 45, 98]⟩ : ByteArray), (⟨#[48, 49, 50, 51, 52, 53, 54, 55, 56, 57, 48, 49, 50, 51, 52, 53, 54, 55, 56, 57, 48, 49, 50, 51, 52, 53, 54, 55, 56, 57, 48, 49, 50, 51, 52, 53, 54, 55, 56, 57]⟩ : ByteArray)] : List ByteArray) : List ByteArray)).bind fun y273 => ((spec_l1Below.f bt252.1 bt267.2.1 bt267.2.2 3).bind fun bt276 => (if 0 ≤ bt276.1 then (if bt276.1 < (y273.length : Int) then (if bt256.1.length < 8796093022208 then (if bt256.2.1.length < 5864062014805 then (some ((bt256.1 ++ [rdOf ByteArray.empty y273 bt276.1]), (bt256.2.1 ++ [(([1] : List Int))]))) else (none)) else (none)) else (none)) else (none)))) else (if bt267.1 = 2 then (spec_DrawPack.l0 k bt256.1 bt256.2.1 bt252.1 bt267.2.1 bt267.2.2) else (some (bt256.1, bt256.2.1)))))) else (some (bt256.1, bt256.2.1)))))
theorem spec_DrawPack.mono_l : ∀ k, (∀ y0 y1 y2 y3 y4, LeO (spec_DrawPack.l0 k y0 y1 y2 y3 y4) (spec_DrawPack.l0 (k + 1) y0 y1 y2 y3 y4))
 | 0 => fun _ _ _ _ _ r h => by simp [spec_DrawPack.l0] at h
 | k + 1 => by
  have ih0:=spec_DrawPack.mono_l k
  ·intro y0 y1 y2 y3 y4
   unfold spec_DrawPack.l0
   repeat' first
   | (with_reducible exact ih0 _ _ _ _ _)
   | (with_reducible exact spec_l15DrawNames.mono _ _ _ _)
   | (with_reducible exact spec_l1Int.mono _ _)
   | (with_reducible exact spec_l1New.mono _ _)
   | (with_reducible exact LeO.refl _)
   | (with_reducible exact LeO.none _)
   | (with_reducible refine LeO.ite ?_ ?_)
   | (with_reducible refine LeO.bind ?_ (fun _ => ?_))
   | exact ih0 _ _ _ _ _
   | exact spec_l15DrawNames.mono _ _ _ _
   | exact spec_l1Int.mono _ _
   | exact spec_l1New.mono _ _
   | exact LeO.none _
   | refine LeO.ite ?_ ?_
   | refine LeO.bind ?_ (fun _ => ?_)
theorem spec_DrawPack.mono : ∀ a0 k, LeO (spec_DrawPack.f k a0) (spec_DrawPack.f (k + 1) a0) := by
 intro a0 k
 have ih0:=spec_DrawPack.mono_l k
 unfold spec_DrawPack.f
 repeat' first
   | (with_reducible exact ih0 _ _ _ _ _)
   | (with_reducible exact spec_l15DrawNames.mono _ _ _ _)
   | (with_reducible exact spec_l1Int.mono _ _)
   | (with_reducible exact spec_l1New.mono _ _)
   | (with_reducible exact LeO.refl _)
   | (with_reducible exact LeO.none _)
   | (with_reducible refine LeO.ite ?_ ?_)
   | (with_reducible refine LeO.bind ?_ (fun _ => ?_))
   | exact ih0 _ _ _ _ _
   | exact spec_l15DrawNames.mono _ _ _ _
   | exact spec_l1Int.mono _ _
   | exact spec_l1New.mono _ _
   | exact LeO.none _
   | refine LeO.ite ?_ ?_
   | refine LeO.bind ?_ (fun _ => ?_)
set_option maxHeartbeats 8000000 in
set_option maxRecDepth 100000 in
theorem spec_DrawPack.calls (k : Nat) (A0 : Option Addr) (c0 : Nat) (l0 : List Int) (r1 : List ByteArray) (r2 : List (List Int)) (w : World) (hr0 : Kd.C (Kd.int .u8) w A0 l0.length l0) (hc0 : l0.length ≤ c0) (h : spec_DrawPack.f k l0 = some (r1, r2)) :
  Calls Try.prog 49 #[.slice A0 l0.length c0] w fun e w'=>∃ v0_ v1_:Value,e=.returned (.tuple #[v0_,v1_])∧Kd.R Kd.string 9 w' w.heap.size (fun _=>True) v0_ r1∧Kd.S (Kd.slice 5 (Kd.int .u8)) 22 w' w.heap.size (fun _=>True) v1_ r2∧Below w.heap.size w w':=by
 have HR0:=Ia hr0
 have HC0:=Ia hc0
 clear hr0 hc0
 have HB:=Ia (Below.refl w.heap.size w)
 have H:((spec_l1New.f k l0).bind fun bt252=>((spec_l15DrawNames.f k bt252.1 bt252.2.1 bt252.2.2).bind fun bt256=>((spec_l1Once.f bt252.1 bt256.2.2.1 bt256.2.2.2 16).bind fun bt264=>(if bt264.1=true then ((spec_l1Below.f bt252.1 bt264.2.1 bt264.2.2 3).bind fun bt267=>(if bt267.1=0 then (if bt256.1.length < 8796093022208 then (some ((bt256.1 ++ [(⟨#[109,111,114,101]⟩:ByteArray)]),bt256.2.1)) else (none)) else (if bt267.1=1 then ((some (([(⟨#[]⟩:ByteArray),(⟨#[97,45,98]⟩:ByteArray),(⟨#[48,49,50,51,52,53,54,55,56,57,48,49,50,51,52,53,54,55,56,57,48,49,50,51,52,53,54,55,56,57,48,49,50,51,52,53,54,55,56,57]⟩:ByteArray)]:List ByteArray):List ByteArray)).bind fun y273=>((spec_l1Below.f bt252.1 bt267.2.1 bt267.2.2 3).bind fun bt276=>(if 0≤bt276.1 then (if bt276.1 < (y273.length:Int) then (if bt256.1.length < 8796093022208 then (if bt256.2.1.length < 5864062014805 then (some ((bt256.1 ++ [rdOf ByteArray.empty y273 bt276.1]),(bt256.2.1 ++ [(([1]:List Int))]))) else (none)) else (none)) else (none)) else (none)))) else (if bt267.1=2 then (spec_DrawPack.l0 k bt256.1 bt256.2.1 bt252.1 bt267.2.1 bt267.2.2) else (some (bt256.1,bt256.2.1)))))) else (some (bt256.1,bt256.2.1))))))=some (r1,r2):=h
 clear h
 replace H:=Option.bind_eq_some_iff.mp H
 obtain⟨⟨qd,ya,yb⟩,A20,H⟩:=H
 replace H:((spec_l15DrawNames.f k qd ya yb).bind fun bt256=>((spec_l1Once.f qd bt256.2.2.1 bt256.2.2.2 16).bind fun bt264=>(if bt264.1=true then ((spec_l1Below.f qd bt264.2.1 bt264.2.2 3).bind fun bt267=>(if bt267.1=0 then (if bt256.1.length < 8796093022208 then (some ((bt256.1 ++ [(⟨#[109,111,114,101]⟩:ByteArray)]),bt256.2.1)) else (none)) else (if bt267.1=1 then ((some (([(⟨#[]⟩:ByteArray),(⟨#[97,45,98]⟩:ByteArray),(⟨#[48,49,50,51,52,53,54,55,56,57,48,49,50,51,52,53,54,55,56,57,48,49,50,51,52,53,54,55,56,57,48,49,50,51,52,53,54,55,56,57]⟩:ByteArray)]:List ByteArray):List ByteArray)).bind fun y273=>((spec_l1Below.f qd bt267.2.1 bt267.2.2 3).bind fun bt276=>(if 0≤bt276.1 then (if bt276.1 < (y273.length:Int) then (if bt256.1.length < 8796093022208 then (if bt256.2.1.length < 5864062014805 then (some ((bt256.1 ++ [rdOf ByteArray.empty y273 bt276.1]),(bt256.2.1 ++ [(([1]:List Int))]))) else (none)) else (none)) else (none)) else (none)))) else (if bt267.1=2 then (spec_DrawPack.l0 k bt256.1 bt256.2.1 qd bt267.2.1 bt267.2.2) else (some (bt256.1,bt256.2.1)))))) else (some (bt256.1,bt256.2.1)))))=some (r1,r2):=H
 have A2:=Ia A20
 clear A20
 replace H:=Option.bind_eq_some_iff.mp H
 obtain⟨⟨qf,qg,qp,qq⟩,A30,H⟩:=H
 replace H:((spec_l1Once.f qd qp qq 16).bind fun bt264=>(if bt264.1=true then ((spec_l1Below.f qd bt264.2.1 bt264.2.2 3).bind fun bt267=>(if bt267.1=0 then (if qf.length < 8796093022208 then (some ((qf ++ [(⟨#[109,111,114,101]⟩:ByteArray)]),qg)) else (none)) else (if bt267.1=1 then ((some (([(⟨#[]⟩:ByteArray),(⟨#[97,45,98]⟩:ByteArray),(⟨#[48,49,50,51,52,53,54,55,56,57,48,49,50,51,52,53,54,55,56,57,48,49,50,51,52,53,54,55,56,57,48,49,50,51,52,53,54,55,56,57]⟩:ByteArray)]:List ByteArray):List ByteArray)).bind fun y273=>((spec_l1Below.f qd bt267.2.1 bt267.2.2 3).bind fun bt276=>(if 0≤bt276.1 then (if bt276.1 < (y273.length:Int) then (if qf.length < 8796093022208 then (if qg.length < 5864062014805 then (some ((qf ++ [rdOf ByteArray.empty y273 bt276.1]),(qg ++ [(([1]:List Int))]))) else (none)) else (none)) else (none)) else (none)))) else (if bt267.1=2 then (spec_DrawPack.l0 k qf qg qd bt267.2.1 bt267.2.2) else (some (qf,qg)))))) else (some (qf,qg))))=some (r1,r2):=H
 have A3:=Ia A30
 clear A30
 replace H:=Option.bind_eq_some_iff.mp H
 obtain⟨⟨t264,qs,qt⟩,A40,H⟩:=H
 replace H:(if t264=true then ((spec_l1Below.f qd qs qt 3).bind fun bt267=>(if bt267.1=0 then (if qf.length < 8796093022208 then (some ((qf ++ [(⟨#[109,111,114,101]⟩:ByteArray)]),qg)) else (none)) else (if bt267.1=1 then ((some (([(⟨#[]⟩:ByteArray),(⟨#[97,45,98]⟩:ByteArray),(⟨#[48,49,50,51,52,53,54,55,56,57,48,49,50,51,52,53,54,55,56,57,48,49,50,51,52,53,54,55,56,57,48,49,50,51,52,53,54,55,56,57]⟩:ByteArray)]:List ByteArray):List ByteArray)).bind fun y273=>((spec_l1Below.f qd bt267.2.1 bt267.2.2 3).bind fun bt276=>(if 0≤bt276.1 then (if bt276.1 < (y273.length:Int) then (if qf.length < 8796093022208 then (if qg.length < 5864062014805 then (some ((qf ++ [rdOf ByteArray.empty y273 bt276.1]),(qg ++ [(([1]:List Int))]))) else (none)) else (none)) else (none)) else (none)))) else (if bt267.1=2 then (spec_DrawPack.l0 k qf qg qd bt267.2.1 bt267.2.2) else (some (qf,qg)))))) else (some (qf,qg)))=some (r1,r2):=H
 have A4:=Ia A40
 clear A40
 by_cases c5:t264=true
 ·subst c5
  have H1:((spec_l1Below.f qd qs qt 3).bind fun bt267=>(if bt267.1=0 then (if qf.length < 8796093022208 then (some ((qf ++ [(⟨#[109,111,114,101]⟩:ByteArray)]),qg)) else (none)) else (if bt267.1=1 then ((some (([(⟨#[]⟩:ByteArray),(⟨#[97,45,98]⟩:ByteArray),(⟨#[48,49,50,51,52,53,54,55,56,57,48,49,50,51,52,53,54,55,56,57,48,49,50,51,52,53,54,55,56,57,48,49,50,51,52,53,54,55,56,57]⟩:ByteArray)]:List ByteArray):List ByteArray)).bind fun y273=>((spec_l1Below.f qd bt267.2.1 bt267.2.2 3).bind fun bt276=>(if 0≤bt276.1 then (if bt276.1 < (y273.length:Int) then (if qf.length < 8796093022208 then (if qg.length < 5864062014805 then (some ((qf ++ [rdOf ByteArray.empty y273 bt276.1]),(qg ++ [(([1]:List Int))]))) else (none)) else (none)) else (none)) else (none)))) else (if bt267.1=2 then (spec_DrawPack.l0 k qf qg qd bt267.2.1 bt267.2.2) else (some (qf,qg))))))=some (r1,r2):=by rw [if_pos rfl] at H;exact H
  clear H
  have H:=H1
  clear H1
  replace H:=Option.bind_eq_some_iff.mp H
  obtain⟨⟨qo,qw,qx⟩,A60,H⟩:=H
  replace H:(if qo=0 then (if qf.length < 8796093022208 then (some ((qf ++ [(⟨#[109,111,114,101]⟩:ByteArray)]),qg)) else (none)) else (if qo=1 then ((some (([(⟨#[]⟩:ByteArray),(⟨#[97,45,98]⟩:ByteArray),(⟨#[48,49,50,51,52,53,54,55,56,57,48,49,50,51,52,53,54,55,56,57,48,49,50,51,52,53,54,55,56,57,48,49,50,51,52,53,54,55,56,57]⟩:ByteArray)]:List ByteArray):List ByteArray)).bind fun y273=>((spec_l1Below.f qd qw qx 3).bind fun bt276=>(if 0≤bt276.1 then (if bt276.1 < (y273.length:Int) then (if qf.length < 8796093022208 then (if qg.length < 5864062014805 then (some ((qf ++ [rdOf ByteArray.empty y273 bt276.1]),(qg ++ [(([1]:List Int))]))) else (none)) else (none)) else (none)) else (none)))) else (if qo=2 then (spec_DrawPack.l0 k qf qg qd qw qx) else (some (qf,qg)))))=some (r1,r2):=H
  have A6:=Ia A60
  clear A60
  by_cases c7:qo=0
  ·rw [if_pos c7] at H
   have c7b0:(qo == 0)=true:=beq_iff_eq.mpr c7
   have c7b1:(qo != 0)=false:=bne_eq_false_iff_eq.mpr c7
   clear c7
   by_cases c8:qf.length < 8796093022208
   ·rw [if_pos c8] at H
    have LMc8:=Ia c8
    clear c8
    obtain⟨y270,hy270⟩:∃ y_:List ByteArray,y_=(qf ++ [(⟨#[109,111,114,101]⟩:ByteArray)]):=⟨_,rfl⟩
    replace H:(some (y270,qg))=some (r1,r2):=by first|(rw [hy270];with_reducible exact H)|(have H2_:=(Option.bind_some _ _).symm.trans H;rw [hy270];with_reducible exact H2_)|(have H2_:=(Option.bind_some _ _).symm.trans H;with_reducible exact H2_)|with_reducible exact H|(rw [hy270];exact H)|exact H
    have Ny270:=Ia hy270
    clear hy270
    simp only [Option.some.injEq,Prod.mk.injEq] at H
    obtain⟨rfl,rfl⟩:=H
    go_enter Try.func49,Try.ntmps49
    go_wp2_with (first|((with_reducible refine Ir (f:=64) rfl ?_);refine goesL_ (some 8) rfl rfl Try.func64 (by kernel_rfl) rfl #[.slice A0 l0.length c0] rfl (by(try simp only [List.map_toArray,List.map_cons,List.map_nil]);first|done|rfl|(simp only [List.length_drop,List.length_take];rfl)) ?_;(with_reducible refine(spec_l1New.calls k _ _ l0 qd ya yb w _ ?side1 ?side2 ?side3 A2.out).mono ?_);(case side1=>repeat(first|(with_reducible first|exact HB.out|apply Ii|apply Ih|apply Ij)|exact HB.out));(case side2=>exact HR0.out);(case side3=>exact HC0.out);rintro e w9 ⟨qe,rfl,hi,hb,hb2⟩;refine⟨_,rfl,?_⟩;have n0_:=Ia (hb);have n1_:=Ia (hi);clear HB;have HB:=n0_;have qa:=n1_;clear n0_ n1_;(try clear hb);(try clear hb2);(try clear hk);(try clear hi))|((with_reducible refine Ir (f:=78) rfl ?_);refine goesL_ (some 11) rfl rfl Try.func78 (by kernel_rfl) rfl #[.pointer (some ⟨qe,0,none⟩)] rfl (by(try simp only [List.map_toArray,List.map_cons,List.map_nil]);first|done|rfl|(simp only [List.length_drop,List.length_take];rfl)) ?_;(with_reducible refine(spec_l15DrawNames.calls k qe qd ya yb qf qg qp qq w _ ?side1 ?side2 A3.out).mono ?_);(case side1=>repeat(first|(with_reducible first|exact qa.out|apply Ib|apply Id|apply Ic|apply If|apply Ig)|exact qa.out));(case side2=>repeat(first|(with_reducible first|exact HB.out|apply Ii|apply Ih|apply Ij|refine Im ?_ (Ie qa.out))|exact HB.out));rintro e w10 ⟨v257,v260,rfl,ho0,ho1,hi,hb,hk⟩;refine⟨_,rfl,?_⟩;have n0_:=Ia (Kd.R_lower ho0 (Is (by repeat(first|(with_reducible first|exact HB.out|apply Ii|apply Ih|apply Ij|refine Im ?_ (Ie qa.out))|exact HB.out))));have n1_:=Ia (Kd.S_lower ho1 (Is (by repeat(first|(with_reducible first|exact HB.out|apply Ii|apply Ih|apply Ij|refine Im ?_ (Ie qa.out))|exact HB.out))));have qh:=Ia (hb);have qi:=Ia (hi);clear HB;clear qa;have qc:=n0_;have qb:=n1_;have HB:=qh;have qa:=qi;clear n0_ n1_ qh qi;(try clear hb);(try clear hb2);(try clear hk);(try clear hi);(try clear ho0);(try clear ho1))|((with_reducible refine Ir (f:=68) rfl ?_);refine goesL_ (some 15) rfl rfl Try.func68 (by kernel_rfl) rfl #[.pointer (some ⟨qe,0,none⟩),.int .i64 16] rfl (by(try simp only [List.map_toArray,List.map_cons,List.map_nil]);first|done|rfl|(simp only [List.length_drop,List.length_take];rfl)) ?_;(with_reducible refine(spec_l1Once.calls qe qd qp qq 16 true qs qt w _ ?side1 ?side2 A4.out).mono ?_);(case side1=>repeat(first|(with_reducible first|exact qa.out|apply Ib|apply Id|apply Ic|apply If|apply Ig)|exact qa.out));(case side2=>repeat(first|(with_reducible first|exact HB.out|apply Ii|apply Ih|apply Ij|refine Im ?_ (Ie qa.out))|exact HB.out));rintro e w11 ⟨rfl,hi,hb,hk⟩;refine⟨_,rfl,?_⟩;have n0_:=Ia (It (Kd.R_keep (IsS102.apart (show IsS102 w _ qe qd qp qq from by repeat(first|(with_reducible first|exact qa.out|apply Ib|apply Id|apply Ic|apply If|apply Ig)|exact qa.out)) (by(with_reducible repeat(first|apply In|apply Io|apply Ik));exact qc.out) (by decide)) hk (fun _ h=>h.2)) (fun _ h=>h.1));have n1_:=Ia (Kd.S_mono (Kd.S_keep (IsS102.apartS (show IsS102 w _ qe qd qp qq from by repeat(first|(with_reducible first|exact qa.out|apply Ib|apply Id|apply Ic|apply If|apply Ig)|exact qa.out)) (by(with_reducible repeat(first|apply Ip|apply Iq|apply Il));exact qb.out) (by decide)) hk (fun _ h=>h.2)) (fun _ h=>h.1));have qh:=Ia (hb);have qi:=Ia (hi);clear qc;clear qb;clear HB;clear qa;have qc:=n0_;have qb:=n1_;have HB:=qh;have qa:=qi;clear n0_ n1_ qh qi;(try clear hb);(try clear hb2);(try clear hk);(try clear hi))|((with_reducible refine Ir (f:=65) rfl ?_);refine goesL_ (some 17) rfl rfl Try.func65 (by kernel_rfl) rfl #[.pointer (some ⟨qe,0,none⟩),.int .i64 3] rfl (by(try simp only [List.map_toArray,List.map_cons,List.map_nil]);first|done|rfl|(simp only [List.length_drop,List.length_take];rfl)) ?_;(with_reducible refine(spec_l1Below.calls qe qd qs qt 3 qo qw qx w _ ?side1 ?side2 A6.out).mono ?_);(case side1=>repeat(first|(with_reducible first|exact qa.out|apply Ib|apply Id|apply Ic|apply If|apply Ig)|exact qa.out));(case side2=>repeat(first|(with_reducible first|exact HB.out|apply Ii|apply Ih|apply Ij|refine Im ?_ (Ie qa.out))|exact HB.out));rintro e w12 ⟨rfl,hi,hb,hk⟩;refine⟨_,rfl,?_⟩;have n0_:=Ia (It (Kd.R_keep (IsS102.apart (show IsS102 w _ qe qd qs qt from by repeat(first|(with_reducible first|exact qa.out|apply Ib|apply Id|apply Ic|apply If|apply Ig)|exact qa.out)) (by(with_reducible repeat(first|apply In|apply Io|apply Ik));exact qc.out) (by decide)) hk (fun _ h=>h.2)) (fun _ h=>h.1));have n1_:=Ia (Kd.S_mono (Kd.S_keep (IsS102.apartS (show IsS102 w _ qe qd qs qt from by repeat(first|(with_reducible first|exact qa.out|apply Ib|apply Id|apply Ic|apply If|apply Ig)|exact qa.out)) (by(with_reducible repeat(first|apply Ip|apply Iq|apply Il));exact qb.out) (by decide)) hk (fun _ h=>h.2)) (fun _ h=>h.1));have qh:=Ia (hb);have qi:=Ia (hi);clear qc;clear qb;clear HB;clear qa;have qc:=n0_;have qb:=n1_;have HB:=qh;have qa:=qi;clear n0_ n1_ qh qi;(try clear hb);(try clear hb2);(try clear hk);(try clear hi))|((with_reducible refine gate_builtin (b:=.append) (xs:=#[.tmp 20,.tmp 21]) rfl ?_);at_builtin;refine Kd.R_append Kd.string (w0:=w) w.heap.size rfl (.tmp 20) (.tmp 21) 46 9 (.string ⟨#[]⟩) 16 rfl Try.underlying46 info9 rfl (by decide) (by omega) v257 qf (⟨#[109,111,114,101]⟩:ByteArray) [.string (⟨#[109,111,114,101]⟩:ByteArray)] (fun _=>True) (fun _=>False) rfl rfl ?aP (fun _ hk=>hk.elim) ?aF ?aO ?aB ?aS ?aL ?_;(case aP=>exact rfl);(case aB=>exact(by repeat(first|(with_reducible first|exact HB.out|apply Ii|apply Ih|apply Ij|refine Im ?_ (Ie qa.out))|exact HB.out)));(case aF=>exact(fun _ _=>trivial));(case aO=>exact(by(with_reducible repeat(first|apply In|apply Io|apply Ik));exact qc.out));(case aS=>exact(Is (by repeat(first|(with_reducible first|exact HB.out|apply Ii|apply Ih|apply Ij|refine Im ?_ (Ie qa.out))|exact HB.out))));(case aL=>have:=LMc8.out;omega);intro v271 w13 ho hb hg hat;rw [← Ny270.out] at ho;have n0_:=Ia (IsS102.grown (by repeat(first|(with_reducible first|exact qa.out|apply Ib|apply Id|apply Ic|apply If|apply Ig)|exact qa.out)) hg (IsS102.own_ne qa.out qc.out (by decide)));have n1_:=Ia (Kd.S_over' (by(with_reducible repeat(first|apply Ip|apply Iq|apply Il));exact qb.out) (Kd.R_typed (by(with_reducible repeat(first|apply In|apply Io|apply Ik));exact qc.out)) (by decide) hg);have qh:=Ia (hb);have qi:=Ia (ho);clear qa;clear qb;clear HB;clear qc;have qa:=n0_;have qb:=n1_;have HB:=qh;have HO272:=qi;clear n0_ n1_ qh qi;clear ho hb hg hat))
    go_ret2
    exact⟨_,_,by first|rfl|(simp [errW_none,errW_some] <;> rfl)|(simp [*,errW_none,errW_some] <;> rfl),by(with_reducible repeat(first|apply In|apply Io|apply Ik));exact HO272.out,by(with_reducible repeat(first|apply Ip|apply Iq|apply Il));exact qb.out,by repeat(first|(with_reducible first|exact HB.out|apply Ii|apply Ih|apply Ij|refine Im ?_ (Ie qa.out))|exact HB.out)⟩
   ·rw [if_neg c8] at H
    exact absurd H (by simp)
  ·rw [if_neg c7] at H
   have c7b0:(qo == 0)=false:=beq_eq_false_iff_ne.mpr c7
   have c7b1:(qo != 0)=true:=bne_iff_ne.mpr c7
   by_cases c14:qo=1
   ·rw [if_pos c14] at H
    have c14b0:(qo == 1)=true:=beq_iff_eq.mpr c14
    have c14b1:(qo != 1)=false:=bne_eq_false_iff_eq.mpr c14
    clear c14
    obtain⟨y273,hy273⟩:∃ y_:List ByteArray,y_=(([(⟨#[]⟩:ByteArray),(⟨#[97,45,98]⟩:ByteArray),(⟨#[48,49,50,51,52,53,54,55,56,57,48,49,50,51,52,53,54,55,56,57,48,49,50,51,52,53,54,55,56,57,48,49,50,51,52,53,54,55,56,57]⟩:ByteArray)]:List ByteArray)):=⟨_,rfl⟩
    replace H:((spec_l1Below.f qd qw qx 3).bind fun bt276=>(if 0≤bt276.1 then (if bt276.1 < (y273.length:Int) then (if qf.length < 8796093022208 then (if qg.length < 5864062014805 then (some ((qf ++ [rdOf ByteArray.empty y273 bt276.1]),(qg ++ [(([1]:List Int))]))) else (none)) else (none)) else (none)) else (none)))=some (r1,r2):=by first|(rw [hy273];with_reducible exact H)|(have H2_:=(Option.bind_some _ _).symm.trans H;rw [hy273];with_reducible exact H2_)|(have H2_:=(Option.bind_some _ _).symm.trans H;with_reducible exact H2_)|with_reducible exact H|(rw [hy273];exact H)|exact H
    have Ny273:=Ia hy273
    clear hy273
    replace H:=Option.bind_eq_some_iff.mp H
    obtain⟨⟨qv,t277,t278⟩,A150,H⟩:=H
    replace H:(if 0≤qv then (if qv < (y273.length:Int) then (if qf.length < 8796093022208 then (if qg.length < 5864062014805 then (some ((qf ++ [rdOf ByteArray.empty y273 qv]),(qg ++ [(([1]:List Int))]))) else (none)) else (none)) else (none)) else (none))=some (r1,r2):=H
    have A15:=Ia A150
    clear A150
    by_cases c16:0≤qv
    ·rw [if_pos c16] at H
     have c16b0:decide (0≤qv)=true:=decide_eq_true c16
     clear c16
     by_cases c17:qv < (y273.length:Int)
     ·rw [if_pos c17] at H
      have c17b0:decide (qv < (y273.length:Int))=true:=decide_eq_true c17
      clear c17
      by_cases c18:qf.length < 8796093022208
      ·rw [if_pos c18] at H
       have LMc18:=Ia c18
       clear c18
       obtain⟨y280,hy280⟩:∃ y_:List ByteArray,y_=(qf ++ [rdOf ByteArray.empty y273 qv]):=⟨_,rfl⟩
       replace H:(if qg.length < 5864062014805 then (some (y280,(qg ++ [(([1]:List Int))]))) else (none))=some (r1,r2):=by first|(rw [hy280];with_reducible exact H)|(have H2_:=(Option.bind_some _ _).symm.trans H;rw [hy280];with_reducible exact H2_)|(have H2_:=(Option.bind_some _ _).symm.trans H;with_reducible exact H2_)|with_reducible exact H|(rw [hy280];exact H)|exact H
       have Ny280:=Ia hy280
       clear hy280
       obtain⟨y283,hy283⟩:∃ y_:List Int,y_=(([1]:List Int)):=⟨_,rfl⟩
       replace H:(if qg.length < 5864062014805 then (some (y280,(qg ++ [y283]))) else (none))=some (r1,r2):=by first|(rw [hy283];with_reducible exact H)|(have H2_:=(Option.bind_some _ _).symm.trans H;rw [hy283];with_reducible exact H2_)|(have H2_:=(Option.bind_some _ _).symm.trans H;with_reducible exact H2_)|with_reducible exact H|(rw [hy283];exact H)|exact H
       have Ny283:=Ia hy283
       clear hy283
       by_cases c19:qg.length < 5864062014805
       ·rw [if_pos c19] at H
        have LMc19:=Ia c19
        clear c19
        obtain⟨y286,hy286⟩:∃ y_:List (List Int),y_=(qg ++ [y283]):=⟨_,rfl⟩
        replace H:(some (y280,y286))=some (r1,r2):=by first|(rw [hy286];with_reducible exact H)|(have H2_:=(Option.bind_some _ _).symm.trans H;rw [hy286];with_reducible exact H2_)|(have H2_:=(Option.bind_some _ _).symm.trans H;with_reducible exact H2_)|with_reducible exact H|(rw [hy286];exact H)|exact H
        have Ny286:=Ia hy286
        clear hy286
        simp only [Option.some.injEq,Prod.mk.injEq] at H
        obtain⟨rfl,rfl⟩:=H
        go_enter Try.func49,Try.ntmps49
        go_wp2_with (first|((with_reducible refine Ir (f:=64) rfl ?_);refine goesL_ (some 8) rfl rfl Try.func64 (by kernel_rfl) rfl #[.slice A0 l0.length c0] rfl (by(try simp only [List.map_toArray,List.map_cons,List.map_nil]);first|done|rfl|(simp only [List.length_drop,List.length_take];rfl)) ?_;(with_reducible refine(spec_l1New.calls k _ _ l0 qd ya yb w _ ?side1 ?side2 ?side3 A2.out).mono ?_);(case side1=>repeat(first|(with_reducible first|exact HB.out|apply Ii|apply Ih|apply Ij)|exact HB.out));(case side2=>exact HR0.out);(case side3=>exact HC0.out);rintro e w20 ⟨qe,rfl,hi,hb,hb2⟩;refine⟨_,rfl,?_⟩;have n0_:=Ia (hb);have n1_:=Ia (hi);clear HB;have HB:=n0_;have qa:=n1_;clear n0_ n1_;(try clear hb);(try clear hb2);(try clear hk);(try clear hi))|((with_reducible refine Ir (f:=78) rfl ?_);refine goesL_ (some 11) rfl rfl Try.func78 (by kernel_rfl) rfl #[.pointer (some ⟨qe,0,none⟩)] rfl (by(try simp only [List.map_toArray,List.map_cons,List.map_nil]);first|done|rfl|(simp only [List.length_drop,List.length_take];rfl)) ?_;(with_reducible refine(spec_l15DrawNames.calls k qe qd ya yb qf qg qp qq w _ ?side1 ?side2 A3.out).mono ?_);(case side1=>repeat(first|(with_reducible first|exact qa.out|apply Ib|apply Id|apply Ic|apply If|apply Ig)|exact qa.out));(case side2=>repeat(first|(with_reducible first|exact HB.out|apply Ii|apply Ih|apply Ij|refine Im ?_ (Ie qa.out))|exact HB.out));rintro e w21 ⟨v257,v260,rfl,ho0,ho1,hi,hb,hk⟩;refine⟨_,rfl,?_⟩;have n0_:=Ia (Kd.R_lower ho0 (Is (by repeat(first|(with_reducible first|exact HB.out|apply Ii|apply Ih|apply Ij|refine Im ?_ (Ie qa.out))|exact HB.out))));have n1_:=Ia (Kd.S_lower ho1 (Is (by repeat(first|(with_reducible first|exact HB.out|apply Ii|apply Ih|apply Ij|refine Im ?_ (Ie qa.out))|exact HB.out))));have qh:=Ia (hb);have qi:=Ia (hi);clear HB;clear qa;have qc:=n0_;have qb:=n1_;have HB:=qh;have qa:=qi;clear n0_ n1_ qh qi;(try clear hb);(try clear hb2);(try clear hk);(try clear hi);(try clear ho0);(try clear ho1))|((with_reducible refine Ir (f:=68) rfl ?_);refine goesL_ (some 15) rfl rfl Try.func68 (by kernel_rfl) rfl #[.pointer (some ⟨qe,0,none⟩),.int .i64 16] rfl (by(try simp only [List.map_toArray,List.map_cons,List.map_nil]);first|done|rfl|(simp only [List.length_drop,List.length_take];rfl)) ?_;(with_reducible refine(spec_l1Once.calls qe qd qp qq 16 true qs qt w _ ?side1 ?side2 A4.out).mono ?_);(case side1=>repeat(first|(with_reducible first|exact qa.out|apply Ib|apply Id|apply Ic|apply If|apply Ig)|exact qa.out));(case side2=>repeat(first|(with_reducible first|exact HB.out|apply Ii|apply Ih|apply Ij|refine Im ?_ (Ie qa.out))|exact HB.out));rintro e w22 ⟨rfl,hi,hb,hk⟩;refine⟨_,rfl,?_⟩;have n0_:=Ia (It (Kd.R_keep (IsS102.apart (show IsS102 w _ qe qd qp qq from by repeat(first|(with_reducible first|exact qa.out|apply Ib|apply Id|apply Ic|apply If|apply Ig)|exact qa.out)) (by(with_reducible repeat(first|apply In|apply Io|apply Ik));exact qc.out) (by decide)) hk (fun _ h=>h.2)) (fun _ h=>h.1));have n1_:=Ia (Kd.S_mono (Kd.S_keep (IsS102.apartS (show IsS102 w _ qe qd qp qq from by repeat(first|(with_reducible first|exact qa.out|apply Ib|apply Id|apply Ic|apply If|apply Ig)|exact qa.out)) (by(with_reducible repeat(first|apply Ip|apply Iq|apply Il));exact qb.out) (by decide)) hk (fun _ h=>h.2)) (fun _ h=>h.1));have qh:=Ia (hb);have qi:=Ia (hi);clear qc;clear qb;clear HB;clear qa;have qc:=n0_;have qb:=n1_;have HB:=qh;have qa:=qi;clear n0_ n1_ qh qi;(try clear hb);(try clear hb2);(try clear hk);(try clear hi))|((with_reducible refine Ir (f:=65) rfl ?_);refine goesL_ (some 17) rfl rfl Try.func65 (by kernel_rfl) rfl #[.pointer (some ⟨qe,0,none⟩),.int .i64 3] rfl (by(try simp only [List.map_toArray,List.map_cons,List.map_nil]);first|done|rfl|(simp only [List.length_drop,List.length_take];rfl)) ?_;(with_reducible refine(spec_l1Below.calls qe qd qs qt 3 qo qw qx w _ ?side1 ?side2 A6.out).mono ?_);(case side1=>repeat(first|(with_reducible first|exact qa.out|apply Ib|apply Id|apply Ic|apply If|apply Ig)|exact qa.out));(case side2=>repeat(first|(with_reducible first|exact HB.out|apply Ii|apply Ih|apply Ij|refine Im ?_ (Ie qa.out))|exact HB.out));rintro e w23 ⟨rfl,hi,hb,hk⟩;refine⟨_,rfl,?_⟩;have n0_:=Ia (It (Kd.R_keep (IsS102.apart (show IsS102 w _ qe qd qs qt from by repeat(first|(with_reducible first|exact qa.out|apply Ib|apply Id|apply Ic|apply If|apply Ig)|exact qa.out)) (by(with_reducible repeat(first|apply In|apply Io|apply Ik));exact qc.out) (by decide)) hk (fun _ h=>h.2)) (fun _ h=>h.1));have n1_:=Ia (Kd.S_mono (Kd.S_keep (IsS102.apartS (show IsS102 w _ qe qd qs qt from by repeat(first|(with_reducible first|exact qa.out|apply Ib|apply Id|apply Ic|apply If|apply Ig)|exact qa.out)) (by(with_reducible repeat(first|apply Ip|apply Iq|apply Il));exact qb.out) (by decide)) hk (fun _ h=>h.2)) (fun _ h=>h.1));have qh:=Ia (hb);have qi:=Ia (hi);clear qc;clear qb;clear HB;clear qa;have qc:=n0_;have qb:=n1_;have HB:=qh;have qa:=qi;clear n0_ n1_ qh qi;(try clear hb);(try clear hb2);(try clear hk);(try clear hi))|((with_reducible refine gate_dst (N:=26) rfl ?_);refine Kd.R_lit Kd.string _ 9 ?hg (N:=26) ?hd (xs:=([(⟨#[]⟩:ByteArray),(⟨#[97,45,98]⟩:ByteArray),(⟨#[48,49,50,51,52,53,54,55,56,57,48,49,50,51,52,53,54,55,56,57,48,49,50,51,52,53,54,55,56,57,48,49,50,51,52,53,54,55,56,57]⟩:ByteArray)]:List ByteArray)) (inner:=[.string (⟨#[]⟩:ByteArray),.string (⟨#[97,45,98]⟩:ByteArray),.string (⟨#[48,49,50,51,52,53,54,55,56,57,48,49,50,51,52,53,54,55,56,57,48,49,50,51,52,53,54,55,56,57,48,49,50,51,52,53,54,55,56,57]⟩:ByteArray)]) (ok:=fun _=>True) (okp:=fun _=>True) ?hr ?hp (fun _ hk=>hk) trivial (Below.refl _ _) (Nat.le_refl _) (by simp) ?_;(case hd=>rfl);(case hg=>rfl);(case hr=>first|(go_simp;done)|(go_simp;rfl));(case hp=>exact(Reps.one (show Kd.M Kd.string _ _ _ (⟨#[]⟩:ByteArray) [.string (⟨#[]⟩:ByteArray)] from rfl) (Reps.one (show Kd.M Kd.string _ _ _ (⟨#[97,45,98]⟩:ByteArray) [.string (⟨#[97,45,98]⟩:ByteArray)] from rfl) (Reps.one (show Kd.M Kd.string _ _ _ (⟨#[48,49,50,51,52,53,54,55,56,57,48,49,50,51,52,53,54,55,56,57,48,49,50,51,52,53,54,55,56,57,48,49,50,51,52,53,54,55,56,57]⟩:ByteArray) [.string (⟨#[48,49,50,51,52,53,54,55,56,57,48,49,50,51,52,53,54,55,56,57,48,49,50,51,52,53,54,55,56,57,48,49,50,51,52,53,54,55,56,57]⟩:ByteArray)] from rfl) (Reps.none _ _)))));intro v274 w24 ho25 hb hg_ hnew_;clear hg_ hnew_;(first|rw [← Ny273.out] at ho25|(simp only [Int.reduceToNat] at ho25;rw [← Ny273.out] at ho25));have n0_:=Ia (Kd.R_elder' (by(with_reducible repeat(first|apply In|apply Io|apply Ik));exact qc.out) (Kd.R_base ho25) hb);have n1_:=Ia (Kd.S_below (by(with_reducible repeat(first|apply Ip|apply Iq|apply Il));exact qb.out) hb);have qh:=Ia (Kd.R_lower (Kd.R_new' ho25 (Kd.R_lt (by(with_reducible repeat(first|apply In|apply Io|apply Ik));exact qc.out))) (Is (by repeat(first|(with_reducible first|exact HB.out|apply Ii|apply Ih|apply Ij|refine Im ?_ (Ie qa.out))|exact HB.out))));have qi:=Ia (IsS102.below (by repeat(first|(with_reducible first|exact qa.out|apply Ib|apply Id|apply Ic|apply If|apply Ig)|exact qa.out)) hb);have n4_:=Ia (below_step (by repeat(first|(with_reducible first|exact HB.out|apply Ii|apply Ih|apply Ij|refine Im ?_ (Ie qa.out))|exact HB.out)) hb);clear qc;clear qb;clear qa;clear HB;have qc:=n0_;have qb:=n1_;have qn:=qh;have qa:=qi;have HB:=n4_;clear n0_ n1_ qh qi n4_;clear hb ho25)|((with_reducible refine Ir (f:=65) rfl ?_);refine goesL_ (some 28) rfl rfl Try.func65 (by kernel_rfl) rfl #[.pointer (some ⟨qe,0,none⟩),.int .i64 3] rfl (by(try simp only [List.map_toArray,List.map_cons,List.map_nil]);first|done|rfl|(simp only [List.length_drop,List.length_take];rfl)) ?_;(with_reducible refine(spec_l1Below.calls qe qd qw qx 3 qv t277 t278 w _ ?side1 ?side2 A15.out).mono ?_);(case side1=>repeat(first|(with_reducible first|exact qa.out|apply Ib|apply Id|apply Ic|apply If|apply Ig)|exact qa.out));(case side2=>repeat(first|(with_reducible first|exact HB.out|apply Ii|apply Ih|apply Ij|refine Im ?_ (Ie qa.out))|exact HB.out));rintro e w26 ⟨rfl,hi,hb,hk⟩;refine⟨_,rfl,?_⟩;have n0_:=Ia (It (Kd.R_keep (IsS102.apart (show IsS102 w _ qe qd qw qx from by repeat(first|(with_reducible first|exact qa.out|apply Ib|apply Id|apply Ic|apply If|apply Ig)|exact qa.out)) (by(with_reducible repeat(first|apply In|apply Io|apply Ik));exact qc.out) (by decide)) hk (fun _ h=>h.2)) (fun _ h=>h.1));have n1_:=Ia (Kd.S_mono (Kd.S_keep (IsS102.apartS (show IsS102 w _ qe qd qw qx from by repeat(first|(with_reducible first|exact qa.out|apply Ib|apply Id|apply Ic|apply If|apply Ig)|exact qa.out)) (by(with_reducible repeat(first|apply Ip|apply Iq|apply Il));exact qb.out) (by decide)) hk (fun _ h=>h.2)) (fun _ h=>h.1));have qh:=Ia (It (Kd.R_keep (IsS102.apart (show IsS102 w _ qe qd qw qx from by repeat(first|(with_reducible first|exact qa.out|apply Ib|apply Id|apply Ic|apply If|apply Ig)|exact qa.out)) (by(with_reducible repeat(first|apply In|apply Io|apply Ik));exact qn.out) (by decide)) hk (fun _ h=>h.2)) (fun _ h=>h.1));have qi:=Ia (hb);have n4_:=Ia (hi);clear qc;clear qb;clear qn;clear HB;clear qa;have qc:=n0_;have qb:=n1_;have qn:=qh;have HB:=qi;have qa:=n4_;clear n0_ n1_ qh qi n4_;(try clear hb);(try clear hb2);(try clear hk);(try clear hi);obtain⟨Ao27,co27,eo27⟩:=Kd.R_slice qn.out;subst eo27;have p279:0≤(qv:Int):=of_decide_eq_true (by first|(with_reducible assumption)|assumption);have q279:qv < (y273.length:Int):=of_decide_eq_true (by first|(with_reducible assumption)|assumption);obtain⟨ad279,e279,hx279_0⟩:=Kd.at_string (Kd.R_reads' qn.out).2.2 qv p279 q279;cases e279;replace p279:=eq_true p279;replace q279:=eq_true q279)|((with_reducible refine gate_builtin (b:=.append) (xs:=#[.tmp 25,.tmp 31]) rfl ?_);at_builtin;refine Kd.R_append Kd.string (w0:=w) w.heap.size rfl (.tmp 25) (.tmp 31) 46 9 (.string ⟨#[]⟩) 16 rfl Try.underlying46 info9 rfl (by decide) (by omega) v257 qf (rdOf ByteArray.empty y273 qv) [.string (rdOf ByteArray.empty y273 qv)] (fun k_=>some k_≠(.slice (some ad279) y273.length co27:Value).ownBlock) (fun _=>False) rfl rfl ?aP (fun _ hk=>hk.elim) ?aF ?aO ?aB ?aS ?aL ?_;(case aP=>exact rfl);(case aB=>exact(by repeat(first|(with_reducible first|exact HB.out|apply Ii|apply Ih|apply Ij|refine Im ?_ (Ie qa.out))|exact HB.out)));(case aF=>exact(fun k_ hk=>Kd.fresh' (Kd.R_lt (by(with_reducible repeat(first|apply In|apply Io|apply Ik));exact qn.out)) k_ hk));(case aO=>exact(by(with_reducible repeat(first|apply In|apply Io|apply Ik));exact It qc.out (fun _ hk=>hk.2)));(case aS=>exact(Is (by repeat(first|(with_reducible first|exact HB.out|apply Ii|apply Ih|apply Ij|refine Im ?_ (Ie qa.out))|exact HB.out))));(case aL=>have:=LMc18.out;omega);intro v281 w28 ho hb hg hat;rw [← Ny280.out] at ho;have n0_:=Ia (IsS102.grown (by repeat(first|(with_reducible first|exact qa.out|apply Ib|apply Id|apply Ic|apply If|apply Ig)|exact qa.out)) hg (IsS102.own_ne qa.out qc.out (by decide)));have n1_:=Ia (Kd.S_over' (by(with_reducible repeat(first|apply Ip|apply Iq|apply Il));exact qb.out) (Kd.R_typed (by(with_reducible repeat(first|apply In|apply Io|apply Ik));exact qc.out)) (by decide) hg);have qh:=Ia (Kd.R_after (ok:=(fun _=>True)) (by(with_reducible repeat(first|apply In|apply Io|apply Ik));exact qn.out) hg hat);have qi:=Ia (hb);have n4_:=Ia (ho);clear qa;clear qb;clear qn;clear HB;clear qc;have qa:=n0_;have qb:=n1_;have qn:=qh;have HB:=qi;have qy:=n4_;clear n0_ n1_ qh qi n4_;clear ho hb hg hat)|((with_reducible refine gate_dst (N:=34) rfl ?_);refine Kd.R_lit (Kd.int .u8) _ 5 ?hg (N:=34) ?hd (xs:=([1]:List Int)) (inner:=[.int .u8 1]) (ok:=fun _=>True) (okp:=fun _=>True) ?hr ?hp (fun _ hk=>hk) trivial (Below.refl _ _) (Nat.le_refl _) (by simp) ?_;(case hd=>rfl);(case hg=>rfl);(case hr=>first|(go_simp;done)|(go_simp;rfl));(case hp=>exact(Reps.one (show Kd.M (Kd.int .u8) _ _ _ 1 [.int .u8 1] from rfl) (Reps.none _ _)));intro v284 w29 ho30 hb hg_ hnew_;clear hg_ hnew_;(first|rw [← Ny283.out] at ho30|(simp only [Int.reduceToNat] at ho30;rw [← Ny283.out] at ho30));have n0_:=Ia (Kd.S_elder' (by(with_reducible repeat(first|apply Ip|apply Iq|apply Il));exact qb.out) (Kd.R_base ho30) hb);have n1_:=Ia (Kd.R_below (by(with_reducible repeat(first|apply In|apply Io|apply Ik));exact qn.out) hb);have qh:=Ia (Kd.R_below (by(with_reducible repeat(first|apply In|apply Io|apply Ik));exact qy.out) hb);have qi:=Ia (Kd.R_lower ho30 (Is (by repeat(first|(with_reducible first|exact HB.out|apply Ii|apply Ih|apply Ij|refine Im ?_ (Ie qa.out))|exact HB.out))));have n4_:=Ia (IsS102.below (by repeat(first|(with_reducible first|exact qa.out|apply Ib|apply Id|apply Ic|apply If|apply Ig)|exact qa.out)) hb);have n5_:=Ia (below_step (by repeat(first|(with_reducible first|exact HB.out|apply Ii|apply Ih|apply Ij|refine Im ?_ (Ie qa.out))|exact HB.out)) hb);clear qb;clear qn;clear qy;clear qa;clear HB;have qb:=n0_;have qn:=n1_;have qy:=qh;have HO285:=qi;have qa:=n4_;have HB:=n5_;clear n0_ n1_ qh qi n4_ n5_;clear hb ho30;obtain⟨Ao32,co32,eo32⟩:=Kd.R_slice HO285.out;subst eo32)|((with_reducible refine gate_builtin (b:=.append) (xs:=#[.tmp 33,.tmp 35]) rfl ?_);at_builtin;refine Kd.S_append (Kd.slice 5 (Kd.int .u8)) (w0:=w) w.heap.size rfl (.tmp 33) (.tmp 35) 55 22 (.slice none 0 0) 24 rfl Try.underlying55 info22 rfl (by decide) (by omega) v260 qg y283 [.slice Ao32 y283.length co32] (fun _=>True) (fun k_=>some k_=(.slice Ao32 y283.length co32:Value).ownBlock) rfl rfl ?aP (fun k_ hk_=>((It (ok':=fun k_=>((fun _=>True)) k_∧some k_≠(v260:Value).ownBlock) (Kd.R_apart' (HO285.out) (Kd.S_typed qb.out) (by decide)) (fun k_ hk=>⟨trivial,hk.2⟩))).1 k_ hk_.symm) ?aF ?aO ?aB ?aS ?aL ?_;(case aP=>exact Kd.M_row (It (Kd.R_tight rfl (It (ok':=fun k_=>((fun _=>True)) k_∧some k_≠(v260:Value).ownBlock) (Kd.R_apart' (HO285.out) (Kd.S_typed qb.out) (by decide)) (fun k_ hk=>⟨trivial,hk.2⟩))) (fun _ h_=>h_)));(case aB=>exact(by repeat(first|(with_reducible first|exact HB.out|apply Ii|apply Ih|apply Ij|refine Im ?_ (Ie qa.out))|exact HB.out)));(case aF=>exact(fun _ _=>trivial));(case aO=>exact(by(with_reducible repeat(first|apply Ip|apply Iq|apply Il));exact Kd.S_mono qb.out (fun k_ hk=>⟨trivial,fun e_=>hk.2 e_⟩)));(case aS=>exact(Is (by repeat(first|(with_reducible first|exact HB.out|apply Ii|apply Ih|apply Ij|refine Im ?_ (Ie qa.out))|exact HB.out))));(case aL=>have:=LMc19.out;omega);intro v287 w31 ho hb hg hat;rw [← Ny286.out] at ho;have n0_:=Ia (IsS102.grown (by repeat(first|(with_reducible first|exact qa.out|apply Ib|apply Id|apply Ic|apply If|apply Ig)|exact qa.out)) hg (IsS102.own_neS qa.out qb.out (by decide)));have n1_:=Ia (Kd.R_over' (by(with_reducible repeat(first|apply In|apply Io|apply Ik));exact qn.out) (Kd.S_typed (by(with_reducible repeat(first|apply Ip|apply Iq|apply Il));exact qb.out)) (by decide) hg);have qh:=Ia (Kd.R_over' (by(with_reducible repeat(first|apply In|apply Io|apply Ik));exact qy.out) (Kd.S_typed (by(with_reducible repeat(first|apply Ip|apply Iq|apply Il));exact qb.out)) (by decide) hg);have qi:=Ia (hb);have n4_:=Ia (ho);clear qa;clear qn;clear qy;clear HB;clear qb;clear HO285;have qa:=n0_;have qn:=n1_;have qy:=qh;have HB:=qi;have HO288:=n4_;clear n0_ n1_ qh qi n4_;clear ho hb hg hat))
        go_ret2
        exact⟨_,_,by first|rfl|(simp [errW_none,errW_some] <;> rfl)|(simp [*,errW_none,errW_some] <;> rfl),by(with_reducible repeat(first|apply In|apply Io|apply Ik));exact It qy.out (fun _ hk=>trivial),by(with_reducible repeat(first|apply Ip|apply Iq|apply Il));exact HO288.out,by repeat(first|(with_reducible first|exact HB.out|apply Ii|apply Ih|apply Ij|refine Im ?_ (Ie qa.out))|exact HB.out)⟩
       ·rw [if_neg c19] at H
        exact absurd H (by simp)
      ·rw [if_neg c18] at H
       exact absurd H (by simp)
     ·rw [if_neg c17] at H
      exact absurd H (by simp)
    ·rw [if_neg c16] at H
     exact absurd H (by simp)
   ·rw [if_neg c14] at H
    have c14b0:(qo == 1)=false:=beq_eq_false_iff_ne.mpr c14
    have c14b1:(qo != 1)=true:=bne_iff_ne.mpr c14
    by_cases c33:qo=2
    ·rw [if_pos c33] at H
     have c33b0:(qo == 2)=true:=beq_iff_eq.mpr c33
     have c33b1:(qo != 2)=false:=bne_eq_false_iff_eq.mpr c33
     clear c33
     have H':=Ia H
     clear H
     go_enter Try.func49,Try.ntmps49
     go_wp2_with (first|((with_reducible refine Ir (f:=64) rfl ?_);refine goesL_ (some 8) rfl rfl Try.func64 (by kernel_rfl) rfl #[.slice A0 l0.length c0] rfl (by(try simp only [List.map_toArray,List.map_cons,List.map_nil]);first|done|rfl|(simp only [List.length_drop,List.length_take];rfl)) ?_;(with_reducible refine(spec_l1New.calls k _ _ l0 qd ya yb w _ ?side1 ?side2 ?side3 A2.out).mono ?_);(case side1=>repeat(first|(with_reducible first|exact HB.out|apply Ii|apply Ih|apply Ij)|exact HB.out));(case side2=>exact HR0.out);(case side3=>exact HC0.out);rintro e w34 ⟨qe,rfl,hi,hb,hb2⟩;refine⟨_,rfl,?_⟩;have n0_:=Ia (hb);have n1_:=Ia (hi);clear HB;have HB:=n0_;have qa:=n1_;clear n0_ n1_;(try clear hb);(try clear hb2);(try clear hk);(try clear hi))|((with_reducible refine Ir (f:=78) rfl ?_);refine goesL_ (some 11) rfl rfl Try.func78 (by kernel_rfl) rfl #[.pointer (some ⟨qe,0,none⟩)] rfl (by(try simp only [List.map_toArray,List.map_cons,List.map_nil]);first|done|rfl|(simp only [List.length_drop,List.length_take];rfl)) ?_;(with_reducible refine(spec_l15DrawNames.calls k qe qd ya yb qf qg qp qq w _ ?side1 ?side2 A3.out).mono ?_);(case side1=>repeat(first|(with_reducible first|exact qa.out|apply Ib|apply Id|apply Ic|apply If|apply Ig)|exact qa.out));(case side2=>repeat(first|(with_reducible first|exact HB.out|apply Ii|apply Ih|apply Ij|refine Im ?_ (Ie qa.out))|exact HB.out));rintro e w35 ⟨v257,v260,rfl,ho0,ho1,hi,hb,hk⟩;refine⟨_,rfl,?_⟩;have n0_:=Ia (Kd.R_lower ho0 (Is (by repeat(first|(with_reducible first|exact HB.out|apply Ii|apply Ih|apply Ij|refine Im ?_ (Ie qa.out))|exact HB.out))));have n1_:=Ia (Kd.S_lower ho1 (Is (by repeat(first|(with_reducible first|exact HB.out|apply Ii|apply Ih|apply Ij|refine Im ?_ (Ie qa.out))|exact HB.out))));have qh:=Ia (hb);have qi:=Ia (hi);clear HB;clear qa;have qc:=n0_;have qb:=n1_;have HB:=qh;have qa:=qi;clear n0_ n1_ qh qi;(try clear hb);(try clear hb2);(try clear hk);(try clear hi);(try clear ho0);(try clear ho1))|((with_reducible refine Ir (f:=68) rfl ?_);refine goesL_ (some 15) rfl rfl Try.func68 (by kernel_rfl) rfl #[.pointer (some ⟨qe,0,none⟩),.int .i64 16] rfl (by(try simp only [List.map_toArray,List.map_cons,List.map_nil]);first|done|rfl|(simp only [List.length_drop,List.length_take];rfl)) ?_;(with_reducible refine(spec_l1Once.calls qe qd qp qq 16 true qs qt w _ ?side1 ?side2 A4.out).mono ?_);(case side1=>repeat(first|(with_reducible first|exact qa.out|apply Ib|apply Id|apply Ic|apply If|apply Ig)|exact qa.out));(case side2=>repeat(first|(with_reducible first|exact HB.out|apply Ii|apply Ih|apply Ij|refine Im ?_ (Ie qa.out))|exact HB.out));rintro e w36 ⟨rfl,hi,hb,hk⟩;refine⟨_,rfl,?_⟩;have n0_:=Ia (It (Kd.R_keep (IsS102.apart (show IsS102 w _ qe qd qp qq from by repeat(first|(with_reducible first|exact qa.out|apply Ib|apply Id|apply Ic|apply If|apply Ig)|exact qa.out)) (by(with_reducible repeat(first|apply In|apply Io|apply Ik));exact qc.out) (by decide)) hk (fun _ h=>h.2)) (fun _ h=>h.1));have n1_:=Ia (Kd.S_mono (Kd.S_keep (IsS102.apartS (show IsS102 w _ qe qd qp qq from by repeat(first|(with_reducible first|exact qa.out|apply Ib|apply Id|apply Ic|apply If|apply Ig)|exact qa.out)) (by(with_reducible repeat(first|apply Ip|apply Iq|apply Il));exact qb.out) (by decide)) hk (fun _ h=>h.2)) (fun _ h=>h.1));have qh:=Ia (hb);have qi:=Ia (hi);clear qc;clear qb;clear HB;clear qa;have qc:=n0_;have qb:=n1_;have HB:=qh;have qa:=qi;clear n0_ n1_ qh qi;(try clear hb);(try clear hb2);(try clear hk);(try clear hi))|((with_reducible refine Ir (f:=65) rfl ?_);refine goesL_ (some 17) rfl rfl Try.func65 (by kernel_rfl) rfl #[.pointer (some ⟨qe,0,none⟩),.int .i64 3] rfl (by(try simp only [List.map_toArray,List.map_cons,List.map_nil]);first|done|rfl|(simp only [List.length_drop,List.length_take];rfl)) ?_;(with_reducible refine(spec_l1Below.calls qe qd qs qt 3 qo qw qx w _ ?side1 ?side2 A6.out).mono ?_);(case side1=>repeat(first|(with_reducible first|exact qa.out|apply Ib|apply Id|apply Ic|apply If|apply Ig)|exact qa.out));(case side2=>repeat(first|(with_reducible first|exact HB.out|apply Ii|apply Ih|apply Ij|refine Im ?_ (Ie qa.out))|exact HB.out));rintro e w37 ⟨rfl,hi,hb,hk⟩;refine⟨_,rfl,?_⟩;have n0_:=Ia (It (Kd.R_keep (IsS102.apart (show IsS102 w _ qe qd qs qt from by repeat(first|(with_reducible first|exact qa.out|apply Ib|apply Id|apply Ic|apply If|apply Ig)|exact qa.out)) (by(with_reducible repeat(first|apply In|apply Io|apply Ik));exact qc.out) (by decide)) hk (fun _ h=>h.2)) (fun _ h=>h.1));have n1_:=Ia (Kd.S_mono (Kd.S_keep (IsS102.apartS (show IsS102 w _ qe qd qs qt from by repeat(first|(with_reducible first|exact qa.out|apply Ib|apply Id|apply Ic|apply If|apply Ig)|exact qa.out)) (by(with_reducible repeat(first|apply Ip|apply Iq|apply Il));exact qb.out) (by decide)) hk (fun _ h=>h.2)) (fun _ h=>h.1));have qh:=Ia (hb);have qi:=Ia (hi);clear qc;clear qb;clear HB;clear qa;have qc:=n0_;have qb:=n1_;have HB:=qh;have qa:=qi;clear n0_ n1_ qh qi;(try clear hb);(try clear hb2);(try clear hk);(try clear hi)))
     go_loopg [5,6] k (fun kq v5 v6 w'=>∃ (qj:List ByteArray) (qu:List (List Int)) (qk:Int) (ql:Int),Aside0 (spec_DrawPack.l0 kq qj qu qd qk ql=some (r1,r2))∧Aside0 (kq≤k)∧Aside0 (Kd.R Kd.string 9 w' w.heap.size (fun _=>True) v5 qj)∧Aside0 (Kd.S (Kd.slice 5 (Kd.int .u8)) 22 w' w.heap.size (fun _=>True) v6 qu)∧Aside0 (IsS102 w w' qe qd qk ql)∧Aside0 (Below w.heap.size w w'))
     case atStart=>exact⟨(qf),(qg),(qw),(qx),H',⟨Nat.le_refl _⟩,⟨by(with_reducible repeat(first|apply In|apply Io|apply Ik));exact qc.out⟩,⟨by(with_reducible repeat(first|apply Ip|apply Iq|apply Il));exact qb.out⟩,⟨by repeat(first|(with_reducible first|exact qa.out|apply Ib|apply Id|apply Ic|apply If|apply Ig)|exact qa.out)⟩,⟨by repeat(first|(with_reducible first|exact HB.out|apply Ii|apply Ih|apply Ij|refine Im ?_ (Ie qa.out))|exact HB.out)⟩⟩
     case round=>
      clear H'
      try clear c1
      try clear p2
      try clear q2
      try clear hx2
      try clear c3
      try clear c4
      try clear c5
      try clear c6
      try clear c7
      try clear c7b0
      try clear c7b1
      try clear c8
      try clear c14
      try clear c14b0
      try clear c14b1
      try clear c16
      try clear c16b0
      try clear c17
      try clear c17b0
      try clear c18
      try clear c19
      try clear p27
      try clear q27
      try clear hx27
      try clear c33
      try clear c33b0
      try clear c33b1
      try clear hx279_0
      try clear p279
      try clear q279
      obtain⟨qj,qu,qk,ql,HA,HK1,qr,qm,qa,HB⟩:=hrel
      cases gk with
      | zero => exact absurd HA.out (by simp [spec_DrawPack.l0])
      | succ k1 =>
       have H:=HA.out
       clear HA
       simp only [spec_DrawPack.l0] at H
       replace H:=Option.bind_eq_some_iff.mp H
       obtain⟨⟨t289,t290,t291⟩,A380,H⟩:=H
       replace H:(if (qj.length:Int) < (wrap64 (100+t289)) then ((spec_l1Int.f k1 (qj.length:Int)).bind fun t292=>(if 1+t292.size≤9223372036854775807 then (if qj.length < 8796093022208 then (if qu.length < 5864062014805 then (spec_DrawPack.l0 k1 (qj ++ [(⟨#[110]⟩:ByteArray) ++ t292]) (qu ++ [(([]:List Int))]) qd t290 t291) else (none)) else (none)) else (none))) else (if qu.length+3 < 5864062014805 then ((some (qu ++ List.replicate 3 []:List (List Int))).bind fun y302=>(if 0≤(qj.length:Int) then (if (qj.length:Int)≤(y302.length:Int) then (some (qj,(y302.take ((qj.length:Int):Int).toNat))) else (none)) else (none))) else (none)))=some (r1,r2):=H
       have A38:=Ia A380
       clear A380
       by_cases c39:(qj.length:Int) < (wrap64 (100+t289))
       ·rw [if_pos c39] at H
        have c39b0:decide ((qj.length:Int) < (wrap64 (100+t289)))=true:=decide_eq_true c39
        clear c39
        replace H:=Option.bind_eq_some_iff.mp H
        obtain⟨t292,A400,H⟩:=H
        replace H:(if 1+t292.size≤9223372036854775807 then (if qj.length < 8796093022208 then (if qu.length < 5864062014805 then (spec_DrawPack.l0 k1 (qj ++ [(⟨#[110]⟩:ByteArray) ++ t292]) (qu ++ [(([]:List Int))]) qd t290 t291) else (none)) else (none)) else (none))=some (r1,r2):=H
        have A40:=Ia A400
        clear A400
        by_cases c41:1+t292.size≤9223372036854775807
        ·rw [if_pos c41] at H
         have c41b0:=eq_true c41
         have c41b1:decide (1+t292.size≤9223372036854775807)=true:=decide_eq_true c41
         try have c41b2:(9223372036854775807 < 1+t292.size)=False:=eq_false (Nat.not_lt.2 c41)
         by_cases c42:qj.length < 8796093022208
         ·rw [if_pos c42] at H
          have LMc42:=Ia c42
          clear c42
          obtain⟨y293,hy293⟩:∃ y_:List ByteArray,y_=(qj ++ [(⟨#[110]⟩:ByteArray) ++ t292]):=⟨_,rfl⟩
          replace H:(if qu.length < 5864062014805 then (spec_DrawPack.l0 k1 y293 (qu ++ [(([]:List Int))]) qd t290 t291) else (none))=some (r1,r2):=by first|(rw [hy293];with_reducible exact H)|(have H2_:=(Option.bind_some _ _).symm.trans H;rw [hy293];with_reducible exact H2_)|(have H2_:=(Option.bind_some _ _).symm.trans H;with_reducible exact H2_)|with_reducible exact H|(rw [hy293];exact H)|exact H
          have Ny293:=Ia hy293
          clear hy293
          obtain⟨y296,hy296⟩:∃ y_:List Int,y_=(([]:List Int)):=⟨_,rfl⟩
          replace H:(if qu.length < 5864062014805 then (spec_DrawPack.l0 k1 y293 (qu ++ [y296]) qd t290 t291) else (none))=some (r1,r2):=by first|(rw [hy296];with_reducible exact H)|(have H2_:=(Option.bind_some _ _).symm.trans H;rw [hy296];with_reducible exact H2_)|(have H2_:=(Option.bind_some _ _).symm.trans H;with_reducible exact H2_)|with_reducible exact H|(rw [hy296];exact H)|exact H
          have Ny296:=Ia hy296
          clear hy296
          by_cases c43:qu.length < 5864062014805
          ·rw [if_pos c43] at H
           have LMc43:=Ia c43
           clear c43
           obtain⟨y299,hy299⟩:∃ y_:List (List Int),y_=(qu ++ [y296]):=⟨_,rfl⟩
           replace H:(spec_DrawPack.l0 k1 y293 y299 qd t290 t291)=some (r1,r2):=by first|(rw [hy299];with_reducible exact H)|(have H2_:=(Option.bind_some _ _).symm.trans H;rw [hy299];with_reducible exact H2_)|(have H2_:=(Option.bind_some _ _).symm.trans H;with_reducible exact H2_)|with_reducible exact H|(rw [hy299];exact H)|exact H
           have Ny299:=Ia hy299
           clear hy299
           have H':=Ia H
           clear H
           obtain⟨Ao44,co44,eo44⟩:=Kd.R_slice qr.out
           subst eo44
           go_wp2_with (first|((with_reducible refine Ir (f:=65) rfl ?_);refine goesL_ (some 42) rfl rfl Try.func65 (by kernel_rfl) rfl #[.pointer (some ⟨qe,0,none⟩),.int .i64 2] rfl (by(try simp only [List.map_toArray,List.map_cons,List.map_nil]);first|done|rfl|(simp only [List.length_drop,List.length_take];rfl)) ?_;(with_reducible refine(spec_l1Below.calls qe qd qk ql 2 t289 t290 t291 w _ ?side1 ?side2 A38.out).mono ?_);(case side1=>repeat(first|(with_reducible first|exact qa.out|apply Ib|apply Id|apply Ic|apply If|apply Ig)|exact qa.out));(case side2=>repeat(first|(with_reducible first|exact HB.out|apply Ii|apply Ih|apply Ij|refine Im ?_ (Ie qa.out))|exact HB.out));rintro e w45 ⟨rfl,hi,hb,hk⟩;refine⟨_,rfl,?_⟩;have n0_:=Ia (It (Kd.R_keep (IsS102.apart (show IsS102 w _ qe qd qk ql from by repeat(first|(with_reducible first|exact qa.out|apply Ib|apply Id|apply Ic|apply If|apply Ig)|exact qa.out)) (by(with_reducible repeat(first|apply In|apply Io|apply Ik));exact qr.out) (by decide)) hk (fun _ h=>h.2)) (fun _ h=>h.1));have n1_:=Ia (Kd.S_mono (Kd.S_keep (IsS102.apartS (show IsS102 w _ qe qd qk ql from by repeat(first|(with_reducible first|exact qa.out|apply Ib|apply Id|apply Ic|apply If|apply Ig)|exact qa.out)) (by(with_reducible repeat(first|apply Ip|apply Iq|apply Il));exact qm.out) (by decide)) hk (fun _ h=>h.2)) (fun _ h=>h.1));have qh:=Ia (hb);have qi:=Ia (hi);clear qr;clear qm;clear HB;clear qa;have qr:=n0_;have qm:=n1_;have HB:=qh;have qa:=qi;clear n0_ n1_ qh qi;(try clear hb);(try clear hb2);(try clear hk);(try clear hi))|((with_reducible refine Ir (f:=79) rfl ?_);refine goesL_ (some 48) rfl rfl Try.func79 (by kernel_rfl) rfl #[.int .i64 (qj.length:Int)] rfl (by(try simp only [List.map_toArray,List.map_cons,List.map_nil]);first|done|rfl|(simp only [List.length_drop,List.length_take];rfl)) ?_;(with_reducible refine(spec_l1Int.calls k1 (qj.length:Int) t292 _ A40.out).mono ?_);rintro e w46 ⟨rfl,hb⟩;refine⟨_,rfl,?_⟩;have n0_:=Ia (Kd.R_below (by(with_reducible repeat(first|apply In|apply Io|apply Ik));exact qr.out) hb);have n1_:=Ia (Kd.S_below (by(with_reducible repeat(first|apply Ip|apply Iq|apply Il));exact qm.out) hb);have qh:=Ia (IsS102.below (by repeat(first|(with_reducible first|exact qa.out|apply Ib|apply Id|apply Ic|apply If|apply Ig)|exact qa.out)) hb);have qi:=Ia (below_step (by repeat(first|(with_reducible first|exact HB.out|apply Ii|apply Ih|apply Ij|refine Im ?_ (Ie qa.out))|exact HB.out)) hb);clear qr;clear qm;clear qa;clear HB;have qr:=n0_;have qm:=n1_;have qa:=qh;have HB:=qi;clear n0_ n1_ qh qi;(try clear hb);(try clear hb2);(try clear hk);(try clear hi))|((with_reducible refine gate_builtin (b:=.append) (xs:=#[.tmp 45,.tmp 50]) rfl ?_);at_builtin;refine Kd.R_append Kd.string (w0:=w) w.heap.size rfl (.tmp 45) (.tmp 50) 46 9 (.string ⟨#[]⟩) 16 rfl Try.underlying46 info9 rfl (by decide) (by omega) (.slice Ao44 qj.length co44) qj ((⟨#[110]⟩:ByteArray) ++ t292) [.string ((⟨#[110]⟩:ByteArray) ++ t292)] (fun _=>True) (fun _=>False) rfl rfl ?aP (fun _ hk=>hk.elim) ?aF ?aO ?aB ?aS ?aL ?_;(case aP=>exact rfl);(case aB=>exact(by repeat(first|(with_reducible first|exact HB.out|apply Ii|apply Ih|apply Ij|refine Im ?_ (Ie qa.out))|exact HB.out)));(case aF=>exact(fun _ _=>trivial));(case aO=>exact(by(with_reducible repeat(first|apply In|apply Io|apply Ik));exact qr.out));(case aS=>exact(Is (by repeat(first|(with_reducible first|exact HB.out|apply Ii|apply Ih|apply Ij|refine Im ?_ (Ie qa.out))|exact HB.out))));(case aL=>have:=LMc42.out;omega);intro v294 w47 ho hb hg hat;rw [← Ny293.out] at ho;have n0_:=Ia (Kd.S_over' (by(with_reducible repeat(first|apply Ip|apply Iq|apply Il));exact qm.out) (Kd.R_typed (by(with_reducible repeat(first|apply In|apply Io|apply Ik));exact qr.out)) (by decide) hg);have n1_:=Ia (IsS102.grown (by repeat(first|(with_reducible first|exact qa.out|apply Ib|apply Id|apply Ic|apply If|apply Ig)|exact qa.out)) hg (IsS102.own_ne qa.out qr.out (by decide)));have qh:=Ia (hb);have qi:=Ia (ho);clear qm;clear qa;clear HB;clear qr;have qm:=n0_;have qa:=n1_;have HB:=qh;have qz:=qi;clear n0_ n1_ qh qi;clear ho hb hg hat)|((with_reducible refine gate_dst (N:=53) rfl ?_);refine Kd.R_lit (Kd.int .u8) _ 5 ?hg (N:=53) ?hd (xs:=([]:List Int)) (inner:=[]) (ok:=fun _=>True) (okp:=fun _=>True) ?hr ?hp (fun _ hk=>hk) trivial (Below.refl _ _) (Nat.le_refl _) (by simp) ?_;(case hd=>rfl);(case hg=>rfl);(case hr=>first|(go_simp;done)|(go_simp;rfl));(case hp=>exact(Reps.none _ _));intro v297 w48 ho49 hb hg_ hnew_;clear hg_ hnew_;(first|rw [← Ny296.out] at ho49|(simp only [Int.reduceToNat] at ho49;rw [← Ny296.out] at ho49));have n0_:=Ia (Kd.S_elder' (by(with_reducible repeat(first|apply Ip|apply Iq|apply Il));exact qm.out) (Kd.R_base ho49) hb);have n1_:=Ia (Kd.R_below (by(with_reducible repeat(first|apply In|apply Io|apply Ik));exact qz.out) hb);have qh:=Ia (Kd.R_lower ho49 (Is (by repeat(first|(with_reducible first|exact HB.out|apply Ii|apply Ih|apply Ij|refine Im ?_ (Ie qa.out))|exact HB.out))));have qi:=Ia (IsS102.below (by repeat(first|(with_reducible first|exact qa.out|apply Ib|apply Id|apply Ic|apply If|apply Ig)|exact qa.out)) hb);have n4_:=Ia (below_step (by repeat(first|(with_reducible first|exact HB.out|apply Ii|apply Ih|apply Ij|refine Im ?_ (Ie qa.out))|exact HB.out)) hb);clear qm;clear qz;clear qa;clear HB;have qm:=n0_;have qz:=n1_;have HO298:=qh;have qa:=qi;have HB:=n4_;clear n0_ n1_ qh qi n4_;clear hb ho49;obtain⟨Ao51,co51,eo51⟩:=Kd.R_slice HO298.out;subst eo51)|((with_reducible refine gate_builtin (b:=.append) (xs:=#[.tmp 52,.tmp 54]) rfl ?_);at_builtin;refine Kd.S_append (Kd.slice 5 (Kd.int .u8)) (w0:=w) w.heap.size rfl (.tmp 52) (.tmp 54) 55 22 (.slice none 0 0) 24 rfl Try.underlying55 info22 rfl (by decide) (by omega) u6 qu y296 [.slice Ao51 y296.length co51] (fun _=>True) (fun k_=>some k_=(.slice Ao51 y296.length co51:Value).ownBlock) rfl rfl ?aP (fun k_ hk_=>((It (ok':=fun k_=>((fun _=>True)) k_∧some k_≠(u6:Value).ownBlock) (Kd.R_apart' (HO298.out) (Kd.S_typed qm.out) (by decide)) (fun k_ hk=>⟨trivial,hk.2⟩))).1 k_ hk_.symm) ?aF ?aO ?aB ?aS ?aL ?_;(case aP=>exact Kd.M_row (It (Kd.R_tight rfl (It (ok':=fun k_=>((fun _=>True)) k_∧some k_≠(u6:Value).ownBlock) (Kd.R_apart' (HO298.out) (Kd.S_typed qm.out) (by decide)) (fun k_ hk=>⟨trivial,hk.2⟩))) (fun _ h_=>h_)));(case aB=>exact(by repeat(first|(with_reducible first|exact HB.out|apply Ii|apply Ih|apply Ij|refine Im ?_ (Ie qa.out))|exact HB.out)));(case aF=>exact(fun _ _=>trivial));(case aO=>exact(by(with_reducible repeat(first|apply Ip|apply Iq|apply Il));exact Kd.S_mono qm.out (fun k_ hk=>⟨trivial,fun e_=>hk.2 e_⟩)));(case aS=>exact(Is (by repeat(first|(with_reducible first|exact HB.out|apply Ii|apply Ih|apply Ij|refine Im ?_ (Ie qa.out))|exact HB.out))));(case aL=>have:=LMc43.out;omega);intro v300 w50 ho hb hg hat;rw [← Ny299.out] at ho;have n0_:=Ia (IsS102.grown (by repeat(first|(with_reducible first|exact qa.out|apply Ib|apply Id|apply Ic|apply If|apply Ig)|exact qa.out)) hg (IsS102.own_neS qa.out qm.out (by decide)));have n1_:=Ia (Kd.R_over' (by(with_reducible repeat(first|apply In|apply Io|apply Ik));exact qz.out) (Kd.S_typed (by(with_reducible repeat(first|apply Ip|apply Iq|apply Il));exact qm.out)) (by decide) hg);have qh:=Ia (hb);have qi:=Ia (ho);clear qa;clear qz;clear HB;clear qm;clear HO298;have qa:=n0_;have qz:=n1_;have HB:=qh;have HO301:=qi;clear n0_ n1_ qh qi;clear ho hb hg hat))
           go_roundg k1
           case measure=>have:=HK1.out;omega
           case rel=>exact⟨(y293),(y299),(t290),(t291),H',⟨by have:=HK1.out;omega⟩,⟨by(with_reducible repeat(first|apply In|apply Io|apply Ik));exact qz.out⟩,⟨by(with_reducible repeat(first|apply Ip|apply Iq|apply Il));exact HO301.out⟩,⟨by repeat(first|(with_reducible first|exact qa.out|apply Ib|apply Id|apply Ic|apply If|apply Ig)|exact qa.out)⟩,⟨by repeat(first|(with_reducible first|exact HB.out|apply Ii|apply Ih|apply Ij|refine Im ?_ (Ie qa.out))|exact HB.out)⟩⟩
          ·rw [if_neg c43] at H
           exact absurd H (by simp)
         ·rw [if_neg c42] at H
          exact absurd H (by simp)
        ·rw [if_neg c41] at H
         exact absurd H (by simp)
       ·rw [if_neg c39] at H
        have c39b0:decide ((qj.length:Int) < (wrap64 (100+t289)))=false:=decide_eq_false c39
        clear c39
        by_cases c52:qu.length+3 < 5864062014805
        ·rw [if_pos c52] at H
         have LMc52:=Ia c52
         clear c52
         obtain⟨y302,hy302⟩:∃ y_:List (List Int),y_=(qu ++ List.replicate 3 []):=⟨_,rfl⟩
         replace H:(if 0≤(qj.length:Int) then (if (qj.length:Int)≤(y302.length:Int) then (some (qj,(y302.take ((qj.length:Int):Int).toNat))) else (none)) else (none))=some (r1,r2):=by first|(rw [hy302];with_reducible exact H)|(have H2_:=(Option.bind_some _ _).symm.trans H;rw [hy302];with_reducible exact H2_)|(have H2_:=(Option.bind_some _ _).symm.trans H;with_reducible exact H2_)|with_reducible exact H|(rw [hy302];exact H)|exact H
         have Ny302:=Ia hy302
         clear hy302
         by_cases c53:0≤(qj.length:Int)
         ·rw [if_pos c53] at H
          have c53b0:=eq_true c53
          have c53b1:decide (0≤(qj.length:Int))=true:=decide_eq_true c53
          clear c53
          by_cases c54:(qj.length:Int)≤(y302.length:Int)
          ·rw [if_pos c54] at H
           have c54b0:=eq_true c54
           have c54b1:decide ((qj.length:Int)≤(y302.length:Int))=true:=decide_eq_true c54
           clear c54
           obtain⟨y305,hy305⟩:∃ y_:List (List Int),y_=(y302.take ((qj.length:Int):Int).toNat):=⟨_,rfl⟩
           replace H:(some (qj,y305))=some (r1,r2):=by first|(rw [hy305];with_reducible exact H)|(have H2_:=(Option.bind_some _ _).symm.trans H;rw [hy305];with_reducible exact H2_)|(have H2_:=(Option.bind_some _ _).symm.trans H;with_reducible exact H2_)|with_reducible exact H|(rw [hy305];exact H)|exact H
           have Ny305:=Ia hy305
           clear hy305
           simp only [Option.some.injEq,Prod.mk.injEq] at H
           obtain⟨rfl,rfl⟩:=H
           obtain⟨Ao55,co55,eo55⟩:=Kd.R_slice qr.out
           subst eo55
           go_wp2_with (first|((with_reducible refine Ir (f:=65) rfl ?_);refine goesL_ (some 42) rfl rfl Try.func65 (by kernel_rfl) rfl #[.pointer (some ⟨qe,0,none⟩),.int .i64 2] rfl (by(try simp only [List.map_toArray,List.map_cons,List.map_nil]);first|done|rfl|(simp only [List.length_drop,List.length_take];rfl)) ?_;(with_reducible refine(spec_l1Below.calls qe qd qk ql 2 t289 t290 t291 w _ ?side1 ?side2 A38.out).mono ?_);(case side1=>repeat(first|(with_reducible first|exact qa.out|apply Ib|apply Id|apply Ic|apply If|apply Ig)|exact qa.out));(case side2=>repeat(first|(with_reducible first|exact HB.out|apply Ii|apply Ih|apply Ij|refine Im ?_ (Ie qa.out))|exact HB.out));rintro e w56 ⟨rfl,hi,hb,hk⟩;refine⟨_,rfl,?_⟩;have n0_:=Ia (It (Kd.R_keep (IsS102.apart (show IsS102 w _ qe qd qk ql from by repeat(first|(with_reducible first|exact qa.out|apply Ib|apply Id|apply Ic|apply If|apply Ig)|exact qa.out)) (by(with_reducible repeat(first|apply In|apply Io|apply Ik));exact qr.out) (by decide)) hk (fun _ h=>h.2)) (fun _ h=>h.1));have n1_:=Ia (Kd.S_mono (Kd.S_keep (IsS102.apartS (show IsS102 w _ qe qd qk ql from by repeat(first|(with_reducible first|exact qa.out|apply Ib|apply Id|apply Ic|apply If|apply Ig)|exact qa.out)) (by(with_reducible repeat(first|apply Ip|apply Iq|apply Il));exact qm.out) (by decide)) hk (fun _ h=>h.2)) (fun _ h=>h.1));have qh:=Ia (hb);have qi:=Ia (hi);clear qr;clear qm;clear HB;clear qa;have qr:=n0_;have qm:=n1_;have HB:=qh;have qa:=qi;clear n0_ n1_ qh qi;(try clear hb);(try clear hb2);(try clear hk);(try clear hi))|(at_builtin;refine Kd.S_append_zeros (Kd.slice 5 (Kd.int .u8)) (w0:=w) w.heap.size rfl (.tmp 56) (.const (.int .i64 3)) 55 3 22 (.slice none 0 0) 24 rfl Try.underlying55 Try.underlying3 info22 rfl (by decide) (by omega) u6 qu [] (3:Int) (fun _=>True) rfl rfl ⟨_,rfl,Kd.R_nil _ _ _ _ _⟩ ?aF ?aO (by omega) ?aB ?aS ?aL ?_;(case aB=>exact(by repeat(first|(with_reducible first|exact HB.out|apply Ii|apply Ih|apply Ij|refine Im ?_ (Ie qa.out))|exact HB.out)));(case aF=>exact(fun _ _=>trivial));(case aO=>exact(by(with_reducible repeat(first|apply Ip|apply Iq|apply Il));exact qm.out));(case aS=>exact(Is (by repeat(first|(with_reducible first|exact HB.out|apply Ii|apply Ih|apply Ij|refine Im ?_ (Ie qa.out))|exact HB.out))));(case aL=>have:=LMc52.out;omega);intro v303 w57 ho hb hg hat;(try rw [show Int.toNat 3=3 from rfl] at ho);rw [← Ny302.out] at ho;have n0_:=Ia (Kd.R_over' (by(with_reducible repeat(first|apply In|apply Io|apply Ik));exact qr.out) (Kd.S_typed (by(with_reducible repeat(first|apply Ip|apply Iq|apply Il));exact qm.out)) (by decide) hg);have n1_:=Ia (IsS102.grown (by repeat(first|(with_reducible first|exact qa.out|apply Ib|apply Id|apply Ic|apply If|apply Ig)|exact qa.out)) hg (IsS102.own_neS qa.out qm.out (by decide)));have qh:=Ia (hb);have qi:=Ia (ho);clear qr;clear qa;clear HB;clear qm;have qr:=n0_;have qa:=n1_;have HB:=qh;have HO304:=qi;clear n0_ n1_ qh qi;clear ho hb hg hat;obtain⟨Ao58,co58,eo58⟩:=Kd.S_slice HO304.out;subst eo58;have q59:((qj.length:Int):Int)≤((y302.length:Int):Int):=of_decide_eq_true (by first|(with_reducible assumption)|assumption);obtain⟨i059,hi059,_,hsz59,_⟩:=info_parts info22;have hcut59:=cut_to (P:=Try.prog) 55 22 .i64 Try.underlying55 hi059 Ao58 y302.length co58 (qj.length:Int) (of_decide_eq_true (by first|(with_reducible assumption)|assumption)) q59 (Kd.S_reads' HO304.out).2.1;have hr59:=Kd.S_take (m:=((qj.length:Int):Int).toNat) HO304.out (by omega);have hy59:y305.length=((qj.length:Int):Int).toNat:=(by rw [Ny305.out,List.length_take];omega);rw [← Ny305.out] at hr59;rw [← hy59] at hr59 hcut59;clear hy59 hi059 hsz59 HO304;have HO307:=Ia hr59;clear hr59;replace q59:=eq_true q59))
           go_ret2
           exact⟨_,_,by first|rfl|(simp [errW_none,errW_some] <;> rfl)|(simp [*,errW_none,errW_some] <;> rfl),by(with_reducible repeat(first|apply In|apply Io|apply Ik));exact qr.out,by(with_reducible repeat(first|apply Ip|apply Iq|apply Il));exact HO307.out,by repeat(first|(with_reducible first|exact HB.out|apply Ii|apply Ih|apply Ij|refine Im ?_ (Ie qa.out))|exact HB.out)⟩
          ·rw [if_neg c54] at H
           exact absurd H (by simp)
         ·rw [if_neg c53] at H
          exact absurd H (by simp)
        ·rw [if_neg c52] at H
         exact absurd H (by simp)
    ·rw [if_neg c33] at H
     have c33b0:(qo == 2)=false:=beq_eq_false_iff_ne.mpr c33
     have c33b1:(qo != 2)=true:=bne_iff_ne.mpr c33
     simp only [Option.some.injEq,Prod.mk.injEq] at H
     obtain⟨rfl,rfl⟩:=H
     go_enter Try.func49,Try.ntmps49
     go_wp2_with (first|((with_reducible refine Ir (f:=64) rfl ?_);refine goesL_ (some 8) rfl rfl Try.func64 (by kernel_rfl) rfl #[.slice A0 l0.length c0] rfl (by(try simp only [List.map_toArray,List.map_cons,List.map_nil]);first|done|rfl|(simp only [List.length_drop,List.length_take];rfl)) ?_;(with_reducible refine(spec_l1New.calls k _ _ l0 qd ya yb w _ ?side1 ?side2 ?side3 A2.out).mono ?_);(case side1=>repeat(first|(with_reducible first|exact HB.out|apply Ii|apply Ih|apply Ij)|exact HB.out));(case side2=>exact HR0.out);(case side3=>exact HC0.out);rintro e w60 ⟨qe,rfl,hi,hb,hb2⟩;refine⟨_,rfl,?_⟩;have n0_:=Ia (hb);have n1_:=Ia (hi);clear HB;have HB:=n0_;have qa:=n1_;clear n0_ n1_;(try clear hb);(try clear hb2);(try clear hk);(try clear hi))|((with_reducible refine Ir (f:=78) rfl ?_);refine goesL_ (some 11) rfl rfl Try.func78 (by kernel_rfl) rfl #[.pointer (some ⟨qe,0,none⟩)] rfl (by(try simp only [List.map_toArray,List.map_cons,List.map_nil]);first|done|rfl|(simp only [List.length_drop,List.length_take];rfl)) ?_;(with_reducible refine(spec_l15DrawNames.calls k qe qd ya yb qf qg qp qq w _ ?side1 ?side2 A3.out).mono ?_);(case side1=>repeat(first|(with_reducible first|exact qa.out|apply Ib|apply Id|apply Ic|apply If|apply Ig)|exact qa.out));(case side2=>repeat(first|(with_reducible first|exact HB.out|apply Ii|apply Ih|apply Ij|refine Im ?_ (Ie qa.out))|exact HB.out));rintro e w61 ⟨v257,v260,rfl,ho0,ho1,hi,hb,hk⟩;refine⟨_,rfl,?_⟩;have n0_:=Ia (Kd.R_lower ho0 (Is (by repeat(first|(with_reducible first|exact HB.out|apply Ii|apply Ih|apply Ij|refine Im ?_ (Ie qa.out))|exact HB.out))));have n1_:=Ia (Kd.S_lower ho1 (Is (by repeat(first|(with_reducible first|exact HB.out|apply Ii|apply Ih|apply Ij|refine Im ?_ (Ie qa.out))|exact HB.out))));have qh:=Ia (hb);have qi:=Ia (hi);clear HB;clear qa;have qc:=n0_;have qb:=n1_;have HB:=qh;have qa:=qi;clear n0_ n1_ qh qi;(try clear hb);(try clear hb2);(try clear hk);(try clear hi);(try clear ho0);(try clear ho1))|((with_reducible refine Ir (f:=68) rfl ?_);refine goesL_ (some 15) rfl rfl Try.func68 (by kernel_rfl) rfl #[.pointer (some ⟨qe,0,none⟩),.int .i64 16] rfl (by(try simp only [List.map_toArray,List.map_cons,List.map_nil]);first|done|rfl|(simp only [List.length_drop,List.length_take];rfl)) ?_;(with_reducible refine(spec_l1Once.calls qe qd qp qq 16 true qs qt w _ ?side1 ?side2 A4.out).mono ?_);(case side1=>repeat(first|(with_reducible first|exact qa.out|apply Ib|apply Id|apply Ic|apply If|apply Ig)|exact qa.out));(case side2=>repeat(first|(with_reducible first|exact HB.out|apply Ii|apply Ih|apply Ij|refine Im ?_ (Ie qa.out))|exact HB.out));rintro e w62 ⟨rfl,hi,hb,hk⟩;refine⟨_,rfl,?_⟩;have n0_:=Ia (It (Kd.R_keep (IsS102.apart (show IsS102 w _ qe qd qp qq from by repeat(first|(with_reducible first|exact qa.out|apply Ib|apply Id|apply Ic|apply If|apply Ig)|exact qa.out)) (by(with_reducible repeat(first|apply In|apply Io|apply Ik));exact qc.out) (by decide)) hk (fun _ h=>h.2)) (fun _ h=>h.1));have n1_:=Ia (Kd.S_mono (Kd.S_keep (IsS102.apartS (show IsS102 w _ qe qd qp qq from by repeat(first|(with_reducible first|exact qa.out|apply Ib|apply Id|apply Ic|apply If|apply Ig)|exact qa.out)) (by(with_reducible repeat(first|apply Ip|apply Iq|apply Il));exact qb.out) (by decide)) hk (fun _ h=>h.2)) (fun _ h=>h.1));have qh:=Ia (hb);have qi:=Ia (hi);clear qc;clear qb;clear HB;clear qa;have qc:=n0_;have qb:=n1_;have HB:=qh;have qa:=qi;clear n0_ n1_ qh qi;(try clear hb);(try clear hb2);(try clear hk);(try clear hi))|((with_reducible refine Ir (f:=65) rfl ?_);refine goesL_ (some 17) rfl rfl Try.func65 (by kernel_rfl) rfl #[.pointer (some ⟨qe,0,none⟩),.int .i64 3] rfl (by(try simp only [List.map_toArray,List.map_cons,List.map_nil]);first|done|rfl|(simp only [List.length_drop,List.length_take];rfl)) ?_;(with_reducible refine(spec_l1Below.calls qe qd qs qt 3 qo qw qx w _ ?side1 ?side2 A6.out).mono ?_);(case side1=>repeat(first|(with_reducible first|exact qa.out|apply Ib|apply Id|apply Ic|apply If|apply Ig)|exact qa.out));(case side2=>repeat(first|(with_reducible first|exact HB.out|apply Ii|apply Ih|apply Ij|refine Im ?_ (Ie qa.out))|exact HB.out));rintro e w63 ⟨rfl,hi,hb,hk⟩;refine⟨_,rfl,?_⟩;have n0_:=Ia (It (Kd.R_keep (IsS102.apart (show IsS102 w _ qe qd qs qt from by repeat(first|(with_reducible first|exact qa.out|apply Ib|apply Id|apply Ic|apply If|apply Ig)|exact qa.out)) (by(with_reducible repeat(first|apply In|apply Io|apply Ik));exact qc.out) (by decide)) hk (fun _ h=>h.2)) (fun _ h=>h.1));have n1_:=Ia (Kd.S_mono (Kd.S_keep (IsS102.apartS (show IsS102 w _ qe qd qs qt from by repeat(first|(with_reducible first|exact qa.out|apply Ib|apply Id|apply Ic|apply If|apply Ig)|exact qa.out)) (by(with_reducible repeat(first|apply Ip|apply Iq|apply Il));exact qb.out) (by decide)) hk (fun _ h=>h.2)) (fun _ h=>h.1));have qh:=Ia (hb);have qi:=Ia (hi);clear qc;clear qb;clear HB;clear qa;have qc:=n0_;have qb:=n1_;have HB:=qh;have qa:=qi;clear n0_ n1_ qh qi;(try clear hb);(try clear hb2);(try clear hk);(try clear hi)))
     go_ret2
     exact⟨_,_,by first|rfl|(simp [errW_none,errW_some] <;> rfl)|(simp [*,errW_none,errW_some] <;> rfl),by(with_reducible repeat(first|apply In|apply Io|apply Ik));exact qc.out,by(with_reducible repeat(first|apply Ip|apply Iq|apply Il));exact qb.out,by repeat(first|(with_reducible first|exact HB.out|apply Ii|apply Ih|apply Ij|refine Im ?_ (Ie qa.out))|exact HB.out)⟩
 ·replace c5:=Bool.eq_false_iff.mpr c5
  subst c5
  have H1:(some (qf,qg))=some (r1,r2):=by rw [if_neg (show ¬ (false=true) by decide)] at H;exact H
  clear H
  have H:=H1
  clear H1
  simp only [Option.some.injEq,Prod.mk.injEq] at H
  obtain⟨rfl,rfl⟩:=H
  go_enter Try.func49,Try.ntmps49
  go_wp2_with (first|((with_reducible refine Ir (f:=64) rfl ?_);refine goesL_ (some 8) rfl rfl Try.func64 (by kernel_rfl) rfl #[.slice A0 l0.length c0] rfl (by(try simp only [List.map_toArray,List.map_cons,List.map_nil]);first|done|rfl|(simp only [List.length_drop,List.length_take];rfl)) ?_;(with_reducible refine(spec_l1New.calls k _ _ l0 qd ya yb w _ ?side1 ?side2 ?side3 A2.out).mono ?_);(case side1=>repeat(first|(with_reducible first|exact HB.out|apply Ii|apply Ih|apply Ij)|exact HB.out));(case side2=>exact HR0.out);(case side3=>exact HC0.out);rintro e w64 ⟨qe,rfl,hi,hb,hb2⟩;refine⟨_,rfl,?_⟩;have n0_:=Ia (hb);have n1_:=Ia (hi);clear HB;have HB:=n0_;have qa:=n1_;clear n0_ n1_;(try clear hb);(try clear hb2);(try clear hk);(try clear hi))|((with_reducible refine Ir (f:=78) rfl ?_);refine goesL_ (some 11) rfl rfl Try.func78 (by kernel_rfl) rfl #[.pointer (some ⟨qe,0,none⟩)] rfl (by(try simp only [List.map_toArray,List.map_cons,List.map_nil]);first|done|rfl|(simp only [List.length_drop,List.length_take];rfl)) ?_;(with_reducible refine(spec_l15DrawNames.calls k qe qd ya yb qf qg qp qq w _ ?side1 ?side2 A3.out).mono ?_);(case side1=>repeat(first|(with_reducible first|exact qa.out|apply Ib|apply Id|apply Ic|apply If|apply Ig)|exact qa.out));(case side2=>repeat(first|(with_reducible first|exact HB.out|apply Ii|apply Ih|apply Ij|refine Im ?_ (Ie qa.out))|exact HB.out));rintro e w65 ⟨v257,v260,rfl,ho0,ho1,hi,hb,hk⟩;refine⟨_,rfl,?_⟩;have n0_:=Ia (Kd.R_lower ho0 (Is (by repeat(first|(with_reducible first|exact HB.out|apply Ii|apply Ih|apply Ij|refine Im ?_ (Ie qa.out))|exact HB.out))));have n1_:=Ia (Kd.S_lower ho1 (Is (by repeat(first|(with_reducible first|exact HB.out|apply Ii|apply Ih|apply Ij|refine Im ?_ (Ie qa.out))|exact HB.out))));have qh:=Ia (hb);have qi:=Ia (hi);clear HB;clear qa;have qc:=n0_;have qb:=n1_;have HB:=qh;have qa:=qi;clear n0_ n1_ qh qi;(try clear hb);(try clear hb2);(try clear hk);(try clear hi);(try clear ho0);(try clear ho1))|((with_reducible refine Ir (f:=68) rfl ?_);refine goesL_ (some 15) rfl rfl Try.func68 (by kernel_rfl) rfl #[.pointer (some ⟨qe,0,none⟩),.int .i64 16] rfl (by(try simp only [List.map_toArray,List.map_cons,List.map_nil]);first|done|rfl|(simp only [List.length_drop,List.length_take];rfl)) ?_;(with_reducible refine(spec_l1Once.calls qe qd qp qq 16 false qs qt w _ ?side1 ?side2 A4.out).mono ?_);(case side1=>repeat(first|(with_reducible first|exact qa.out|apply Ib|apply Id|apply Ic|apply If|apply Ig)|exact qa.out));(case side2=>repeat(first|(with_reducible first|exact HB.out|apply Ii|apply Ih|apply Ij|refine Im ?_ (Ie qa.out))|exact HB.out));rintro e w66 ⟨rfl,hi,hb,hk⟩;refine⟨_,rfl,?_⟩;have n0_:=Ia (It (Kd.R_keep (IsS102.apart (show IsS102 w _ qe qd qp qq from by repeat(first|(with_reducible first|exact qa.out|apply Ib|apply Id|apply Ic|apply If|apply Ig)|exact qa.out)) (by(with_reducible repeat(first|apply In|apply Io|apply Ik));exact qc.out) (by decide)) hk (fun _ h=>h.2)) (fun _ h=>h.1));have n1_:=Ia (Kd.S_mono (Kd.S_keep (IsS102.apartS (show IsS102 w _ qe qd qp qq from by repeat(first|(with_reducible first|exact qa.out|apply Ib|apply Id|apply Ic|apply If|apply Ig)|exact qa.out)) (by(with_reducible repeat(first|apply Ip|apply Iq|apply Il));exact qb.out) (by decide)) hk (fun _ h=>h.2)) (fun _ h=>h.1));have qh:=Ia (hb);have qi:=Ia (hi);clear qc;clear qb;clear HB;clear qa;have qc:=n0_;have qb:=n1_;have HB:=qh;have qa:=qi;clear n0_ n1_ qh qi;(try clear hb);(try clear hb2);(try clear hk);(try clear hi)))
  go_ret2
  exact⟨_,_,by first|rfl|(simp [errW_none,errW_some] <;> rfl)|(simp [*,errW_none,errW_some] <;> rfl),by(with_reducible repeat(first|apply In|apply Io|apply Ik));exact qc.out,by(with_reducible repeat(first|apply Ip|apply Iq|apply Il));exact qb.out,by repeat(first|(with_reducible first|exact HB.out|apply Ii|apply Ih|apply Ij|refine Im ?_ (Ie qa.out))|exact HB.out)⟩

/-! ### impl_Pack_1: function 81 -/


end Go.Proofs.Ytelcpfanjjfgdaa.HFnPacked
