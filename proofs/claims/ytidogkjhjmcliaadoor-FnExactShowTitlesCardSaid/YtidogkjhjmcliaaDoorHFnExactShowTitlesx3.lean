-- Laid by myprint.py, a program of this repo, out of the kit's printer and this repo's own texts (wip/hand).
import Derived.Test.YtidogkjhjmcliaaDoorHFnExactShowTitlesx0
import Derived.Test.YtidogkjhjmcliaaDoorHFnExactShowTitlesx2
namespace Go.Proofs.YtidogkjhjmcliaaDoor.HFnExactShowTitles
open Go.RowKit Go.Proofs.YtidogkjhjmcliaaDoorW.PrintWords Go.Proofs.YtidogkjhjmcliaaDoorW.PrintLast Go.Proofs.YtidogkjhjmcliaaDoorW.PrintMore
attribute [local go_sem] max2_int min2_int max_two min_two max_three min_three max_four min_four   -- for this text's walks alone
set_option linter.unusedVariables false
set_option linter.unusedSimpArgs false
theorem Da : type_of% @Aside0.mk := @Aside0.mk
theorem Db : type_of% @pw_below_drewN := @pw_below_drewN
theorem Dc : type_of% @below_drew1 := @below_drew1
theorem Dd : type_of% @below_alloc := @below_alloc
theorem De : type_of% @blk_drew := @blk_drew
theorem Df : type_of% @blk_alloc := @blk_alloc
theorem Dg : type_of% @blk_cell := @blk_cell
theorem Dh : type_of% @blk_drewN := @blk_drewN
theorem Di : type_of% @below_step := @below_step

/-! ### spec_l1Int: function 22 -/
mutual
def spec_l1Int.l0 : Nat → Int → ByteArray → Option (ByteArray)
 | 0, _, _ => none
 | k + 1, x0, x3 => if x3.toList = ([] : List UInt8) then ((some (([(wrap64 (48 + (Int.tmod x0 10))) % 256] : List Int) : List Int)).bind fun y109 => (if (strOfNums y109).size + x3.size ≤ 9223372036854775807 then (spec_l1Int.l0 k (wrap64 (Int.tdiv x0 10)) ((strOfNums y109) ++ x3)) else (none))) else (if x0 > 0 then ((some (([(wrap64 (48 + (Int.tmod x0 10))) % 256] : List Int) : List Int)).bind fun y112 => (if (strOfNums y112).size + x3.size ≤ 9223372036854775807 then (spec_l1Int.l0 k (wrap64 (Int.tdiv x0 10)) ((strOfNums y112) ++ x3)) else (none))) else (some x3))
def spec_l1Int.f : Nat → Int → Option (ByteArray)
 | 0, _ => none
 | k + 1, a0 => if a0 < 0 then ((spec_l1Int.f k (wrap64 (-a0))).bind fun t108 => (if 1 + t108.size ≤ 9223372036854775807 then (some ((⟨#[45]⟩ : ByteArray) ++ t108)) else (none))) else (spec_l1Int.l0 k a0 (⟨#[]⟩ : ByteArray))
end
theorem spec_l1Int.mono_l : ∀ k, (∀ y0, LeO (spec_l1Int.f k y0) (spec_l1Int.f (k + 1) y0)) ∧ (∀ y0 y1, LeO (spec_l1Int.l0 k y0 y1) (spec_l1Int.l0 (k + 1) y0 y1))
 | 0 => ⟨fun _ r h => by simp [spec_l1Int.f] at h, fun _ _ r h => by simp [spec_l1Int.l0] at h⟩
 | k + 1 => by
  obtain⟨ih0,ih1⟩:=spec_l1Int.mono_l k
  refine⟨?_,?_⟩
  ·intro y0
   unfold spec_l1Int.f
   repeat' first
   | (with_reducible exact ih0 _)
   | (with_reducible exact ih1 _ _)
   | (with_reducible exact LeO.refl _)
   | (with_reducible exact LeO.none _)
   | (with_reducible refine LeO.ite ?_ ?_)
   | (with_reducible refine LeO.bind ?_ (fun _ => ?_))
   | exact ih0 _
   | exact ih1 _ _
   | exact LeO.none _
   | refine LeO.ite ?_ ?_
   | refine LeO.bind ?_ (fun _ => ?_)
  ·intro y0 y1
   unfold spec_l1Int.l0
   repeat' first
   | (with_reducible exact ih0 _)
   | (with_reducible exact ih1 _ _)
   | (with_reducible exact LeO.refl _)
   | (with_reducible exact LeO.none _)
   | (with_reducible refine LeO.ite ?_ ?_)
   | (with_reducible refine LeO.bind ?_ (fun _ => ?_))
   | exact ih0 _
   | exact ih1 _ _
   | exact LeO.none _
   | refine LeO.ite ?_ ?_
   | refine LeO.bind ?_ (fun _ => ?_)
theorem spec_l1Int.mono : ∀ a0 k, LeO (spec_l1Int.f k a0) (spec_l1Int.f (k + 1) a0) := by
 intro a0 k
 obtain⟨ih0,ih1⟩:=spec_l1Int.mono_l k
 exact ih0 a0
set_option maxHeartbeats 8000000 in
set_option maxRecDepth 100000 in
theorem spec_l1Int.calls (k : Nat) : ∀ (a0 : Int) (r : ByteArray) (w : World) (h : spec_l1Int.f k a0 = some r),
  Calls Tryd.prog 22 #[.int .i64 a0] w fun e w'=>e=.returned (.string r)∧Below w.heap.size w w':=by
 induction k using Nat.strongRecOn with
 | _ k ih =>
 intro a0 r w h
 cases k with
 | zero => exact absurd h (by simp [spec_l1Int.f])
 | succ k =>
 simp only [spec_l1Int.f] at h
 have HB:=Da (Below.refl w.heap.size w)
 have H:(if a0 < 0 then ((spec_l1Int.f k (wrap64 (-a0))).bind fun t108=>(if 1+t108.size≤9223372036854775807 then (some ((⟨#[45]⟩:ByteArray) ++ t108)) else (none))) else (spec_l1Int.l0 k a0 (⟨#[]⟩:ByteArray)))=some r:=h
 clear h
 by_cases c2:a0 < 0
 ·rw [if_pos c2] at H
  have c2b0:decide (a0 < 0)=true:=decide_eq_true c2
  clear c2
  replace H:=Option.bind_eq_some_iff.mp H
  obtain⟨t108,A30,H⟩:=H
  replace H:(if 1+t108.size≤9223372036854775807 then (some ((⟨#[45]⟩:ByteArray) ++ t108)) else (none))=some r:=H
  have A3:=Da A30
  clear A30
  by_cases c4:1+t108.size≤9223372036854775807
  ·rw [if_pos c4] at H
   have c4b0:=eq_true c4
   have c4b1:decide (1+t108.size≤9223372036854775807)=true:=decide_eq_true c4
   try have c4b2:(9223372036854775807 < 1+t108.size)=False:=eq_false (Nat.not_lt.2 c4)
   obtain rfl:=Option.some.inj H
   go_enter Tryd.func22,Tryd.ntmps22
   go_wp2_with (first|((with_reducible refine gate_callee (f:=22) rfl ?_);refine goesL_ (some 8) rfl rfl Tryd.func22 (by kernel_rfl) rfl #[.int .i64 (wrap64 (-a0))] rfl (by(try simp only [List.map_toArray,List.map_cons,List.map_nil]);first|done|rfl|(simp only [List.length_drop,List.length_take];rfl)) ?_;(with_reducible refine(ih k (by omega) (wrap64 (-a0)) t108 _ A3.out).mono ?_);rintro e w5 ⟨rfl,hb⟩;refine⟨_,rfl,?_⟩;have n0_:=Da (Di (by repeat(first|(with_reducible first|exact HB.out|apply Dd|apply Db|apply Dc)|exact HB.out)) hb);clear HB;have HB:=n0_;clear n0_;(try clear hb);(try clear hb2);(try clear hk);(try clear hi)))
   go_ret
   exact⟨by first|rfl|(simp [errW_none,errW_some] <;> rfl)|(simp [*,errW_none,errW_some] <;> rfl),by repeat(first|(with_reducible first|exact HB.out|apply Dd|apply Db|apply Dc)|exact HB.out)⟩
  ·rw [if_neg c4] at H
   exact absurd H (by simp)
 ·rw [if_neg c2] at H
  have c2b0:decide (a0 < 0)=false:=decide_eq_false c2
  clear c2
  have H':=Da H
  clear H
  go_enter Tryd.func22,Tryd.ntmps22
  go_wp2
  go_loopg [0,3] k (fun kq v0 v3 w'=>∃ (x0_1:Int) (x3_1:ByteArray),v0=.int .i64 x0_1∧v3=.string x3_1∧Aside0 (spec_l1Int.l0 kq x0_1 x3_1=some r)∧Aside0 (kq≤k)∧Aside0 (Below w.heap.size w w'))
  case atStart=>exact⟨(a0),((⟨#[]⟩:ByteArray)),(by first|rfl|(simp;done)|(simp [*];done)),(by first|rfl|(simp;done)|(simp [*];done)),H',⟨Nat.le_refl _⟩,⟨by repeat(first|(with_reducible first|exact HB.out|apply Dd|apply Db|apply Dc)|exact HB.out)⟩⟩
  case round=>
   clear H'
   try clear c2
   try clear c2b0
   try clear p2
   try clear c4
   try clear c4b0
   try clear c4b1
   try clear c4b2
   obtain⟨x0_1,x3_1,rfl,rfl,HA,HK1,HB⟩:=hrel
   cases gk with
   | zero => exact absurd HA.out (by simp [spec_l1Int.l0])
   | succ k1 =>
    have H:=HA.out
    clear HA
    simp only [spec_l1Int.l0] at H
    by_cases c6:x3_1.toList=([]:List UInt8)
    ·rw [if_pos c6] at H
     have c6b0:(x3_1.toList == ([]:List UInt8))=true:=beq_iff_eq.mpr c6
     have c6b1:(x3_1.toList != ([]:List UInt8))=false:=bne_eq_false_iff_eq.mpr c6
     clear c6
     obtain⟨y109,hy109⟩:∃ y_:List Int,y_=(([(wrap64 (48+(Int.tmod x0_1 10))) % 256]:List Int)):=⟨_,rfl⟩
     replace H:(if (strOfNums y109).size+x3_1.size≤9223372036854775807 then (spec_l1Int.l0 k1 (wrap64 (Int.tdiv x0_1 10)) ((strOfNums y109) ++ x3_1)) else (none))=some r:=by first|(rw [hy109];with_reducible exact H)|(have H2_:=(Option.bind_some _ _).symm.trans H;rw [hy109];with_reducible exact H2_)|(have H2_:=(Option.bind_some _ _).symm.trans H;with_reducible exact H2_)|with_reducible exact H|(rw [hy109];exact H)|exact H
     have Ny109:=Da hy109
     clear hy109
     by_cases c7:(strOfNums y109).size+x3_1.size≤9223372036854775807
     ·rw [if_pos c7] at H
      have c7b0:=eq_true c7
      have c7b1:decide ((strOfNums y109).size+x3_1.size≤9223372036854775807)=true:=decide_eq_true c7
      try have c7b2:(9223372036854775807 < (strOfNums y109).size+x3_1.size)=False:=eq_false (Nat.not_lt.2 c7)
      have H':=Da H
      clear H
      go_wp2_with (first|((with_reducible refine gate_dst (N:=20) rfl ?_);refine Kd.R_lit (Kd.int .u8) _ 5 ?hg (N:=20) ?hd (xs:=([(wrap64 (48+(Int.tmod x0_1 10))) % 256]:List Int)) (inner:=[.int .u8 ((wrap64 (48+(Int.tmod x0_1 10))) % 256)]) (ok:=fun _=>True) (okp:=fun _=>True) ?hr ?hp (fun _ hk=>hk) trivial (Below.refl _ _) (Nat.le_refl _) (by simp) ?_;(case hd=>rfl);(case hg=>rfl);(case hr=>first|(go_simp;done)|(go_simp;rfl));(case hp=>exact(Reps.one (show Kd.M (Kd.int .u8) _ _ _ ((wrap64 (48+(Int.tmod x0_1 10))) % 256) [.int .u8 ((wrap64 (48+(Int.tmod x0_1 10))) % 256)] from rfl) (Reps.none _ _)));intro v110 w8 ho9 hb hg_ hnew_;clear hg_ hnew_;(first|rw [← Ny109.out] at ho9|(simp only [Int.reduceToNat] at ho9;rw [← Ny109.out] at ho9));have n0_:=Da (Kd.R_lower ho9 (below_size (by repeat(first|(with_reducible first|exact HB.out|apply Dd|apply Db|apply Dc)|exact HB.out))));have n1_:=Da (Di (by repeat(first|(with_reducible first|exact HB.out|apply Dd|apply Db|apply Dc)|exact HB.out)) hb);clear HB;have HO111:=n0_;have HB:=n1_;clear n0_ n1_;clear hb ho9;have hcv10:=own_string (P:=Tryd.prog) Tryd.underlying36 Tryd.underlying5 Tryd.underlying9 (Kd.own_of_R HO111.out)))
      go_roundg k1
      case measure=>have:=HK1.out;omega
      case rel=>exact⟨(wrap64 (Int.tdiv x0_1 10)),((strOfNums y109) ++ x3_1),(by first|rfl|(simp;done)|(simp [*];done)),(by first|rfl|(simp;done)|(simp [*];done)),H',⟨by have:=HK1.out;omega⟩,⟨by repeat(first|(with_reducible first|exact HB.out|apply Dd|apply Db|apply Dc)|exact HB.out)⟩⟩
     ·rw [if_neg c7] at H
      exact absurd H (by simp)
    ·rw [if_neg c6] at H
     have c6b0:(x3_1.toList == ([]:List UInt8))=false:=beq_eq_false_iff_ne.mpr c6
     have c6b1:(x3_1.toList != ([]:List UInt8))=true:=bne_iff_ne.mpr c6
     by_cases c11:x0_1 > 0
     ·rw [if_pos c11] at H
      have c11b0:decide (0 < x0_1)=true:=decide_eq_true c11
      clear c11
      obtain⟨y112,hy112⟩:∃ y_:List Int,y_=(([(wrap64 (48+(Int.tmod x0_1 10))) % 256]:List Int)):=⟨_,rfl⟩
      replace H:(if (strOfNums y112).size+x3_1.size≤9223372036854775807 then (spec_l1Int.l0 k1 (wrap64 (Int.tdiv x0_1 10)) ((strOfNums y112) ++ x3_1)) else (none))=some r:=by first|(rw [hy112];with_reducible exact H)|(have H2_:=(Option.bind_some _ _).symm.trans H;rw [hy112];with_reducible exact H2_)|(have H2_:=(Option.bind_some _ _).symm.trans H;with_reducible exact H2_)|with_reducible exact H|(rw [hy112];exact H)|exact H
      have Ny112:=Da hy112
      clear hy112
      by_cases c12:(strOfNums y112).size+x3_1.size≤9223372036854775807
      ·rw [if_pos c12] at H
       have c12b0:=eq_true c12
       have c12b1:decide ((strOfNums y112).size+x3_1.size≤9223372036854775807)=true:=decide_eq_true c12
       try have c12b2:(9223372036854775807 < (strOfNums y112).size+x3_1.size)=False:=eq_false (Nat.not_lt.2 c12)
       have H':=Da H
       clear H
       go_wp2_with (first|((with_reducible refine gate_dst (N:=20) rfl ?_);refine Kd.R_lit (Kd.int .u8) _ 5 ?hg (N:=20) ?hd (xs:=([(wrap64 (48+(Int.tmod x0_1 10))) % 256]:List Int)) (inner:=[.int .u8 ((wrap64 (48+(Int.tmod x0_1 10))) % 256)]) (ok:=fun _=>True) (okp:=fun _=>True) ?hr ?hp (fun _ hk=>hk) trivial (Below.refl _ _) (Nat.le_refl _) (by simp) ?_;(case hd=>rfl);(case hg=>rfl);(case hr=>first|(go_simp;done)|(go_simp;rfl));(case hp=>exact(Reps.one (show Kd.M (Kd.int .u8) _ _ _ ((wrap64 (48+(Int.tmod x0_1 10))) % 256) [.int .u8 ((wrap64 (48+(Int.tmod x0_1 10))) % 256)] from rfl) (Reps.none _ _)));intro v113 w13 ho14 hb hg_ hnew_;clear hg_ hnew_;(first|rw [← Ny112.out] at ho14|(simp only [Int.reduceToNat] at ho14;rw [← Ny112.out] at ho14));have n0_:=Da (Kd.R_lower ho14 (below_size (by repeat(first|(with_reducible first|exact HB.out|apply Dd|apply Db|apply Dc)|exact HB.out))));have n1_:=Da (Di (by repeat(first|(with_reducible first|exact HB.out|apply Dd|apply Db|apply Dc)|exact HB.out)) hb);clear HB;have HO114:=n0_;have HB:=n1_;clear n0_ n1_;clear hb ho14;have hcv15:=own_string (P:=Tryd.prog) Tryd.underlying36 Tryd.underlying5 Tryd.underlying9 (Kd.own_of_R HO114.out)))
       go_roundg k1
       case measure=>have:=HK1.out;omega
       case rel=>exact⟨(wrap64 (Int.tdiv x0_1 10)),((strOfNums y112) ++ x3_1),(by first|rfl|(simp;done)|(simp [*];done)),(by first|rfl|(simp;done)|(simp [*];done)),H',⟨by have:=HK1.out;omega⟩,⟨by repeat(first|(with_reducible first|exact HB.out|apply Dd|apply Db|apply Dc)|exact HB.out)⟩⟩
      ·rw [if_neg c12] at H
       exact absurd H (by simp)
     ·rw [if_neg c11] at H
      have c11b0:decide (0 < x0_1)=false:=decide_eq_false c11
      clear c11
      obtain rfl:=Option.some.inj H
      go_wp2
      go_ret
      exact⟨by first|rfl|(simp [errW_none,errW_some] <;> rfl)|(simp [*,errW_none,errW_some] <;> rfl),by repeat(first|(with_reducible first|exact HB.out|apply Dd|apply Db|apply Dc)|exact HB.out)⟩

/-! ### spec_l1Wide: function 41 -/
def spec_l1Wide.l0 : Nat → Int → ByteArray → Option (ByteArray)
 | 0, _, _ => none
 | k + 1, x1, x5 => if (x5.size : Int) < x1 then (if 1 + x5.size ≤ 9223372036854775807 then (spec_l1Wide.l0 k x1 ((⟨#[48]⟩ : ByteArray) ++ x5)) else (none)) else (some x5)
def spec_l1Wide.f (k : Nat) (a0 : Int) (a1 : Int) : Option (ByteArray) := (spec_l1Int.f k a0).bind fun t115 => (spec_l1Wide.l0 k a1 t115)
theorem spec_l1Wide.mono_l : ∀ k, (∀ y0 y1, LeO (spec_l1Wide.l0 k y0 y1) (spec_l1Wide.l0 (k + 1) y0 y1))
 | 0 => fun _ _ r h => by simp [spec_l1Wide.l0] at h
 | k + 1 => by
  have ih0:=spec_l1Wide.mono_l k
  ·intro y0 y1
   unfold spec_l1Wide.l0
   repeat' first
   | (with_reducible exact ih0 _ _)
   | (with_reducible exact spec_l1Int.mono _ _)
   | (with_reducible exact LeO.refl _)
   | (with_reducible exact LeO.none _)
   | (with_reducible refine LeO.ite ?_ ?_)
   | (with_reducible refine LeO.bind ?_ (fun _ => ?_))
   | exact ih0 _ _
   | exact spec_l1Int.mono _ _
   | exact LeO.none _
   | refine LeO.ite ?_ ?_
   | refine LeO.bind ?_ (fun _ => ?_)
theorem spec_l1Wide.mono : ∀ a0 a1 k, LeO (spec_l1Wide.f k a0 a1) (spec_l1Wide.f (k + 1) a0 a1) := by
 intro a0 a1 k
 have ih0:=spec_l1Wide.mono_l k
 unfold spec_l1Wide.f
 repeat' first
   | (with_reducible exact ih0 _ _)
   | (with_reducible exact spec_l1Int.mono _ _)
   | (with_reducible exact LeO.refl _)
   | (with_reducible exact LeO.none _)
   | (with_reducible refine LeO.ite ?_ ?_)
   | (with_reducible refine LeO.bind ?_ (fun _ => ?_))
   | exact ih0 _ _
   | exact spec_l1Int.mono _ _
   | exact LeO.none _
   | refine LeO.ite ?_ ?_
   | refine LeO.bind ?_ (fun _ => ?_)
set_option maxHeartbeats 8000000 in
set_option maxRecDepth 100000 in
theorem spec_l1Wide.calls (k : Nat) (a0 : Int) (a1 : Int) (r : ByteArray) (w : World) (h : spec_l1Wide.f k a0 a1 = some r) :
  Calls Tryd.prog 41 #[.int .i64 a0,.int .i64 a1] w fun e w'=>e=.returned (.string r)∧Below w.heap.size w w':=by
 have HB:=Da (Below.refl w.heap.size w)
 have H:((spec_l1Int.f k a0).bind fun t115=>(spec_l1Wide.l0 k a1 t115))=some r:=h
 clear h
 replace H:=Option.bind_eq_some_iff.mp H
 obtain⟨t115,A30,H⟩:=H
 replace H:(spec_l1Wide.l0 k a1 t115)=some r:=H
 have A3:=Da A30
 clear A30
 have H':=Da H
 clear H
 go_enter Tryd.func41,Tryd.ntmps41
 go_wp2_with (first|((with_reducible refine gate_callee (f:=22) rfl ?_);refine goesL_ (some 7) rfl rfl Tryd.func22 (by kernel_rfl) rfl #[.int .i64 a0] rfl (by(try simp only [List.map_toArray,List.map_cons,List.map_nil]);first|done|rfl|(simp only [List.length_drop,List.length_take];rfl)) ?_;(with_reducible refine(spec_l1Int.calls k a0 t115 _ A3.out).mono ?_);rintro e w4 ⟨rfl,hb⟩;refine⟨_,rfl,?_⟩;have n0_:=Da (Di (by repeat(first|(with_reducible first|exact HB.out|apply Dd|apply Db|apply Dc)|exact HB.out)) hb);clear HB;have HB:=n0_;clear n0_;(try clear hb);(try clear hb2);(try clear hk);(try clear hi)))
 go_loopg [5] k (fun kq v5 w'=>∃ (x5_1:ByteArray),v5=.string x5_1∧Aside0 (spec_l1Wide.l0 kq a1 x5_1=some r)∧Aside0 (kq≤k)∧Aside0 (Below w.heap.size w w'))
 case atStart=>exact⟨(t115),(by first|rfl|(simp;done)|(simp [*];done)),H',⟨Nat.le_refl _⟩,⟨by repeat(first|(with_reducible first|exact HB.out|apply Dd|apply Db|apply Dc)|exact HB.out)⟩⟩
 case round=>
  clear H'
  try clear c2
  try clear p2
  try clear c4
  obtain⟨x5_1,rfl,HA,HK1,HB⟩:=hrel
  cases gk with
  | zero => exact absurd HA.out (by simp [spec_l1Wide.l0])
  | succ k1 =>
   have H:=HA.out
   clear HA
   simp only [spec_l1Wide.l0] at H
   by_cases c5:(x5_1.size:Int) < a1
   ·rw [if_pos c5] at H
    have c5b0:decide ((x5_1.size:Int) < a1)=true:=decide_eq_true c5
    clear c5
    by_cases c6:1+x5_1.size≤9223372036854775807
    ·rw [if_pos c6] at H
     have c6b0:=eq_true c6
     have c6b1:decide (1+x5_1.size≤9223372036854775807)=true:=decide_eq_true c6
     try have c6b2:(9223372036854775807 < 1+x5_1.size)=False:=eq_false (Nat.not_lt.2 c6)
     have H':=Da H
     clear H
     go_wp2
     go_roundg k1
     case measure=>have:=HK1.out;omega
     case rel=>exact⟨((⟨#[48]⟩:ByteArray) ++ x5_1),(by first|rfl|(simp;done)|(simp [*];done)),H',⟨by have:=HK1.out;omega⟩,⟨by repeat(first|(with_reducible first|exact HB.out|apply Dd|apply Db|apply Dc)|exact HB.out)⟩⟩
    ·rw [if_neg c6] at H
     exact absurd H (by simp)
   ·rw [if_neg c5] at H
    have c5b0:decide ((x5_1.size:Int) < a1)=false:=decide_eq_false c5
    clear c5
    obtain rfl:=Option.some.inj H
    go_wp2
    go_ret
    exact⟨by first|rfl|(simp [errW_none,errW_some] <;> rfl)|(simp [*,errW_none,errW_some] <;> rfl),by repeat(first|(with_reducible first|exact HB.out|apply Dd|apply Db|apply Dc)|exact HB.out)⟩

/-! ### spec_l12Time: function 23 -/
def spec_l12Time.f (k : Nat) (a0 : Int) : Option (ByteArray) := (spec_l1Wide.f k (wrap64 (Int.tdiv a0 3600000)) 2).bind fun t116 => (if t116.size + 1 ≤ 9223372036854775807 then ((spec_l1Wide.f k (Int.tmod (wrap64 (Int.tdiv a0 60000)) 60) 2).bind fun t117 => (if (t116 ++ (⟨#[58]⟩ : ByteArray)).size + t117.size ≤ 9223372036854775807 then (if ((t116 ++ (⟨#[58]⟩ : ByteArray)) ++ t117).size + 1 ≤ 9223372036854775807 then ((spec_l1Wide.f k (Int.tmod (wrap64 (Int.tdiv a0 1000)) 60) 2).bind fun t118 => (if (((t116 ++ (⟨#[58]⟩ : ByteArray)) ++ t117) ++ (⟨#[58]⟩ : ByteArray)).size + t118.size ≤ 9223372036854775807 then (if ((((t116 ++ (⟨#[58]⟩ : ByteArray)) ++ t117) ++ (⟨#[58]⟩ : ByteArray)) ++ t118).size + 1 ≤ 9223372036854775807 then ((spec_l1Wide.f k (Int.tmod a0 1000) 3).bind fun t119 => (if (((((t116 ++ (⟨#[58]⟩ : ByteArray)) ++ t117) ++ (⟨#[58]⟩ : ByteArray)) ++ t118) ++ (⟨#[44]⟩ : ByteArray)).size + t119.size ≤ 9223372036854775807 then (some ((((((t116 ++ (⟨#[58]⟩ : ByteArray)) ++ t117) ++ (⟨#[58]⟩ : ByteArray)) ++ t118) ++ (⟨#[44]⟩ : ByteArray)) ++ t119)) else (none))) else (none)) else (none))) else (none)) else (none))) else (none))
theorem spec_l12Time.mono : ∀ a0 k, LeO (spec_l12Time.f k a0) (spec_l12Time.f (k + 1) a0) := by
 intro a0 k
 unfold spec_l12Time.f
 repeat' first
   | (with_reducible exact spec_l1Wide.mono _ _ _)
   | (with_reducible exact LeO.refl _)
   | (with_reducible exact LeO.none _)
   | (with_reducible refine LeO.ite ?_ ?_)
   | (with_reducible refine LeO.bind ?_ (fun _ => ?_))
   | exact spec_l1Wide.mono _ _ _
   | exact LeO.none _
   | refine LeO.ite ?_ ?_
   | refine LeO.bind ?_ (fun _ => ?_)
set_option maxHeartbeats 8000000 in
set_option maxRecDepth 100000 in
theorem spec_l12Time.calls (k : Nat) (a0 : Int) (r : ByteArray) (w : World) (h : spec_l12Time.f k a0 = some r) :
  Calls Tryd.prog 23 #[.int .i64 a0] w fun e w'=>e=.returned (.string r)∧Below w.heap.size w w':=by
 have HB:=Da (Below.refl w.heap.size w)
 have H:((spec_l1Wide.f k (wrap64 (Int.tdiv a0 3600000)) 2).bind fun t116=>(if t116.size+1≤9223372036854775807 then ((spec_l1Wide.f k (Int.tmod (wrap64 (Int.tdiv a0 60000)) 60) 2).bind fun t117=>(if (t116 ++ (⟨#[58]⟩:ByteArray)).size+t117.size≤9223372036854775807 then (if ((t116 ++ (⟨#[58]⟩:ByteArray)) ++ t117).size+1≤9223372036854775807 then ((spec_l1Wide.f k (Int.tmod (wrap64 (Int.tdiv a0 1000)) 60) 2).bind fun t118=>(if (((t116 ++ (⟨#[58]⟩:ByteArray)) ++ t117) ++ (⟨#[58]⟩:ByteArray)).size+t118.size≤9223372036854775807 then (if ((((t116 ++ (⟨#[58]⟩:ByteArray)) ++ t117) ++ (⟨#[58]⟩:ByteArray)) ++ t118).size+1≤9223372036854775807 then ((spec_l1Wide.f k (Int.tmod a0 1000) 3).bind fun t119=>(if (((((t116 ++ (⟨#[58]⟩:ByteArray)) ++ t117) ++ (⟨#[58]⟩:ByteArray)) ++ t118) ++ (⟨#[44]⟩:ByteArray)).size+t119.size≤9223372036854775807 then (some ((((((t116 ++ (⟨#[58]⟩:ByteArray)) ++ t117) ++ (⟨#[58]⟩:ByteArray)) ++ t118) ++ (⟨#[44]⟩:ByteArray)) ++ t119)) else (none))) else (none)) else (none))) else (none)) else (none))) else (none)))=some r:=h
 clear h
 replace H:=Option.bind_eq_some_iff.mp H
 obtain⟨t116,A20,H⟩:=H
 replace H:(if t116.size+1≤9223372036854775807 then ((spec_l1Wide.f k (Int.tmod (wrap64 (Int.tdiv a0 60000)) 60) 2).bind fun t117=>(if (t116 ++ (⟨#[58]⟩:ByteArray)).size+t117.size≤9223372036854775807 then (if ((t116 ++ (⟨#[58]⟩:ByteArray)) ++ t117).size+1≤9223372036854775807 then ((spec_l1Wide.f k (Int.tmod (wrap64 (Int.tdiv a0 1000)) 60) 2).bind fun t118=>(if (((t116 ++ (⟨#[58]⟩:ByteArray)) ++ t117) ++ (⟨#[58]⟩:ByteArray)).size+t118.size≤9223372036854775807 then (if ((((t116 ++ (⟨#[58]⟩:ByteArray)) ++ t117) ++ (⟨#[58]⟩:ByteArray)) ++ t118).size+1≤9223372036854775807 then ((spec_l1Wide.f k (Int.tmod a0 1000) 3).bind fun t119=>(if (((((t116 ++ (⟨#[58]⟩:ByteArray)) ++ t117) ++ (⟨#[58]⟩:ByteArray)) ++ t118) ++ (⟨#[44]⟩:ByteArray)).size+t119.size≤9223372036854775807 then (some ((((((t116 ++ (⟨#[58]⟩:ByteArray)) ++ t117) ++ (⟨#[58]⟩:ByteArray)) ++ t118) ++ (⟨#[44]⟩:ByteArray)) ++ t119)) else (none))) else (none)) else (none))) else (none)) else (none))) else (none))=some r:=H
 have A2:=Da A20
 clear A20
 by_cases c3:t116.size+1≤9223372036854775807
 ·rw [if_pos c3] at H
  have c3b0:=eq_true c3
  have c3b1:decide (t116.size+1≤9223372036854775807)=true:=decide_eq_true c3
  try have c3b2:(9223372036854775807 < t116.size+1)=False:=eq_false (Nat.not_lt.2 c3)
  replace H:=Option.bind_eq_some_iff.mp H
  obtain⟨t117,A40,H⟩:=H
  replace H:(if (t116 ++ (⟨#[58]⟩:ByteArray)).size+t117.size≤9223372036854775807 then (if ((t116 ++ (⟨#[58]⟩:ByteArray)) ++ t117).size+1≤9223372036854775807 then ((spec_l1Wide.f k (Int.tmod (wrap64 (Int.tdiv a0 1000)) 60) 2).bind fun t118=>(if (((t116 ++ (⟨#[58]⟩:ByteArray)) ++ t117) ++ (⟨#[58]⟩:ByteArray)).size+t118.size≤9223372036854775807 then (if ((((t116 ++ (⟨#[58]⟩:ByteArray)) ++ t117) ++ (⟨#[58]⟩:ByteArray)) ++ t118).size+1≤9223372036854775807 then ((spec_l1Wide.f k (Int.tmod a0 1000) 3).bind fun t119=>(if (((((t116 ++ (⟨#[58]⟩:ByteArray)) ++ t117) ++ (⟨#[58]⟩:ByteArray)) ++ t118) ++ (⟨#[44]⟩:ByteArray)).size+t119.size≤9223372036854775807 then (some ((((((t116 ++ (⟨#[58]⟩:ByteArray)) ++ t117) ++ (⟨#[58]⟩:ByteArray)) ++ t118) ++ (⟨#[44]⟩:ByteArray)) ++ t119)) else (none))) else (none)) else (none))) else (none)) else (none))=some r:=H
  have A4:=Da A40
  clear A40
  by_cases c5:(t116 ++ (⟨#[58]⟩:ByteArray)).size+t117.size≤9223372036854775807
  ·rw [if_pos c5] at H
   have c5b0:=eq_true c5
   have c5b1:decide ((t116 ++ (⟨#[58]⟩:ByteArray)).size+t117.size≤9223372036854775807)=true:=decide_eq_true c5
   try have c5b2:(9223372036854775807 < (t116 ++ (⟨#[58]⟩:ByteArray)).size+t117.size)=False:=eq_false (Nat.not_lt.2 c5)
   try have c5b3:(9223372036854775807 < t116.size+1+t117.size)=False:=eq_false (Nat.not_lt.2 (by have h_:=c5;simp only [ByteArray.size_append] at h_;exact h_))
   by_cases c6:((t116 ++ (⟨#[58]⟩:ByteArray)) ++ t117).size+1≤9223372036854775807
   ·rw [if_pos c6] at H
    have c6b0:=eq_true c6
    have c6b1:decide (((t116 ++ (⟨#[58]⟩:ByteArray)) ++ t117).size+1≤9223372036854775807)=true:=decide_eq_true c6
    try have c6b2:(9223372036854775807 < ((t116 ++ (⟨#[58]⟩:ByteArray)) ++ t117).size+1)=False:=eq_false (Nat.not_lt.2 c6)
    try have c6b3:(9223372036854775807 < t116.size+1+t117.size+1)=False:=eq_false (Nat.not_lt.2 (by have h_:=c6;simp only [ByteArray.size_append] at h_;exact h_))
    replace H:=Option.bind_eq_some_iff.mp H
    obtain⟨t118,A70,H⟩:=H
    replace H:(if (((t116 ++ (⟨#[58]⟩:ByteArray)) ++ t117) ++ (⟨#[58]⟩:ByteArray)).size+t118.size≤9223372036854775807 then (if ((((t116 ++ (⟨#[58]⟩:ByteArray)) ++ t117) ++ (⟨#[58]⟩:ByteArray)) ++ t118).size+1≤9223372036854775807 then ((spec_l1Wide.f k (Int.tmod a0 1000) 3).bind fun t119=>(if (((((t116 ++ (⟨#[58]⟩:ByteArray)) ++ t117) ++ (⟨#[58]⟩:ByteArray)) ++ t118) ++ (⟨#[44]⟩:ByteArray)).size+t119.size≤9223372036854775807 then (some ((((((t116 ++ (⟨#[58]⟩:ByteArray)) ++ t117) ++ (⟨#[58]⟩:ByteArray)) ++ t118) ++ (⟨#[44]⟩:ByteArray)) ++ t119)) else (none))) else (none)) else (none))=some r:=H
    have A7:=Da A70
    clear A70
    by_cases c8:(((t116 ++ (⟨#[58]⟩:ByteArray)) ++ t117) ++ (⟨#[58]⟩:ByteArray)).size+t118.size≤9223372036854775807
    ·rw [if_pos c8] at H
     have c8b0:=eq_true c8
     have c8b1:decide ((((t116 ++ (⟨#[58]⟩:ByteArray)) ++ t117) ++ (⟨#[58]⟩:ByteArray)).size+t118.size≤9223372036854775807)=true:=decide_eq_true c8
     try have c8b2:(9223372036854775807 < (((t116 ++ (⟨#[58]⟩:ByteArray)) ++ t117) ++ (⟨#[58]⟩:ByteArray)).size+t118.size)=False:=eq_false (Nat.not_lt.2 c8)
     try have c8b3:(9223372036854775807 < t116.size+1+t117.size+1+t118.size)=False:=eq_false (Nat.not_lt.2 (by have h_:=c8;simp only [ByteArray.size_append] at h_;exact h_))
     by_cases c9:((((t116 ++ (⟨#[58]⟩:ByteArray)) ++ t117) ++ (⟨#[58]⟩:ByteArray)) ++ t118).size+1≤9223372036854775807
     ·rw [if_pos c9] at H
      have c9b0:=eq_true c9
      have c9b1:decide (((((t116 ++ (⟨#[58]⟩:ByteArray)) ++ t117) ++ (⟨#[58]⟩:ByteArray)) ++ t118).size+1≤9223372036854775807)=true:=decide_eq_true c9
      try have c9b2:(9223372036854775807 < ((((t116 ++ (⟨#[58]⟩:ByteArray)) ++ t117) ++ (⟨#[58]⟩:ByteArray)) ++ t118).size+1)=False:=eq_false (Nat.not_lt.2 c9)
      try have c9b3:(9223372036854775807 < t116.size+1+t117.size+1+t118.size+1)=False:=eq_false (Nat.not_lt.2 (by have h_:=c9;simp only [ByteArray.size_append] at h_;exact h_))
      replace H:=Option.bind_eq_some_iff.mp H
      obtain⟨t119,A100,H⟩:=H
      replace H:(if (((((t116 ++ (⟨#[58]⟩:ByteArray)) ++ t117) ++ (⟨#[58]⟩:ByteArray)) ++ t118) ++ (⟨#[44]⟩:ByteArray)).size+t119.size≤9223372036854775807 then (some ((((((t116 ++ (⟨#[58]⟩:ByteArray)) ++ t117) ++ (⟨#[58]⟩:ByteArray)) ++ t118) ++ (⟨#[44]⟩:ByteArray)) ++ t119)) else (none))=some r:=H
      have A10:=Da A100
      clear A100
      by_cases c11:(((((t116 ++ (⟨#[58]⟩:ByteArray)) ++ t117) ++ (⟨#[58]⟩:ByteArray)) ++ t118) ++ (⟨#[44]⟩:ByteArray)).size+t119.size≤9223372036854775807
      ·rw [if_pos c11] at H
       have c11b0:=eq_true c11
       have c11b1:decide ((((((t116 ++ (⟨#[58]⟩:ByteArray)) ++ t117) ++ (⟨#[58]⟩:ByteArray)) ++ t118) ++ (⟨#[44]⟩:ByteArray)).size+t119.size≤9223372036854775807)=true:=decide_eq_true c11
       try have c11b2:(9223372036854775807 < (((((t116 ++ (⟨#[58]⟩:ByteArray)) ++ t117) ++ (⟨#[58]⟩:ByteArray)) ++ t118) ++ (⟨#[44]⟩:ByteArray)).size+t119.size)=False:=eq_false (Nat.not_lt.2 c11)
       try have c11b3:(9223372036854775807 < t116.size+1+t117.size+1+t118.size+1+t119.size)=False:=eq_false (Nat.not_lt.2 (by have h_:=c11;simp only [ByteArray.size_append] at h_;exact h_))
       obtain rfl:=Option.some.inj H
       go_enter Tryd.func23,Tryd.ntmps23
       go_wp2_with (first|((with_reducible refine gate_callee (f:=41) rfl ?_);refine goesL_ (some 5) rfl rfl Tryd.func41 (by kernel_rfl) rfl #[.int .i64 (wrap64 (Int.tdiv a0 3600000)),.int .i64 2] rfl (by(try simp only [List.map_toArray,List.map_cons,List.map_nil]);first|done|rfl|(simp only [List.length_drop,List.length_take];rfl)) ?_;(with_reducible refine(spec_l1Wide.calls k (wrap64 (Int.tdiv a0 3600000)) 2 t116 _ A2.out).mono ?_);rintro e w12 ⟨rfl,hb⟩;refine⟨_,rfl,?_⟩;have n0_:=Da (Di (by repeat(first|(with_reducible first|exact HB.out|apply Dd|apply Db|apply Dc)|exact HB.out)) hb);clear HB;have HB:=n0_;clear n0_;(try clear hb);(try clear hb2);(try clear hk);(try clear hi))|((with_reducible refine gate_callee (f:=41) rfl ?_);refine goesL_ (some 10) rfl rfl Tryd.func41 (by kernel_rfl) rfl #[.int .i64 (Int.tmod (wrap64 (Int.tdiv a0 60000)) 60),.int .i64 2] rfl (by(try simp only [List.map_toArray,List.map_cons,List.map_nil]);first|done|rfl|(simp only [List.length_drop,List.length_take];rfl)) ?_;(with_reducible refine(spec_l1Wide.calls k (Int.tmod (wrap64 (Int.tdiv a0 60000)) 60) 2 t117 _ A4.out).mono ?_);rintro e w13 ⟨rfl,hb⟩;refine⟨_,rfl,?_⟩;have n0_:=Da (Di (by repeat(first|(with_reducible first|exact HB.out|apply Dd|apply Db|apply Dc)|exact HB.out)) hb);clear HB;have HB:=n0_;clear n0_;(try clear hb);(try clear hb2);(try clear hk);(try clear hi))|((with_reducible refine gate_callee (f:=41) rfl ?_);refine goesL_ (some 16) rfl rfl Tryd.func41 (by kernel_rfl) rfl #[.int .i64 (Int.tmod (wrap64 (Int.tdiv a0 1000)) 60),.int .i64 2] rfl (by(try simp only [List.map_toArray,List.map_cons,List.map_nil]);first|done|rfl|(simp only [List.length_drop,List.length_take];rfl)) ?_;(with_reducible refine(spec_l1Wide.calls k (Int.tmod (wrap64 (Int.tdiv a0 1000)) 60) 2 t118 _ A7.out).mono ?_);rintro e w14 ⟨rfl,hb⟩;refine⟨_,rfl,?_⟩;have n0_:=Da (Di (by repeat(first|(with_reducible first|exact HB.out|apply Dd|apply Db|apply Dc)|exact HB.out)) hb);clear HB;have HB:=n0_;clear n0_;(try clear hb);(try clear hb2);(try clear hk);(try clear hi))|((with_reducible refine gate_callee (f:=41) rfl ?_);refine goesL_ (some 21) rfl rfl Tryd.func41 (by kernel_rfl) rfl #[.int .i64 (Int.tmod a0 1000),.int .i64 3] rfl (by(try simp only [List.map_toArray,List.map_cons,List.map_nil]);first|done|rfl|(simp only [List.length_drop,List.length_take];rfl)) ?_;(with_reducible refine(spec_l1Wide.calls k (Int.tmod a0 1000) 3 t119 _ A10.out).mono ?_);rintro e w15 ⟨rfl,hb⟩;refine⟨_,rfl,?_⟩;have n0_:=Da (Di (by repeat(first|(with_reducible first|exact HB.out|apply Dd|apply Db|apply Dc)|exact HB.out)) hb);clear HB;have HB:=n0_;clear n0_;(try clear hb);(try clear hb2);(try clear hk);(try clear hi)))
       go_ret
       exact⟨by first|rfl|(simp [errW_none,errW_some] <;> rfl)|(simp [*,errW_none,errW_some] <;> rfl),by repeat(first|(with_reducible first|exact HB.out|apply Dd|apply Db|apply Dc)|exact HB.out)⟩
      ·rw [if_neg c11] at H
       exact absurd H (by simp)
     ·rw [if_neg c9] at H
      exact absurd H (by simp)
    ·rw [if_neg c8] at H
     exact absurd H (by simp)
   ·rw [if_neg c6] at H
    exact absurd H (by simp)
  ·rw [if_neg c5] at H
   exact absurd H (by simp)
 ·rw [if_neg c3] at H
  exact absurd H (by simp)

/-! ### spec_ShowTitles: function 7 -/
mutual
def spec_ShowTitles.l0 : Nat → List (S40) → List Int → Int → Option (ByteArray)
 | 0, _, _, _ => none
 | k + 1, x0, x3, x4 => if x4 < (x0.length : Int) then ((spec_TitlesOk.f k x0).bind fun t123 => (spec_ShowTitles.j1 k x0 x3 x4 t123)) else (spec_ShowTitles.j1 k x0 x3 x4 false)
def spec_ShowTitles.j1 : Nat → List (S40) → List Int → Int → Bool → Option (ByteArray)
 | 0, _, _, _, _ => none
 | k + 1, x0, x3, x4, x14 => if x14 = true then (if 0 ≤ x4 then (if x4 < (x0.length : Int) then ((spec_l1Int.f k (wrap64 (x4 + 1))).bind fun t126 => (if t126.size + 1 ≤ 9223372036854775807 then ((spec_l12Time.f k ((rd_T40 x0 x4).f0)).bind fun t127 => (if (t126 ++ (⟨#[10]⟩ : ByteArray)).size + t127.size ≤ 9223372036854775807 then (if ((t126 ++ (⟨#[10]⟩ : ByteArray)) ++ t127).size + 5 ≤ 9223372036854775807 then ((spec_l12Time.f k ((rd_T40 x0 x4).f1)).bind fun t128 => (if (((t126 ++ (⟨#[10]⟩ : ByteArray)) ++ t127) ++ (⟨#[32, 45, 45, 62, 32]⟩ : ByteArray)).size + t128.size ≤ 9223372036854775807 then (if ((((t126 ++ (⟨#[10]⟩ : ByteArray)) ++ t127) ++ (⟨#[32, 45, 45, 62, 32]⟩ : ByteArray)) ++ t128).size + 1 ≤ 9223372036854775807 then (if (((((t126 ++ (⟨#[10]⟩ : ByteArray)) ++ t127) ++ (⟨#[32, 45, 45, 62, 32]⟩ : ByteArray)) ++ t128) ++ (⟨#[10]⟩ : ByteArray)).size + ((rd_T40 x0 x4).f2).size ≤ 9223372036854775807 then (if ((((((t126 ++ (⟨#[10]⟩ : ByteArray)) ++ t127) ++ (⟨#[32, 45, 45, 62, 32]⟩ : ByteArray)) ++ t128) ++ (⟨#[10]⟩ : ByteArray)) ++ ((rd_T40 x0 x4).f2)).size + 2 ≤ 9223372036854775807 then (if x3.length + (((((((t126 ++ (⟨#[10]⟩ : ByteArray)) ++ t127) ++ (⟨#[32, 45, 45, 62, 32]⟩ : ByteArray)) ++ t128) ++ (⟨#[10]⟩ : ByteArray)) ++ ((rd_T40 x0 x4).f2)) ++ (⟨#[10, 10]⟩ : ByteArray)).size < 140737488355328 then (spec_ShowTitles.l0 k x0 (x3 ++ bytesOf (((((((t126 ++ (⟨#[10]⟩ : ByteArray)) ++ t127) ++ (⟨#[32, 45, 45, 62, 32]⟩ : ByteArray)) ++ t128) ++ (⟨#[10]⟩ : ByteArray)) ++ ((rd_T40 x0 x4).f2)) ++ (⟨#[10, 10]⟩ : ByteArray))) (wrap64 (x4 + 1))) else (none)) else (none)) else (none)) else (none)) else (none))) else (none)) else (none))) else (none))) else (none)) else (none)) else (some (strOfNums x3))
end
def spec_ShowTitles.f (k : Nat) (l0 : List (S40)) : Option (ByteArray) := spec_ShowTitles.l0 k l0 (([] : List Int)) 0
theorem spec_ShowTitles.mono_l : ∀ k, (∀ y0 y1 y2, LeO (spec_ShowTitles.l0 k y0 y1 y2) (spec_ShowTitles.l0 (k + 1) y0 y1 y2)) ∧ (∀ y0 y1 y2 y3, LeO (spec_ShowTitles.j1 k y0 y1 y2 y3) (spec_ShowTitles.j1 (k + 1) y0 y1 y2 y3))
 | 0 => ⟨fun _ _ _ r h => by simp [spec_ShowTitles.l0] at h, fun _ _ _ _ r h => by simp [spec_ShowTitles.j1] at h⟩
 | k + 1 => by
  obtain⟨ih0,ih1⟩:=spec_ShowTitles.mono_l k
  refine⟨?_,?_⟩
  ·intro y0 y1 y2
   unfold spec_ShowTitles.l0
   repeat' first
   | (with_reducible exact ih0 _ _ _)
   | (with_reducible exact ih1 _ _ _ _)
   | (with_reducible exact spec_TitlesOk.mono _ _)
   | (with_reducible exact spec_l12Time.mono _ _)
   | (with_reducible exact spec_l1Int.mono _ _)
   | (with_reducible exact LeO.refl _)
   | (with_reducible exact LeO.none _)
   | (with_reducible refine LeO.ite ?_ ?_)
   | (with_reducible refine LeO.bind ?_ (fun _ => ?_))
   | exact ih0 _ _ _
   | exact ih1 _ _ _ _
   | exact spec_TitlesOk.mono _ _
   | exact spec_l12Time.mono _ _
   | exact spec_l1Int.mono _ _
   | exact LeO.none _
   | refine LeO.ite ?_ ?_
   | refine LeO.bind ?_ (fun _ => ?_)
  ·intro y0 y1 y2 y3
   unfold spec_ShowTitles.j1
   repeat' first
   | (with_reducible exact ih0 _ _ _)
   | (with_reducible exact ih1 _ _ _ _)
   | (with_reducible exact spec_TitlesOk.mono _ _)
   | (with_reducible exact spec_l12Time.mono _ _)
   | (with_reducible exact spec_l1Int.mono _ _)
   | (with_reducible exact LeO.refl _)
   | (with_reducible exact LeO.none _)
   | (with_reducible refine LeO.ite ?_ ?_)
   | (with_reducible refine LeO.bind ?_ (fun _ => ?_))
   | exact ih0 _ _ _
   | exact ih1 _ _ _ _
   | exact spec_TitlesOk.mono _ _
   | exact spec_l12Time.mono _ _
   | exact spec_l1Int.mono _ _
   | exact LeO.none _
   | refine LeO.ite ?_ ?_
   | refine LeO.bind ?_ (fun _ => ?_)
theorem spec_ShowTitles.mono : ∀ a0 k, LeO (spec_ShowTitles.f k a0) (spec_ShowTitles.f (k + 1) a0) := by
 intro a0 k
 obtain⟨ih0,ih1⟩:=spec_ShowTitles.mono_l k
 unfold spec_ShowTitles.f
 repeat' first
   | (with_reducible exact ih0 _ _ _)
   | (with_reducible exact ih1 _ _ _ _)
   | (with_reducible exact spec_TitlesOk.mono _ _)
   | (with_reducible exact spec_l12Time.mono _ _)
   | (with_reducible exact spec_l1Int.mono _ _)
   | (with_reducible exact LeO.refl _)
   | (with_reducible exact LeO.none _)
   | (with_reducible refine LeO.ite ?_ ?_)
   | (with_reducible refine LeO.bind ?_ (fun _ => ?_))
   | exact ih0 _ _ _
   | exact ih1 _ _ _ _
   | exact spec_TitlesOk.mono _ _
   | exact spec_l12Time.mono _ _
   | exact spec_l1Int.mono _ _
   | exact LeO.none _
   | refine LeO.ite ?_ ?_
   | refine LeO.bind ?_ (fun _ => ?_)
def spec_ShowTitles.T6 : Bool × List (List Nat × List Nat) := (true, [([], []), ([], []), ([1], [1]), ([2], [2]), ([3], [3]), ([], []), ([5], [5]), ([6, 3], [6]), ([4, 7], [4, 7]), ([8], [8]), ([], []), ([10], [10]), ([11, 7], [11]), ([9, 12], [9, 12]), ([13], [13]), ([], []), ([15], [15]), ([14, 16], [14, 16]), ([17], [17]), ([0, 18, 12], [0, 18]), ([19, 19, 0, 1, 2, 3, 4, 5, 6, 7, 8, 9, 10, 11, 12, 13, 14, 15, 16, 17, 18, 19], [0, 19])])
def spec_ShowTitles.B6 : List Nat := [0, 0, 2, 6, 14, 0, 32, 110, 254, 510, 0, 1024, 3310, 8190, 16382, 0, 32768, 131070, 262142, 524287, 1048575]
theorem spec_ShowTitles.tab6 : rtab .any (opsOf Tryd.f7 6) = spec_ShowTitles.T6 := by kernel_rfl
theorem spec_ShowTitles.bits6 : waitsOk spec_ShowTitles.T6.2 spec_ShowTitles.B6 = true := by kernel_rfl
set_option maxHeartbeats 8000000 in
set_option maxRecDepth 100000 in
theorem spec_ShowTitles.calls (k : Nat) (A0 : Option Addr) (c0 : Nat) (l0 : List (S40)) (r : ByteArray) (w : World) (hr0 : Kd.C k40 w A0 l0.length l0) (hc0 : l0.length ≤ c0) (h : spec_ShowTitles.f k l0 = some r) :
  Calls Tryd.prog 7 #[.slice A0 l0.length c0] w fun e w'=>e=.returned (.string r)∧Below w.heap.size w w':=by
 have hu40:=Tryd.underlying40
 have HR0:=Da hr0
 have HC0:=Da hc0
 clear hr0 hc0
 have HB:=Da (Below.refl w.heap.size w)
 have H:(spec_ShowTitles.l0 k l0 (([]:List Int)) 0)=some r:=h
 clear h
 obtain⟨y120,hy120⟩:∃ y_:List Int,y_=(([]:List Int)):=⟨_,rfl⟩
 replace H:(spec_ShowTitles.l0 k l0 y120 0)=some r:=by first|(rw [hy120];with_reducible exact H)|(have H2_:=(Option.bind_some _ _).symm.trans H;rw [hy120];with_reducible exact H2_)|(have H2_:=(Option.bind_some _ _).symm.trans H;with_reducible exact H2_)|with_reducible exact H|(rw [hy120];exact H)|exact H
 have Ny120:=Da hy120
 clear hy120
 have H':=Da H
 clear H
 go_enter Tryd.func7,Tryd.ntmps7
 go_wp2_with (first|((with_reducible refine gate_dst (N:=6) rfl ?_);refine Kd.R_lit (Kd.int .u8) _ 5 ?hg (N:=6) ?hd (xs:=([]:List Int)) (inner:=[]) (ok:=fun _=>True) (okp:=fun _=>True) ?hr ?hp (fun _ hk=>hk) trivial (Below.refl _ _) (Nat.le_refl _) (by simp) ?_;(case hd=>rfl);(case hg=>rfl);(case hr=>first|(go_simp;done)|(go_simp;rfl));(case hp=>exact(Reps.none _ _));intro v121 w2 ho3 hb hg_ hnew_;clear hg_ hnew_;(first|rw [← Ny120.out] at ho3|(simp only [Int.reduceToNat] at ho3;rw [← Ny120.out] at ho3));have n0_:=Da (Kd.R_lower ho3 (below_size (by repeat(first|(with_reducible first|exact HB.out|apply Dd|apply Db|apply Dc)|exact HB.out))));have n1_:=Da (Di (by repeat(first|(with_reducible first|exact HB.out|apply Dd|apply Db|apply Dc)|exact HB.out)) hb);clear HB;have HO122:=n0_;have HB:=n1_;clear n0_ n1_;clear hb ho3))
 go_loopg [3,4] k (fun kq v3 v4 w'=>∃ (x3_1:List Int) (qa:Int),v4=.int .i64 qa∧Aside0 (spec_ShowTitles.l0 kq l0 x3_1 qa=some r)∧Aside0 (kq≤k)∧Aside0 (Kd.R (Kd.int .u8) 5 w' w.heap.size (fun _=>True) v3 x3_1)∧Aside0 (Below w.heap.size w w'))
 case atStart=>exact⟨(y120),(0),(by first|rfl|(simp;done)|(simp [*];done)),H',⟨Nat.le_refl _⟩,⟨by(with_reducible repeat(first|apply Kd.R_alloc|apply Kd.R_drewN|apply Kd.R_drew));exact HO122.out⟩,⟨by repeat(first|(with_reducible first|exact HB.out|apply Dd|apply Db|apply Dc)|exact HB.out)⟩⟩
 case round=>
  clear H'
  try clear p2
  obtain⟨x3_1,qa,rfl,HA,HK1,qd,HB⟩:=hrel
  cases gk with
  | zero => exact absurd HA.out (by simp [spec_ShowTitles.l0])
  | succ k1 =>
   have H:=HA.out
   clear HA
   simp only [spec_ShowTitles.l0] at H
   have HC4:=Da H
   clear H
   go_upto_region 3 with (fail)
   go_cut [14] (fun v14 wc=>∃ (kq:Nat) (x14_3:Bool),v14=.bool x14_3∧Aside0 (spec_ShowTitles.j1 kq l0 x3_1 qa x14_3=some r)∧Aside0 (kq≤k1)∧Aside0 (Kd.R (Kd.int .u8) 5 wc w.heap.size (fun _=>True) u3 x3_1)∧Aside0 (Below w.heap.size w wc))
   case first=>
    have H:=HC4.out
    clear HC4
    by_cases c5:qa < (l0.length:Int)
    ·rw [if_pos c5] at H
     have c5b0:decide (qa < (l0.length:Int))=true:=decide_eq_true c5
     clear c5
     (first|rw [c5b0]|(simp only [i64_w,i32_w];rw [c5b0])|skip)
     replace H:=Option.bind_eq_some_iff.mp H
     obtain⟨t123,A60,H⟩:=H
     replace H:(spec_ShowTitles.j1 k1 l0 x3_1 qa t123)=some r:=H
     have A6:=Da A60
     clear A60
     have H':=Da H
     clear H
     go_wp2_with (first|(go_at_call 21;(with_reducible refine(spec_TitlesOk.calls k1 _ _ l0 t123 _ ?side1 ?side2 A6.out).mono ?_);(case side1=>repeat(first|exact(Kd.C_below HR0.out HB.out)|(with_reducible refine Kd.C_alloc ?_ _)|(with_reducible refine Kd.C_drewN ?_ _)|(with_reducible refine Kd.C_drew ?_)));(case side2=>exact HC0.out);rintro e w7 ⟨rfl,hb⟩;have n0_:=Da (Kd.R_below (by(with_reducible repeat(first|apply Kd.R_alloc|apply Kd.R_drewN|apply Kd.R_drew));exact qd.out) hb);have n1_:=Da (Di (by repeat(first|(with_reducible first|exact HB.out|apply Dd|apply Db|apply Dc)|exact HB.out)) hb);clear qd;clear HB;have qd:=n0_;have HB:=n1_;clear n0_ n1_;(try clear hb);(try clear hb2);(try clear hk);(try clear hi)))
     go_meet
     case rel=>exact⟨_,(t123),(by first|rfl|(simp;done)|(simp [*];done)),H',⟨by have:=HK1.out;first|omega|exact Nat.le_refl _⟩,⟨by(with_reducible repeat(first|apply Kd.R_alloc|apply Kd.R_drewN|apply Kd.R_drew));exact qd.out⟩,⟨by repeat(first|(with_reducible first|exact HB.out|apply Dd|apply Db|apply Dc)|exact HB.out)⟩⟩
    ·rw [if_neg c5] at H
     have c5b0:decide (qa < (l0.length:Int))=false:=decide_eq_false c5
     clear c5
     (first|rw [c5b0]|(simp only [i64_w,i32_w];rw [c5b0])|skip)
     have H':=Da H
     clear H
     go_wp2
     go_meet
     case rel=>exact⟨_,(false),(by first|rfl|(simp;done)|(simp [*];done)),H',⟨by have:=HK1.out;first|omega|exact Nat.le_refl _⟩,⟨by(with_reducible repeat(first|apply Kd.R_alloc|apply Kd.R_drewN|apply Kd.R_drew));exact qd.out⟩,⟨by repeat(first|(with_reducible first|exact HB.out|apply Dd|apply Db|apply Dc)|exact HB.out)⟩⟩
   case rest=>
    clear HC4
    try clear p2
    try clear c5
    try clear c5b0
    try clear c7
    try clear p2
    obtain⟨kq,x14_3,rfl,HA,HJ3,qd,HB⟩:=hcut
    cases kq with
    | zero => exact absurd HA.out (by simp [spec_ShowTitles.j1])
    | succ kj3 =>
     have H:=HA.out
     clear HA
     simp only [spec_ShowTitles.j1] at H
     by_cases c8:x14_3=true
     ·subst c8
      have H1:(if 0≤qa then (if qa < (l0.length:Int) then ((spec_l1Int.f kj3 (wrap64 (qa+1))).bind fun t126=>(if t126.size+1≤9223372036854775807 then ((spec_l12Time.f kj3 ((rd_T40 l0 qa).f0)).bind fun t127=>(if (t126 ++ (⟨#[10]⟩:ByteArray)).size+t127.size≤9223372036854775807 then (if ((t126 ++ (⟨#[10]⟩:ByteArray)) ++ t127).size+5≤9223372036854775807 then ((spec_l12Time.f kj3 ((rd_T40 l0 qa).f1)).bind fun t128=>(if (((t126 ++ (⟨#[10]⟩:ByteArray)) ++ t127) ++ (⟨#[32,45,45,62,32]⟩:ByteArray)).size+t128.size≤9223372036854775807 then (if ((((t126 ++ (⟨#[10]⟩:ByteArray)) ++ t127) ++ (⟨#[32,45,45,62,32]⟩:ByteArray)) ++ t128).size+1≤9223372036854775807 then (if (((((t126 ++ (⟨#[10]⟩:ByteArray)) ++ t127) ++ (⟨#[32,45,45,62,32]⟩:ByteArray)) ++ t128) ++ (⟨#[10]⟩:ByteArray)).size+((rd_T40 l0 qa).f2).size≤9223372036854775807 then (if ((((((t126 ++ (⟨#[10]⟩:ByteArray)) ++ t127) ++ (⟨#[32,45,45,62,32]⟩:ByteArray)) ++ t128) ++ (⟨#[10]⟩:ByteArray)) ++ ((rd_T40 l0 qa).f2)).size+2≤9223372036854775807 then (if x3_1.length+(((((((t126 ++ (⟨#[10]⟩:ByteArray)) ++ t127) ++ (⟨#[32,45,45,62,32]⟩:ByteArray)) ++ t128) ++ (⟨#[10]⟩:ByteArray)) ++ ((rd_T40 l0 qa).f2)) ++ (⟨#[10,10]⟩:ByteArray)).size < 140737488355328 then (spec_ShowTitles.l0 kj3 l0 (x3_1 ++ bytesOf (((((((t126 ++ (⟨#[10]⟩:ByteArray)) ++ t127) ++ (⟨#[32,45,45,62,32]⟩:ByteArray)) ++ t128) ++ (⟨#[10]⟩:ByteArray)) ++ ((rd_T40 l0 qa).f2)) ++ (⟨#[10,10]⟩:ByteArray))) (wrap64 (qa+1))) else (none)) else (none)) else (none)) else (none)) else (none))) else (none)) else (none))) else (none))) else (none)) else (none))=some r:=by rw [if_pos rfl] at H;exact H
      clear H
      have H:=H1
      clear H1
      by_cases c9:0≤qa
      ·rw [if_pos c9] at H
       have c9b0:decide (0≤qa)=true:=decide_eq_true c9
       clear c9
       by_cases c10:qa < (l0.length:Int)
       ·rw [if_pos c10] at H
        have c10b0:decide (qa < (l0.length:Int))=true:=decide_eq_true c10
        clear c10
        replace H:=Option.bind_eq_some_iff.mp H
        obtain⟨t126,A110,H⟩:=H
        replace H:(if t126.size+1≤9223372036854775807 then ((spec_l12Time.f kj3 ((rd_T40 l0 qa).f0)).bind fun t127=>(if (t126 ++ (⟨#[10]⟩:ByteArray)).size+t127.size≤9223372036854775807 then (if ((t126 ++ (⟨#[10]⟩:ByteArray)) ++ t127).size+5≤9223372036854775807 then ((spec_l12Time.f kj3 ((rd_T40 l0 qa).f1)).bind fun t128=>(if (((t126 ++ (⟨#[10]⟩:ByteArray)) ++ t127) ++ (⟨#[32,45,45,62,32]⟩:ByteArray)).size+t128.size≤9223372036854775807 then (if ((((t126 ++ (⟨#[10]⟩:ByteArray)) ++ t127) ++ (⟨#[32,45,45,62,32]⟩:ByteArray)) ++ t128).size+1≤9223372036854775807 then (if (((((t126 ++ (⟨#[10]⟩:ByteArray)) ++ t127) ++ (⟨#[32,45,45,62,32]⟩:ByteArray)) ++ t128) ++ (⟨#[10]⟩:ByteArray)).size+((rd_T40 l0 qa).f2).size≤9223372036854775807 then (if ((((((t126 ++ (⟨#[10]⟩:ByteArray)) ++ t127) ++ (⟨#[32,45,45,62,32]⟩:ByteArray)) ++ t128) ++ (⟨#[10]⟩:ByteArray)) ++ ((rd_T40 l0 qa).f2)).size+2≤9223372036854775807 then (if x3_1.length+(((((((t126 ++ (⟨#[10]⟩:ByteArray)) ++ t127) ++ (⟨#[32,45,45,62,32]⟩:ByteArray)) ++ t128) ++ (⟨#[10]⟩:ByteArray)) ++ ((rd_T40 l0 qa).f2)) ++ (⟨#[10,10]⟩:ByteArray)).size < 140737488355328 then (spec_ShowTitles.l0 kj3 l0 (x3_1 ++ bytesOf (((((((t126 ++ (⟨#[10]⟩:ByteArray)) ++ t127) ++ (⟨#[32,45,45,62,32]⟩:ByteArray)) ++ t128) ++ (⟨#[10]⟩:ByteArray)) ++ ((rd_T40 l0 qa).f2)) ++ (⟨#[10,10]⟩:ByteArray))) (wrap64 (qa+1))) else (none)) else (none)) else (none)) else (none)) else (none))) else (none)) else (none))) else (none))=some r:=H
        have A11:=Da A110
        clear A110
        by_cases c12:t126.size+1≤9223372036854775807
        ·rw [if_pos c12] at H
         have c12b0:=eq_true c12
         have c12b1:decide (t126.size+1≤9223372036854775807)=true:=decide_eq_true c12
         try have c12b2:(9223372036854775807 < t126.size+1)=False:=eq_false (Nat.not_lt.2 c12)
         replace H:=Option.bind_eq_some_iff.mp H
         obtain⟨t127,A130,H⟩:=H
         replace H:(if (t126 ++ (⟨#[10]⟩:ByteArray)).size+t127.size≤9223372036854775807 then (if ((t126 ++ (⟨#[10]⟩:ByteArray)) ++ t127).size+5≤9223372036854775807 then ((spec_l12Time.f kj3 ((rd_T40 l0 qa).f1)).bind fun t128=>(if (((t126 ++ (⟨#[10]⟩:ByteArray)) ++ t127) ++ (⟨#[32,45,45,62,32]⟩:ByteArray)).size+t128.size≤9223372036854775807 then (if ((((t126 ++ (⟨#[10]⟩:ByteArray)) ++ t127) ++ (⟨#[32,45,45,62,32]⟩:ByteArray)) ++ t128).size+1≤9223372036854775807 then (if (((((t126 ++ (⟨#[10]⟩:ByteArray)) ++ t127) ++ (⟨#[32,45,45,62,32]⟩:ByteArray)) ++ t128) ++ (⟨#[10]⟩:ByteArray)).size+((rd_T40 l0 qa).f2).size≤9223372036854775807 then (if ((((((t126 ++ (⟨#[10]⟩:ByteArray)) ++ t127) ++ (⟨#[32,45,45,62,32]⟩:ByteArray)) ++ t128) ++ (⟨#[10]⟩:ByteArray)) ++ ((rd_T40 l0 qa).f2)).size+2≤9223372036854775807 then (if x3_1.length+(((((((t126 ++ (⟨#[10]⟩:ByteArray)) ++ t127) ++ (⟨#[32,45,45,62,32]⟩:ByteArray)) ++ t128) ++ (⟨#[10]⟩:ByteArray)) ++ ((rd_T40 l0 qa).f2)) ++ (⟨#[10,10]⟩:ByteArray)).size < 140737488355328 then (spec_ShowTitles.l0 kj3 l0 (x3_1 ++ bytesOf (((((((t126 ++ (⟨#[10]⟩:ByteArray)) ++ t127) ++ (⟨#[32,45,45,62,32]⟩:ByteArray)) ++ t128) ++ (⟨#[10]⟩:ByteArray)) ++ ((rd_T40 l0 qa).f2)) ++ (⟨#[10,10]⟩:ByteArray))) (wrap64 (qa+1))) else (none)) else (none)) else (none)) else (none)) else (none))) else (none)) else (none))=some r:=H
         have A13:=Da A130
         clear A130
         by_cases c14:(t126 ++ (⟨#[10]⟩:ByteArray)).size+t127.size≤9223372036854775807
         ·rw [if_pos c14] at H
          have c14b0:=eq_true c14
          have c14b1:decide ((t126 ++ (⟨#[10]⟩:ByteArray)).size+t127.size≤9223372036854775807)=true:=decide_eq_true c14
          try have c14b2:(9223372036854775807 < (t126 ++ (⟨#[10]⟩:ByteArray)).size+t127.size)=False:=eq_false (Nat.not_lt.2 c14)
          try have c14b3:(9223372036854775807 < t126.size+1+t127.size)=False:=eq_false (Nat.not_lt.2 (by have h_:=c14;simp only [ByteArray.size_append] at h_;exact h_))
          by_cases c15:((t126 ++ (⟨#[10]⟩:ByteArray)) ++ t127).size+5≤9223372036854775807
          ·rw [if_pos c15] at H
           have c15b0:=eq_true c15
           have c15b1:decide (((t126 ++ (⟨#[10]⟩:ByteArray)) ++ t127).size+5≤9223372036854775807)=true:=decide_eq_true c15
           try have c15b2:(9223372036854775807 < ((t126 ++ (⟨#[10]⟩:ByteArray)) ++ t127).size+5)=False:=eq_false (Nat.not_lt.2 c15)
           try have c15b3:(9223372036854775807 < t126.size+1+t127.size+5)=False:=eq_false (Nat.not_lt.2 (by have h_:=c15;simp only [ByteArray.size_append] at h_;exact h_))
           replace H:=Option.bind_eq_some_iff.mp H
           obtain⟨t128,A160,H⟩:=H
           replace H:(if (((t126 ++ (⟨#[10]⟩:ByteArray)) ++ t127) ++ (⟨#[32,45,45,62,32]⟩:ByteArray)).size+t128.size≤9223372036854775807 then (if ((((t126 ++ (⟨#[10]⟩:ByteArray)) ++ t127) ++ (⟨#[32,45,45,62,32]⟩:ByteArray)) ++ t128).size+1≤9223372036854775807 then (if (((((t126 ++ (⟨#[10]⟩:ByteArray)) ++ t127) ++ (⟨#[32,45,45,62,32]⟩:ByteArray)) ++ t128) ++ (⟨#[10]⟩:ByteArray)).size+((rd_T40 l0 qa).f2).size≤9223372036854775807 then (if ((((((t126 ++ (⟨#[10]⟩:ByteArray)) ++ t127) ++ (⟨#[32,45,45,62,32]⟩:ByteArray)) ++ t128) ++ (⟨#[10]⟩:ByteArray)) ++ ((rd_T40 l0 qa).f2)).size+2≤9223372036854775807 then (if x3_1.length+(((((((t126 ++ (⟨#[10]⟩:ByteArray)) ++ t127) ++ (⟨#[32,45,45,62,32]⟩:ByteArray)) ++ t128) ++ (⟨#[10]⟩:ByteArray)) ++ ((rd_T40 l0 qa).f2)) ++ (⟨#[10,10]⟩:ByteArray)).size < 140737488355328 then (spec_ShowTitles.l0 kj3 l0 (x3_1 ++ bytesOf (((((((t126 ++ (⟨#[10]⟩:ByteArray)) ++ t127) ++ (⟨#[32,45,45,62,32]⟩:ByteArray)) ++ t128) ++ (⟨#[10]⟩:ByteArray)) ++ ((rd_T40 l0 qa).f2)) ++ (⟨#[10,10]⟩:ByteArray))) (wrap64 (qa+1))) else (none)) else (none)) else (none)) else (none)) else (none))=some r:=H
           have A16:=Da A160
           clear A160
           by_cases c17:(((t126 ++ (⟨#[10]⟩:ByteArray)) ++ t127) ++ (⟨#[32,45,45,62,32]⟩:ByteArray)).size+t128.size≤9223372036854775807
           ·rw [if_pos c17] at H
            have c17b0:=eq_true c17
            have c17b1:decide ((((t126 ++ (⟨#[10]⟩:ByteArray)) ++ t127) ++ (⟨#[32,45,45,62,32]⟩:ByteArray)).size+t128.size≤9223372036854775807)=true:=decide_eq_true c17
            try have c17b2:(9223372036854775807 < (((t126 ++ (⟨#[10]⟩:ByteArray)) ++ t127) ++ (⟨#[32,45,45,62,32]⟩:ByteArray)).size+t128.size)=False:=eq_false (Nat.not_lt.2 c17)
            try have c17b3:(9223372036854775807 < t126.size+1+t127.size+5+t128.size)=False:=eq_false (Nat.not_lt.2 (by have h_:=c17;simp only [ByteArray.size_append] at h_;exact h_))
            by_cases c18:((((t126 ++ (⟨#[10]⟩:ByteArray)) ++ t127) ++ (⟨#[32,45,45,62,32]⟩:ByteArray)) ++ t128).size+1≤9223372036854775807
            ·rw [if_pos c18] at H
             have c18b0:=eq_true c18
             have c18b1:decide (((((t126 ++ (⟨#[10]⟩:ByteArray)) ++ t127) ++ (⟨#[32,45,45,62,32]⟩:ByteArray)) ++ t128).size+1≤9223372036854775807)=true:=decide_eq_true c18
             try have c18b2:(9223372036854775807 < ((((t126 ++ (⟨#[10]⟩:ByteArray)) ++ t127) ++ (⟨#[32,45,45,62,32]⟩:ByteArray)) ++ t128).size+1)=False:=eq_false (Nat.not_lt.2 c18)
             try have c18b3:(9223372036854775807 < t126.size+1+t127.size+5+t128.size+1)=False:=eq_false (Nat.not_lt.2 (by have h_:=c18;simp only [ByteArray.size_append] at h_;exact h_))
             by_cases c19:(((((t126 ++ (⟨#[10]⟩:ByteArray)) ++ t127) ++ (⟨#[32,45,45,62,32]⟩:ByteArray)) ++ t128) ++ (⟨#[10]⟩:ByteArray)).size+((rd_T40 l0 qa).f2).size≤9223372036854775807
             ·rw [if_pos c19] at H
              have c19b0:=eq_true c19
              have c19b1:decide ((((((t126 ++ (⟨#[10]⟩:ByteArray)) ++ t127) ++ (⟨#[32,45,45,62,32]⟩:ByteArray)) ++ t128) ++ (⟨#[10]⟩:ByteArray)).size+((rd_T40 l0 qa).f2).size≤9223372036854775807)=true:=decide_eq_true c19
              try have c19b2:(9223372036854775807 < (((((t126 ++ (⟨#[10]⟩:ByteArray)) ++ t127) ++ (⟨#[32,45,45,62,32]⟩:ByteArray)) ++ t128) ++ (⟨#[10]⟩:ByteArray)).size+((rd_T40 l0 qa).f2).size)=False:=eq_false (Nat.not_lt.2 c19)
              try have c19b3:(9223372036854775807 < t126.size+1+t127.size+5+t128.size+1+(rd_T40 l0 qa).f2.size)=False:=eq_false (Nat.not_lt.2 (by have h_:=c19;simp only [ByteArray.size_append] at h_;exact h_))
              by_cases c20:((((((t126 ++ (⟨#[10]⟩:ByteArray)) ++ t127) ++ (⟨#[32,45,45,62,32]⟩:ByteArray)) ++ t128) ++ (⟨#[10]⟩:ByteArray)) ++ ((rd_T40 l0 qa).f2)).size+2≤9223372036854775807
              ·rw [if_pos c20] at H
               have c20b0:=eq_true c20
               have c20b1:decide (((((((t126 ++ (⟨#[10]⟩:ByteArray)) ++ t127) ++ (⟨#[32,45,45,62,32]⟩:ByteArray)) ++ t128) ++ (⟨#[10]⟩:ByteArray)) ++ ((rd_T40 l0 qa).f2)).size+2≤9223372036854775807)=true:=decide_eq_true c20
               try have c20b2:(9223372036854775807 < ((((((t126 ++ (⟨#[10]⟩:ByteArray)) ++ t127) ++ (⟨#[32,45,45,62,32]⟩:ByteArray)) ++ t128) ++ (⟨#[10]⟩:ByteArray)) ++ ((rd_T40 l0 qa).f2)).size+2)=False:=eq_false (Nat.not_lt.2 c20)
               try have c20b3:(9223372036854775807 < t126.size+1+t127.size+5+t128.size+1+(rd_T40 l0 qa).f2.size+2)=False:=eq_false (Nat.not_lt.2 (by have h_:=c20;simp only [ByteArray.size_append] at h_;exact h_))
               by_cases c21:x3_1.length+(((((((t126 ++ (⟨#[10]⟩:ByteArray)) ++ t127) ++ (⟨#[32,45,45,62,32]⟩:ByteArray)) ++ t128) ++ (⟨#[10]⟩:ByteArray)) ++ ((rd_T40 l0 qa).f2)) ++ (⟨#[10,10]⟩:ByteArray)).size < 140737488355328
               ·rw [if_pos c21] at H
                have LMc21:=Da c21
                clear c21
                obtain⟨y129,hy129⟩:∃ y_:List Int,y_=(x3_1 ++ bytesOf (((((((t126 ++ (⟨#[10]⟩:ByteArray)) ++ t127) ++ (⟨#[32,45,45,62,32]⟩:ByteArray)) ++ t128) ++ (⟨#[10]⟩:ByteArray)) ++ ((rd_T40 l0 qa).f2)) ++ (⟨#[10,10]⟩:ByteArray))):=⟨_,rfl⟩
                replace H:(spec_ShowTitles.l0 kj3 l0 y129 (wrap64 (qa+1)))=some r:=by first|(rw [hy129];with_reducible exact H)|(have H2_:=(Option.bind_some _ _).symm.trans H;rw [hy129];with_reducible exact H2_)|(have H2_:=(Option.bind_some _ _).symm.trans H;with_reducible exact H2_)|with_reducible exact H|(rw [hy129];exact H)|exact H
                have Ny129:=Da hy129
                clear hy129
                have H':=Da H
                clear H
                have p124:0≤(qa:Int):=of_decide_eq_true (by first|(with_reducible assumption)|assumption)
                have q124:qa < (l0.length:Int):=of_decide_eq_true (by first|(with_reducible assumption)|assumption)
                obtain⟨ad124,e124,hx124_0,hx124_1,hx124_2⟩:=at_T40 HR0.out qa p124 q124
                cases e124
                replace hx124_0:=(HB.out.cell (World.block_lt_of_cell? w _ hx124_0)).trans hx124_0
                replace hx124_1:=(HB.out.cell (World.block_lt_of_cell? w _ hx124_1)).trans hx124_1
                replace hx124_2:=(HB.out.cell (World.block_lt_of_cell? w _ hx124_2)).trans hx124_2
                replace p124:=eq_true p124
                replace q124:=eq_true q124
                try go_wp2_with (first|((with_reducible refine gate_dst (N:=5) rfl ?_);refine box_event ?hg (N:=5) ?hd (cs:=#[.int .i64 0,.int .i64 0,.string (⟨#[]⟩:ByteArray)]) (t:=40) ?hr ?_;(case hd=>rfl);(case hg=>rfl);(case hr=>first|(go_simp;done)|(go_simp;rfl));intro qc hg w22 hbox hb;have n0_:=Da (Kd.R_below (by(with_reducible repeat(first|apply Kd.R_alloc|apply Kd.R_drewN|apply Kd.R_drew));exact qd.out) hb);have n1_:=Da (Di (by repeat(first|(with_reducible first|exact HB.out|apply Dd|apply Db|apply Dc)|exact HB.out)) hb);have qj:=Da (hbox);have n3_:=Da ((by rw [hg];exact(below_size (by repeat(first|(with_reducible first|exact HB.out|apply Dd|apply Db|apply Dc)|exact HB.out))):w.heap.size≤qc));have n4_:=Da ((by rw [hg];exact(below_size (by repeat(first|(with_reducible first|exact HB.out|apply Dd|apply Db|apply Dc)|exact HB.out))):w.heap.size≤qc));clear qd;clear HB;have qd:=n0_;have HB:=n1_;have qb:=qj;have GW125:=n3_;have ql:=n4_;clear n0_ n1_ qj n3_ n4_;clear hb hbox hg;have hcz23_0:w22.cell? ⟨qc,0,none⟩=some (.int .i64 0):=(Dg qb.out 0).trans rfl;have hcz23_1:w22.cell? ⟨qc,1,none⟩=some (.int .i64 0):=(Dg qb.out 1).trans rfl;have hcz23_2:w22.cell? ⟨qc,2,none⟩=some (.string (⟨#[]⟩:ByteArray)):=(Dg qb.out 2).trans rfl;have hfz23_0:=blk_frozen qb.out 0;have hfz23_1:=blk_frozen qb.out 1;have hfz23_2:=blk_frozen qb.out 2))
                have n0_:Aside0 (Kd.R (Kd.int .u8) 5 (((w22.setCell ⟨qc,0,none⟩ (.int .i64 ((rd_T40 l0 qa).f0))).setCell ⟨qc,1,none⟩ (.int .i64 ((rd_T40 l0 qa).f1))).setCell ⟨qc,2,none⟩ (.string ((rd_T40 l0 qa).f2))) w.heap.size (fun _=>True) u3 x3_1):=⟨by(with_reducible repeat(first|apply Kd.R_alloc|apply Kd.R_drewN|apply Kd.R_drew));exact Kd.R_mono (Kd.R_far (p:=⟨qc,2,none⟩) (Kd.R_far (p:=⟨qc,1,none⟩) (Kd.R_far (p:=⟨qc,0,none⟩) (Kd.R_types qd.out qb.out (by decide)) (fun _ hk=>hk.2) (.int .i64 ((rd_T40 l0 qa).f0))) (fun _ hk=>hk.2) (.int .i64 ((rd_T40 l0 qa).f1))) (fun _ hk=>hk.2) (.string ((rd_T40 l0 qa).f2))) (fun _ hk=>trivial)⟩
                have n1_:Aside0 ((((w22.setCell ⟨qc,0,none⟩ (.int .i64 ((rd_T40 l0 qa).f0))).setCell ⟨qc,1,none⟩ (.int .i64 ((rd_T40 l0 qa).f1))).setCell ⟨qc,2,none⟩ (.string ((rd_T40 l0 qa).f2))).heap[qc]? = some (.cells #[.int .i64 ((rd_T40 l0 qa).f0),.int .i64 ((rd_T40 l0 qa).f1),.string ((rd_T40 l0 qa).f2)] 40 (0,0))):=⟨by(with_reducible repeat(first|refine Dh ?_ _|refine De ?_|refine Df ?_ _));refine blk_put (cs:=#[.int .i64 ((rd_T40 l0 qa).f0),.int .i64 ((rd_T40 l0 qa).f1),.string (⟨#[]⟩:ByteArray)]) ?_ 2 _ rfl;(with_reducible repeat(first|refine Dh ?_ _|refine De ?_|refine Df ?_ _));refine blk_put (cs:=#[.int .i64 ((rd_T40 l0 qa).f0),.int .i64 0,.string (⟨#[]⟩:ByteArray)]) ?_ 1 _ rfl;(with_reducible repeat(first|refine Dh ?_ _|refine De ?_|refine Df ?_ _));refine blk_put (cs:=#[.int .i64 0,.int .i64 0,.string (⟨#[]⟩:ByteArray)]) ?_ 0 _ rfl;(with_reducible repeat(first|refine Dh ?_ _|refine De ?_|refine Df ?_ _));exact qb.out⟩
                have qj:Aside0 (Below w.heap.size w (((w22.setCell ⟨qc,0,none⟩ (.int .i64 ((rd_T40 l0 qa).f0))).setCell ⟨qc,1,none⟩ (.int .i64 ((rd_T40 l0 qa).f1))).setCell ⟨qc,2,none⟩ (.string ((rd_T40 l0 qa).f2)))):=⟨by repeat(first|(with_reducible first|exact HB.out|apply Dd|apply Db|apply Dc|refine below_set ?_ ql.out)|exact HB.out)⟩
                (try clear qd)
                (try clear qb)
                (try clear HB)
                generalize (((w22.setCell ⟨qc,0,none⟩ (.int .i64 ((rd_T40 l0 qa).f0))).setCell ⟨qc,1,none⟩ (.int .i64 ((rd_T40 l0 qa).f1))).setCell ⟨qc,2,none⟩ (.string ((rd_T40 l0 qa).f2)))=w24 at n0_ n1_ qj ⊢
                have qd:=n0_
                have qb:=n1_
                have HB:=qj
                clear n0_ n1_ qj
                have n0_:=Da (Kd.R_drew qd.out)
                have n1_:=Da (De qb.out)
                have qj:=Da (Dc HB.out)
                clear qd
                clear qb
                clear HB
                have qd:=n0_
                have qb:=n1_
                have HB:=qj
                clear n0_ n1_ qj
                refine start_ (n:=21) (S:=fun w'=>w'.cell? ⟨qc,0,none⟩=some (.int .i64 ((rd_T40 l0 qa).f0))∧w'.cell? ⟨qc,1,none⟩=some (.int .i64 ((rd_T40 l0 qa).f1))∧w'.cell? ⟨qc,2,none⟩=some (.string ((rd_T40 l0 qa).f2))) (ds:=[]) #[false,false,false,false,false,false,false,false,false,false,false,false,false,false,false,false,false,false,false,false,false] (by kernel_rfl) rfl rfl ⟨(Dg qb.out 0).trans rfl,(Dg qb.out 1).trans rfl,(Dg qb.out 2).trans rfl⟩ (fun hHeld=>?_);refine with_tabW spec_ShowTitles.tab6 spec_ShowTitles.bits6 (fun HT_ HW_=>?_)
                generalize w24.drew=w25 at qd qb HB hHeld ⊢
                refine pure_ (i:=0) (N:=some 21) (v:=?_) (a':=?_) #[true,false,false,false,false,false,false,false,false,false,false,false,false,false,false,false,false,false,false,false,false] rfl rfl (any_of HT_.out (by kernel_rfl)) (fun _ _ _ h=>h) (Or.inl ⟨by rfl,?_⟩) ?_ ?_
                rotate_left
                ·intro w'
                 go_simp
                 with_reducible rfl
                rotate_left
                ·simp only [Act.put,List.setIfInBounds_toArray,List.set_cons_zero,List.set_cons_succ,i64_w,i32_w]
                 rfl
                refine pure_ (i:=1) (N:=some 22) (v:=?_) (a':=?_) #[true,true,false,false,false,false,false,false,false,false,false,false,false,false,false,false,false,false,false,false,false] rfl rfl (any_of HT_.out (by kernel_rfl)) (fun _ _ _ h=>h) (Or.inl ⟨by rfl,?_⟩) ?_ ?_
                rotate_left
                ·intro w'
                 go_simp
                 with_reducible rfl
                rotate_left
                ·simp only [Act.put,List.setIfInBounds_toArray,List.set_cons_zero,List.set_cons_succ,i64_w,i32_w]
                 rfl
                refine pure_ (i:=2) (N:=some 23) (v:=?_) (a':=?_) #[true,true,true,false,false,false,false,false,false,false,false,false,false,false,false,false,false,false,false,false,false] rfl rfl (any_of HT_.out (by kernel_rfl)) (fun _ _ _ h=>h) (Or.inl ⟨by rfl,?_⟩) ?_ ?_
                rotate_left
                ·intro w'
                 go_simp
                 with_reducible rfl
                rotate_left
                ·simp only [Act.put,List.setIfInBounds_toArray,List.set_cons_zero,List.set_cons_succ,i64_w,i32_w]
                 rfl
                refine pure_ (i:=5) (N:=some 26) (v:=?_) (a':=?_) #[true,true,true,false,false,true,false,false,false,false,false,false,false,false,false,false,false,false,false,false,false] rfl rfl (any_of HT_.out (by kernel_rfl)) (fun _ _ _ h=>h) (Or.inl ⟨by rfl,?_⟩) ?_ ?_
                rotate_left
                ·intro w'
                 go_simp
                 with_reducible rfl
                rotate_left
                ·simp only [Act.put,List.setIfInBounds_toArray,List.set_cons_zero,List.set_cons_succ,i64_w,i32_w]
                 rfl
                refine pure_ (i:=10) (N:=some 31) (v:=?_) (a':=?_) #[true,true,true,false,false,true,false,false,false,false,true,false,false,false,false,false,false,false,false,false,false] rfl rfl (any_of HT_.out (by kernel_rfl)) (fun _ _ _ h=>h) (Or.inl ⟨by rfl,?_⟩) ?_ ?_
                rotate_left
                ·intro w'
                 go_simp
                 with_reducible rfl
                rotate_left
                ·simp only [Act.put,List.setIfInBounds_toArray,List.set_cons_zero,List.set_cons_succ,i64_w,i32_w]
                 rfl
                refine pure_ (i:=15) (N:=some 36) (v:=?_) (a':=?_) #[true,true,true,false,false,true,false,false,false,false,true,false,false,false,false,true,false,false,false,false,false] rfl rfl (any_of HT_.out (by kernel_rfl)) (fun _ _ _ h=>h) (Or.inl ⟨by rfl,?_⟩) ?_ ?_
                rotate_left
                ·intro w'
                 go_simp
                 with_reducible rfl
                rotate_left
                ·simp only [Act.put,List.setIfInBounds_toArray,List.set_cons_zero,List.set_cons_succ,i64_w,i32_w]
                 rfl
                refine take_ (i:=6) (N:=some 27) (v:=?_) (a':=?_) #[true,true,true,false,false,true,true,false,false,false,true,false,false,false,false,true,false,false,false,false,false] rfl rfl (take_ofW HT_.out HW_.out (by kernel_rfl)) (fun _ _ _ h=>h) (Or.inl ⟨by rfl,?_⟩) hHeld ?_ ?_
                rotate_left
                ·rintro w' ⟨s0,s1,s2⟩
                 go_simp
                 with_reducible rfl
                rotate_left
                ·simp only [Act.put,List.setIfInBounds_toArray,List.set_cons_zero,List.set_cons_succ,i64_w,i32_w]
                 rfl
                refine take_ (i:=11) (N:=some 32) (v:=?_) (a':=?_) #[true,true,true,false,false,true,true,false,false,false,true,true,false,false,false,true,false,false,false,false,false] rfl rfl (take_ofW HT_.out HW_.out (by kernel_rfl)) (fun _ _ _ h=>h) (Or.inl ⟨by rfl,?_⟩) hHeld ?_ ?_
                rotate_left
                ·rintro w' ⟨s0,s1,s2⟩
                 go_simp
                 with_reducible rfl
                rotate_left
                ·simp only [Act.put,List.setIfInBounds_toArray,List.set_cons_zero,List.set_cons_succ,i64_w,i32_w]
                 rfl
                refine take_ (i:=16) (N:=some 37) (v:=?_) (a':=?_) #[true,true,true,false,false,true,true,false,false,false,true,true,false,false,false,true,true,false,false,false,false] rfl rfl (take_ofW HT_.out HW_.out (by kernel_rfl)) (fun _ _ _ h=>h) (Or.inl ⟨by rfl,?_⟩) hHeld ?_ ?_
                rotate_left
                ·rintro w' ⟨s0,s1,s2⟩
                 go_simp
                 with_reducible rfl
                rotate_left
                ·simp only [Act.put,List.setIfInBounds_toArray,List.set_cons_zero,List.set_cons_succ,i64_w,i32_w]
                 rfl
                refine one_ (i:=3) (N:=some 24) #[true,true,true,true,false,true,true,false,false,false,true,true,false,false,false,true,true,false,false,false,false] rfl rfl (one_of HT_.out (by kernel_rfl)) (by decide) (fun K hK=>?_)
                refine goes_ Tryd.func22 (by kernel_rfl) rfl #[.int .i64 (wrap64 (qa+1))] (by rfl) rfl rfl (by(try simp only [List.map_toArray,List.map_cons,List.map_nil]);first|done|rfl|(simp only [List.length_drop,List.length_take];rfl)) ?_
                with_reducible refine(spec_l1Int.calls kj3 (wrap64 (qa+1)) t126 _ A11.out).mono ?_
                rintro e w26 ⟨rfl,hb⟩
                refine⟨_,rfl,?_⟩
                have n0_:=Da (Kd.R_below (by(with_reducible repeat(first|apply Kd.R_alloc|apply Kd.R_drewN|apply Kd.R_drew));exact qd.out) hb)
                have n1_:=Da (blk_below (g:=qc) (o:=.cells #[.int .i64 ((rd_T40 l0 qa).f0),.int .i64 ((rd_T40 l0 qa).f1),.string ((rd_T40 l0 qa).f2)] 40 (0,0)) (by(with_reducible repeat(first|refine Dh ?_ _|refine De ?_|refine Df ?_ _));exact qb.out) hb)
                have qj:=Da (Di (by repeat(first|(with_reducible first|exact HB.out|apply Dd|apply Db|apply Dc|refine below_set ?_ ql.out)|exact HB.out)) hb)
                clear qd
                clear qb
                clear HB
                have qd:=n0_
                have qb:=n1_
                have HB:=qj
                clear n0_ n1_ qj
                (try clear hb)
                (try clear hb2)
                (try clear hk)
                (try clear hi)
                refine hK.out _ _ ⟨(Dg qb.out 0).trans rfl,(Dg qb.out 1).trans rfl,(Dg qb.out 2).trans rfl⟩ (fun hHeld=>?_)
                clear hK K
                refine norm_ (a':=?_) ?_ ?_
                rotate_left
                ·show Act.put _ (some 24) _=_
                 simp only [Act.put,List.setIfInBounds_toArray,List.set_cons_zero,List.set_cons_succ,i64_w,i32_w]
                 rfl
                refine pure_ (i:=4) (N:=some 25) (v:=?_) (a':=?_) #[true,true,true,true,true,true,true,false,false,false,true,true,false,false,false,true,true,false,false,false,false] rfl rfl (any_of HT_.out (by kernel_rfl)) (fun _ _ _ h=>h) (Or.inl ⟨by rfl,?_⟩) ?_ ?_
                rotate_left
                ·intro w'
                 go_simp
                 with_reducible rfl
                rotate_left
                ·simp only [Act.put,List.setIfInBounds_toArray,List.set_cons_zero,List.set_cons_succ,i64_w,i32_w]
                 rfl
                refine one_ (i:=7) (N:=some 28) #[true,true,true,true,true,true,true,true,false,false,true,true,false,false,false,true,true,false,false,false,false] rfl rfl (one_of HT_.out (by kernel_rfl)) (by decide) (fun K hK=>?_)
                refine goes_ Tryd.func23 (by kernel_rfl) rfl #[.int .i64 ((rd_T40 l0 qa).f0)] (by rfl) rfl rfl (by(try simp only [List.map_toArray,List.map_cons,List.map_nil]);first|done|rfl|(simp only [List.length_drop,List.length_take];rfl)) ?_
                with_reducible refine(spec_l12Time.calls kj3 ((rd_T40 l0 qa).f0) t127 _ A13.out).mono ?_
                rintro e w27 ⟨rfl,hb⟩
                refine⟨_,rfl,?_⟩
                have n0_:=Da (Kd.R_below (by(with_reducible repeat(first|apply Kd.R_alloc|apply Kd.R_drewN|apply Kd.R_drew));exact qd.out) hb)
                have n1_:=Da (blk_below (g:=qc) (o:=.cells #[.int .i64 ((rd_T40 l0 qa).f0),.int .i64 ((rd_T40 l0 qa).f1),.string ((rd_T40 l0 qa).f2)] 40 (0,0)) (by(with_reducible repeat(first|refine Dh ?_ _|refine De ?_|refine Df ?_ _));exact qb.out) hb)
                have qj:=Da (Di (by repeat(first|(with_reducible first|exact HB.out|apply Dd|apply Db|apply Dc|refine below_set ?_ ql.out)|exact HB.out)) hb)
                clear qd
                clear qb
                clear HB
                have qd:=n0_
                have qb:=n1_
                have HB:=qj
                clear n0_ n1_ qj
                (try clear hb)
                (try clear hb2)
                (try clear hk)
                (try clear hi)
                refine hK.out _ _ ⟨(Dg qb.out 0).trans rfl,(Dg qb.out 1).trans rfl,(Dg qb.out 2).trans rfl⟩ (fun hHeld=>?_)
                clear hK K
                refine norm_ (a':=?_) ?_ ?_
                rotate_left
                ·show Act.put _ (some 28) _=_
                 simp only [Act.put,List.setIfInBounds_toArray,List.set_cons_zero,List.set_cons_succ,i64_w,i32_w]
                 rfl
                refine pure_ (i:=8) (N:=some 29) (v:=?_) (a':=?_) #[true,true,true,true,true,true,true,true,true,false,true,true,false,false,false,true,true,false,false,false,false] rfl rfl (any_of HT_.out (by kernel_rfl)) (fun _ _ _ h=>h) (Or.inl ⟨by rfl,?_⟩) ?_ ?_
                rotate_left
                ·intro w'
                 go_simp
                 with_reducible rfl
                rotate_left
                ·simp only [Act.put,List.setIfInBounds_toArray,List.set_cons_zero,List.set_cons_succ,i64_w,i32_w]
                 rfl
                refine pure_ (i:=9) (N:=some 30) (v:=?_) (a':=?_) #[true,true,true,true,true,true,true,true,true,true,true,true,false,false,false,true,true,false,false,false,false] rfl rfl (any_of HT_.out (by kernel_rfl)) (fun _ _ _ h=>h) (Or.inl ⟨by rfl,?_⟩) ?_ ?_
                rotate_left
                ·intro w'
                 go_simp
                 with_reducible rfl
                rotate_left
                ·simp only [Act.put,List.setIfInBounds_toArray,List.set_cons_zero,List.set_cons_succ,i64_w,i32_w]
                 rfl
                refine one_ (i:=12) (N:=some 33) #[true,true,true,true,true,true,true,true,true,true,true,true,true,false,false,true,true,false,false,false,false] rfl rfl (one_of HT_.out (by kernel_rfl)) (by decide) (fun K hK=>?_)
                refine goes_ Tryd.func23 (by kernel_rfl) rfl #[.int .i64 ((rd_T40 l0 qa).f1)] (by rfl) rfl rfl (by(try simp only [List.map_toArray,List.map_cons,List.map_nil]);first|done|rfl|(simp only [List.length_drop,List.length_take];rfl)) ?_
                with_reducible refine(spec_l12Time.calls kj3 ((rd_T40 l0 qa).f1) t128 _ A16.out).mono ?_
                rintro e w28 ⟨rfl,hb⟩
                refine⟨_,rfl,?_⟩
                have n0_:=Da (Kd.R_below (by(with_reducible repeat(first|apply Kd.R_alloc|apply Kd.R_drewN|apply Kd.R_drew));exact qd.out) hb)
                have n1_:=Da (blk_below (g:=qc) (o:=.cells #[.int .i64 ((rd_T40 l0 qa).f0),.int .i64 ((rd_T40 l0 qa).f1),.string ((rd_T40 l0 qa).f2)] 40 (0,0)) (by(with_reducible repeat(first|refine Dh ?_ _|refine De ?_|refine Df ?_ _));exact qb.out) hb)
                have qj:=Da (Di (by repeat(first|(with_reducible first|exact HB.out|apply Dd|apply Db|apply Dc|refine below_set ?_ ql.out)|exact HB.out)) hb)
                clear qd
                clear qb
                clear HB
                have qd:=n0_
                have qb:=n1_
                have HB:=qj
                clear n0_ n1_ qj
                (try clear hb)
                (try clear hb2)
                (try clear hk)
                (try clear hi)
                refine hK.out _ _ ⟨(Dg qb.out 0).trans rfl,(Dg qb.out 1).trans rfl,(Dg qb.out 2).trans rfl⟩ (fun hHeld=>?_)
                clear hK K
                refine norm_ (a':=?_) ?_ ?_
                rotate_left
                ·show Act.put _ (some 33) _=_
                 simp only [Act.put,List.setIfInBounds_toArray,List.set_cons_zero,List.set_cons_succ,i64_w,i32_w]
                 rfl
                refine pure_ (i:=13) (N:=some 34) (v:=?_) (a':=?_) #[true,true,true,true,true,true,true,true,true,true,true,true,true,true,false,true,true,false,false,false,false] rfl rfl (any_of HT_.out (by kernel_rfl)) (fun _ _ _ h=>h) (Or.inl ⟨by rfl,?_⟩) ?_ ?_
                rotate_left
                ·intro w'
                 go_simp
                 with_reducible rfl
                rotate_left
                ·simp only [Act.put,List.setIfInBounds_toArray,List.set_cons_zero,List.set_cons_succ,i64_w,i32_w]
                 rfl
                refine pure_ (i:=14) (N:=some 35) (v:=?_) (a':=?_) #[true,true,true,true,true,true,true,true,true,true,true,true,true,true,true,true,true,false,false,false,false] rfl rfl (any_of HT_.out (by kernel_rfl)) (fun _ _ _ h=>h) (Or.inl ⟨by rfl,?_⟩) ?_ ?_
                rotate_left
                ·intro w'
                 go_simp
                 with_reducible rfl
                rotate_left
                ·simp only [Act.put,List.setIfInBounds_toArray,List.set_cons_zero,List.set_cons_succ,i64_w,i32_w]
                 rfl
                refine pure_ (i:=17) (N:=some 38) (v:=?_) (a':=?_) #[true,true,true,true,true,true,true,true,true,true,true,true,true,true,true,true,true,true,false,false,false] rfl rfl (any_of HT_.out (by kernel_rfl)) (fun _ _ _ h=>h) (Or.inl ⟨by rfl,?_⟩) ?_ ?_
                rotate_left
                ·intro w'
                 go_simp
                 with_reducible rfl
                rotate_left
                ·simp only [Act.put,List.setIfInBounds_toArray,List.set_cons_zero,List.set_cons_succ,i64_w,i32_w]
                 rfl
                refine pure_ (i:=18) (N:=some 39) (v:=?_) (a':=?_) #[true,true,true,true,true,true,true,true,true,true,true,true,true,true,true,true,true,true,true,false,false] rfl rfl (any_of HT_.out (by kernel_rfl)) (fun _ _ _ h=>h) (Or.inl ⟨by rfl,?_⟩) ?_ ?_
                rotate_left
                ·intro w'
                 go_simp
                 with_reducible rfl
                rotate_left
                ·simp only [Act.put,List.setIfInBounds_toArray,List.set_cons_zero,List.set_cons_succ,i64_w,i32_w]
                 rfl
                refine one_ (i:=19) (N:=some 40) #[true,true,true,true,true,true,true,true,true,true,true,true,true,true,true,true,true,true,true,true,false] rfl rfl (one_of HT_.out (by kernel_rfl)) (by decide) (fun K hK=>?_)
                refine print_append_str_step (w0:=w) w.heap.size (by rfl) (.tmp 21) (.tmp 39) 36 9 5 rfl Tryd.underlying36 Tryd.underlying9 info5 u3 x3_1 (((((((t126 ++ (⟨#[10]⟩:ByteArray)) ++ t127) ++ (⟨#[32,45,45,62,32]⟩:ByteArray)) ++ t128) ++ (⟨#[10]⟩:ByteArray)) ++ ((rd_T40 l0 qa).f2)) ++ (⟨#[10,10]⟩:ByteArray)) (by rfl) (by rfl) ?aO ?aB ?aS ?aL ?_;(case aB=>exact(by repeat(first|(with_reducible first|exact HB.out|apply Dd|apply Db|apply Dc|refine below_set ?_ ql.out)|exact HB.out)));(case aO=>exact(Kd.own_of_R (by(with_reducible repeat(first|apply Kd.R_alloc|apply Kd.R_drewN|apply Kd.R_drew));exact qd.out)));(case aS=>exact(below_size (by repeat(first|(with_reducible first|exact HB.out|apply Dd|apply Db|apply Dc|refine below_set ?_ ql.out)|exact HB.out))));(case aL=>have:=LMc21.out;omega);intro v130 w29 ho0 hb hg;have ho:=Kd.R_of_own (h1:=fun _=>rfl) (ok:=fun _=>True) ho0 (fun _ _=>trivial);clear ho0;have hat:=True.intro;rw [← Ny129.out] at ho;change Kd.R (Kd.int .u8) 5 w29 w.heap.size (fun _=>True) v130 y129 at ho;have n0_:=Da (blk_grown (g:=qc) (o:=.cells #[.int .i64 ((rd_T40 l0 qa).f0),.int .i64 ((rd_T40 l0 qa).f1),.string ((rd_T40 l0 qa).f2)] 40 (0,0)) (by(with_reducible repeat(first|refine Dh ?_ _|refine De ?_|refine Df ?_ _));exact qb.out) hg (Kd.R_ne qd.out qb.out (by decide)));have n1_:=Da (hb);have qj:=Da (ho);clear qb;clear HB;clear qd;have qb:=n0_;have HB:=n1_;have HO131:=qj;clear n0_ n1_ qj;clear ho hb hg hat
                refine hK.out _ _ ⟨(Dg qb.out 0).trans rfl,(Dg qb.out 1).trans rfl,(Dg qb.out 2).trans rfl⟩ (fun hHeld=>?_)
                clear hK K
                refine norm_ (a':=?_) ?_ ?_
                rotate_left
                ·show Act.put _ (some 40) _=_
                 simp only [Act.put,List.setIfInBounds_toArray,List.set_cons_zero,List.set_cons_succ,i64_w,i32_w]
                 rfl
                refine pure_ (i:=20) (N:=some 3) (v:=?_) (a':=?_) #[true,true,true,true,true,true,true,true,true,true,true,true,true,true,true,true,true,true,true,true,true] rfl rfl (any_of HT_.out (by kernel_rfl)) (fun _ _ _ h=>h) (Or.inl ⟨by rfl,?_⟩) ?_ ?_
                rotate_left
                ·intro w'
                 go_simp
                 with_reducible rfl
                rotate_left
                ·simp only [Act.put,List.setIfInBounds_toArray,List.set_cons_zero,List.set_cons_succ,i64_w,i32_w]
                 rfl
                refine done_ (done_of HT_.out (by kernel_rfl)) ?_
                go_wp2
                go_roundg kj3
                case measure=>have:=HK1.out;have:=HJ3.out;omega
                case rel=>exact⟨(y129),(wrap64 (qa+1)),(by first|rfl|(simp;done)|(simp [*];done)),H',⟨by have:=HK1.out;have:=HJ3.out;omega⟩,⟨by(with_reducible repeat(first|apply Kd.R_alloc|apply Kd.R_drewN|apply Kd.R_drew));exact HO131.out⟩,⟨by repeat(first|(with_reducible first|exact HB.out|apply Dd|apply Db|apply Dc|refine below_set ?_ ql.out)|exact HB.out)⟩⟩
               ·rw [if_neg c21] at H
                exact absurd H (by simp)
              ·rw [if_neg c20] at H
               exact absurd H (by simp)
             ·rw [if_neg c19] at H
              exact absurd H (by simp)
            ·rw [if_neg c18] at H
             exact absurd H (by simp)
           ·rw [if_neg c17] at H
            exact absurd H (by simp)
          ·rw [if_neg c15] at H
           exact absurd H (by simp)
         ·rw [if_neg c14] at H
          exact absurd H (by simp)
        ·rw [if_neg c12] at H
         exact absurd H (by simp)
       ·rw [if_neg c10] at H
        exact absurd H (by simp)
      ·rw [if_neg c9] at H
       exact absurd H (by simp)
     ·replace c8:=Bool.eq_false_iff.mpr c8
      subst c8
      have H1:(some (strOfNums x3_1))=some r:=by rw [if_neg (show ¬ (false=true) by decide)] at H;exact H
      clear H
      have H:=H1
      clear H1
      obtain rfl:=Option.some.inj H
      have hcv30:=own_string (P:=Tryd.prog) Tryd.underlying36 Tryd.underlying5 Tryd.underlying9 (Kd.own_of_R qd.out)
      go_wp2
      go_ret
      exact⟨by first|rfl|(simp [errW_none,errW_some] <;> rfl)|(simp [*,errW_none,errW_some] <;> rfl),by repeat(first|(with_reducible first|exact HB.out|apply Dd|apply Db|apply Dc)|exact HB.out)⟩

/-! ### laws_toTitle: function 24 -/
def laws_toTitle.f (a0_0 : Int) (a0_1 : Int) (a0_2 : ByteArray) : Option (Int × Int × ByteArray) := some (a0_0, a0_1, a0_2)
set_option maxHeartbeats 8000000 in
set_option maxRecDepth 100000 in
theorem laws_toTitle.calls (a0_0 : Int) (a0_1 : Int) (a0_2 : ByteArray) (r1 : Int) (r2 : Int) (r3 : ByteArray) (w : World) (h : laws_toTitle.f a0_0 a0_1 a0_2 = some (r1, r2, r3)) :
  Calls Tryd.prog 24 #[.agg #[.int .i64 a0_0,.int .i64 a0_1,.string a0_2]] w fun e w'=>e=.returned (.agg #[.int .i64 r1,.int .i64 r2,.string r3])∧Below w.heap.size w w':=by
 have hu44:=Tryd.underlying44
 have hu40:=Tryd.underlying40
 have HB:=Da (Below.refl w.heap.size w)
 have H:(some (a0_0,a0_1,a0_2))=some (r1,r2,r3):=h
 clear h
 simp only [Option.some.injEq,Prod.mk.injEq] at H
 obtain⟨rfl,rfl,rfl⟩:=H
 go_enter Tryd.func24,Tryd.ntmps24
 go_wp2_with (first|((with_reducible refine gate_dst (N:=1) rfl ?_);refine box_event ?hg (N:=1) ?hd (cs:=#[.int .i64 a0_0,.int .i64 a0_1,.string a0_2]) (t:=44) ?hr ?_;(case hd=>rfl);(case hg=>rfl);(case hr=>first|(go_simp;done)|(go_simp;rfl));intro qf hg w2 hbox hb;have n0_:=Da (Di (by repeat(first|(with_reducible first|exact HB.out|apply Dd|apply Db|apply Dc)|exact HB.out)) hb);have n1_:=Da (hbox);have qj:=Da ((by rw [hg];exact(below_size (by repeat(first|(with_reducible first|exact HB.out|apply Dd|apply Db|apply Dc)|exact HB.out))):w.heap.size≤qf));have n3_:=Da ((by rw [hg];exact(below_size (by repeat(first|(with_reducible first|exact HB.out|apply Dd|apply Db|apply Dc)|exact HB.out))):w.heap.size≤qf));clear HB;have HB:=n0_;have qe:=n1_;have GW132:=qj;have qm:=n3_;clear n0_ n1_ qj n3_;clear hb hbox hg)|((with_reducible refine gate_dst (N:=2) rfl ?_);refine box_event ?hg (N:=2) ?hd (cs:=#[.int .i64 0,.int .i64 0,.string (⟨#[]⟩:ByteArray)]) (t:=40) ?hr ?_;(case hd=>rfl);(case hg=>rfl);(case hr=>first|(go_simp;done)|(go_simp;rfl));intro qg hg w3 hbox hb;have n0_:=Da (blk_below (g:=qf) (o:=.cells #[.int .i64 a0_0,.int .i64 a0_1,.string a0_2] 44 (0,0)) (by(with_reducible repeat(first|refine Dh ?_ _|refine De ?_|refine Df ?_ _));exact qe.out) hb);have n1_:=Da (Di (by repeat(first|(with_reducible first|exact HB.out|apply Dd|apply Db|apply Dc|refine below_set ?_ qm.out)|exact HB.out)) hb);have qj:=Da (hbox);have n3_:=Da ((by rw [hg];exact(below_size (by repeat(first|(with_reducible first|exact HB.out|apply Dd|apply Db|apply Dc|refine below_set ?_ qm.out)|exact HB.out))):w.heap.size≤qg));have n4_:=Da ((by rw [hg];exact(below_size (by repeat(first|(with_reducible first|exact HB.out|apply Dd|apply Db|apply Dc|refine below_set ?_ qm.out)|exact HB.out))):w.heap.size≤qg));have n5_:=Da ((by rw [hg];exact Nat.ne_of_lt (blk_lt (g:=qf) (o:=.cells #[.int .i64 a0_0,.int .i64 a0_1,.string a0_2] 44 (0,0)) (by(with_reducible repeat(first|refine Dh ?_ _|refine De ?_|refine Df ?_ _));exact qe.out)):qf≠qg));have n6_:=Da ((by rw [hg];exact Nat.ne_of_gt (blk_lt (g:=qf) (o:=.cells #[.int .i64 a0_0,.int .i64 a0_1,.string a0_2] 44 (0,0)) (by(with_reducible repeat(first|refine Dh ?_ _|refine De ?_|refine Df ?_ _));exact qe.out)):qg≠qf));clear qe;clear HB;have qe:=n0_;have HB:=n1_;have qh:=qj;have GW133:=n3_;have GE133:=n4_;have NB132_133:=n5_;have NB133_132:=n6_;clear n0_ n1_ qj n3_ n4_ n5_ n6_;clear hb hbox hg)|((with_reducible refine gate_dst (N:=3) rfl ?_);refine box_event ?hg (N:=3) ?hd (cs:=#[.int .i64 0,.int .i64 0,.string (⟨#[]⟩:ByteArray)]) (t:=40) ?hr ?_;(case hd=>rfl);(case hg=>rfl);(case hr=>first|(go_simp;done)|(go_simp;rfl));intro qk hg w4 hbox hb;have n0_:=Da (blk_below (g:=qf) (o:=.cells #[.int .i64 a0_0,.int .i64 a0_1,.string a0_2] 44 (0,0)) (by(with_reducible repeat(first|refine Dh ?_ _|refine De ?_|refine Df ?_ _));exact qe.out) hb);have n1_:=Da (blk_below (g:=qg) (o:=.cells #[.int .i64 0,.int .i64 0,.string (⟨#[]⟩:ByteArray)] 40 (0,0)) (by(with_reducible repeat(first|refine Dh ?_ _|refine De ?_|refine Df ?_ _));exact qh.out) hb);have qj:=Da (Di (by repeat(first|(with_reducible first|exact HB.out|apply Dd|apply Db|apply Dc|refine below_set ?_ qm.out|refine below_set ?_ GE133.out)|exact HB.out)) hb);have n3_:=Da (hbox);have n4_:=Da ((by rw [hg];exact(below_size (by repeat(first|(with_reducible first|exact HB.out|apply Dd|apply Db|apply Dc|refine below_set ?_ qm.out|refine below_set ?_ GE133.out)|exact HB.out))):w.heap.size≤qk));have n5_:=Da ((by rw [hg];exact(below_size (by repeat(first|(with_reducible first|exact HB.out|apply Dd|apply Db|apply Dc|refine below_set ?_ qm.out|refine below_set ?_ GE133.out)|exact HB.out))):w.heap.size≤qk));have n6_:=Da ((by rw [hg];exact Nat.ne_of_lt (blk_lt (g:=qf) (o:=.cells #[.int .i64 a0_0,.int .i64 a0_1,.string a0_2] 44 (0,0)) (by(with_reducible repeat(first|refine Dh ?_ _|refine De ?_|refine Df ?_ _));exact qe.out)):qf≠qk));have n7_:=Da ((by rw [hg];exact Nat.ne_of_gt (blk_lt (g:=qf) (o:=.cells #[.int .i64 a0_0,.int .i64 a0_1,.string a0_2] 44 (0,0)) (by(with_reducible repeat(first|refine Dh ?_ _|refine De ?_|refine Df ?_ _));exact qe.out)):qk≠qf));have n8_:=Da ((by rw [hg];exact Nat.ne_of_lt (blk_lt (g:=qg) (o:=.cells #[.int .i64 0,.int .i64 0,.string (⟨#[]⟩:ByteArray)] 40 (0,0)) (by(with_reducible repeat(first|refine Dh ?_ _|refine De ?_|refine Df ?_ _));exact qh.out)):qg≠qk));have n9_:=Da ((by rw [hg];exact Nat.ne_of_gt (blk_lt (g:=qg) (o:=.cells #[.int .i64 0,.int .i64 0,.string (⟨#[]⟩:ByteArray)] 40 (0,0)) (by(with_reducible repeat(first|refine Dh ?_ _|refine De ?_|refine Df ?_ _));exact qh.out)):qk≠qg));clear qe;clear qh;clear HB;have qe:=n0_;have qh:=n1_;have HB:=qj;have qn:=n3_;have GW134:=n4_;have GE134:=n5_;have NB132_134:=n6_;have NB134_132:=n7_;have qi:=n8_;have NB134_133:=n9_;clear n0_ n1_ qj n3_ n4_ n5_ n6_ n7_ n8_ n9_;clear hb hbox hg;have hnb5:=NB132_133.out;have hnc5:=NB133_132.out;have hnb6:=NB132_134.out;have hnc6:=NB134_132.out;have hcz7_0:w4.cell? ⟨qf,0,none⟩=some (.int .i64 a0_0):=(Dg qe.out 0).trans rfl;have hcz7_1:w4.cell? ⟨qf,1,none⟩=some (.int .i64 a0_1):=(Dg qe.out 1).trans rfl;have hcz7_2:w4.cell? ⟨qf,2,none⟩=some (.string a0_2):=(Dg qe.out 2).trans rfl;have hfz7_0:=blk_frozen qe.out 0;have hfz7_1:=blk_frozen qe.out 1;have hfz7_2:=blk_frozen qe.out 2;have hnb8:=NB134_133.out;have hnc8:=qi.out;have hcz9_0:w4.cell? ⟨qk,0,none⟩=some (.int .i64 0):=(Dg qn.out 0).trans rfl;have hcz9_1:w4.cell? ⟨qk,1,none⟩=some (.int .i64 0):=(Dg qn.out 1).trans rfl;have hcz9_2:w4.cell? ⟨qk,2,none⟩=some (.string (⟨#[]⟩:ByteArray)):=(Dg qn.out 2).trans rfl;have hfz9_0:=blk_frozen qn.out 0;have hfz9_1:=blk_frozen qn.out 1;have hfz9_2:=blk_frozen qn.out 2;have hcz10_0:w4.cell? ⟨qg,0,none⟩=some (.int .i64 0):=(Dg qh.out 0).trans rfl;have hcz10_1:w4.cell? ⟨qg,1,none⟩=some (.int .i64 0):=(Dg qh.out 1).trans rfl;have hcz10_2:w4.cell? ⟨qg,2,none⟩=some (.string (⟨#[]⟩:ByteArray)):=(Dg qh.out 2).trans rfl;have hfz10_0:=blk_frozen qh.out 0;have hfz10_1:=blk_frozen qh.out 1;have hfz10_2:=blk_frozen qh.out 2))
 refine bodyPost_ret (results_cell_row rfl _ _ qg 40 #[.int .i64 a0_0,.int .i64 a0_1,.string a0_2] (0,0) _ rfl (by(with_reducible repeat(first|refine Dh ?_ _|refine De ?_|refine Df ?_ _));refine blk_put (cs:=#[.int .i64 a0_0,.int .i64 a0_1,.string (⟨#[]⟩:ByteArray)]) ?_ 2 _ rfl;(with_reducible repeat(first|refine Dh ?_ _|refine De ?_|refine Df ?_ _));refine blk_put (cs:=#[.int .i64 a0_0,.int .i64 0,.string (⟨#[]⟩:ByteArray)]) ?_ 1 _ rfl;(with_reducible repeat(first|refine Dh ?_ _|refine De ?_|refine Df ?_ _));refine blk_put (cs:=#[.int .i64 0,.int .i64 0,.string (⟨#[]⟩:ByteArray)]) ?_ 0 _ rfl;(with_reducible repeat(first|refine Dh ?_ _|refine De ?_|refine Df ?_ _));refine blk_far ?_ qi.out _;(with_reducible repeat(first|refine Dh ?_ _|refine De ?_|refine Df ?_ _));refine blk_far ?_ qi.out _;(with_reducible repeat(first|refine Dh ?_ _|refine De ?_|refine Df ?_ _));refine blk_far ?_ qi.out _;(with_reducible repeat(first|refine Dh ?_ _|refine De ?_|refine Df ?_ _));exact qh.out) Tryd.underlying40 rfl (by kernel_rfl)) rfl ?_
 exact⟨by first|rfl|(simp [errW_none,errW_some] <;> rfl)|(simp [*,errW_none,errW_some] <;> rfl),by repeat(first|(with_reducible first|exact HB.out|apply Dd|apply Db|apply Dc|refine below_set ?_ qm.out|refine below_set ?_ GE133.out|refine below_set ?_ GE134.out)|exact HB.out)⟩

end Go.Proofs.YtidogkjhjmcliaaDoor.HFnExactShowTitles
