-- Laid by myprint.py, a program of this repo, out of the kit's printer and this repo's own texts (wip/hand).
import Derived.Test.YtidogkjhjmcliaaDoorHFnTitlesBackx0
import Derived.Test.YtidogkjhjmcliaaDoorHFnTitlesBackx4
import Derived.Test.YtidogkjhjmcliaaDoorCmp
namespace Go.Proofs.YtidogkjhjmcliaaDoor.HFnTitlesBack
open Go.RowKit Go.Proofs.YtidogkjhjmcliaaDoorW.PrintWords Go.Proofs.YtidogkjhjmcliaaDoorW.PrintLast Go.Proofs.YtidogkjhjmcliaaDoorW.PrintMore
attribute [local go_sem] max2_int min2_int max_two min_two max_three min_three max_four min_four   -- for this text's walks alone
set_option linter.unusedVariables false
set_option linter.unusedSimpArgs false
theorem Fa : type_of% @Aside0.mk := @Aside0.mk

/-! ### spec_l1Int: function 22 -/
mutual
def spec_l1Int.l0 : Nat → Int → ByteArray → Option (ByteArray)
 | 0, _, _ => none
 | k + 1, x0, x3 => if x3.toList = ([] : List UInt8) then ((some (([(wrap64 (48 + (Int.tmod x0 10))) % 256] : List Int) : List Int)).bind fun y106 => (if (strOfNums y106).size + x3.size ≤ 9223372036854775807 then (spec_l1Int.l0 k (wrap64 (Int.tdiv x0 10)) ((strOfNums y106) ++ x3)) else (none))) else (if x0 > 0 then ((some (([(wrap64 (48 + (Int.tmod x0 10))) % 256] : List Int) : List Int)).bind fun y109 => (if (strOfNums y109).size + x3.size ≤ 9223372036854775807 then (spec_l1Int.l0 k (wrap64 (Int.tdiv x0 10)) ((strOfNums y109) ++ x3)) else (none))) else (some x3))
def spec_l1Int.f : Nat → Int → Option (ByteArray)
 | 0, _ => none
 | k + 1, a0 => if a0 < 0 then ((spec_l1Int.f k (wrap64 (-a0))).bind fun t105 => (if 1 + t105.size ≤ 9223372036854775807 then (some ((⟨#[45]⟩ : ByteArray) ++ t105)) else (none))) else (spec_l1Int.l0 k a0 (⟨#[]⟩ : ByteArray))
end
theorem spec_l1Int.mono_l : ∀ k, (∀ y0, LeO (spec_l1Int.f k y0) (spec_l1Int.f (k + 1) y0)) ∧ (∀ y0 y1, LeO (spec_l1Int.l0 k y0 y1) (spec_l1Int.l0 (k + 1) y0 y1))
 | 0 => ⟨fun _ r h => by simp [spec_l1Int.f] at h, fun _ _ r h => by simp [spec_l1Int.l0] at h⟩
 | k + 1 => by
  obtain⟨ih0,ih1⟩:=spec_l1Int.mono_l k
  refine⟨?_,?_⟩
  ·intro y0
   unfold spec_l1Int.f
   repeat' first|(with_reducible first|exact ih0 _|exact ih1 _ _|exact LeO.refl _|exact LeO.none _|refine LeO.ite ?_ ?_|refine LeO.bind ?_ (fun _=>?_))|exact ih0 _|exact ih1 _ _|exact LeO.none _|refine LeO.ite ?_ ?_|refine LeO.bind ?_ (fun _=>?_)
  ·intro y0 y1
   unfold spec_l1Int.l0
   repeat' first|(with_reducible first|exact ih0 _|exact ih1 _ _|exact LeO.refl _|exact LeO.none _|refine LeO.ite ?_ ?_|refine LeO.bind ?_ (fun _=>?_))|exact ih0 _|exact ih1 _ _|exact LeO.none _|refine LeO.ite ?_ ?_|refine LeO.bind ?_ (fun _=>?_)
theorem spec_l1Int.mono : ∀ a0 k, LeO (spec_l1Int.f k a0) (spec_l1Int.f (k + 1) a0) := by
 intro a0 k
 obtain⟨ih0,ih1⟩:=spec_l1Int.mono_l k
 exact ih0 a0
set_option maxHeartbeats 8000000 in
set_option maxRecDepth 100000 in
theorem spec_l1Int.calls (k : Nat) : ∀ (a0 : Int) (r : ByteArray) (w : World) (h : spec_l1Int.f k a0 = some r),
  Calls Tryd.prog 22 #[.int .i64 a0] w fun e w'=>e=.returned (.string r)∧Below w.heap.size w w':=by
 induction k using Nat.strongRecOn with
 | _ k ih =>
 intro a0 r w h
 cases k with
 | zero => exact absurd h (by simp [spec_l1Int.f])
 | succ k =>
 simp only [spec_l1Int.f] at h
 have HB:=Fa (Below.refl w.heap.size w)
 have H:(if a0 < 0 then ((spec_l1Int.f k (wrap64 (-a0))).bind fun t105=>(if 1+t105.size≤9223372036854775807 then (some ((⟨#[45]⟩:ByteArray) ++ t105)) else (none))) else (spec_l1Int.l0 k a0 (⟨#[]⟩:ByteArray)))=some r:=h
 clear h
 by_cases c2:a0 < 0
 ·rw [if_pos c2] at H
  have c2b0:=decide_eq_true c2
  clear c2
  replace H:=Option.bind_eq_some_iff.mp H
  obtain⟨t105,A30,H⟩:=H
  try dsimp only at H
  have A3:=Fa A30
  clear A30
  by_cases c4:1+t105.size≤9223372036854775807
  case neg=>rw[if_neg c4] at H;exact absurd H (by simp)
  rw[if_pos c4] at H
  have c4b0:=eq_true c4
  have c4b1:decide (1+t105.size≤9223372036854775807)=true:=decide_eq_true c4
  try have c4b2:(9223372036854775807 < 1+t105.size)=False:=eq_false (Nat.not_lt.2 c4)
  obtain rfl:=Option.some.inj H
  go_enter Tryd.func22,Tryd.ntmps22
  go_wp2_with (first|((with_reducible refine gate_callee (f:=22) rfl ?_);refine goesL_ (some 8) rfl rfl Tryd.func22 (by kernel_rfl) rfl #[.int .i64 (wrap64 (-a0))] rfl (by(try simp only [List.map_toArray,List.map_cons,List.map_nil]);first|done|rfl|(simp only [List.length_drop,List.length_take];rfl)) ?_;(with_reducible refine(ih k (by omega) (wrap64 (-a0)) t105 _ A3.out).mono ?_);rintro e w5 ⟨rfl,hb⟩;refine⟨_,rfl,?_⟩;have n0_:=Fa (below_step (by repeat(first|(with_reducible first|exact HB.out|apply below_alloc|apply pw_below_drewN|apply below_drew1)|exact HB.out)) hb);clear HB;have HB:=n0_;clear n0_;(try clear hb);(try clear hb2);(try clear hk);(try clear hi)))
  go_ret
  exact⟨by first|rfl|(simp [errW_none,errW_some] <;> rfl)|(simp [*,errW_none,errW_some] <;> rfl),by repeat(first|(with_reducible first|exact HB.out|apply below_alloc|apply pw_below_drewN|apply below_drew1)|exact HB.out)⟩
 ·rw [if_neg c2] at H
  have c2b0:=decide_eq_false c2
  clear c2
  have H':=Fa H
  clear H
  go_enter Tryd.func22,Tryd.ntmps22
  go_wp2
  go_loopg [0,3] k (fun kq v0 v3 w'=>∃ (x0_1:Int) (x3_1:ByteArray),v0=.int .i64 x0_1∧v3=.string x3_1∧Aside0 (spec_l1Int.l0 kq x0_1 x3_1=some r)∧Aside0 (kq≤k)∧Aside0 (Below w.heap.size w w'))
  case atStart=>exact⟨(a0),((⟨#[]⟩:ByteArray)),(by first|rfl|(simp;done)|(simp [*];done)),(by first|rfl|(simp;done)|(simp [*];done)),H',⟨Nat.le_refl _⟩,⟨by repeat(first|(with_reducible first|exact HB.out|apply below_alloc|apply pw_below_drewN|apply below_drew1)|exact HB.out)⟩⟩
  case round=>
   clear H';try clear c2;try clear c2b0;try clear p2;try clear c4;try clear c4b0;try clear c4b1;try clear c4b2
   obtain⟨x0_1,x3_1,rfl,rfl,HA,HK1,HB⟩:=hrel
   cases gk with
   | zero => exact absurd HA.out (by simp [spec_l1Int.l0])
   | succ k1 =>
    have H:=HA.out
    clear HA
    simp only [spec_l1Int.l0] at H
    by_cases c6:x3_1.toList=([]:List UInt8)
    ·rw [if_pos c6] at H
     have c6b0:(x3_1.toList == ([]:List UInt8))=true:=beq_iff_eq.mpr c6
     have c6b1:(x3_1.toList != ([]:List UInt8))=false:=bne_eq_false_iff_eq.mpr c6
     clear c6
     obtain⟨y106,hy106⟩:∃ y_:List Int,y_=(([(wrap64 (48+(Int.tmod x0_1 10))) % 256]:List Int)):=⟨_,rfl⟩
     replace H:(if (strOfNums y106).size+x3_1.size≤9223372036854775807 then (spec_l1Int.l0 k1 (wrap64 (Int.tdiv x0_1 10)) ((strOfNums y106) ++ x3_1)) else (none))=some r:=by first|(rw [hy106];with_reducible exact H)|(have H2_:=(Option.bind_some _ _).symm.trans H;rw [hy106];with_reducible exact H2_)|(have H2_:=(Option.bind_some _ _).symm.trans H;with_reducible exact H2_)|with_reducible exact H|(rw [hy106];exact H)|exact H
     have Ny106:=Fa hy106
     clear hy106
     by_cases c7:(strOfNums y106).size+x3_1.size≤9223372036854775807
     case neg=>rw[if_neg c7] at H;exact absurd H (by simp)
     rw[if_pos c7] at H
     have c7b0:=eq_true c7
     have c7b1:decide ((strOfNums y106).size+x3_1.size≤9223372036854775807)=true:=decide_eq_true c7
     try have c7b2:(9223372036854775807 < (strOfNums y106).size+x3_1.size)=False:=eq_false (Nat.not_lt.2 c7)
     have H':=Fa H
     clear H
     go_wp2_with (first|((with_reducible refine gate_dst (N:=20) rfl ?_);refine Kd.R_lit (Kd.int .u8) _ 5 ?hg (N:=20) ?hd (xs:=([(wrap64 (48+(Int.tmod x0_1 10))) % 256]:List Int)) (inner:=[.int .u8 ((wrap64 (48+(Int.tmod x0_1 10))) % 256)]) (ok:=fun _=>True) (okp:=fun _=>True) ?hr ?hp (fun _ hk=>hk) trivial (Below.refl _ _) (Nat.le_refl _) (by simp) ?_;(case hd=>rfl);(case hg=>rfl);(case hr=>first|(go_simp;done)|(go_simp;rfl));(case hp=>exact(Reps.one (show Kd.M (Kd.int .u8) _ _ _ ((wrap64 (48+(Int.tmod x0_1 10))) % 256) [.int .u8 ((wrap64 (48+(Int.tmod x0_1 10))) % 256)] from rfl) (Reps.none _ _)));intro v107 w8 ho9 hb hg_ hnew_;clear hg_ hnew_;(first|rw [← Ny106.out] at ho9|(simp only [Int.reduceToNat] at ho9;rw [← Ny106.out] at ho9));have n0_:=Fa (Kd.R_lower ho9 (below_size (by repeat(first|(with_reducible first|exact HB.out|apply below_alloc|apply pw_below_drewN|apply below_drew1)|exact HB.out))));have n1_:=Fa (below_step (by repeat(first|(with_reducible first|exact HB.out|apply below_alloc|apply pw_below_drewN|apply below_drew1)|exact HB.out)) hb);clear HB;have HO108:=n0_;have HB:=n1_;clear n0_ n1_;clear hb ho9;have hcv10:=own_string (P:=Tryd.prog) Tryd.underlying36 Tryd.underlying5 Tryd.underlying9 (Kd.own_of_R HO108.out)))
     go_roundg k1
     case measure=>have:=HK1.out;omega
     case rel=>exact⟨(wrap64 (Int.tdiv x0_1 10)),((strOfNums y106) ++ x3_1),(by first|rfl|(simp;done)|(simp [*];done)),(by first|rfl|(simp;done)|(simp [*];done)),H',⟨by have:=HK1.out;omega⟩,⟨by repeat(first|(with_reducible first|exact HB.out|apply below_alloc|apply pw_below_drewN|apply below_drew1)|exact HB.out)⟩⟩
    ·rw [if_neg c6] at H
     have c6b0:(x3_1.toList == ([]:List UInt8))=false:=beq_eq_false_iff_ne.mpr c6
     have c6b1:(x3_1.toList != ([]:List UInt8))=true:=bne_iff_ne.mpr c6
     by_cases c11:x0_1 > 0
     ·rw [if_pos c11] at H
      have c11b0:=decide_eq_true c11
      clear c11
      obtain⟨y109,hy109⟩:∃ y_:List Int,y_=(([(wrap64 (48+(Int.tmod x0_1 10))) % 256]:List Int)):=⟨_,rfl⟩
      replace H:(if (strOfNums y109).size+x3_1.size≤9223372036854775807 then (spec_l1Int.l0 k1 (wrap64 (Int.tdiv x0_1 10)) ((strOfNums y109) ++ x3_1)) else (none))=some r:=by first|(rw [hy109];with_reducible exact H)|(have H2_:=(Option.bind_some _ _).symm.trans H;rw [hy109];with_reducible exact H2_)|(have H2_:=(Option.bind_some _ _).symm.trans H;with_reducible exact H2_)|with_reducible exact H|(rw [hy109];exact H)|exact H
      have Ny109:=Fa hy109
      clear hy109
      by_cases c12:(strOfNums y109).size+x3_1.size≤9223372036854775807
      case neg=>rw[if_neg c12] at H;exact absurd H (by simp)
      rw[if_pos c12] at H
      have c12b0:=eq_true c12
      have c12b1:decide ((strOfNums y109).size+x3_1.size≤9223372036854775807)=true:=decide_eq_true c12
      try have c12b2:(9223372036854775807 < (strOfNums y109).size+x3_1.size)=False:=eq_false (Nat.not_lt.2 c12)
      have H':=Fa H
      clear H
      go_wp2_with (first|((with_reducible refine gate_dst (N:=20) rfl ?_);refine Kd.R_lit (Kd.int .u8) _ 5 ?hg (N:=20) ?hd (xs:=([(wrap64 (48+(Int.tmod x0_1 10))) % 256]:List Int)) (inner:=[.int .u8 ((wrap64 (48+(Int.tmod x0_1 10))) % 256)]) (ok:=fun _=>True) (okp:=fun _=>True) ?hr ?hp (fun _ hk=>hk) trivial (Below.refl _ _) (Nat.le_refl _) (by simp) ?_;(case hd=>rfl);(case hg=>rfl);(case hr=>first|(go_simp;done)|(go_simp;rfl));(case hp=>exact(Reps.one (show Kd.M (Kd.int .u8) _ _ _ ((wrap64 (48+(Int.tmod x0_1 10))) % 256) [.int .u8 ((wrap64 (48+(Int.tmod x0_1 10))) % 256)] from rfl) (Reps.none _ _)));intro v110 w13 ho14 hb hg_ hnew_;clear hg_ hnew_;(first|rw [← Ny109.out] at ho14|(simp only [Int.reduceToNat] at ho14;rw [← Ny109.out] at ho14));have n0_:=Fa (Kd.R_lower ho14 (below_size (by repeat(first|(with_reducible first|exact HB.out|apply below_alloc|apply pw_below_drewN|apply below_drew1)|exact HB.out))));have n1_:=Fa (below_step (by repeat(first|(with_reducible first|exact HB.out|apply below_alloc|apply pw_below_drewN|apply below_drew1)|exact HB.out)) hb);clear HB;have HO111:=n0_;have HB:=n1_;clear n0_ n1_;clear hb ho14;have hcv15:=own_string (P:=Tryd.prog) Tryd.underlying36 Tryd.underlying5 Tryd.underlying9 (Kd.own_of_R HO111.out)))
      go_roundg k1
      case measure=>have:=HK1.out;omega
      case rel=>exact⟨(wrap64 (Int.tdiv x0_1 10)),((strOfNums y109) ++ x3_1),(by first|rfl|(simp;done)|(simp [*];done)),(by first|rfl|(simp;done)|(simp [*];done)),H',⟨by have:=HK1.out;omega⟩,⟨by repeat(first|(with_reducible first|exact HB.out|apply below_alloc|apply pw_below_drewN|apply below_drew1)|exact HB.out)⟩⟩
     ·rw [if_neg c11] at H
      have c11b0:=decide_eq_false c11
      clear c11
      obtain rfl:=Option.some.inj H
      go_wp2
      go_ret
      exact⟨by first|rfl|(simp [errW_none,errW_some] <;> rfl)|(simp [*,errW_none,errW_some] <;> rfl),by repeat(first|(with_reducible first|exact HB.out|apply below_alloc|apply pw_below_drewN|apply below_drew1)|exact HB.out)⟩

/-! ### spec_l1Wide: function 41 -/
def spec_l1Wide.l0 : Nat → Int → ByteArray → Option (ByteArray)
 | 0, _, _ => none
 | k + 1, x1, x5 => if (x5.size : Int) < x1 then (if 1 + x5.size ≤ 9223372036854775807 then (spec_l1Wide.l0 k x1 ((⟨#[48]⟩ : ByteArray) ++ x5)) else (none)) else (some x5)
def spec_l1Wide.f (k : Nat) (a0 : Int) (a1 : Int) : Option (ByteArray) := (spec_l1Int.f k a0).bind fun t112 => (spec_l1Wide.l0 k a1 t112)
theorem spec_l1Wide.mono_l : ∀ k, (∀ y0 y1, LeO (spec_l1Wide.l0 k y0 y1) (spec_l1Wide.l0 (k + 1) y0 y1))
 | 0 => fun _ _ r h => by simp [spec_l1Wide.l0] at h
 | k + 1 => by
  have ih0:=spec_l1Wide.mono_l k
  ·intro y0 y1
   unfold spec_l1Wide.l0
   repeat' first|(with_reducible first|exact ih0 _ _|exact spec_l1Int.mono _ _|exact LeO.refl _|exact LeO.none _|refine LeO.ite ?_ ?_|refine LeO.bind ?_ (fun _=>?_))|exact ih0 _ _|exact spec_l1Int.mono _ _|exact LeO.none _|refine LeO.ite ?_ ?_|refine LeO.bind ?_ (fun _=>?_)
theorem spec_l1Wide.mono : ∀ a0 a1 k, LeO (spec_l1Wide.f k a0 a1) (spec_l1Wide.f (k + 1) a0 a1) := by
 intro a0 a1 k
 have ih0:=spec_l1Wide.mono_l k
 unfold spec_l1Wide.f
 repeat' first|(with_reducible first|exact ih0 _ _|exact spec_l1Int.mono _ _|exact LeO.refl _|exact LeO.none _|refine LeO.ite ?_ ?_|refine LeO.bind ?_ (fun _=>?_))|exact ih0 _ _|exact spec_l1Int.mono _ _|exact LeO.none _|refine LeO.ite ?_ ?_|refine LeO.bind ?_ (fun _=>?_)
set_option maxHeartbeats 8000000 in
set_option maxRecDepth 100000 in
theorem spec_l1Wide.calls (k : Nat) (a0 : Int) (a1 : Int) (r : ByteArray) (w : World) (h : spec_l1Wide.f k a0 a1 = some r) :
  Calls Tryd.prog 41 #[.int .i64 a0,.int .i64 a1] w fun e w'=>e=.returned (.string r)∧Below w.heap.size w w':=by
 have HB:=Fa (Below.refl w.heap.size w)
 have H:((spec_l1Int.f k a0).bind fun t112=>(spec_l1Wide.l0 k a1 t112))=some r:=h
 clear h
 replace H:=Option.bind_eq_some_iff.mp H
 obtain⟨t112,A30,H⟩:=H
 try dsimp only at H
 have A3:=Fa A30
 clear A30
 have H':=Fa H
 clear H
 go_enter Tryd.func41,Tryd.ntmps41
 go_wp2_with (first|((with_reducible refine gate_callee (f:=22) rfl ?_);refine goesL_ (some 7) rfl rfl Tryd.func22 (by kernel_rfl) rfl #[.int .i64 a0] rfl (by(try simp only [List.map_toArray,List.map_cons,List.map_nil]);first|done|rfl|(simp only [List.length_drop,List.length_take];rfl)) ?_;(with_reducible refine(spec_l1Int.calls k a0 t112 _ A3.out).mono ?_);rintro e w4 ⟨rfl,hb⟩;refine⟨_,rfl,?_⟩;have n0_:=Fa (below_step (by repeat(first|(with_reducible first|exact HB.out|apply below_alloc|apply pw_below_drewN|apply below_drew1)|exact HB.out)) hb);clear HB;have HB:=n0_;clear n0_;(try clear hb);(try clear hb2);(try clear hk);(try clear hi)))
 go_loopg [5] k (fun kq v5 w'=>∃ (x5_1:ByteArray),v5=.string x5_1∧Aside0 (spec_l1Wide.l0 kq a1 x5_1=some r)∧Aside0 (kq≤k)∧Aside0 (Below w.heap.size w w'))
 case atStart=>exact⟨(t112),(by first|rfl|(simp;done)|(simp [*];done)),H',⟨Nat.le_refl _⟩,⟨by repeat(first|(with_reducible first|exact HB.out|apply below_alloc|apply pw_below_drewN|apply below_drew1)|exact HB.out)⟩⟩
 case round=>
  clear H';try clear c2;try clear p2;try clear c4
  obtain⟨x5_1,rfl,HA,HK1,HB⟩:=hrel
  cases gk with
  | zero => exact absurd HA.out (by simp [spec_l1Wide.l0])
  | succ k1 =>
   have H:=HA.out
   clear HA
   simp only [spec_l1Wide.l0] at H
   by_cases c5:(x5_1.size:Int) < a1
   ·rw [if_pos c5] at H
    have c5b0:=decide_eq_true c5
    clear c5
    by_cases c6:1+x5_1.size≤9223372036854775807
    case neg=>rw[if_neg c6] at H;exact absurd H (by simp)
    rw[if_pos c6] at H
    have c6b0:=eq_true c6
    have c6b1:decide (1+x5_1.size≤9223372036854775807)=true:=decide_eq_true c6
    try have c6b2:(9223372036854775807 < 1+x5_1.size)=False:=eq_false (Nat.not_lt.2 c6)
    have H':=Fa H
    clear H
    go_wp2
    go_roundg k1
    case measure=>have:=HK1.out;omega
    case rel=>exact⟨((⟨#[48]⟩:ByteArray) ++ x5_1),(by first|rfl|(simp;done)|(simp [*];done)),H',⟨by have:=HK1.out;omega⟩,⟨by repeat(first|(with_reducible first|exact HB.out|apply below_alloc|apply pw_below_drewN|apply below_drew1)|exact HB.out)⟩⟩
   ·rw [if_neg c5] at H
    have c5b0:=decide_eq_false c5
    clear c5
    obtain rfl:=Option.some.inj H
    go_wp2
    go_ret
    exact⟨by first|rfl|(simp [errW_none,errW_some] <;> rfl)|(simp [*,errW_none,errW_some] <;> rfl),by repeat(first|(with_reducible first|exact HB.out|apply below_alloc|apply pw_below_drewN|apply below_drew1)|exact HB.out)⟩

/-! ### spec_l12Time: function 23 -/
def spec_l12Time.f (k : Nat) (a0 : Int) : Option (ByteArray) := (spec_l1Wide.f k (wrap64 (Int.tdiv a0 3600000)) 2).bind fun t113 => (if t113.size + 1 ≤ 9223372036854775807 then ((spec_l1Wide.f k (Int.tmod (wrap64 (Int.tdiv a0 60000)) 60) 2).bind fun t114 => (if (t113 ++ (⟨#[58]⟩ : ByteArray)).size + t114.size ≤ 9223372036854775807 then (if ((t113 ++ (⟨#[58]⟩ : ByteArray)) ++ t114).size + 1 ≤ 9223372036854775807 then ((spec_l1Wide.f k (Int.tmod (wrap64 (Int.tdiv a0 1000)) 60) 2).bind fun t115 => (if (((t113 ++ (⟨#[58]⟩ : ByteArray)) ++ t114) ++ (⟨#[58]⟩ : ByteArray)).size + t115.size ≤ 9223372036854775807 then (if ((((t113 ++ (⟨#[58]⟩ : ByteArray)) ++ t114) ++ (⟨#[58]⟩ : ByteArray)) ++ t115).size + 1 ≤ 9223372036854775807 then ((spec_l1Wide.f k (Int.tmod a0 1000) 3).bind fun t116 => (if (((((t113 ++ (⟨#[58]⟩ : ByteArray)) ++ t114) ++ (⟨#[58]⟩ : ByteArray)) ++ t115) ++ (⟨#[44]⟩ : ByteArray)).size + t116.size ≤ 9223372036854775807 then (some ((((((t113 ++ (⟨#[58]⟩ : ByteArray)) ++ t114) ++ (⟨#[58]⟩ : ByteArray)) ++ t115) ++ (⟨#[44]⟩ : ByteArray)) ++ t116)) else (none))) else (none)) else (none))) else (none)) else (none))) else (none))
theorem spec_l12Time.mono : ∀ a0 k, LeO (spec_l12Time.f k a0) (spec_l12Time.f (k + 1) a0) := by
 intro a0 k
 unfold spec_l12Time.f
 repeat' first|(with_reducible first|exact spec_l1Wide.mono _ _ _|exact LeO.refl _|exact LeO.none _|refine LeO.ite ?_ ?_|refine LeO.bind ?_ (fun _=>?_))|exact spec_l1Wide.mono _ _ _|exact LeO.none _|refine LeO.ite ?_ ?_|refine LeO.bind ?_ (fun _=>?_)
set_option maxHeartbeats 8000000 in
set_option maxRecDepth 100000 in
theorem spec_l12Time.calls (k : Nat) (a0 : Int) (r : ByteArray) (w : World) (h : spec_l12Time.f k a0 = some r) :
  Calls Tryd.prog 23 #[.int .i64 a0] w fun e w'=>e=.returned (.string r)∧Below w.heap.size w w':=by
 have HB:=Fa (Below.refl w.heap.size w)
 have H:((spec_l1Wide.f k (wrap64 (Int.tdiv a0 3600000)) 2).bind fun t113=>(if t113.size+1≤9223372036854775807 then ((spec_l1Wide.f k (Int.tmod (wrap64 (Int.tdiv a0 60000)) 60) 2).bind fun t114=>(if (t113 ++ (⟨#[58]⟩:ByteArray)).size+t114.size≤9223372036854775807 then (if ((t113 ++ (⟨#[58]⟩:ByteArray)) ++ t114).size+1≤9223372036854775807 then ((spec_l1Wide.f k (Int.tmod (wrap64 (Int.tdiv a0 1000)) 60) 2).bind fun t115=>(if (((t113 ++ (⟨#[58]⟩:ByteArray)) ++ t114) ++ (⟨#[58]⟩:ByteArray)).size+t115.size≤9223372036854775807 then (if ((((t113 ++ (⟨#[58]⟩:ByteArray)) ++ t114) ++ (⟨#[58]⟩:ByteArray)) ++ t115).size+1≤9223372036854775807 then ((spec_l1Wide.f k (Int.tmod a0 1000) 3).bind fun t116=>(if (((((t113 ++ (⟨#[58]⟩:ByteArray)) ++ t114) ++ (⟨#[58]⟩:ByteArray)) ++ t115) ++ (⟨#[44]⟩:ByteArray)).size+t116.size≤9223372036854775807 then (some ((((((t113 ++ (⟨#[58]⟩:ByteArray)) ++ t114) ++ (⟨#[58]⟩:ByteArray)) ++ t115) ++ (⟨#[44]⟩:ByteArray)) ++ t116)) else (none))) else (none)) else (none))) else (none)) else (none))) else (none)))=some r:=h
 clear h
 replace H:=Option.bind_eq_some_iff.mp H
 obtain⟨t113,A20,H⟩:=H
 try dsimp only at H
 have A2:=Fa A20
 clear A20
 by_cases c3:t113.size+1≤9223372036854775807
 case neg=>rw[if_neg c3] at H;exact absurd H (by simp)
 rw[if_pos c3] at H
 have c3b0:=eq_true c3
 have c3b1:decide (t113.size+1≤9223372036854775807)=true:=decide_eq_true c3
 try have c3b2:(9223372036854775807 < t113.size+1)=False:=eq_false (Nat.not_lt.2 c3)
 replace H:=Option.bind_eq_some_iff.mp H
 obtain⟨t114,A40,H⟩:=H
 try dsimp only at H
 have A4:=Fa A40
 clear A40
 by_cases c5:(t113 ++ (⟨#[58]⟩:ByteArray)).size+t114.size≤9223372036854775807
 case neg=>rw[if_neg c5] at H;exact absurd H (by simp)
 rw[if_pos c5] at H
 have c5b0:=eq_true c5
 have c5b1:decide ((t113 ++ (⟨#[58]⟩:ByteArray)).size+t114.size≤9223372036854775807)=true:=decide_eq_true c5
 try have c5b2:(9223372036854775807 < (t113 ++ (⟨#[58]⟩:ByteArray)).size+t114.size)=False:=eq_false (Nat.not_lt.2 c5)
 try have c5b3:(9223372036854775807 < t113.size+1+t114.size)=False:=eq_false (Nat.not_lt.2 (by have h_:=c5;simp only [ByteArray.size_append] at h_;exact h_))
 by_cases c6:((t113 ++ (⟨#[58]⟩:ByteArray)) ++ t114).size+1≤9223372036854775807
 case neg=>rw[if_neg c6] at H;exact absurd H (by simp)
 rw[if_pos c6] at H
 have c6b0:=eq_true c6
 have c6b1:decide (((t113 ++ (⟨#[58]⟩:ByteArray)) ++ t114).size+1≤9223372036854775807)=true:=decide_eq_true c6
 try have c6b2:(9223372036854775807 < ((t113 ++ (⟨#[58]⟩:ByteArray)) ++ t114).size+1)=False:=eq_false (Nat.not_lt.2 c6)
 try have c6b3:(9223372036854775807 < t113.size+1+t114.size+1)=False:=eq_false (Nat.not_lt.2 (by have h_:=c6;simp only [ByteArray.size_append] at h_;exact h_))
 replace H:=Option.bind_eq_some_iff.mp H
 obtain⟨t115,A70,H⟩:=H
 try dsimp only at H
 have A7:=Fa A70
 clear A70
 by_cases c8:(((t113 ++ (⟨#[58]⟩:ByteArray)) ++ t114) ++ (⟨#[58]⟩:ByteArray)).size+t115.size≤9223372036854775807
 case neg=>rw[if_neg c8] at H;exact absurd H (by simp)
 rw[if_pos c8] at H
 have c8b0:=eq_true c8
 have c8b1:decide ((((t113 ++ (⟨#[58]⟩:ByteArray)) ++ t114) ++ (⟨#[58]⟩:ByteArray)).size+t115.size≤9223372036854775807)=true:=decide_eq_true c8
 try have c8b2:(9223372036854775807 < (((t113 ++ (⟨#[58]⟩:ByteArray)) ++ t114) ++ (⟨#[58]⟩:ByteArray)).size+t115.size)=False:=eq_false (Nat.not_lt.2 c8)
 try have c8b3:(9223372036854775807 < t113.size+1+t114.size+1+t115.size)=False:=eq_false (Nat.not_lt.2 (by have h_:=c8;simp only [ByteArray.size_append] at h_;exact h_))
 by_cases c9:((((t113 ++ (⟨#[58]⟩:ByteArray)) ++ t114) ++ (⟨#[58]⟩:ByteArray)) ++ t115).size+1≤9223372036854775807
 case neg=>rw[if_neg c9] at H;exact absurd H (by simp)
 rw[if_pos c9] at H
 have c9b0:=eq_true c9
 have c9b1:decide (((((t113 ++ (⟨#[58]⟩:ByteArray)) ++ t114) ++ (⟨#[58]⟩:ByteArray)) ++ t115).size+1≤9223372036854775807)=true:=decide_eq_true c9
 try have c9b2:(9223372036854775807 < ((((t113 ++ (⟨#[58]⟩:ByteArray)) ++ t114) ++ (⟨#[58]⟩:ByteArray)) ++ t115).size+1)=False:=eq_false (Nat.not_lt.2 c9)
 try have c9b3:(9223372036854775807 < t113.size+1+t114.size+1+t115.size+1)=False:=eq_false (Nat.not_lt.2 (by have h_:=c9;simp only [ByteArray.size_append] at h_;exact h_))
 replace H:=Option.bind_eq_some_iff.mp H
 obtain⟨t116,A100,H⟩:=H
 try dsimp only at H
 have A10:=Fa A100
 clear A100
 by_cases c11:(((((t113 ++ (⟨#[58]⟩:ByteArray)) ++ t114) ++ (⟨#[58]⟩:ByteArray)) ++ t115) ++ (⟨#[44]⟩:ByteArray)).size+t116.size≤9223372036854775807
 case neg=>rw[if_neg c11] at H;exact absurd H (by simp)
 rw[if_pos c11] at H
 have c11b0:=eq_true c11
 have c11b1:decide ((((((t113 ++ (⟨#[58]⟩:ByteArray)) ++ t114) ++ (⟨#[58]⟩:ByteArray)) ++ t115) ++ (⟨#[44]⟩:ByteArray)).size+t116.size≤9223372036854775807)=true:=decide_eq_true c11
 try have c11b2:(9223372036854775807 < (((((t113 ++ (⟨#[58]⟩:ByteArray)) ++ t114) ++ (⟨#[58]⟩:ByteArray)) ++ t115) ++ (⟨#[44]⟩:ByteArray)).size+t116.size)=False:=eq_false (Nat.not_lt.2 c11)
 try have c11b3:(9223372036854775807 < t113.size+1+t114.size+1+t115.size+1+t116.size)=False:=eq_false (Nat.not_lt.2 (by have h_:=c11;simp only [ByteArray.size_append] at h_;exact h_))
 obtain rfl:=Option.some.inj H
 go_enter Tryd.func23,Tryd.ntmps23
 go_wp2_with (first|((with_reducible refine gate_callee (f:=41) rfl ?_);refine goesL_ (some 5) rfl rfl Tryd.func41 (by kernel_rfl) rfl #[.int .i64 (wrap64 (Int.tdiv a0 3600000)),.int .i64 2] rfl (by(try simp only [List.map_toArray,List.map_cons,List.map_nil]);first|done|rfl|(simp only [List.length_drop,List.length_take];rfl)) ?_;(with_reducible refine(spec_l1Wide.calls k (wrap64 (Int.tdiv a0 3600000)) 2 t113 _ A2.out).mono ?_);rintro e w12 ⟨rfl,hb⟩;refine⟨_,rfl,?_⟩;have n0_:=Fa (below_step (by repeat(first|(with_reducible first|exact HB.out|apply below_alloc|apply pw_below_drewN|apply below_drew1)|exact HB.out)) hb);clear HB;have HB:=n0_;clear n0_;(try clear hb);(try clear hb2);(try clear hk);(try clear hi))|((with_reducible refine gate_callee (f:=41) rfl ?_);refine goesL_ (some 10) rfl rfl Tryd.func41 (by kernel_rfl) rfl #[.int .i64 (Int.tmod (wrap64 (Int.tdiv a0 60000)) 60),.int .i64 2] rfl (by(try simp only [List.map_toArray,List.map_cons,List.map_nil]);first|done|rfl|(simp only [List.length_drop,List.length_take];rfl)) ?_;(with_reducible refine(spec_l1Wide.calls k (Int.tmod (wrap64 (Int.tdiv a0 60000)) 60) 2 t114 _ A4.out).mono ?_);rintro e w13 ⟨rfl,hb⟩;refine⟨_,rfl,?_⟩;have n0_:=Fa (below_step (by repeat(first|(with_reducible first|exact HB.out|apply below_alloc|apply pw_below_drewN|apply below_drew1)|exact HB.out)) hb);clear HB;have HB:=n0_;clear n0_;(try clear hb);(try clear hb2);(try clear hk);(try clear hi))|((with_reducible refine gate_callee (f:=41) rfl ?_);refine goesL_ (some 16) rfl rfl Tryd.func41 (by kernel_rfl) rfl #[.int .i64 (Int.tmod (wrap64 (Int.tdiv a0 1000)) 60),.int .i64 2] rfl (by(try simp only [List.map_toArray,List.map_cons,List.map_nil]);first|done|rfl|(simp only [List.length_drop,List.length_take];rfl)) ?_;(with_reducible refine(spec_l1Wide.calls k (Int.tmod (wrap64 (Int.tdiv a0 1000)) 60) 2 t115 _ A7.out).mono ?_);rintro e w14 ⟨rfl,hb⟩;refine⟨_,rfl,?_⟩;have n0_:=Fa (below_step (by repeat(first|(with_reducible first|exact HB.out|apply below_alloc|apply pw_below_drewN|apply below_drew1)|exact HB.out)) hb);clear HB;have HB:=n0_;clear n0_;(try clear hb);(try clear hb2);(try clear hk);(try clear hi))|((with_reducible refine gate_callee (f:=41) rfl ?_);refine goesL_ (some 21) rfl rfl Tryd.func41 (by kernel_rfl) rfl #[.int .i64 (Int.tmod a0 1000),.int .i64 3] rfl (by(try simp only [List.map_toArray,List.map_cons,List.map_nil]);first|done|rfl|(simp only [List.length_drop,List.length_take];rfl)) ?_;(with_reducible refine(spec_l1Wide.calls k (Int.tmod a0 1000) 3 t116 _ A10.out).mono ?_);rintro e w15 ⟨rfl,hb⟩;refine⟨_,rfl,?_⟩;have n0_:=Fa (below_step (by repeat(first|(with_reducible first|exact HB.out|apply below_alloc|apply pw_below_drewN|apply below_drew1)|exact HB.out)) hb);clear HB;have HB:=n0_;clear n0_;(try clear hb);(try clear hb2);(try clear hk);(try clear hi)))
 go_ret
 exact⟨by first|rfl|(simp [errW_none,errW_some] <;> rfl)|(simp [*,errW_none,errW_some] <;> rfl),by repeat(first|(with_reducible first|exact HB.out|apply below_alloc|apply pw_below_drewN|apply below_drew1)|exact HB.out)⟩

/-! ### spec_ShowTitles: function 7 -/
mutual
def spec_ShowTitles.l0 : Nat → List (S40) → List Int → Int → Option (ByteArray)
 | 0, _, _, _ => none
 | k + 1, x0, x3, x4 => if x4 < (x0.length : Int) then ((spec_TitlesOk.f k x0).bind fun t120 => (spec_ShowTitles.j1 k x0 x3 x4 t120)) else (spec_ShowTitles.j1 k x0 x3 x4 false)
def spec_ShowTitles.j1 : Nat → List (S40) → List Int → Int → Bool → Option (ByteArray)
 | 0, _, _, _, _ => none
 | k + 1, x0, x3, x4, x14 => if x14 = true then (if 0 ≤ x4 then (if x4 < (x0.length : Int) then ((spec_l1Int.f k (wrap64 (x4 + 1))).bind fun t123 => (if t123.size + 1 ≤ 9223372036854775807 then ((spec_l12Time.f k ((rd_T40 x0 x4).f0)).bind fun t124 => (if (t123 ++ (⟨#[10]⟩ : ByteArray)).size + t124.size ≤ 9223372036854775807 then (if ((t123 ++ (⟨#[10]⟩ : ByteArray)) ++ t124).size + 5 ≤ 9223372036854775807 then ((spec_l12Time.f k ((rd_T40 x0 x4).f1)).bind fun t125 => (if (((t123 ++ (⟨#[10]⟩ : ByteArray)) ++ t124) ++ (⟨#[32, 45, 45, 62, 32]⟩ : ByteArray)).size + t125.size ≤ 9223372036854775807 then (if ((((t123 ++ (⟨#[10]⟩ : ByteArray)) ++ t124) ++ (⟨#[32, 45, 45, 62, 32]⟩ : ByteArray)) ++ t125).size + 1 ≤ 9223372036854775807 then (if (((((t123 ++ (⟨#[10]⟩ : ByteArray)) ++ t124) ++ (⟨#[32, 45, 45, 62, 32]⟩ : ByteArray)) ++ t125) ++ (⟨#[10]⟩ : ByteArray)).size + ((rd_T40 x0 x4).f2).size ≤ 9223372036854775807 then (if ((((((t123 ++ (⟨#[10]⟩ : ByteArray)) ++ t124) ++ (⟨#[32, 45, 45, 62, 32]⟩ : ByteArray)) ++ t125) ++ (⟨#[10]⟩ : ByteArray)) ++ ((rd_T40 x0 x4).f2)).size + 2 ≤ 9223372036854775807 then (if x3.length + (((((((t123 ++ (⟨#[10]⟩ : ByteArray)) ++ t124) ++ (⟨#[32, 45, 45, 62, 32]⟩ : ByteArray)) ++ t125) ++ (⟨#[10]⟩ : ByteArray)) ++ ((rd_T40 x0 x4).f2)) ++ (⟨#[10, 10]⟩ : ByteArray)).size < 140737488355328 then (spec_ShowTitles.l0 k x0 (x3 ++ bytesOf (((((((t123 ++ (⟨#[10]⟩ : ByteArray)) ++ t124) ++ (⟨#[32, 45, 45, 62, 32]⟩ : ByteArray)) ++ t125) ++ (⟨#[10]⟩ : ByteArray)) ++ ((rd_T40 x0 x4).f2)) ++ (⟨#[10, 10]⟩ : ByteArray))) (wrap64 (x4 + 1))) else (none)) else (none)) else (none)) else (none)) else (none))) else (none)) else (none))) else (none))) else (none)) else (none)) else (some (strOfNums x3))
end
def spec_ShowTitles.f (k : Nat) (l0 : List (S40)) : Option (ByteArray) := spec_ShowTitles.l0 k l0 (([] : List Int)) 0
theorem spec_ShowTitles.mono_l : ∀ k, (∀ y0 y1 y2, LeO (spec_ShowTitles.l0 k y0 y1 y2) (spec_ShowTitles.l0 (k + 1) y0 y1 y2)) ∧ (∀ y0 y1 y2 y3, LeO (spec_ShowTitles.j1 k y0 y1 y2 y3) (spec_ShowTitles.j1 (k + 1) y0 y1 y2 y3))
 | 0 => ⟨fun _ _ _ r h => by simp [spec_ShowTitles.l0] at h, fun _ _ _ _ r h => by simp [spec_ShowTitles.j1] at h⟩
 | k + 1 => by
  obtain⟨ih0,ih1⟩:=spec_ShowTitles.mono_l k
  refine⟨?_,?_⟩
  ·intro y0 y1 y2
   unfold spec_ShowTitles.l0
   repeat' first|(with_reducible first|exact ih0 _ _ _|exact ih1 _ _ _ _|exact spec_TitlesOk.mono _ _|exact spec_l12Time.mono _ _|exact spec_l1Int.mono _ _|exact LeO.refl _|exact LeO.none _|refine LeO.ite ?_ ?_|refine LeO.bind ?_ (fun _=>?_))|exact ih0 _ _ _|exact ih1 _ _ _ _|exact spec_TitlesOk.mono _ _|exact spec_l12Time.mono _ _|exact spec_l1Int.mono _ _|exact LeO.none _|refine LeO.ite ?_ ?_|refine LeO.bind ?_ (fun _=>?_)
  ·intro y0 y1 y2 y3
   unfold spec_ShowTitles.j1
   repeat' first|(with_reducible first|exact ih0 _ _ _|exact ih1 _ _ _ _|exact spec_TitlesOk.mono _ _|exact spec_l12Time.mono _ _|exact spec_l1Int.mono _ _|exact LeO.refl _|exact LeO.none _|refine LeO.ite ?_ ?_|refine LeO.bind ?_ (fun _=>?_))|exact ih0 _ _ _|exact ih1 _ _ _ _|exact spec_TitlesOk.mono _ _|exact spec_l12Time.mono _ _|exact spec_l1Int.mono _ _|exact LeO.none _|refine LeO.ite ?_ ?_|refine LeO.bind ?_ (fun _=>?_)
theorem spec_ShowTitles.mono : ∀ a0 k, LeO (spec_ShowTitles.f k a0) (spec_ShowTitles.f (k + 1) a0) := by
 intro a0 k
 obtain⟨ih0,ih1⟩:=spec_ShowTitles.mono_l k
 unfold spec_ShowTitles.f
 repeat' first|(with_reducible first|exact ih0 _ _ _|exact ih1 _ _ _ _|exact spec_TitlesOk.mono _ _|exact spec_l12Time.mono _ _|exact spec_l1Int.mono _ _|exact LeO.refl _|exact LeO.none _|refine LeO.ite ?_ ?_|refine LeO.bind ?_ (fun _=>?_))|exact ih0 _ _ _|exact ih1 _ _ _ _|exact spec_TitlesOk.mono _ _|exact spec_l12Time.mono _ _|exact spec_l1Int.mono _ _|exact LeO.none _|refine LeO.ite ?_ ?_|refine LeO.bind ?_ (fun _=>?_)
def spec_ShowTitles.T6 : Bool × List (List Nat × List Nat) := (true, [([], []), ([], []), ([1], [1]), ([2], [2]), ([3], [3]), ([], []), ([5], [5]), ([6, 3], [6]), ([4, 7], [4, 7]), ([8], [8]), ([], []), ([10], [10]), ([11, 7], [11]), ([9, 12], [9, 12]), ([13], [13]), ([], []), ([15], [15]), ([14, 16], [14, 16]), ([17], [17]), ([0, 18, 12], [0, 18]), ([19, 19, 0, 1, 2, 3, 4, 5, 6, 7, 8, 9, 10, 11, 12, 13, 14, 15, 16, 17, 18, 19], [0, 19])])
def spec_ShowTitles.B6 : List Nat := [0, 0, 2, 6, 14, 0, 32, 110, 254, 510, 0, 1024, 3310, 8190, 16382, 0, 32768, 131070, 262142, 524287, 1048575]
theorem spec_ShowTitles.tab6 : rtab .any (opsOf Tryd.f7 6) = spec_ShowTitles.T6 := by kernel_rfl
theorem spec_ShowTitles.bits6 : waitsOk spec_ShowTitles.T6.2 spec_ShowTitles.B6 = true := by kernel_rfl
set_option maxHeartbeats 8000000 in
set_option maxRecDepth 100000 in
theorem spec_ShowTitles.calls (k : Nat) (A0 : Option Addr) (c0 : Nat) (l0 : List (S40)) (r : ByteArray) (w : World) (hr0 : Kd.C k40 w A0 l0.length l0) (hc0 : l0.length ≤ c0) (h : spec_ShowTitles.f k l0 = some r) :
  Calls Tryd.prog 7 #[.slice A0 l0.length c0] w fun e w'=>e=.returned (.string r)∧Below w.heap.size w w':=by
 have hu40:=Tryd.underlying40
 have HR0:=Fa hr0
 have HC0:=Fa hc0
 clear hr0 hc0
 have HB:=Fa (Below.refl w.heap.size w)
 have H:(spec_ShowTitles.l0 k l0 (([]:List Int)) 0)=some r:=h
 clear h
 obtain⟨y117,hy117⟩:∃ y_:List Int,y_=(([]:List Int)):=⟨_,rfl⟩
 replace H:(spec_ShowTitles.l0 k l0 y117 0)=some r:=by first|(rw [hy117];with_reducible exact H)|(have H2_:=(Option.bind_some _ _).symm.trans H;rw [hy117];with_reducible exact H2_)|(have H2_:=(Option.bind_some _ _).symm.trans H;with_reducible exact H2_)|with_reducible exact H|(rw [hy117];exact H)|exact H
 have Ny117:=Fa hy117
 clear hy117
 have H':=Fa H
 clear H
 go_enter Tryd.func7,Tryd.ntmps7
 go_wp2_with (first|((with_reducible refine gate_dst (N:=6) rfl ?_);refine Kd.R_lit (Kd.int .u8) _ 5 ?hg (N:=6) ?hd (xs:=([]:List Int)) (inner:=[]) (ok:=fun _=>True) (okp:=fun _=>True) ?hr ?hp (fun _ hk=>hk) trivial (Below.refl _ _) (Nat.le_refl _) (by simp) ?_;(case hd=>rfl);(case hg=>rfl);(case hr=>first|(go_simp;done)|(go_simp;rfl));(case hp=>exact(Reps.none _ _));intro v118 w2 ho3 hb hg_ hnew_;clear hg_ hnew_;(first|rw [← Ny117.out] at ho3|(simp only [Int.reduceToNat] at ho3;rw [← Ny117.out] at ho3));have n0_:=Fa (Kd.R_lower ho3 (below_size (by repeat(first|(with_reducible first|exact HB.out|apply below_alloc|apply pw_below_drewN|apply below_drew1)|exact HB.out))));have n1_:=Fa (below_step (by repeat(first|(with_reducible first|exact HB.out|apply below_alloc|apply pw_below_drewN|apply below_drew1)|exact HB.out)) hb);clear HB;have HO119:=n0_;have HB:=n1_;clear n0_ n1_;clear hb ho3))
 go_loopg [3,4] k (fun kq v3 v4 w'=>∃ (x3_1:List Int) (qa:Int),v4=.int .i64 qa∧Aside0 (spec_ShowTitles.l0 kq l0 x3_1 qa=some r)∧Aside0 (kq≤k)∧Aside0 (Kd.R (Kd.int .u8) 5 w' w.heap.size (fun _=>True) v3 x3_1)∧Aside0 (Below w.heap.size w w'))
 case atStart=>exact⟨(y117),(0),(by first|rfl|(simp;done)|(simp [*];done)),H',⟨Nat.le_refl _⟩,⟨by(with_reducible repeat(first|apply Kd.R_alloc|apply Kd.R_drewN|apply Kd.R_drew));exact HO119.out⟩,⟨by repeat(first|(with_reducible first|exact HB.out|apply below_alloc|apply pw_below_drewN|apply below_drew1)|exact HB.out)⟩⟩
 case round=>
  clear H';try clear p2
  obtain⟨x3_1,qa,rfl,HA,HK1,qd,HB⟩:=hrel
  cases gk with
  | zero => exact absurd HA.out (by simp [spec_ShowTitles.l0])
  | succ k1 =>
   have H:=HA.out
   clear HA
   simp only [spec_ShowTitles.l0] at H
   have HC4:=Fa H
   clear H
   go_upto_region 3 with (fail)
   go_cut [14] (fun v14 wc=>∃ (kq:Nat) (x14_3:Bool),v14=.bool x14_3∧Aside0 (spec_ShowTitles.j1 kq l0 x3_1 qa x14_3=some r)∧Aside0 (kq≤k1)∧Aside0 (Kd.R (Kd.int .u8) 5 wc w.heap.size (fun _=>True) u3 x3_1)∧Aside0 (Below w.heap.size w wc))
   case first=>
    have H:=HC4.out
    clear HC4
    by_cases c5:qa < (l0.length:Int)
    ·rw [if_pos c5] at H
     have c5b0:=decide_eq_true c5
     clear c5
     (first|rw [c5b0]|(simp only [i64_w,i32_w];rw [c5b0])|skip)
     replace H:=Option.bind_eq_some_iff.mp H
     obtain⟨t120,A60,H⟩:=H
     try dsimp only at H
     have A6:=Fa A60
     clear A60
     have H':=Fa H
     clear H
     go_wp2_with (first|(go_at_call 21;(with_reducible refine(spec_TitlesOk.calls k1 _ _ l0 t120 _ ?side1 ?side2 A6.out).mono ?_);(case side1=>repeat(first|exact(Kd.C_below HR0.out HB.out)|(with_reducible refine Kd.C_alloc ?_ _)|(with_reducible refine Kd.C_drewN ?_ _)|(with_reducible refine Kd.C_drew ?_)));(case side2=>exact HC0.out);rintro e w7 ⟨rfl,hb⟩;have n0_:=Fa (Kd.R_below (by(with_reducible repeat(first|apply Kd.R_alloc|apply Kd.R_drewN|apply Kd.R_drew));exact qd.out) hb);have n1_:=Fa (below_step (by repeat(first|(with_reducible first|exact HB.out|apply below_alloc|apply pw_below_drewN|apply below_drew1)|exact HB.out)) hb);clear qd;clear HB;have qd:=n0_;have HB:=n1_;clear n0_ n1_;(try clear hb);(try clear hb2);(try clear hk);(try clear hi)))
     go_meet
     case rel=>exact⟨_,(t120),(by first|rfl|(simp;done)|(simp [*];done)),H',⟨by have:=HK1.out;first|omega|exact Nat.le_refl _⟩,⟨by(with_reducible repeat(first|apply Kd.R_alloc|apply Kd.R_drewN|apply Kd.R_drew));exact qd.out⟩,⟨by repeat(first|(with_reducible first|exact HB.out|apply below_alloc|apply pw_below_drewN|apply below_drew1)|exact HB.out)⟩⟩
    ·rw [if_neg c5] at H
     have c5b0:=decide_eq_false c5
     clear c5
     (first|rw [c5b0]|(simp only [i64_w,i32_w];rw [c5b0])|skip)
     have H':=Fa H
     clear H
     go_wp2
     go_meet
     case rel=>exact⟨_,(false),(by first|rfl|(simp;done)|(simp [*];done)),H',⟨by have:=HK1.out;first|omega|exact Nat.le_refl _⟩,⟨by(with_reducible repeat(first|apply Kd.R_alloc|apply Kd.R_drewN|apply Kd.R_drew));exact qd.out⟩,⟨by repeat(first|(with_reducible first|exact HB.out|apply below_alloc|apply pw_below_drewN|apply below_drew1)|exact HB.out)⟩⟩
   case rest=>
    clear HC4;try clear p2;try clear c5;try clear c5b0;try clear c7;try clear p2
    obtain⟨kq,x14_3,rfl,HA,HJ3,qd,HB⟩:=hcut
    cases kq with
    | zero => exact absurd HA.out (by simp [spec_ShowTitles.j1])
    | succ kj3 =>
     have H:=HA.out
     clear HA
     simp only [spec_ShowTitles.j1] at H
     by_cases c8:x14_3=true
     ·subst c8
      rw[if_pos rfl] at H
      by_cases c9:0≤qa
      case neg=>rw[if_neg c9] at H;exact absurd H (by simp)
      rw[if_pos c9] at H
      have c9b0:=decide_eq_true c9
      clear c9
      by_cases c10:qa < (l0.length:Int)
      case neg=>rw[if_neg c10] at H;exact absurd H (by simp)
      rw[if_pos c10] at H
      have c10b0:=decide_eq_true c10
      clear c10
      replace H:=Option.bind_eq_some_iff.mp H
      obtain⟨t123,A110,H⟩:=H
      try dsimp only at H
      have A11:=Fa A110
      clear A110
      by_cases c12:t123.size+1≤9223372036854775807
      case neg=>rw[if_neg c12] at H;exact absurd H (by simp)
      rw[if_pos c12] at H
      have c12b0:=eq_true c12
      have c12b1:decide (t123.size+1≤9223372036854775807)=true:=decide_eq_true c12
      try have c12b2:(9223372036854775807 < t123.size+1)=False:=eq_false (Nat.not_lt.2 c12)
      replace H:=Option.bind_eq_some_iff.mp H
      obtain⟨t124,A130,H⟩:=H
      try dsimp only at H
      have A13:=Fa A130
      clear A130
      by_cases c14:(t123 ++ (⟨#[10]⟩:ByteArray)).size+t124.size≤9223372036854775807
      case neg=>rw[if_neg c14] at H;exact absurd H (by simp)
      rw[if_pos c14] at H
      have c14b0:=eq_true c14
      have c14b1:decide ((t123 ++ (⟨#[10]⟩:ByteArray)).size+t124.size≤9223372036854775807)=true:=decide_eq_true c14
      try have c14b2:(9223372036854775807 < (t123 ++ (⟨#[10]⟩:ByteArray)).size+t124.size)=False:=eq_false (Nat.not_lt.2 c14)
      try have c14b3:(9223372036854775807 < t123.size+1+t124.size)=False:=eq_false (Nat.not_lt.2 (by have h_:=c14;simp only [ByteArray.size_append] at h_;exact h_))
      by_cases c15:((t123 ++ (⟨#[10]⟩:ByteArray)) ++ t124).size+5≤9223372036854775807
      case neg=>rw[if_neg c15] at H;exact absurd H (by simp)
      rw[if_pos c15] at H
      have c15b0:=eq_true c15
      have c15b1:decide (((t123 ++ (⟨#[10]⟩:ByteArray)) ++ t124).size+5≤9223372036854775807)=true:=decide_eq_true c15
      try have c15b2:(9223372036854775807 < ((t123 ++ (⟨#[10]⟩:ByteArray)) ++ t124).size+5)=False:=eq_false (Nat.not_lt.2 c15)
      try have c15b3:(9223372036854775807 < t123.size+1+t124.size+5)=False:=eq_false (Nat.not_lt.2 (by have h_:=c15;simp only [ByteArray.size_append] at h_;exact h_))
      replace H:=Option.bind_eq_some_iff.mp H
      obtain⟨t125,A160,H⟩:=H
      try dsimp only at H
      have A16:=Fa A160
      clear A160
      by_cases c17:(((t123 ++ (⟨#[10]⟩:ByteArray)) ++ t124) ++ (⟨#[32,45,45,62,32]⟩:ByteArray)).size+t125.size≤9223372036854775807
      case neg=>rw[if_neg c17] at H;exact absurd H (by simp)
      rw[if_pos c17] at H
      have c17b0:=eq_true c17
      have c17b1:decide ((((t123 ++ (⟨#[10]⟩:ByteArray)) ++ t124) ++ (⟨#[32,45,45,62,32]⟩:ByteArray)).size+t125.size≤9223372036854775807)=true:=decide_eq_true c17
      try have c17b2:(9223372036854775807 < (((t123 ++ (⟨#[10]⟩:ByteArray)) ++ t124) ++ (⟨#[32,45,45,62,32]⟩:ByteArray)).size+t125.size)=False:=eq_false (Nat.not_lt.2 c17)
      try have c17b3:(9223372036854775807 < t123.size+1+t124.size+5+t125.size)=False:=eq_false (Nat.not_lt.2 (by have h_:=c17;simp only [ByteArray.size_append] at h_;exact h_))
      by_cases c18:((((t123 ++ (⟨#[10]⟩:ByteArray)) ++ t124) ++ (⟨#[32,45,45,62,32]⟩:ByteArray)) ++ t125).size+1≤9223372036854775807
      case neg=>rw[if_neg c18] at H;exact absurd H (by simp)
      rw[if_pos c18] at H
      have c18b0:=eq_true c18
      have c18b1:decide (((((t123 ++ (⟨#[10]⟩:ByteArray)) ++ t124) ++ (⟨#[32,45,45,62,32]⟩:ByteArray)) ++ t125).size+1≤9223372036854775807)=true:=decide_eq_true c18
      try have c18b2:(9223372036854775807 < ((((t123 ++ (⟨#[10]⟩:ByteArray)) ++ t124) ++ (⟨#[32,45,45,62,32]⟩:ByteArray)) ++ t125).size+1)=False:=eq_false (Nat.not_lt.2 c18)
      try have c18b3:(9223372036854775807 < t123.size+1+t124.size+5+t125.size+1)=False:=eq_false (Nat.not_lt.2 (by have h_:=c18;simp only [ByteArray.size_append] at h_;exact h_))
      by_cases c19:(((((t123 ++ (⟨#[10]⟩:ByteArray)) ++ t124) ++ (⟨#[32,45,45,62,32]⟩:ByteArray)) ++ t125) ++ (⟨#[10]⟩:ByteArray)).size+((rd_T40 l0 qa).f2).size≤9223372036854775807
      case neg=>rw[if_neg c19] at H;exact absurd H (by simp)
      rw[if_pos c19] at H
      have c19b0:=eq_true c19
      have c19b1:decide ((((((t123 ++ (⟨#[10]⟩:ByteArray)) ++ t124) ++ (⟨#[32,45,45,62,32]⟩:ByteArray)) ++ t125) ++ (⟨#[10]⟩:ByteArray)).size+((rd_T40 l0 qa).f2).size≤9223372036854775807)=true:=decide_eq_true c19
      try have c19b2:(9223372036854775807 < (((((t123 ++ (⟨#[10]⟩:ByteArray)) ++ t124) ++ (⟨#[32,45,45,62,32]⟩:ByteArray)) ++ t125) ++ (⟨#[10]⟩:ByteArray)).size+((rd_T40 l0 qa).f2).size)=False:=eq_false (Nat.not_lt.2 c19)
      try have c19b3:(9223372036854775807 < t123.size+1+t124.size+5+t125.size+1+(rd_T40 l0 qa).f2.size)=False:=eq_false (Nat.not_lt.2 (by have h_:=c19;simp only [ByteArray.size_append] at h_;exact h_))
      by_cases c20:((((((t123 ++ (⟨#[10]⟩:ByteArray)) ++ t124) ++ (⟨#[32,45,45,62,32]⟩:ByteArray)) ++ t125) ++ (⟨#[10]⟩:ByteArray)) ++ ((rd_T40 l0 qa).f2)).size+2≤9223372036854775807
      case neg=>rw[if_neg c20] at H;exact absurd H (by simp)
      rw[if_pos c20] at H
      have c20b0:=eq_true c20
      have c20b1:decide (((((((t123 ++ (⟨#[10]⟩:ByteArray)) ++ t124) ++ (⟨#[32,45,45,62,32]⟩:ByteArray)) ++ t125) ++ (⟨#[10]⟩:ByteArray)) ++ ((rd_T40 l0 qa).f2)).size+2≤9223372036854775807)=true:=decide_eq_true c20
      try have c20b2:(9223372036854775807 < ((((((t123 ++ (⟨#[10]⟩:ByteArray)) ++ t124) ++ (⟨#[32,45,45,62,32]⟩:ByteArray)) ++ t125) ++ (⟨#[10]⟩:ByteArray)) ++ ((rd_T40 l0 qa).f2)).size+2)=False:=eq_false (Nat.not_lt.2 c20)
      try have c20b3:(9223372036854775807 < t123.size+1+t124.size+5+t125.size+1+(rd_T40 l0 qa).f2.size+2)=False:=eq_false (Nat.not_lt.2 (by have h_:=c20;simp only [ByteArray.size_append] at h_;exact h_))
      by_cases c21:x3_1.length+(((((((t123 ++ (⟨#[10]⟩:ByteArray)) ++ t124) ++ (⟨#[32,45,45,62,32]⟩:ByteArray)) ++ t125) ++ (⟨#[10]⟩:ByteArray)) ++ ((rd_T40 l0 qa).f2)) ++ (⟨#[10,10]⟩:ByteArray)).size < 140737488355328
      case neg=>rw[if_neg c21] at H;exact absurd H (by simp)
      rw[if_pos c21] at H
      have LMc21:=Fa c21
      clear c21
      obtain⟨y126,hy126⟩:∃ y_:List Int,y_=(x3_1 ++ bytesOf (((((((t123 ++ (⟨#[10]⟩:ByteArray)) ++ t124) ++ (⟨#[32,45,45,62,32]⟩:ByteArray)) ++ t125) ++ (⟨#[10]⟩:ByteArray)) ++ ((rd_T40 l0 qa).f2)) ++ (⟨#[10,10]⟩:ByteArray))):=⟨_,rfl⟩
      replace H:(spec_ShowTitles.l0 kj3 l0 y126 (wrap64 (qa+1)))=some r:=by first|(rw [hy126];with_reducible exact H)|(have H2_:=(Option.bind_some _ _).symm.trans H;rw [hy126];with_reducible exact H2_)|(have H2_:=(Option.bind_some _ _).symm.trans H;with_reducible exact H2_)|with_reducible exact H|(rw [hy126];exact H)|exact H
      have Ny126:=Fa hy126
      clear hy126
      have H':=Fa H
      clear H
      have p121:0≤(qa:Int):=of_decide_eq_true (by first|(with_reducible assumption)|assumption)
      have q121:qa < (l0.length:Int):=of_decide_eq_true (by first|(with_reducible assumption)|assumption)
      obtain⟨ad121,e121,hx121_0,hx121_1,hx121_2⟩:=at_T40 HR0.out qa p121 q121
      cases e121
      replace hx121_0:=(HB.out.cell (World.block_lt_of_cell? w _ hx121_0)).trans hx121_0
      replace hx121_1:=(HB.out.cell (World.block_lt_of_cell? w _ hx121_1)).trans hx121_1
      replace hx121_2:=(HB.out.cell (World.block_lt_of_cell? w _ hx121_2)).trans hx121_2
      replace p121:=eq_true p121
      replace q121:=eq_true q121
      try go_wp2_with (first|((with_reducible refine gate_dst (N:=5) rfl ?_);refine box_event ?hg (N:=5) ?hd (cs:=#[.int .i64 0,.int .i64 0,.string (⟨#[]⟩:ByteArray)]) (t:=40) ?hr ?_;(case hd=>rfl);(case hg=>rfl);(case hr=>first|(go_simp;done)|(go_simp;rfl));intro qc hg w22 hbox hb;have n0_:=Fa (Kd.R_below (by(with_reducible repeat(first|apply Kd.R_alloc|apply Kd.R_drewN|apply Kd.R_drew));exact qd.out) hb);have n1_:=Fa (below_step (by repeat(first|(with_reducible first|exact HB.out|apply below_alloc|apply pw_below_drewN|apply below_drew1)|exact HB.out)) hb);have qf:=Fa (hbox);have n3_:=Fa ((by rw [hg];exact(below_size (by repeat(first|(with_reducible first|exact HB.out|apply below_alloc|apply pw_below_drewN|apply below_drew1)|exact HB.out))):w.heap.size≤qc));have n4_:=Fa ((by rw [hg];exact(below_size (by repeat(first|(with_reducible first|exact HB.out|apply below_alloc|apply pw_below_drewN|apply below_drew1)|exact HB.out))):w.heap.size≤qc));clear qd;clear HB;have qd:=n0_;have HB:=n1_;have qb:=qf;have GW122:=n3_;have qe:=n4_;clear n0_ n1_ qf n3_ n4_;clear hb hbox hg;have hcz23_0:w22.cell? ⟨qc,0,none⟩=some (.int .i64 0):=(blk_cell qb.out 0).trans rfl;have hcz23_1:w22.cell? ⟨qc,1,none⟩=some (.int .i64 0):=(blk_cell qb.out 1).trans rfl;have hcz23_2:w22.cell? ⟨qc,2,none⟩=some (.string (⟨#[]⟩:ByteArray)):=(blk_cell qb.out 2).trans rfl;have hfz23_0:=blk_frozen qb.out 0;have hfz23_1:=blk_frozen qb.out 1;have hfz23_2:=blk_frozen qb.out 2))
      have n0_:Aside0 (Kd.R (Kd.int .u8) 5 (((w22.setCell ⟨qc,0,none⟩ (.int .i64 ((rd_T40 l0 qa).f0))).setCell ⟨qc,1,none⟩ (.int .i64 ((rd_T40 l0 qa).f1))).setCell ⟨qc,2,none⟩ (.string ((rd_T40 l0 qa).f2))) w.heap.size (fun _=>True) u3 x3_1):=⟨by(with_reducible repeat(first|apply Kd.R_alloc|apply Kd.R_drewN|apply Kd.R_drew));exact Kd.R_mono (Kd.R_far (p:=⟨qc,2,none⟩) (Kd.R_far (p:=⟨qc,1,none⟩) (Kd.R_far (p:=⟨qc,0,none⟩) (Kd.R_types qd.out qb.out (by decide)) (fun _ hk=>hk.2) (.int .i64 ((rd_T40 l0 qa).f0))) (fun _ hk=>hk.2) (.int .i64 ((rd_T40 l0 qa).f1))) (fun _ hk=>hk.2) (.string ((rd_T40 l0 qa).f2))) (fun _ hk=>trivial)⟩
      have n1_:Aside0 ((((w22.setCell ⟨qc,0,none⟩ (.int .i64 ((rd_T40 l0 qa).f0))).setCell ⟨qc,1,none⟩ (.int .i64 ((rd_T40 l0 qa).f1))).setCell ⟨qc,2,none⟩ (.string ((rd_T40 l0 qa).f2))).heap[qc]? = some (.cells #[.int .i64 ((rd_T40 l0 qa).f0),.int .i64 ((rd_T40 l0 qa).f1),.string ((rd_T40 l0 qa).f2)] 40 (0,0))):=⟨by(with_reducible repeat(first|refine blk_drewN ?_ _|refine blk_drew ?_|refine blk_alloc ?_ _));refine blk_put (cs:=#[.int .i64 ((rd_T40 l0 qa).f0),.int .i64 ((rd_T40 l0 qa).f1),.string (⟨#[]⟩:ByteArray)]) ?_ 2 _ rfl;(with_reducible repeat(first|refine blk_drewN ?_ _|refine blk_drew ?_|refine blk_alloc ?_ _));refine blk_put (cs:=#[.int .i64 ((rd_T40 l0 qa).f0),.int .i64 0,.string (⟨#[]⟩:ByteArray)]) ?_ 1 _ rfl;(with_reducible repeat(first|refine blk_drewN ?_ _|refine blk_drew ?_|refine blk_alloc ?_ _));refine blk_put (cs:=#[.int .i64 0,.int .i64 0,.string (⟨#[]⟩:ByteArray)]) ?_ 0 _ rfl;(with_reducible repeat(first|refine blk_drewN ?_ _|refine blk_drew ?_|refine blk_alloc ?_ _));exact qb.out⟩
      have qf:Aside0 (Below w.heap.size w (((w22.setCell ⟨qc,0,none⟩ (.int .i64 ((rd_T40 l0 qa).f0))).setCell ⟨qc,1,none⟩ (.int .i64 ((rd_T40 l0 qa).f1))).setCell ⟨qc,2,none⟩ (.string ((rd_T40 l0 qa).f2)))):=⟨by repeat(first|(with_reducible first|exact HB.out|apply below_alloc|apply pw_below_drewN|apply below_drew1|refine below_set ?_ qe.out)|exact HB.out)⟩
      (try clear qd)
      (try clear qb)
      (try clear HB)
      generalize (((w22.setCell ⟨qc,0,none⟩ (.int .i64 ((rd_T40 l0 qa).f0))).setCell ⟨qc,1,none⟩ (.int .i64 ((rd_T40 l0 qa).f1))).setCell ⟨qc,2,none⟩ (.string ((rd_T40 l0 qa).f2)))=w24 at n0_ n1_ qf ⊢
      have qd:=n0_
      have qb:=n1_
      have HB:=qf
      clear n0_ n1_ qf
      have n0_:=Fa (Kd.R_drew qd.out)
      have n1_:=Fa (blk_drew qb.out)
      have qf:=Fa (below_drew1 HB.out)
      clear qd qb
      clear HB
      have qd:=n0_
      have qb:=n1_
      have HB:=qf
      clear n0_ n1_ qf
      refine start_ (n:=21) (S:=fun w'=>w'.cell? ⟨qc,0,none⟩=some (.int .i64 ((rd_T40 l0 qa).f0))∧w'.cell? ⟨qc,1,none⟩=some (.int .i64 ((rd_T40 l0 qa).f1))∧w'.cell? ⟨qc,2,none⟩=some (.string ((rd_T40 l0 qa).f2))) (ds:=[]) #[false,false,false,false,false,false,false,false,false,false,false,false,false,false,false,false,false,false,false,false,false] (by kernel_rfl) rfl rfl ⟨(blk_cell qb.out 0).trans rfl,(blk_cell qb.out 1).trans rfl,(blk_cell qb.out 2).trans rfl⟩ (fun hHeld=>?_);refine with_tabW spec_ShowTitles.tab6 spec_ShowTitles.bits6 (fun HT_ HW_=>?_)
      generalize w24.drew=w25 at qd qb HB hHeld ⊢
      refine pz 0 21 (bm 21 1) HT_ ?_
      refine pz 1 22 (bm 21 3) HT_ ?_
      refine pz 2 23 (bm 21 7) HT_ ?_
      refine pz 5 26 (bm 21 39) HT_ ?_
      refine pz 10 31 (bm 21 1063) HT_ ?_
      refine pz 15 36 (bm 21 33831) HT_ ?_
      refine tz 6 27 (bm 21 33895) HT_ HW_ hHeld rfl (by rintro w' ⟨s0,s1,s2⟩;go_simp;with_reducible rfl) ?_
      refine tz 11 32 (bm 21 35943) HT_ HW_ hHeld rfl (by rintro w' ⟨s0,s1,s2⟩;go_simp;with_reducible rfl) ?_
      refine tz 16 37 (bm 21 101479) HT_ HW_ hHeld rfl (by rintro w' ⟨s0,s1,s2⟩;go_simp;with_reducible rfl) ?_
      refine one_ (i:=3) (N:=some 24) (bm 21 101487) rfl rfl (one_of HT_.out (by kernel_rfl)) (by decide) (fun K hK=>?_)
      refine goes_ Tryd.func22 (by kernel_rfl) rfl #[.int .i64 (wrap64 (qa+1))] (by rfl) rfl rfl (by(try simp only [List.map_toArray,List.map_cons,List.map_nil]);first|done|rfl|(simp only [List.length_drop,List.length_take];rfl)) ?_
      with_reducible refine(spec_l1Int.calls kj3 (wrap64 (qa+1)) t123 _ A11.out).mono ?_
      rintro e w26 ⟨rfl,hb⟩
      refine⟨_,rfl,?_⟩
      have n0_:=Fa (Kd.R_below (by(with_reducible repeat(first|apply Kd.R_alloc|apply Kd.R_drewN|apply Kd.R_drew));exact qd.out) hb)
      have n1_:=Fa (blk_below (g:=qc) (o:=.cells #[.int .i64 ((rd_T40 l0 qa).f0),.int .i64 ((rd_T40 l0 qa).f1),.string ((rd_T40 l0 qa).f2)] 40 (0,0)) (by(with_reducible repeat(first|refine blk_drewN ?_ _|refine blk_drew ?_|refine blk_alloc ?_ _));exact qb.out) hb)
      have qf:=Fa (below_step (by repeat(first|(with_reducible first|exact HB.out|apply below_alloc|apply pw_below_drewN|apply below_drew1|refine below_set ?_ qe.out)|exact HB.out)) hb)
      clear qd qb
      clear HB
      have qd:=n0_
      have qb:=n1_
      have HB:=qf
      clear n0_ n1_ qf
      (try clear hb)
      (try clear hb2)
      (try clear hk)
      (try clear hi)
      refine hK.out _ _ ⟨(blk_cell qb.out 0).trans rfl,(blk_cell qb.out 1).trans rfl,(blk_cell qb.out 2).trans rfl⟩ (fun hHeld=>?_)
      clear hK K
      refine norm_ (a':=?_) ?_ ?_;rotate_left;(show Act.put _ (some 24) _=_;simp only[pw];rfl)
      refine pz 4 25 (bm 21 101503) HT_ ?_
      refine one_ (i:=7) (N:=some 28) (bm 21 101631) rfl rfl (one_of HT_.out (by kernel_rfl)) (by decide) (fun K hK=>?_)
      refine goes_ Tryd.func23 (by kernel_rfl) rfl #[.int .i64 ((rd_T40 l0 qa).f0)] (by rfl) rfl rfl (by(try simp only [List.map_toArray,List.map_cons,List.map_nil]);first|done|rfl|(simp only [List.length_drop,List.length_take];rfl)) ?_
      with_reducible refine(spec_l12Time.calls kj3 ((rd_T40 l0 qa).f0) t124 _ A13.out).mono ?_
      rintro e w27 ⟨rfl,hb⟩
      refine⟨_,rfl,?_⟩
      have n0_:=Fa (Kd.R_below (by(with_reducible repeat(first|apply Kd.R_alloc|apply Kd.R_drewN|apply Kd.R_drew));exact qd.out) hb)
      have n1_:=Fa (blk_below (g:=qc) (o:=.cells #[.int .i64 ((rd_T40 l0 qa).f0),.int .i64 ((rd_T40 l0 qa).f1),.string ((rd_T40 l0 qa).f2)] 40 (0,0)) (by(with_reducible repeat(first|refine blk_drewN ?_ _|refine blk_drew ?_|refine blk_alloc ?_ _));exact qb.out) hb)
      have qf:=Fa (below_step (by repeat(first|(with_reducible first|exact HB.out|apply below_alloc|apply pw_below_drewN|apply below_drew1|refine below_set ?_ qe.out)|exact HB.out)) hb)
      clear qd qb
      clear HB
      have qd:=n0_
      have qb:=n1_
      have HB:=qf
      clear n0_ n1_ qf
      (try clear hb)
      (try clear hb2)
      (try clear hk)
      (try clear hi)
      refine hK.out _ _ ⟨(blk_cell qb.out 0).trans rfl,(blk_cell qb.out 1).trans rfl,(blk_cell qb.out 2).trans rfl⟩ (fun hHeld=>?_)
      clear hK K
      refine norm_ (a':=?_) ?_ ?_;rotate_left;(show Act.put _ (some 28) _=_;simp only[pw];rfl)
      refine pz 8 29 (bm 21 101887) HT_ ?_
      refine pz 9 30 (bm 21 102399) HT_ ?_
      refine one_ (i:=12) (N:=some 33) (bm 21 106495) rfl rfl (one_of HT_.out (by kernel_rfl)) (by decide) (fun K hK=>?_)
      refine goes_ Tryd.func23 (by kernel_rfl) rfl #[.int .i64 ((rd_T40 l0 qa).f1)] (by rfl) rfl rfl (by(try simp only [List.map_toArray,List.map_cons,List.map_nil]);first|done|rfl|(simp only [List.length_drop,List.length_take];rfl)) ?_
      with_reducible refine(spec_l12Time.calls kj3 ((rd_T40 l0 qa).f1) t125 _ A16.out).mono ?_
      rintro e w28 ⟨rfl,hb⟩
      refine⟨_,rfl,?_⟩
      have n0_:=Fa (Kd.R_below (by(with_reducible repeat(first|apply Kd.R_alloc|apply Kd.R_drewN|apply Kd.R_drew));exact qd.out) hb)
      have n1_:=Fa (blk_below (g:=qc) (o:=.cells #[.int .i64 ((rd_T40 l0 qa).f0),.int .i64 ((rd_T40 l0 qa).f1),.string ((rd_T40 l0 qa).f2)] 40 (0,0)) (by(with_reducible repeat(first|refine blk_drewN ?_ _|refine blk_drew ?_|refine blk_alloc ?_ _));exact qb.out) hb)
      have qf:=Fa (below_step (by repeat(first|(with_reducible first|exact HB.out|apply below_alloc|apply pw_below_drewN|apply below_drew1|refine below_set ?_ qe.out)|exact HB.out)) hb)
      clear qd qb
      clear HB
      have qd:=n0_
      have qb:=n1_
      have HB:=qf
      clear n0_ n1_ qf
      (try clear hb)
      (try clear hb2)
      (try clear hk)
      (try clear hi)
      refine hK.out _ _ ⟨(blk_cell qb.out 0).trans rfl,(blk_cell qb.out 1).trans rfl,(blk_cell qb.out 2).trans rfl⟩ (fun hHeld=>?_)
      clear hK K
      refine norm_ (a':=?_) ?_ ?_;rotate_left;(show Act.put _ (some 33) _=_;simp only[pw];rfl)
      refine pz 13 34 (bm 21 114687) HT_ ?_
      refine pz 14 35 (bm 21 131071) HT_ ?_
      refine pz 17 38 (bm 21 262143) HT_ ?_
      refine pz 18 39 (bm 21 524287) HT_ ?_
      refine one_ (i:=19) (N:=some 40) (bm 21 1048575) rfl rfl (one_of HT_.out (by kernel_rfl)) (by decide) (fun K hK=>?_)
      refine print_append_str_step (w0:=w) w.heap.size (by rfl) (.tmp 21) (.tmp 39) 36 9 5 rfl Tryd.underlying36 Tryd.underlying9 info5 u3 x3_1 (((((((t123 ++ (⟨#[10]⟩:ByteArray)) ++ t124) ++ (⟨#[32,45,45,62,32]⟩:ByteArray)) ++ t125) ++ (⟨#[10]⟩:ByteArray)) ++ ((rd_T40 l0 qa).f2)) ++ (⟨#[10,10]⟩:ByteArray)) (by rfl) (by rfl) ?aO ?aB ?aS ?aL ?_;(case aB=>exact(by repeat(first|(with_reducible first|exact HB.out|apply below_alloc|apply pw_below_drewN|apply below_drew1|refine below_set ?_ qe.out)|exact HB.out)));(case aO=>exact(Kd.own_of_R (by(with_reducible repeat(first|apply Kd.R_alloc|apply Kd.R_drewN|apply Kd.R_drew));exact qd.out)));(case aS=>exact(below_size (by repeat(first|(with_reducible first|exact HB.out|apply below_alloc|apply pw_below_drewN|apply below_drew1|refine below_set ?_ qe.out)|exact HB.out))));(case aL=>have:=LMc21.out;omega);intro v127 w29 ho0 hb hg;have ho:=Kd.R_of_own (h1:=fun _=>rfl) (ok:=fun _=>True) ho0 (fun _ _=>trivial);clear ho0;have hat:=True.intro;rw [← Ny126.out] at ho;change Kd.R (Kd.int .u8) 5 w29 w.heap.size (fun _=>True) v127 y126 at ho;have n0_:=Fa (blk_grown (g:=qc) (o:=.cells #[.int .i64 ((rd_T40 l0 qa).f0),.int .i64 ((rd_T40 l0 qa).f1),.string ((rd_T40 l0 qa).f2)] 40 (0,0)) (by(with_reducible repeat(first|refine blk_drewN ?_ _|refine blk_drew ?_|refine blk_alloc ?_ _));exact qb.out) hg (Kd.R_ne qd.out qb.out (by decide)));have n1_:=Fa (hb);have qf:=Fa (ho);clear qb;clear HB;clear qd;have qb:=n0_;have HB:=n1_;have HO128:=qf;clear n0_ n1_ qf;clear ho hb hg hat
      refine hK.out _ _ ⟨(blk_cell qb.out 0).trans rfl,(blk_cell qb.out 1).trans rfl,(blk_cell qb.out 2).trans rfl⟩ (fun hHeld=>?_)
      clear hK K
      refine norm_ (a':=?_) ?_ ?_;rotate_left;(show Act.put _ (some 40) _=_;simp only[pw];rfl)
      refine pz 20 3 (bm 21 2097151) HT_ ?_
      refine done_ (done_of HT_.out (by kernel_rfl)) ?_
      go_wp2
      go_roundg kj3
      case measure=>have:=HK1.out;have:=HJ3.out;omega
      case rel=>exact⟨(y126),(wrap64 (qa+1)),(by first|rfl|(simp;done)|(simp [*];done)),H',⟨by have:=HK1.out;have:=HJ3.out;omega⟩,⟨by(with_reducible repeat(first|apply Kd.R_alloc|apply Kd.R_drewN|apply Kd.R_drew));exact HO128.out⟩,⟨by repeat(first|(with_reducible first|exact HB.out|apply below_alloc|apply pw_below_drewN|apply below_drew1|refine below_set ?_ qe.out)|exact HB.out)⟩⟩
     ·replace c8:=Bool.eq_false_iff.mpr c8
      subst c8
      have H1:(some (strOfNums x3_1))=some r:=by rw [if_neg (show ¬ (false=true) by decide)] at H;exact H
      clear H
      have H:=H1
      clear H1
      obtain rfl:=Option.some.inj H
      have hcv30:=own_string (P:=Tryd.prog) Tryd.underlying36 Tryd.underlying5 Tryd.underlying9 (Kd.own_of_R qd.out)
      go_wp2
      go_ret
      exact⟨by first|rfl|(simp [errW_none,errW_some] <;> rfl)|(simp [*,errW_none,errW_some] <;> rfl),by repeat(first|(with_reducible first|exact HB.out|apply below_alloc|apply pw_below_drewN|apply below_drew1)|exact HB.out)⟩

end Go.Proofs.YtidogkjhjmcliaaDoor.HFnTitlesBack
