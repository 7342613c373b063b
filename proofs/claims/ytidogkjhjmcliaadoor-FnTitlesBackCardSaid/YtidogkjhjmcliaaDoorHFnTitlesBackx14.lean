-- Laid by myprint.py, a program of this repo, out of the kit's printer and this repo's own texts (wip/hand).
import Derived.Test.YtidogkjhjmcliaaDoorHFnTitlesBackx0
import Derived.Test.YtidogkjhjmcliaaDoorHFnTitlesBackx13
import Derived.Test.YtidogkjhjmcliaaDoorCmp
namespace Go.Proofs.YtidogkjhjmcliaaDoor.HFnTitlesBack
open Go.RowKit Go.Proofs.YtidogkjhjmcliaaDoorW.PrintWords Go.Proofs.YtidogkjhjmcliaaDoorW.PrintLast Go.Proofs.YtidogkjhjmcliaaDoorW.PrintMore
attribute [local go_sem] max2_int min2_int max_two min_two max_three min_three max_four min_four   -- for this text's walks alone
set_option linter.unusedVariables false
set_option linter.unusedSimpArgs false
theorem Oa : type_of% @Aside0.mk := @Aside0.mk
theorem Ob : type_of% @IsS76.alloc := @IsS76.alloc
theorem Oc : type_of% @IsS76.drew := @IsS76.drew
theorem Od : type_of% @IsS76.drewN := @IsS76.drewN
theorem Oe : type_of% @IsS76.ge := @IsS76.ge
theorem Of : type_of% @IsS76.set_1 := @IsS76.set_1
theorem Og : type_of% @IsS76.set_2 := @IsS76.set_2

/-! ### spec_l12DrawTitles: function 37 -/
mutual
def spec_l12DrawTitles.j0 : Nat → List (S40) → Int → List Int → Int → Int → Option ((List (S40)) × Int × Int)
 | 0, _, _, _, _, _ => none
 | k + 1, x3, x4, x1000, x1001, x1002 => (spec_l1Below.f x1000 x1001 x1002 6).bind fun bt297 => (spec_l12DrawTitles.l0 k x3 x4 bt297.1 x1000 bt297.2.1 bt297.2.2)
def spec_l12DrawTitles.l0 : Nat → List (S40) → Int → Int → List Int → Int → Int → Option ((List (S40)) × Int × Int)
 | 0, _, _, _, _, _, _ => none
 | k + 1, x3, x4, x5, x1000, x1001, x1002 => if x5 > 0 then ((spec_l1Below.f x1000 x1001 x1002 2500).bind fun bt300 => ((spec_l1Below.f x1000 bt300.2.1 bt300.2.2 5).bind fun bt304 => (spec_l12DrawTitles.l1 k x3 x5 (wrap64 (1 + bt304.1)) x1000 bt304.2.1 bt304.2.2 x4 (wrap64 ((wrap64 (x4 + 1)) + bt300.1)) (⟨#[]⟩ : ByteArray)))) else ((spec_l1Once.f x1000 x1001 x1002 14).bind fun bt320 => (if bt320.1 = true then (spec_l12DrawTitles.j3 k x3 (decide ((x3.length : Int) > 0)) x1000 bt320.2.1 bt320.2.2) else (spec_l12DrawTitles.j3 k x3 false x1000 bt320.2.1 bt320.2.2)))
def spec_l12DrawTitles.l1 : Nat → List (S40) → Int → Int → List Int → Int → Int → Int → Int → ByteArray → Option ((List (S40)) × Int × Int)
 | 0, _, _, _, _, _, _, _, _, _ => none
 | k + 1, x3, x5, x7, x1000, x1001, x1002, x304000, x304001, x304002 => if x7 > 0 then ((some (([(⟨#[87, 97, 115, 63]⟩ : ByteArray), (⟨#[101, 105, 110, 32]⟩ : ByteArray), (⟨#[87, 111, 114, 116]⟩ : ByteArray), (⟨#[195, 169, 116, 195, 169]⟩ : ByteArray), (⟨#[49, 10, 50]⟩ : ByteArray), (⟨#[45, 45, 62]⟩ : ByteArray), (⟨#[120, 10, 121]⟩ : ByteArray), (⟨#[255]⟩ : ByteArray)] : List ByteArray) : List ByteArray)).bind fun yg => ((spec_l1Below.f x1000 x1001 x1002 8).bind fun bt310 => (if 0 ≤ bt310.1 then (if bt310.1 < (yg.length : Int) then (if x304002.size + (rdOf ByteArray.empty yg bt310.1).size ≤ 9223372036854775807 then (spec_l12DrawTitles.l1 k x3 x5 (wrap64 (x7 - 1)) x1000 bt310.2.1 bt310.2.2 x304000 x304001 (x304002 ++ (rdOf ByteArray.empty yg bt310.1))) else (none)) else (none)) else (none)))) else (if x3.length < 4398046511104 then ((spec_l1Below.f x1000 x1001 x1002 200).bind fun bt317 => (spec_l12DrawTitles.l0 k (x3 ++ [(⟨x304000, x304001, x304002⟩ : S40)]) (wrap64 (x304001 + bt317.1)) (wrap64 (x5 - 1)) x1000 bt317.2.1 bt317.2.2)) else (none))
def spec_l12DrawTitles.j3 : Nat → List (S40) → Bool → List Int → Int → Int → Option ((List (S40)) × Int × Int)
 | 0, _, _, _, _, _ => none
 | k + 1, x3, x59, x1000, x1001, x1002 => if x59 = true then ((spec_l1Below.f x1000 x1001 x1002 (x3.length : Int)).bind fun bt323 => (if 0 ≤ bt323.1 then (if bt323.1 < (x3.length : Int) then ((spec_l1Below.f x1000 bt323.2.1 bt323.2.2 3).bind fun bt327 => (if bt327.1 = 0 then ((some (([(⟨#[]⟩ : ByteArray), (⟨#[10]⟩ : ByteArray), (⟨#[97, 10, 10, 98]⟩ : ByteArray), (⟨#[97, 10]⟩ : ByteArray), (⟨#[127]⟩ : ByteArray), (⟨#[97, 9, 98]⟩ : ByteArray), (⟨#[111, 107]⟩ : ByteArray)] : List ByteArray) : List ByteArray)).bind fun zn => ((spec_l1Below.f x1000 bt327.2.1 bt327.2.2 7).bind fun bt333 => (if 0 ≤ bt333.1 then (if bt333.1 < (zn.length : Int) then (spec_l12DrawTitles.j4 k (x3.set (bt323.1 : Int).toNat (⟨(rd_T40 x3 bt323.1).f0, (rd_T40 x3 bt323.1).f1, rdOf ByteArray.empty zn bt333.1⟩ : S40)) x1000 bt333.2.1 bt333.2.2) else (none)) else (none)))) else (if bt327.1 = 1 then ((some (([(-1), (rd_T40 x3 bt323.1).f1, 0] : List Int) : List Int)).bind fun yo => ((spec_l1Below.f x1000 bt327.2.1 bt327.2.2 3).bind fun bt342 => (if 0 ≤ bt342.1 then (if bt342.1 < (yo.length : Int) then (spec_l12DrawTitles.j4 k (x3.set (bt323.1 : Int).toNat (⟨rd yo bt342.1, (rd_T40 x3 bt323.1).f1, (rd_T40 x3 bt323.1).f2⟩ : S40)) x1000 bt342.2.1 bt342.2.2) else (none)) else (none)))) else (if bt327.1 = 2 then ((some (([359999999, 360000000, (rd_T40 x3 bt323.1).f0] : List Int) : List Int)).bind fun yp => ((spec_l1Below.f x1000 bt327.2.1 bt327.2.2 3).bind fun bt351 => (if 0 ≤ bt351.1 then (if bt351.1 < (yp.length : Int) then (spec_l12DrawTitles.j4 k (x3.set (bt323.1 : Int).toNat (⟨(rd_T40 x3 bt323.1).f0, rd yp bt351.1, (rd_T40 x3 bt323.1).f2⟩ : S40)) x1000 bt351.2.1 bt351.2.2) else (none)) else (none)))) else (spec_l12DrawTitles.j4 k x3 x1000 bt327.2.1 bt327.2.2))))) else (none)) else (none))) else (spec_l12DrawTitles.j4 k x3 x1000 x1001 x1002)
def spec_l12DrawTitles.j4 : Nat → List (S40) → List Int → Int → Int → Option ((List (S40)) × Int × Int)
 | 0, _, _, _, _ => none
 | k + 1, x3, x1000, x1001, x1002 => (spec_l1Once.f x1000 x1001 x1002 60).bind fun bt356 => (if bt356.1 = true then (spec_l12DrawTitles.l2 k (([] : List (S40))) 0 x1000 bt356.2.1 bt356.2.2) else (some (x3, bt356.2.1, bt356.2.2)))
def spec_l12DrawTitles.l2 : Nat → List (S40) → Int → List Int → Int → Int → Option ((List (S40)) × Int × Int)
 | 0, _, _, _, _, _ => none
 | k + 1, x3, x9, x1000, x1001, x1002 => (spec_l1Below.f x1000 x1001 x1002 2).bind fun bt362 => (if x9 < (wrap64 (200 + bt362.1)) then (if x3.length < 4398046511104 then (spec_l12DrawTitles.l2 k (x3 ++ [(⟨wrap64 (x9 * 10), wrap64 ((wrap64 (x9 * 10)) + 10), (⟨#[116]⟩ : ByteArray)⟩ : S40)]) (wrap64 (x9 + 1)) x1000 bt362.2.1 bt362.2.2) else (none)) else (some (x3, bt362.2.1, bt362.2.2)))
end
def spec_l12DrawTitles.f (k : Nat) (s0_0 : List Int) (s0_1 : Int) (s0_2 : Int) : Option ((List (S40)) × Int × Int) := (some (([] : List (S40)) : List (S40))).bind fun zm => ((spec_l1Below.f s0_0 s0_1 s0_2 3000).bind fun bt291 => ((spec_l1Once.f s0_0 bt291.2.1 bt291.2.2 16).bind fun bt294 => (if bt294.1 = true then (spec_l12DrawTitles.j0 k zm 359990999 s0_0 bt294.2.1 bt294.2.2) else (spec_l12DrawTitles.j0 k zm bt291.1 s0_0 bt294.2.1 bt294.2.2))))
theorem spec_l12DrawTitles.mono_l : ∀ k, (∀ y0 y1 y2 y3 y4, LeO (spec_l12DrawTitles.j0 k y0 y1 y2 y3 y4) (spec_l12DrawTitles.j0 (k + 1) y0 y1 y2 y3 y4)) ∧ (∀ y0 y1 y2 y3 y4 y5, LeO (spec_l12DrawTitles.l0 k y0 y1 y2 y3 y4 y5) (spec_l12DrawTitles.l0 (k + 1) y0 y1 y2 y3 y4 y5)) ∧ (∀ y0 y1 y2 y3 y4 y5 y6 y7 y8, LeO (spec_l12DrawTitles.l1 k y0 y1 y2 y3 y4 y5 y6 y7 y8) (spec_l12DrawTitles.l1 (k + 1) y0 y1 y2 y3 y4 y5 y6 y7 y8)) ∧ (∀ y0 y1 y2 y3 y4, LeO (spec_l12DrawTitles.j3 k y0 y1 y2 y3 y4) (spec_l12DrawTitles.j3 (k + 1) y0 y1 y2 y3 y4)) ∧ (∀ y0 y1 y2 y3, LeO (spec_l12DrawTitles.j4 k y0 y1 y2 y3) (spec_l12DrawTitles.j4 (k + 1) y0 y1 y2 y3)) ∧ (∀ y0 y1 y2 y3 y4, LeO (spec_l12DrawTitles.l2 k y0 y1 y2 y3 y4) (spec_l12DrawTitles.l2 (k + 1) y0 y1 y2 y3 y4))
 | 0 => ⟨fun _ _ _ _ _ r h => by simp [spec_l12DrawTitles.j0] at h, fun _ _ _ _ _ _ r h => by simp [spec_l12DrawTitles.l0] at h, fun _ _ _ _ _ _ _ _ _ r h => by simp [spec_l12DrawTitles.l1] at h, fun _ _ _ _ _ r h => by simp [spec_l12DrawTitles.j3] at h, fun _ _ _ _ r h => by simp [spec_l12DrawTitles.j4] at h, fun _ _ _ _ _ r h => by simp [spec_l12DrawTitles.l2] at h⟩
 | k + 1 => by
  obtain⟨ih0,ih1,ih2,ih3,ih4,ih5⟩:=spec_l12DrawTitles.mono_l k
  refine⟨?_,?_,?_,?_,?_,?_⟩
  ·intro y0 y1 y2 y3 y4
   unfold spec_l12DrawTitles.j0
   repeat' first|(with_reducible first|exact ih0 _ _ _ _ _|exact ih1 _ _ _ _ _ _|exact ih2 _ _ _ _ _ _ _ _ _|exact ih3 _ _ _ _ _|exact ih4 _ _ _ _|exact ih5 _ _ _ _ _|exact LeO.refl _|exact LeO.none _|refine LeO.ite ?_ ?_|refine LeO.bind ?_ (fun _=>?_))|exact ih0 _ _ _ _ _|exact ih1 _ _ _ _ _ _|exact ih2 _ _ _ _ _ _ _ _ _|exact ih3 _ _ _ _ _|exact ih4 _ _ _ _|exact ih5 _ _ _ _ _|exact LeO.none _|refine LeO.ite ?_ ?_|refine LeO.bind ?_ (fun _=>?_)
  ·intro y0 y1 y2 y3 y4 y5
   unfold spec_l12DrawTitles.l0
   repeat' first|(with_reducible first|exact ih0 _ _ _ _ _|exact ih1 _ _ _ _ _ _|exact ih2 _ _ _ _ _ _ _ _ _|exact ih3 _ _ _ _ _|exact ih4 _ _ _ _|exact ih5 _ _ _ _ _|exact LeO.refl _|exact LeO.none _|refine LeO.ite ?_ ?_|refine LeO.bind ?_ (fun _=>?_))|exact ih0 _ _ _ _ _|exact ih1 _ _ _ _ _ _|exact ih2 _ _ _ _ _ _ _ _ _|exact ih3 _ _ _ _ _|exact ih4 _ _ _ _|exact ih5 _ _ _ _ _|exact LeO.none _|refine LeO.ite ?_ ?_|refine LeO.bind ?_ (fun _=>?_)
  ·intro y0 y1 y2 y3 y4 y5 y6 y7 y8
   unfold spec_l12DrawTitles.l1
   repeat' first|(with_reducible first|exact ih0 _ _ _ _ _|exact ih1 _ _ _ _ _ _|exact ih2 _ _ _ _ _ _ _ _ _|exact ih3 _ _ _ _ _|exact ih4 _ _ _ _|exact ih5 _ _ _ _ _|exact LeO.refl _|exact LeO.none _|refine LeO.ite ?_ ?_|refine LeO.bind ?_ (fun _=>?_))|exact ih0 _ _ _ _ _|exact ih1 _ _ _ _ _ _|exact ih2 _ _ _ _ _ _ _ _ _|exact ih3 _ _ _ _ _|exact ih4 _ _ _ _|exact ih5 _ _ _ _ _|exact LeO.none _|refine LeO.ite ?_ ?_|refine LeO.bind ?_ (fun _=>?_)
  ·intro y0 y1 y2 y3 y4
   unfold spec_l12DrawTitles.j3
   repeat' first|(with_reducible first|exact ih0 _ _ _ _ _|exact ih1 _ _ _ _ _ _|exact ih2 _ _ _ _ _ _ _ _ _|exact ih3 _ _ _ _ _|exact ih4 _ _ _ _|exact ih5 _ _ _ _ _|exact LeO.refl _|exact LeO.none _|refine LeO.ite ?_ ?_|refine LeO.bind ?_ (fun _=>?_))|exact ih0 _ _ _ _ _|exact ih1 _ _ _ _ _ _|exact ih2 _ _ _ _ _ _ _ _ _|exact ih3 _ _ _ _ _|exact ih4 _ _ _ _|exact ih5 _ _ _ _ _|exact LeO.none _|refine LeO.ite ?_ ?_|refine LeO.bind ?_ (fun _=>?_)
  ·intro y0 y1 y2 y3
   unfold spec_l12DrawTitles.j4
   repeat' first|(with_reducible first|exact ih0 _ _ _ _ _|exact ih1 _ _ _ _ _ _|exact ih2 _ _ _ _ _ _ _ _ _|exact ih3 _ _ _ _ _|exact ih4 _ _ _ _|exact ih5 _ _ _ _ _|exact LeO.refl _|exact LeO.none _|refine LeO.ite ?_ ?_|refine LeO.bind ?_ (fun _=>?_))|exact ih0 _ _ _ _ _|exact ih1 _ _ _ _ _ _|exact ih2 _ _ _ _ _ _ _ _ _|exact ih3 _ _ _ _ _|exact ih4 _ _ _ _|exact ih5 _ _ _ _ _|exact LeO.none _|refine LeO.ite ?_ ?_|refine LeO.bind ?_ (fun _=>?_)
  ·intro y0 y1 y2 y3 y4
   unfold spec_l12DrawTitles.l2
   repeat' first|(with_reducible first|exact ih0 _ _ _ _ _|exact ih1 _ _ _ _ _ _|exact ih2 _ _ _ _ _ _ _ _ _|exact ih3 _ _ _ _ _|exact ih4 _ _ _ _|exact ih5 _ _ _ _ _|exact LeO.refl _|exact LeO.none _|refine LeO.ite ?_ ?_|refine LeO.bind ?_ (fun _=>?_))|exact ih0 _ _ _ _ _|exact ih1 _ _ _ _ _ _|exact ih2 _ _ _ _ _ _ _ _ _|exact ih3 _ _ _ _ _|exact ih4 _ _ _ _|exact ih5 _ _ _ _ _|exact LeO.none _|refine LeO.ite ?_ ?_|refine LeO.bind ?_ (fun _=>?_)
theorem spec_l12DrawTitles.mono : ∀ a0 a1 a2 k, LeO (spec_l12DrawTitles.f k a0 a1 a2) (spec_l12DrawTitles.f (k + 1) a0 a1 a2) := by
 intro a0 a1 a2 k
 obtain⟨ih0,ih1,ih2,ih3,ih4,ih5⟩:=spec_l12DrawTitles.mono_l k
 unfold spec_l12DrawTitles.f
 repeat' first|(with_reducible first|exact ih0 _ _ _ _ _|exact ih1 _ _ _ _ _ _|exact ih2 _ _ _ _ _ _ _ _ _|exact ih3 _ _ _ _ _|exact ih4 _ _ _ _|exact ih5 _ _ _ _ _|exact LeO.refl _|exact LeO.none _|refine LeO.ite ?_ ?_|refine LeO.bind ?_ (fun _=>?_))|exact ih0 _ _ _ _ _|exact ih1 _ _ _ _ _ _|exact ih2 _ _ _ _ _ _ _ _ _|exact ih3 _ _ _ _ _|exact ih4 _ _ _ _|exact ih5 _ _ _ _ _|exact LeO.none _|refine LeO.ite ?_ ?_|refine LeO.bind ?_ (fun _=>?_)
def spec_l12DrawTitles.T12 : Bool × List (List Nat × List Nat) := (true, [([], []), ([0], [0]), ([], []), ([], []), ([3], [3]), ([2, 4], [2, 4]), ([5], [5]), ([1, 6], [1, 6]), ([0, 1, 2, 3, 4, 5, 6, 7], []), ([8, 7, 4, 0, 1, 2, 3, 4, 5, 6, 7], [7, 8])])
def spec_l12DrawTitles.B12 : List Nat := [0, 1, 0, 0, 8, 28, 60, 127, 255, 511]
theorem spec_l12DrawTitles.tab12 : rtab .any (opsOf Tryd.f37 12) = spec_l12DrawTitles.T12 := by kernel_rfl
theorem spec_l12DrawTitles.bits12 : waitsOk spec_l12DrawTitles.T12.2 spec_l12DrawTitles.B12 = true := by kernel_rfl
def spec_l12DrawTitles.T21 : Bool × List (List Nat × List Nat) := (true, [([], []), ([], []), ([1], [1]), ([2], [2]), ([3], [3]), ([4], [4]), ([], []), ([6], [6]), ([5, 7], [5, 7]), ([8], [8]), ([0, 0, 1, 2, 3, 4, 5, 6, 7, 8, 9], [0]), ([10, 0, 1, 2, 3, 4, 5, 6, 7, 8, 9], [10]), ([11, 9, 7, 0, 1, 2, 3, 4, 5, 6, 7, 8, 9], [9, 11])])
def spec_l12DrawTitles.B21 : List Nat := [0, 0, 2, 6, 14, 30, 0, 64, 254, 510, 1023, 2047, 4095]
theorem spec_l12DrawTitles.tab21 : rtab .any (opsOf Tryd.f37 21) = spec_l12DrawTitles.T21 := by kernel_rfl
theorem spec_l12DrawTitles.bits21 : waitsOk spec_l12DrawTitles.T21.2 spec_l12DrawTitles.B21 = true := by kernel_rfl
def spec_l12DrawTitles.T23 : Bool × List (List Nat × List Nat) := (true, [([], []), ([], []), ([1], [1]), ([2], [2]), ([3], [3]), ([4], [4]), ([], []), ([6], [6]), ([5, 7], [5, 7]), ([8], [8]), ([0, 0, 1, 2, 3, 4, 5, 6, 7, 8, 9], [0]), ([10, 0, 1, 2, 3, 4, 5, 6, 7, 8, 9], [10]), ([11, 9, 7, 0, 1, 2, 3, 4, 5, 6, 7, 8, 9], [9, 11])])
def spec_l12DrawTitles.B23 : List Nat := [0, 0, 2, 6, 14, 30, 0, 64, 254, 510, 1023, 2047, 4095]
theorem spec_l12DrawTitles.tab23 : rtab .any (opsOf Tryd.f37 23) = spec_l12DrawTitles.T23 := by kernel_rfl
theorem spec_l12DrawTitles.bits23 : waitsOk spec_l12DrawTitles.T23.2 spec_l12DrawTitles.B23 = true := by kernel_rfl
set_option maxHeartbeats 8000000 in
set_option maxRecDepth 100000 in
theorem spec_l12DrawTitles.calls (k : Nat) (g : Nat) (s0_0 : List Int) (s0_1 : Int) (s0_2 : Int) (r1 : List (S40)) (r2 : Int) (r3 : Int) (w0 w : World) (hI : IsS76 w0 w g s0_0 s0_1 s0_2) (hB : Below w0.heap.size w0 w) (h : spec_l12DrawTitles.f k s0_0 s0_1 s0_2 = some (r1, r2, r3)) :
  Calls Tryd.prog 37 #[.pointer (some ⟨g,0,none⟩)] w fun e w'=>∃ v0_:Value,e=.returned (v0_)∧Kd.R k40 40 w' w.heap.size (fun _=>True) v0_ r1∧IsS76 w0 w' g s0_0 r2 r3∧Below w0.heap.size w0 w'∧KeepBut w w' g none:=by
 have hu40:=Tryd.underlying40
 have qb:=Oa hI
 have HK:=Oa (KeepBut.refl w g none)
 have HL:=Oa hB.size
 clear hI
 have HW0:=Oa hB.size
 have HB:=Oa hB
 clear hB
 have H:((some (([]:List (S40)):List (S40))).bind fun zm=>((spec_l1Below.f s0_0 s0_1 s0_2 3000).bind fun bt291=>((spec_l1Once.f s0_0 bt291.2.1 bt291.2.2 16).bind fun bt294=>(if bt294.1=true then (spec_l12DrawTitles.j0 k zm 359990999 s0_0 bt294.2.1 bt294.2.2) else (spec_l12DrawTitles.j0 k zm bt291.1 s0_0 bt294.2.1 bt294.2.2)))))=some (r1,r2,r3):=h
 clear h
 obtain⟨zm,hy288⟩:∃ y_:List (S40),y_=(([]:List (S40))):=⟨_,rfl⟩
 replace H:((spec_l1Below.f s0_0 s0_1 s0_2 3000).bind fun bt291=>((spec_l1Once.f s0_0 bt291.2.1 bt291.2.2 16).bind fun bt294=>(if bt294.1=true then (spec_l12DrawTitles.j0 k zm 359990999 s0_0 bt294.2.1 bt294.2.2) else (spec_l12DrawTitles.j0 k zm bt291.1 s0_0 bt294.2.1 bt294.2.2))))=some (r1,r2,r3):=by first|(rw [hy288];with_reducible exact H)|(have yd:=(Option.bind_some _ _).symm.trans H;rw [hy288];with_reducible exact yd)|(have yd:=(Option.bind_some _ _).symm.trans H;with_reducible exact yd)|with_reducible exact H|(rw [hy288];exact H)|exact H
 have Ny288:=Oa hy288
 clear hy288
 replace H:=Option.bind_eq_some_iff.mp H
 obtain⟨⟨t291,t292,t293⟩,A20,H⟩:=H
 try dsimp only at H
 have A2:=Oa A20
 clear A20
 replace H:=Option.bind_eq_some_iff.mp H
 obtain⟨⟨t294,t295,t296⟩,A30,H⟩:=H
 try dsimp only at H
 have A3:=Oa A30
 clear A30
 have HC4:=Oa H
 clear H
 go_enter Tryd.func37,Tryd.ntmps37
 go_upto_if 14 with (first|((with_reducible refine gate_dst (N:=10) rfl ?_);(try(refine gate_guard (by rfl) ?_;dsimp only));refine Kd.R_lit k40 _ 40 ?hg (N:=10) ?hd (xs:=([]:List (S40))) (inner:=[]) (ok:=fun _=>True) (okp:=fun _=>True) ?hr ?hp (fun _ hk=>hk) trivial (Below.refl _ _) (Nat.le_refl _) (by simp) ?_;(case hd=>rfl);(case hg=>rfl);(case hr=>first|(go_simp;done)|(go_simp;rfl));(case hp=>exact(Reps.none _ _));intro v289 w5 ho6 hb hg_ hnew_;clear hg_ hnew_;(first|rw [← Ny288.out] at ho6|(simp only [Int.reduceToNat] at ho6;rw [← Ny288.out] at ho6));have qi:=Oa (Kd.R_lower ho6 (keep_size (w:=w) (g:=g) (row:=none) (by repeat(first|(with_reducible first|exact HK.out|apply KeepBut.set_|apply keep_drewN|apply keep_drew|apply keep_alloc)|exact HK.out))));have qj:=Oa (IsS76.below (by repeat(first|(with_reducible first|exact qb.out|apply Ob|apply Od|apply Oc|apply Of|apply Og)|exact qb.out)) hb);have qk:=Oa (KeepBut.trans (by repeat(first|(with_reducible first|exact HK.out|apply KeepBut.set_|apply keep_drewN|apply keep_drew|apply keep_alloc)|exact HK.out)) (KeepBut.of_below hb g none) (.inl rfl));have ql:=Oa (below_step (by repeat(first|(with_reducible first|exact HB.out|apply below_alloc|apply pw_below_drewN|apply below_drew1|refine below_set ?_ (Oe qb.out))|exact HB.out)) hb);clear qb;clear HK;clear HB;have zg:=qi;have qb:=qj;have HK:=qk;have HB:=ql;clear qi qj qk ql;clear hb ho6)|((with_reducible refine gate_callee (f:=38) rfl ?_);refine goesL_ (some 12) rfl rfl Tryd.func38 (by kernel_rfl) rfl #[.pointer (some ⟨g,0,none⟩),.int .i64 3000] rfl (by(try simp only [List.map_toArray,List.map_cons,List.map_nil]);first|done|rfl|(simp only [List.length_drop,List.length_take];rfl)) ?_;(with_reducible refine(spec_l1Below.calls g s0_0 s0_1 s0_2 3000 t291 t292 t293 w0 _ ?side1 ?side2 A2.out).mono ?_);(case side1=>repeat(first|(with_reducible first|exact qb.out|apply Ob|apply Od|apply Oc|apply Of|apply Og)|exact qb.out));(case side2=>repeat(first|(with_reducible first|exact HB.out|apply below_alloc|apply pw_below_drewN|apply below_drew1|refine below_set ?_ (Oe qb.out))|exact HB.out));rintro e w7 ⟨rfl,hi,hb,hk⟩;refine⟨_,rfl,?_⟩;have qi:=Oa (Kd.R_mono (Kd.R_keep (IsS76.apart (show IsS76 w0 _ g s0_0 s0_1 s0_2 from by repeat(first|(with_reducible first|exact qb.out|apply Ob|apply Od|apply Oc|apply Of|apply Og)|exact qb.out)) (by(with_reducible repeat(first|apply Kd.R_alloc|apply Kd.R_drewN|apply Kd.R_drew));exact zg.out) (by decide)) hk (fun _ h=>h.2)) (fun _ h=>h.1));have qj:=Oa (KeepBut.trans (by repeat(first|(with_reducible first|exact HK.out|apply KeepBut.set_|apply keep_drewN|apply keep_drew|apply keep_alloc)|exact HK.out)) hk (.inl rfl));have qk:=Oa (hb);have ql:=Oa (hi);clear zg;clear HK;clear HB;clear qb;have zg:=qi;have HK:=qj;have HB:=qk;have qb:=ql;clear qi qj qk ql;(try clear hb);(try clear hb2);(try clear hk);(try clear hi))|((with_reducible refine gate_callee (f:=50) rfl ?_);refine goesL_ (some 14) rfl rfl Tryd.func50 (by kernel_rfl) rfl #[.pointer (some ⟨g,0,none⟩),.int .i64 16] rfl (by(try simp only [List.map_toArray,List.map_cons,List.map_nil]);first|done|rfl|(simp only [List.length_drop,List.length_take];rfl)) ?_;(with_reducible refine(spec_l1Once.calls g s0_0 t292 t293 16 t294 t295 t296 w0 _ ?side1 ?side2 A3.out).mono ?_);(case side1=>repeat(first|(with_reducible first|exact qb.out|apply Ob|apply Od|apply Oc|apply Of|apply Og)|exact qb.out));(case side2=>repeat(first|(with_reducible first|exact HB.out|apply below_alloc|apply pw_below_drewN|apply below_drew1|refine below_set ?_ (Oe qb.out))|exact HB.out));rintro e w8 ⟨rfl,hi,hb,hk⟩;refine⟨_,rfl,?_⟩;have qi:=Oa (Kd.R_mono (Kd.R_keep (IsS76.apart (show IsS76 w0 _ g s0_0 t292 t293 from by repeat(first|(with_reducible first|exact qb.out|apply Ob|apply Od|apply Oc|apply Of|apply Og)|exact qb.out)) (by(with_reducible repeat(first|apply Kd.R_alloc|apply Kd.R_drewN|apply Kd.R_drew));exact zg.out) (by decide)) hk (fun _ h=>h.2)) (fun _ h=>h.1));have qj:=Oa (KeepBut.trans (by repeat(first|(with_reducible first|exact HK.out|apply KeepBut.set_|apply keep_drewN|apply keep_drew|apply keep_alloc)|exact HK.out)) hk (.inl rfl));have qk:=Oa (hb);have ql:=Oa (hi);clear zg;clear HK;clear HB;clear qb;have zg:=qi;have HK:=qj;have HB:=qk;have qb:=ql;clear qi qj qk ql;(try clear hb);(try clear hb2);(try clear hk);(try clear hi)))
 (try simp only [Act.put,List.setIfInBounds_toArray,List.set_cons_zero,List.set_cons_succ])
 go_cut [4] (fun v4 wc=>∃ (kq:Nat) (x4_3:Int),v4=.int .i64 x4_3∧Aside0 (spec_l12DrawTitles.j0 kq zm x4_3 s0_0 t295 t296=some (r1,r2,r3))∧Aside0 (kq≤k)∧Aside0 (Kd.R k40 40 wc w.heap.size (fun _=>True) v289 zm)∧Aside0 (IsS76 w0 wc g s0_0 t295 t296)∧Aside0 (KeepBut w wc g none)∧Aside0 (Below w0.heap.size w0 wc))
 case first=>
  have H:=HC4.out
  clear HC4
  by_cases c9:t294=true
  ·subst c9
   rw[if_pos rfl] at H
   have H':=Oa H
   clear H
   go_wp2
   go_meet
   case rel=>exact⟨_,(359990999),(by first|rfl|(simp;done)|(simp [*];done)),H',⟨by first|omega|exact Nat.le_refl _⟩,⟨by(with_reducible repeat(first|apply Kd.R_alloc|apply Kd.R_drewN|apply Kd.R_drew));exact zg.out⟩,⟨by repeat(first|(with_reducible first|exact qb.out|apply Ob|apply Od|apply Oc|apply Of|apply Og)|exact qb.out)⟩,⟨by repeat(first|(with_reducible first|exact HK.out|apply KeepBut.set_|apply keep_drewN|apply keep_drew|apply keep_alloc)|exact HK.out)⟩,⟨by repeat(first|(with_reducible first|exact HB.out|apply below_alloc|apply pw_below_drewN|apply below_drew1|refine below_set ?_ (Oe qb.out))|exact HB.out)⟩⟩
  ·replace c9:=Bool.eq_false_iff.mpr c9
   subst c9
   have H1:(spec_l12DrawTitles.j0 k zm t291 s0_0 t295 t296)=some (r1,r2,r3):=by rw [if_neg (show ¬ (false=true) by decide)] at H;exact H
   clear H
   have H:=H1
   clear H1
   have H':=Oa H
   clear H
   go_wp2
   go_meet
   case rel=>exact⟨_,(t291),(by first|rfl|(simp;done)|(simp [*];done)),H',⟨by first|omega|exact Nat.le_refl _⟩,⟨by(with_reducible repeat(first|apply Kd.R_alloc|apply Kd.R_drewN|apply Kd.R_drew));exact zg.out⟩,⟨by repeat(first|(with_reducible first|exact qb.out|apply Ob|apply Od|apply Oc|apply Of|apply Og)|exact qb.out)⟩,⟨by repeat(first|(with_reducible first|exact HK.out|apply KeepBut.set_|apply keep_drewN|apply keep_drew|apply keep_alloc)|exact HK.out)⟩,⟨by repeat(first|(with_reducible first|exact HB.out|apply below_alloc|apply pw_below_drewN|apply below_drew1|refine below_set ?_ (Oe qb.out))|exact HB.out)⟩⟩
 case rest=>
  clear HC4;try clear p2;try clear c3;try clear c5;try clear c9
  obtain⟨kq,x4_3,rfl,HA,HJ3,qa,qb,HK,HB⟩:=hcut
  cases kq with
  | zero => exact absurd HA.out (by simp [spec_l12DrawTitles.j0])
  | succ kj3 =>
   have H:=HA.out
   clear HA
   simp only [spec_l12DrawTitles.j0] at H
   replace H:=Option.bind_eq_some_iff.mp H
   obtain⟨⟨t297,t298,t299⟩,A100,H⟩:=H
   try dsimp only at H
   have A10:=Oa A100
   clear A100
   have H':=Oa H
   clear H
   go_wp2_with (first|((with_reducible refine gate_callee (f:=38) rfl ?_);refine goesL_ (some 16) rfl rfl Tryd.func38 (by kernel_rfl) rfl #[.pointer (some ⟨g,0,none⟩),.int .i64 6] rfl (by(try simp only [List.map_toArray,List.map_cons,List.map_nil]);first|done|rfl|(simp only [List.length_drop,List.length_take];rfl)) ?_;(with_reducible refine(spec_l1Below.calls g s0_0 t295 t296 6 t297 t298 t299 w0 _ ?side1 ?side2 A10.out).mono ?_);(case side1=>repeat(first|(with_reducible first|exact qb.out|apply Ob|apply Od|apply Oc|apply Of|apply Og)|exact qb.out));(case side2=>repeat(first|(with_reducible first|exact HB.out|apply below_alloc|apply pw_below_drewN|apply below_drew1|refine below_set ?_ (Oe qb.out))|exact HB.out));rintro e w11 ⟨rfl,hi,hb,hk⟩;refine⟨_,rfl,?_⟩;have qi:=Oa (Kd.R_mono (Kd.R_keep (IsS76.apart (show IsS76 w0 _ g s0_0 t295 t296 from by repeat(first|(with_reducible first|exact qb.out|apply Ob|apply Od|apply Oc|apply Of|apply Og)|exact qb.out)) (by(with_reducible repeat(first|apply Kd.R_alloc|apply Kd.R_drewN|apply Kd.R_drew));exact qa.out) (by decide)) hk (fun _ h=>h.2)) (fun _ h=>h.1));have qj:=Oa (KeepBut.trans (by repeat(first|(with_reducible first|exact HK.out|apply KeepBut.set_|apply keep_drewN|apply keep_drew|apply keep_alloc)|exact HK.out)) hk (.inl rfl));have qk:=Oa (hb);have ql:=Oa (hi);clear qa;clear HK;clear HB;clear qb;have qa:=qi;have HK:=qj;have HB:=qk;have qb:=ql;clear qi qj qk ql;(try clear hb);(try clear hb2);(try clear hk);(try clear hi)))
   go_loopg [3,4,5] kj3 (fun kq v3 v4 v5 w'=>∃ (qd:List (S40)) (qn:Int) (x5_2:Int) (qv:Int) (qw:Int),v4=.int .i64 qn∧v5=.int .i64 x5_2∧Aside0 (spec_l12DrawTitles.l0 kq qd qn x5_2 s0_0 qv qw=some (r1,r2,r3))∧Aside0 (kq≤kj3)∧Aside0 (Kd.R k40 40 w' w.heap.size (fun _=>True) v3 qd)∧Aside0 (IsS76 w0 w' g s0_0 qv qw)∧Aside0 (KeepBut w w' g none)∧Aside0 (Below w0.heap.size w0 w'))
   case atStart=>exact⟨(zm),(x4_3),(t297),(t298),(t299),(by first|rfl|(simp;done)|(simp [*];done)),(by first|rfl|(simp;done)|(simp [*];done)),H',⟨Nat.le_refl _⟩,⟨by(with_reducible repeat(first|apply Kd.R_alloc|apply Kd.R_drewN|apply Kd.R_drew));exact qa.out⟩,⟨by repeat(first|(with_reducible first|exact qb.out|apply Ob|apply Od|apply Oc|apply Of|apply Og)|exact qb.out)⟩,⟨by repeat(first|(with_reducible first|exact HK.out|apply KeepBut.set_|apply keep_drewN|apply keep_drew|apply keep_alloc)|exact HK.out)⟩,⟨by repeat(first|(with_reducible first|exact HB.out|apply below_alloc|apply pw_below_drewN|apply below_drew1|refine below_set ?_ (Oe qb.out))|exact HB.out)⟩⟩
   case round=>
    clear H';try clear p2;try clear c3;try clear c5;try clear c9;try clear p2
    obtain⟨qd,qn,x5_2,qv,qw,rfl,rfl,HA,HK2,qa,qb,HK,HB⟩:=hrel
    cases gk with
    | zero => exact absurd HA.out (by simp [spec_l12DrawTitles.l0])
    | succ k2 =>
     have H:=HA.out
     clear HA
     simp only [spec_l12DrawTitles.l0] at H
     by_cases c12:x5_2 > 0
     ·rw [if_pos c12] at H
      have c12b0:=decide_eq_true c12
      clear c12
      replace H:=Option.bind_eq_some_iff.mp H
      obtain⟨⟨qu,t301,t302⟩,A130,H⟩:=H
      try dsimp only at H
      have A13:=Oa A130
      clear A130
      replace H:=Option.bind_eq_some_iff.mp H
      obtain⟨⟨t304,t305,t306⟩,A140,H⟩:=H
      try dsimp only at H
      have A14:=Oa A140
      clear A140
      have H':=Oa H
      clear H
      go_wp2_with (first|((with_reducible refine gate_callee (f:=38) rfl ?_);refine goesL_ (some 25) rfl rfl Tryd.func38 (by kernel_rfl) rfl #[.pointer (some ⟨g,0,none⟩),.int .i64 2500] rfl (by(try simp only [List.map_toArray,List.map_cons,List.map_nil]);first|done|rfl|(simp only [List.length_drop,List.length_take];rfl)) ?_;(with_reducible refine(spec_l1Below.calls g s0_0 qv qw 2500 qu t301 t302 w0 _ ?side1 ?side2 A13.out).mono ?_);(case side1=>repeat(first|(with_reducible first|exact qb.out|apply Ob|apply Od|apply Oc|apply Of|apply Og)|exact qb.out));(case side2=>repeat(first|(with_reducible first|exact HB.out|apply below_alloc|apply pw_below_drewN|apply below_drew1|refine below_set ?_ (Oe qb.out))|exact HB.out));rintro e w15 ⟨rfl,hi,hb,hk⟩;refine⟨_,rfl,?_⟩;have qi:=Oa (Kd.R_mono (Kd.R_keep (IsS76.apart (show IsS76 w0 _ g s0_0 qv qw from by repeat(first|(with_reducible first|exact qb.out|apply Ob|apply Od|apply Oc|apply Of|apply Og)|exact qb.out)) (by(with_reducible repeat(first|apply Kd.R_alloc|apply Kd.R_drewN|apply Kd.R_drew));exact qa.out) (by decide)) hk (fun _ h=>h.2)) (fun _ h=>h.1));have qj:=Oa (KeepBut.trans (by repeat(first|(with_reducible first|exact HK.out|apply KeepBut.set_|apply keep_drewN|apply keep_drew|apply keep_alloc)|exact HK.out)) hk (.inl rfl));have qk:=Oa (hb);have ql:=Oa (hi);clear qa;clear HK;clear HB;clear qb;have qa:=qi;have HK:=qj;have HB:=qk;have qb:=ql;clear qi qj qk ql;(try clear hb);(try clear hb2);(try clear hk);(try clear hi))|((with_reducible refine gate_dst (N:=6) rfl ?_);(try(refine gate_guard (by rfl) ?_;dsimp only));refine box_event ?hg (N:=6) ?hd (cs:=#[.int .i64 0,.int .i64 0,.string (⟨#[]⟩:ByteArray)]) (t:=40) ?hr ?_;(case hd=>rfl);(case hg=>rfl);(case hr=>first|(go_simp;done)|(go_simp;rfl));intro qh hg w16 hbox hb;have qi:=Oa (Kd.R_below (Kd.R_elderB (by(with_reducible repeat(first|apply Kd.R_alloc|apply Kd.R_drewN|apply Kd.R_drew));exact qa.out) qh (Nat.le_of_eq hg.symm)) hb);have qj:=Oa (IsS76.below (by repeat(first|(with_reducible first|exact qb.out|apply Ob|apply Od|apply Oc|apply Of|apply Og)|exact qb.out)) hb);have qk:=Oa (KeepBut.trans (by repeat(first|(with_reducible first|exact HK.out|apply KeepBut.set_|apply keep_drewN|apply keep_drew|apply keep_alloc)|exact HK.out)) (KeepBut.of_below hb g none) (.inl rfl));have ql:=Oa (below_step (by repeat(first|(with_reducible first|exact HB.out|apply below_alloc|apply pw_below_drewN|apply below_drew1|refine below_set ?_ (Oe qb.out))|exact HB.out)) hb);have qr:=Oa (hbox);have zt:=Oa ((by rw [hg];exact(keep_size (w:=w) (g:=g) (row:=none) (by repeat(first|(with_reducible first|exact HK.out|apply KeepBut.set_|apply keep_drewN|apply keep_drew|apply keep_alloc)|exact HK.out))):w.heap.size≤qh));have n6_:=Oa ((Nat.le_trans HW0.out (by rw [hg];exact(keep_size (w:=w) (g:=g) (row:=none) (by repeat(first|(with_reducible first|exact HK.out|apply KeepBut.set_|apply keep_drewN|apply keep_drew|apply keep_alloc)|exact HK.out))):w.heap.size≤qh):w0.heap.size≤qh));have n7_:=Oa ((by rw [hg];exact Nat.ne_of_lt (IsS76.lt (show IsS76 w0 _ g s0_0 t301 t302 from by repeat(first|(with_reducible first|exact qb.out|apply Ob|apply Od|apply Oc|apply Of|apply Og)|exact qb.out))):g≠qh));have n8_:=Oa ((by rw [hg];exact Nat.ne_of_gt (IsS76.lt (show IsS76 w0 _ g s0_0 t301 t302 from by repeat(first|(with_reducible first|exact qb.out|apply Ob|apply Od|apply Oc|apply Of|apply Og)|exact qb.out))):qh≠g));clear qa;clear qb;clear HK;clear HB;have qa:=qi;have qb:=qj;have HK:=qk;have HB:=ql;have qf:=qr;have qx:=zt;have yk:=n6_;have qo:=n7_;have ys:=n8_;clear qi qj qk ql qr zt n6_ n7_ n8_;clear hb hbox hg;have hnb17:=ys.out;have hnc17:=qo.out;have hcz18_0:w16.cell? ⟨qh,0,none⟩=some (.int .i64 0):=(blk_cell qf.out 0).trans rfl;have hcz18_1:w16.cell? ⟨qh,1,none⟩=some (.int .i64 0):=(blk_cell qf.out 1).trans rfl;have hcz18_2:w16.cell? ⟨qh,2,none⟩=some (.string (⟨#[]⟩:ByteArray)):=(blk_cell qf.out 2).trans rfl;have hfz18_0:=blk_frozen qf.out 0;have hfz18_1:=blk_frozen qf.out 1;have hfz18_2:=blk_frozen qf.out 2)|((with_reducible refine gate_callee (f:=38) rfl ?_);refine goesL_ (some 29) rfl rfl Tryd.func38 (by kernel_rfl) rfl #[.pointer (some ⟨g,0,none⟩),.int .i64 5] rfl (by(try simp only [List.map_toArray,List.map_cons,List.map_nil]);first|done|rfl|(simp only [List.length_drop,List.length_take];rfl)) ?_;(with_reducible refine(spec_l1Below.calls g s0_0 t301 t302 5 t304 t305 t306 w0 _ ?side1 ?side2 A14.out).mono ?_);(case side1=>repeat(first|(with_reducible first|exact qb.out|apply Ob|apply Od|apply Oc|apply Of|apply Og|refine IsS76.far ?_ qo.out _)|exact qb.out));(case side2=>repeat(first|(with_reducible first|exact HB.out|apply below_alloc|apply pw_below_drewN|apply below_drew1|refine below_set ?_ (Oe qb.out)|refine below_set ?_ yk.out)|exact HB.out));rintro e w19 ⟨rfl,hi,hb,hk⟩;refine⟨_,rfl,?_⟩;have qi:=Oa (Kd.R_mono (Kd.R_keep (IsS76.apart (show IsS76 w0 _ g s0_0 t301 t302 from by repeat(first|(with_reducible first|exact qb.out|apply Ob|apply Od|apply Oc|apply Of|apply Og|refine IsS76.far ?_ qo.out _)|exact qb.out)) (by(with_reducible repeat(first|apply Kd.R_alloc|apply Kd.R_drewN|apply Kd.R_drew));exact(Kd.R_mono (Kd.R_far (p:=⟨qh,2,none⟩) (Kd.R_far (p:=⟨qh,1,none⟩) (Kd.R_far (p:=⟨qh,0,none⟩) (Kd.R_mono qa.out (fun k_ hk=>(⟨hk,hk.2⟩:_∧k_≠qh))) (fun _ hk=>hk.2) (.int .i64 qn)) (fun _ hk=>hk.2) (.int .i64 (wrap64 ((wrap64 (qn+1))+qu)))) (fun _ hk=>hk.2) (.string (⟨#[]⟩:ByteArray))) (fun _ h_=>h_.1))) (by decide)) hk (fun _ h=>h.2)) (fun _ h=>h.1));have qj:=Oa (KeepBut.blk hk (g':=qh) (o:=.cells #[.int .i64 qn,.int .i64 (wrap64 ((wrap64 (qn+1))+qu)),.string (⟨#[]⟩:ByteArray)] 40 (0,0)) (by(with_reducible repeat(first|refine blk_drewN ?_ _|refine blk_drew ?_|refine blk_alloc ?_ _));refine blk_put (cs:=#[.int .i64 qn,.int .i64 (wrap64 ((wrap64 (qn+1))+qu)),.string (⟨#[]⟩:ByteArray)]) ?_ 2 _ rfl;(with_reducible repeat(first|refine blk_drewN ?_ _|refine blk_drew ?_|refine blk_alloc ?_ _));refine blk_put (cs:=#[.int .i64 qn,.int .i64 0,.string (⟨#[]⟩:ByteArray)]) ?_ 1 _ rfl;(with_reducible repeat(first|refine blk_drewN ?_ _|refine blk_drew ?_|refine blk_alloc ?_ _));refine blk_put (cs:=#[.int .i64 0,.int .i64 0,.string (⟨#[]⟩:ByteArray)]) ?_ 0 _ rfl;(with_reducible repeat(first|refine blk_drewN ?_ _|refine blk_drew ?_|refine blk_alloc ?_ _));exact qf.out) ys.out (by simp));have qk:=Oa (KeepBut.trans (by repeat(first|(with_reducible first|exact HK.out|apply KeepBut.set_|apply keep_drewN|apply keep_drew|apply keep_alloc|refine keep_far ?_ qx.out _)|exact HK.out)) hk (.inl rfl));have ql:=Oa (hb);have qr:=Oa (hi);clear qa;clear qf;clear HK;clear HB;clear qb;have qa:=qi;have qf:=qj;have HK:=qk;have HB:=ql;have qb:=qr;clear qi qj qk ql qr;(try clear hb);(try clear hb2);(try clear hk);(try clear hi)))
      go_loopg [7] k2 (fun kq v7 w'=>∃ (x7_3:Int) (qs:Int) (qt:Int) (qg:ByteArray),v7=.int .i64 x7_3∧Aside0 (spec_l12DrawTitles.l1 kq qd x5_2 x7_3 s0_0 qs qt qn (wrap64 ((wrap64 (qn+1))+qu)) qg=some (r1,r2,r3))∧Aside0 (kq≤k2)∧Aside0 (Kd.R k40 40 w' w.heap.size (fun k_=>k_≠qh) u3 qd)∧Aside0 (w'.heap[qh]? = some (.cells #[.int .i64 qn,.int .i64 (wrap64 ((wrap64 (qn+1))+qu)),.string qg] 40 (0,0)))∧Aside0 (IsS76 w0 w' g s0_0 qs qt)∧Aside0 (KeepBut w w' g none)∧Aside0 (Below w0.heap.size w0 w'))
      case atStart=>exact⟨(wrap64 (1+t304)),(t305),(t306),((⟨#[]⟩:ByteArray)),(by first|rfl|(simp;done)|(simp [*];done)),H',⟨Nat.le_refl _⟩,⟨by(with_reducible repeat(first|apply Kd.R_alloc|apply Kd.R_drewN|apply Kd.R_drew));exact Kd.R_mono qa.out (fun _ hk=>hk.2)⟩,⟨by(with_reducible repeat(first|refine blk_drewN ?_ _|refine blk_drew ?_|refine blk_alloc ?_ _));exact qf.out⟩,⟨by repeat(first|(with_reducible first|exact qb.out|apply Ob|apply Od|apply Oc|apply Of|apply Og|refine IsS76.far ?_ qo.out _)|exact qb.out)⟩,⟨by repeat(first|(with_reducible first|exact HK.out|apply KeepBut.set_|apply keep_drewN|apply keep_drew|apply keep_alloc|refine keep_far ?_ qx.out _)|exact HK.out)⟩,⟨by repeat(first|(with_reducible first|exact HB.out|apply below_alloc|apply pw_below_drewN|apply below_drew1|refine below_set ?_ (Oe qb.out)|refine below_set ?_ yk.out)|exact HB.out)⟩⟩
      case round=>
       clear H';try clear c1;try clear p2;try clear c3;try clear c5;try clear p6;try clear c9;try clear c12;try clear c12b0;try clear c17;try clear hcz18_0;try clear hcz18_1;try clear hcz18_2;try clear hfz18_0;try clear hfz18_1;try clear hfz18_2;try clear p2
       obtain⟨x7_3,qs,qt,qg,rfl,HA,HK3,qa,qf,qb,HK,HB⟩:=hrel
       cases gk with
       | zero => exact absurd HA.out (by simp [spec_l12DrawTitles.l1])
       | succ k3 =>
        have H:=HA.out
        clear HA
        simp only [spec_l12DrawTitles.l1] at H
        by_cases c20:x7_3 > 0
        ·rw [if_pos c20] at H
         have c20b0:=decide_eq_true c20
         clear c20
         obtain⟨yg,hy307⟩:∃ y_:List ByteArray,y_=(([(⟨#[87,97,115,63]⟩:ByteArray),(⟨#[101,105,110,32]⟩:ByteArray),(⟨#[87,111,114,116]⟩:ByteArray),(⟨#[195,169,116,195,169]⟩:ByteArray),(⟨#[49,10,50]⟩:ByteArray),(⟨#[45,45,62]⟩:ByteArray),(⟨#[120,10,121]⟩:ByteArray),(⟨#[255]⟩:ByteArray)]:List ByteArray)):=⟨_,rfl⟩
         replace H:((spec_l1Below.f s0_0 qs qt 8).bind fun bt310=>(if 0≤bt310.1 then (if bt310.1 < (yg.length:Int) then (if qg.size+(rdOf ByteArray.empty yg bt310.1).size≤9223372036854775807 then (spec_l12DrawTitles.l1 k3 qd x5_2 (wrap64 (x7_3 - 1)) s0_0 bt310.2.1 bt310.2.2 qn (wrap64 ((wrap64 (qn+1))+qu)) (qg ++ (rdOf ByteArray.empty yg bt310.1))) else (none)) else (none)) else (none)))=some (r1,r2,r3):=by first|(rw [hy307];with_reducible exact H)|(have yd:=(Option.bind_some _ _).symm.trans H;rw [hy307];with_reducible exact yd)|(have yd:=(Option.bind_some _ _).symm.trans H;with_reducible exact yd)|with_reducible exact H|(rw [hy307];exact H)|exact H
         have zq:=Oa hy307
         clear hy307
         replace H:=Option.bind_eq_some_iff.mp H
         obtain⟨⟨yw,t311,t312⟩,A210,H⟩:=H
         try dsimp only at H
         have A21:=Oa A210
         clear A210
         by_cases c22:0≤yw
         case neg=>rw[if_neg c22] at H;exact absurd H (by simp)
         rw[if_pos c22] at H
         have c22b0:=decide_eq_true c22
         clear c22
         by_cases c23:yw < (yg.length:Int)
         case neg=>rw[if_neg c23] at H;exact absurd H (by simp)
         rw[if_pos c23] at H
         have c23b0:=decide_eq_true c23
         clear c23
         by_cases c24:qg.size+(rdOf ByteArray.empty yg yw).size≤9223372036854775807
         case neg=>rw[if_neg c24] at H;exact absurd H (by simp)
         rw[if_pos c24] at H
         have c24b0:=eq_true c24
         have c24b1:decide (qg.size+(rdOf ByteArray.empty yg yw).size≤9223372036854775807)=true:=decide_eq_true c24
         try have c24b2:(9223372036854775807 < qg.size+(rdOf ByteArray.empty yg yw).size)=False:=eq_false (Nat.not_lt.2 c24)
         have H':=Oa H
         clear H
         try go_wp2
         have pi313:(0≤(yw:Int))=True:=eq_true (of_decide_eq_true (by first|(with_reducible assumption)|assumption))
         have qi313:(yw < (yg.length:Int))=True:=eq_true (of_decide_eq_true (by first|(with_reducible assumption)|assumption))
         have qi:=Oa (Kd.R_drew qa.out)
         have qj:=Oa (blk_drew qf.out)
         have qk:=Oa (Oc qb.out)
         have ql:=Oa (keep_drew HK.out)
         have qr:=Oa (below_drew1 HB.out)
         clear qa qf
         clear qb HK
         clear HB
         have qa:=qi
         have qf:=qj
         have qb:=qk
         have HK:=ql
         have HB:=qr
         clear qi qj qk ql qr
         refine start_ (n:=10) (S:=fun w'=>w'.cell? ⟨qh,0,none⟩=some (.int .i64 qn)∧w'.cell? ⟨qh,1,none⟩=some (.int .i64 (wrap64 ((wrap64 (qn+1))+qu)))∧w'.cell? ⟨qh,2,none⟩=some (.string qg)) (ds:=[9]) #[false,false,false,false,false,false,false,false,false,false] (by kernel_rfl) rfl rfl ⟨(blk_cell qf.out 0).trans rfl,(blk_cell qf.out 1).trans rfl,(blk_cell qf.out 2).trans rfl⟩ (fun qe=>?_);refine with_tabW spec_l12DrawTitles.tab12 spec_l12DrawTitles.bits12 (fun HT_ HW_=>?_)
         generalize wr.drew=w25 at qa qf qb HK HB qe ⊢
         refine pz 0 35 (bm 10 1) HT_ ?_
         refine pz 3 38 (bm 10 9) HT_ ?_
         refine tz 1 36 (bm 10 11) HT_ HW_ qe rfl (by rintro w' ⟨s0,s1,s2⟩;go_simp;with_reducible rfl) ?_
         refine join_ (σ:=Value × Addr) 5 #[true,true,true,true,true,false,false,false,false,false] (fun s_=>[(37,s_.1),(39,.int .i64 yw)]) (fun s_ w'=>(w'.cell? ⟨qh,0,none⟩=some (.int .i64 qn)∧w'.cell? ⟨qh,1,none⟩=some (.int .i64 (wrap64 ((wrap64 (qn+1))+qu)))∧w'.cell? ⟨qh,2,none⟩=some (.string qg))∧(Kd.R Kd.string 9 w' w.heap.size (fun _=>True) s_.1 yg)∧(Kd.R k40 40 w' w.heap.size (fun k_=>k_≠qh) u3 qd)∧(∃ c_,(s_.1:Value)=.slice (some s_.2) yg.length c_)∧(w'.heap[qh]? = some (.cells #[.int .i64 qn,.int .i64 (wrap64 ((wrap64 (qn+1))+qu)),.string qg] 40 (0,0)))∧(IsS76 w0 w' g s0_0 t311 t312)∧(KeepBut w w' g none)∧(Below w0.heap.size w0 w')) ?_ ?_
         rotate_left
         ·intro zj
          refine two_ (i:=2) (j:=4) (Ni:=some 37) (Nj:=some 39) (bm 10 15) (bm 10 27) rfl rfl rfl rfl (two_of HT_.out (by kernel_rfl)) (by decide) (by decide) (fun K hK=>?_) (fun K hK=>?_)
          ·skip
           refine Kd.R_lit_step Kd.string _ 9 ?hg (N:=37) ?hd (xs:=([(⟨#[87,97,115,63]⟩:ByteArray),(⟨#[101,105,110,32]⟩:ByteArray),(⟨#[87,111,114,116]⟩:ByteArray),(⟨#[195,169,116,195,169]⟩:ByteArray),(⟨#[49,10,50]⟩:ByteArray),(⟨#[45,45,62]⟩:ByteArray),(⟨#[120,10,121]⟩:ByteArray),(⟨#[255]⟩:ByteArray)]:List ByteArray)) (inner:=[.string (⟨#[87,97,115,63]⟩:ByteArray),.string (⟨#[101,105,110,32]⟩:ByteArray),.string (⟨#[87,111,114,116]⟩:ByteArray),.string (⟨#[195,169,116,195,169]⟩:ByteArray),.string (⟨#[49,10,50]⟩:ByteArray),.string (⟨#[45,45,62]⟩:ByteArray),.string (⟨#[120,10,121]⟩:ByteArray),.string (⟨#[255]⟩:ByteArray)]) (ok:=fun _=>True) (okp:=fun _=>True) ?hr ?hp (fun _ hk=>hk) trivial (Below.refl _ _) (Nat.le_refl _) (by simp) ?_;(case hd=>rfl);(case hg=>rfl);(case hr=>first|(go_simp;done)|(go_simp;rfl));(case hp=>exact(Reps.one (show Kd.M Kd.string _ _ _ (⟨#[87,97,115,63]⟩:ByteArray) [.string (⟨#[87,97,115,63]⟩:ByteArray)] from rfl) (Reps.one (show Kd.M Kd.string _ _ _ (⟨#[101,105,110,32]⟩:ByteArray) [.string (⟨#[101,105,110,32]⟩:ByteArray)] from rfl) (Reps.one (show Kd.M Kd.string _ _ _ (⟨#[87,111,114,116]⟩:ByteArray) [.string (⟨#[87,111,114,116]⟩:ByteArray)] from rfl) (Reps.one (show Kd.M Kd.string _ _ _ (⟨#[195,169,116,195,169]⟩:ByteArray) [.string (⟨#[195,169,116,195,169]⟩:ByteArray)] from rfl) (Reps.one (show Kd.M Kd.string _ _ _ (⟨#[49,10,50]⟩:ByteArray) [.string (⟨#[49,10,50]⟩:ByteArray)] from rfl) (Reps.one (show Kd.M Kd.string _ _ _ (⟨#[45,45,62]⟩:ByteArray) [.string (⟨#[45,45,62]⟩:ByteArray)] from rfl) (Reps.one (show Kd.M Kd.string _ _ _ (⟨#[120,10,121]⟩:ByteArray) [.string (⟨#[120,10,121]⟩:ByteArray)] from rfl) (Reps.one (show Kd.M Kd.string _ _ _ (⟨#[255]⟩:ByteArray) [.string (⟨#[255]⟩:ByteArray)] from rfl) (Reps.none _ _))))))))))
           intro v308 w26 ho27 hb hg_ hnew_
           clear hg_ hnew_
           (first|rw [← zq.out] at ho27|(simp only [Int.reduceToNat] at ho27;rw [← zq.out] at ho27))
           have qi:=Oa (Kd.R_below (by(with_reducible repeat(first|apply Kd.R_alloc|apply Kd.R_drewN|apply Kd.R_drew));exact qa.out) hb)
           have qj:=Oa (Kd.R_lower ho27 (keep_size (w:=w) (g:=g) (row:=none) (by repeat(first|(with_reducible first|exact HK.out|apply KeepBut.set_|apply keep_drewN|apply keep_drew|apply keep_alloc|refine keep_far ?_ qx.out _)|exact HK.out))))
           have qk:=Oa (blk_below (g:=qh) (o:=.cells #[.int .i64 qn,.int .i64 (wrap64 ((wrap64 (qn+1))+qu)),.string qg] 40 (0,0)) (by(with_reducible repeat(first|refine blk_drewN ?_ _|refine blk_drew ?_|refine blk_alloc ?_ _));exact qf.out) hb)
           have ql:=Oa (IsS76.below (by repeat(first|(with_reducible first|exact qb.out|apply Ob|apply Od|apply Oc|apply Of|apply Og|refine IsS76.far ?_ qo.out _)|exact qb.out)) hb)
           have qr:=Oa (KeepBut.trans (by repeat(first|(with_reducible first|exact HK.out|apply KeepBut.set_|apply keep_drewN|apply keep_drew|apply keep_alloc|refine keep_far ?_ qx.out _)|exact HK.out)) (KeepBut.of_below hb g none) (.inl rfl))
           have zt:=Oa (below_step (by repeat(first|(with_reducible first|exact HB.out|apply below_alloc|apply pw_below_drewN|apply below_drew1|refine below_set ?_ (Oe qb.out)|refine below_set ?_ yk.out)|exact HB.out)) hb)
           clear qa qf
           clear qb HK
           clear HB
           have qa:=qi
           have yl:=qj
           have qf:=qk
           have qb:=ql
           have HK:=qr
           have HB:=zt
           clear qi qj qk ql qr zt
           clear hb ho27
           obtain⟨Ao28,co28,eo28⟩:=Kd.R_slice yl.out
           subst eo28
           obtain⟨ado28,fo28,_⟩:=Kd.at_string (Kd.R_reads' yl.out).2.2 0 (by decide) (by rw [zq.out];simp)
           cases fo28
           refine hK.out _ _ ⟨(blk_cell qf.out 0).trans rfl,(blk_cell qf.out 1).trans rfl,(blk_cell qf.out 2).trans rfl⟩ (fun qe=>?_)
           clear hK K
           refine norm_ (a':=?_) ?_ ?_;rotate_left;(show Act.put _ (some 37) _=_;simp only[pw];rfl)
           refine one_ (i:=4) (N:=some 39) (bm 10 31) rfl rfl (one_of HT_.out (by kernel_rfl)) (by decide) (fun K hK=>?_)
           refine goes_ Tryd.func38 (by kernel_rfl) rfl #[.pointer (some ⟨g,0,none⟩),.int .i64 8] (by rfl) rfl rfl (by(try simp only [List.map_toArray,List.map_cons,List.map_nil]);first|done|rfl|(simp only [List.length_drop,List.length_take];rfl)) ?_
           with_reducible refine(spec_l1Below.calls g s0_0 qs qt 8 yw t311 t312 w0 _ ?side1 ?side2 A21.out).mono ?_
           (case side1=>repeat(first|(with_reducible first|exact qb.out|apply Ob|apply Od|apply Oc|apply Of|apply Og|refine IsS76.far ?_ qo.out _)|exact qb.out))
           (case side2=>repeat(first|(with_reducible first|exact HB.out|apply below_alloc|apply pw_below_drewN|apply below_drew1|refine below_set ?_ (Oe qb.out)|refine below_set ?_ yk.out)|exact HB.out))
           rintro e w29 ⟨rfl,hi,hb,hk⟩
           refine⟨_,rfl,?_⟩
           have qi:=Oa (Kd.R_mono (Kd.R_keep (IsS76.apart (show IsS76 w0 _ g s0_0 qs qt from by repeat(first|(with_reducible first|exact qb.out|apply Ob|apply Od|apply Oc|apply Of|apply Og|refine IsS76.far ?_ qo.out _)|exact qb.out)) (by(with_reducible repeat(first|apply Kd.R_alloc|apply Kd.R_drewN|apply Kd.R_drew));exact qa.out) (by decide)) hk (fun _ h=>h.2)) (fun _ h=>h.1))
           have qj:=Oa (KeepBut.blk hk (g':=qh) (o:=.cells #[.int .i64 qn,.int .i64 (wrap64 ((wrap64 (qn+1))+qu)),.string qg] 40 (0,0)) (by(with_reducible repeat(first|refine blk_drewN ?_ _|refine blk_drew ?_|refine blk_alloc ?_ _));exact qf.out) ys.out (by simp))
           have qk:=Oa (Kd.R_mono (Kd.R_keep (IsS76.apart (show IsS76 w0 _ g s0_0 qs qt from by repeat(first|(with_reducible first|exact qb.out|apply Ob|apply Od|apply Oc|apply Of|apply Og|refine IsS76.far ?_ qo.out _)|exact qb.out)) (by(with_reducible repeat(first|apply Kd.R_alloc|apply Kd.R_drewN|apply Kd.R_drew));exact yl.out) (by decide)) hk (fun _ h=>h.2)) (fun _ h=>h.1))
           have ql:=Oa (KeepBut.trans (by repeat(first|(with_reducible first|exact HK.out|apply KeepBut.set_|apply keep_drewN|apply keep_drew|apply keep_alloc|refine keep_far ?_ qx.out _)|exact HK.out)) hk (.inl rfl))
           have qr:=Oa (hb)
           have zt:=Oa (hi)
           clear qa qf
           clear yl HK
           clear HB qb
           have qa:=qi
           have qf:=qj
           have yl:=qk
           have HK:=ql
           have HB:=qr
           have qb:=zt
           clear qi qj qk ql qr zt
           (try clear hb)
           (try clear hb2)
           (try clear hk)
           (try clear hi)
           refine hK.out _ _ ⟨(blk_cell qf.out 0).trans rfl,(blk_cell qf.out 1).trans rfl,(blk_cell qf.out 2).trans rfl⟩ (fun qe=>?_)
           clear hK K
           refine norm_ (a':=?_) ?_ ?_;rotate_left;(show Act.put _ (some 39) _=_;simp only[pw];rfl)
           exact norm_ (by simp only [putAll,Act.put,List.setIfInBounds_toArray,List.set_cons_zero,List.set_cons_succ]) (zj (.slice (some ado28) yg.length co28,ado28) _ ⟨qe,(by(with_reducible repeat(first|apply Kd.R_alloc|apply Kd.R_drewN|apply Kd.R_drew));exact yl.out),(by(with_reducible repeat(first|apply Kd.R_alloc|apply Kd.R_drewN|apply Kd.R_drew));exact qa.out),⟨_,rfl⟩,(by(with_reducible repeat(first|refine blk_drewN ?_ _|refine blk_drew ?_|refine blk_alloc ?_ _));exact qf.out),(by repeat(first|(with_reducible first|exact qb.out|apply Ob|apply Od|apply Oc|apply Of|apply Og|refine IsS76.far ?_ qo.out _)|exact qb.out)),(by repeat(first|(with_reducible first|exact HK.out|apply KeepBut.set_|apply keep_drewN|apply keep_drew|apply keep_alloc|refine keep_far ?_ qx.out _)|exact HK.out)),(by repeat(first|(with_reducible first|exact HB.out|apply below_alloc|apply pw_below_drewN|apply below_drew1|refine below_set ?_ (Oe qb.out)|refine below_set ?_ yk.out)|exact HB.out))⟩)
          ·skip
           refine goes_ Tryd.func38 (by kernel_rfl) rfl #[.pointer (some ⟨g,0,none⟩),.int .i64 8] (by rfl) rfl rfl (by(try simp only [List.map_toArray,List.map_cons,List.map_nil]);first|done|rfl|(simp only [List.length_drop,List.length_take];rfl)) ?_
           with_reducible refine(spec_l1Below.calls g s0_0 qs qt 8 yw t311 t312 w0 _ ?side1 ?side2 A21.out).mono ?_
           (case side1=>repeat(first|(with_reducible first|exact qb.out|apply Ob|apply Od|apply Oc|apply Of|apply Og|refine IsS76.far ?_ qo.out _)|exact qb.out))
           (case side2=>repeat(first|(with_reducible first|exact HB.out|apply below_alloc|apply pw_below_drewN|apply below_drew1|refine below_set ?_ (Oe qb.out)|refine below_set ?_ yk.out)|exact HB.out))
           rintro e w26 ⟨rfl,hi,hb,hk⟩
           refine⟨_,rfl,?_⟩
           have qi:=Oa (Kd.R_mono (Kd.R_keep (IsS76.apart (show IsS76 w0 _ g s0_0 qs qt from by repeat(first|(with_reducible first|exact qb.out|apply Ob|apply Od|apply Oc|apply Of|apply Og|refine IsS76.far ?_ qo.out _)|exact qb.out)) (by(with_reducible repeat(first|apply Kd.R_alloc|apply Kd.R_drewN|apply Kd.R_drew));exact qa.out) (by decide)) hk (fun _ h=>h.2)) (fun _ h=>h.1))
           have qj:=Oa (KeepBut.blk hk (g':=qh) (o:=.cells #[.int .i64 qn,.int .i64 (wrap64 ((wrap64 (qn+1))+qu)),.string qg] 40 (0,0)) (by(with_reducible repeat(first|refine blk_drewN ?_ _|refine blk_drew ?_|refine blk_alloc ?_ _));exact qf.out) ys.out (by simp))
           have qk:=Oa (KeepBut.trans (by repeat(first|(with_reducible first|exact HK.out|apply KeepBut.set_|apply keep_drewN|apply keep_drew|apply keep_alloc|refine keep_far ?_ qx.out _)|exact HK.out)) hk (.inl rfl))
           have ql:=Oa (hb)
           have qr:=Oa (hi)
           clear qa qf
           clear HK HB
           clear qb
           have qa:=qi
           have qf:=qj
           have HK:=qk
           have HB:=ql
           have qb:=qr
           clear qi qj qk ql qr
           (try clear hb)
           (try clear hb2)
           (try clear hk)
           (try clear hi)
           refine hK.out _ _ ⟨(blk_cell qf.out 0).trans rfl,(blk_cell qf.out 1).trans rfl,(blk_cell qf.out 2).trans rfl⟩ (fun qe=>?_)
           clear hK K
           refine norm_ (a':=?_) ?_ ?_;rotate_left;(show Act.put _ (some 39) _=_;simp only[pw];rfl)
           refine one_ (i:=2) (N:=some 37) (bm 10 31) rfl rfl (one_of HT_.out (by kernel_rfl)) (by decide) (fun K hK=>?_)
           refine Kd.R_lit_step Kd.string _ 9 ?hg (N:=37) ?hd (xs:=([(⟨#[87,97,115,63]⟩:ByteArray),(⟨#[101,105,110,32]⟩:ByteArray),(⟨#[87,111,114,116]⟩:ByteArray),(⟨#[195,169,116,195,169]⟩:ByteArray),(⟨#[49,10,50]⟩:ByteArray),(⟨#[45,45,62]⟩:ByteArray),(⟨#[120,10,121]⟩:ByteArray),(⟨#[255]⟩:ByteArray)]:List ByteArray)) (inner:=[.string (⟨#[87,97,115,63]⟩:ByteArray),.string (⟨#[101,105,110,32]⟩:ByteArray),.string (⟨#[87,111,114,116]⟩:ByteArray),.string (⟨#[195,169,116,195,169]⟩:ByteArray),.string (⟨#[49,10,50]⟩:ByteArray),.string (⟨#[45,45,62]⟩:ByteArray),.string (⟨#[120,10,121]⟩:ByteArray),.string (⟨#[255]⟩:ByteArray)]) (ok:=fun _=>True) (okp:=fun _=>True) ?hr ?hp (fun _ hk=>hk) trivial (Below.refl _ _) (Nat.le_refl _) (by simp) ?_;(case hd=>rfl);(case hg=>rfl);(case hr=>first|(go_simp;done)|(go_simp;rfl));(case hp=>exact(Reps.one (show Kd.M Kd.string _ _ _ (⟨#[87,97,115,63]⟩:ByteArray) [.string (⟨#[87,97,115,63]⟩:ByteArray)] from rfl) (Reps.one (show Kd.M Kd.string _ _ _ (⟨#[101,105,110,32]⟩:ByteArray) [.string (⟨#[101,105,110,32]⟩:ByteArray)] from rfl) (Reps.one (show Kd.M Kd.string _ _ _ (⟨#[87,111,114,116]⟩:ByteArray) [.string (⟨#[87,111,114,116]⟩:ByteArray)] from rfl) (Reps.one (show Kd.M Kd.string _ _ _ (⟨#[195,169,116,195,169]⟩:ByteArray) [.string (⟨#[195,169,116,195,169]⟩:ByteArray)] from rfl) (Reps.one (show Kd.M Kd.string _ _ _ (⟨#[49,10,50]⟩:ByteArray) [.string (⟨#[49,10,50]⟩:ByteArray)] from rfl) (Reps.one (show Kd.M Kd.string _ _ _ (⟨#[45,45,62]⟩:ByteArray) [.string (⟨#[45,45,62]⟩:ByteArray)] from rfl) (Reps.one (show Kd.M Kd.string _ _ _ (⟨#[120,10,121]⟩:ByteArray) [.string (⟨#[120,10,121]⟩:ByteArray)] from rfl) (Reps.one (show Kd.M Kd.string _ _ _ (⟨#[255]⟩:ByteArray) [.string (⟨#[255]⟩:ByteArray)] from rfl) (Reps.none _ _))))))))))
           intro v308 w27 ho28 hb hg_ hnew_
           clear hg_ hnew_
           (first|rw [← zq.out] at ho28|(simp only [Int.reduceToNat] at ho28;rw [← zq.out] at ho28))
           have qi:=Oa (Kd.R_below (by(with_reducible repeat(first|apply Kd.R_alloc|apply Kd.R_drewN|apply Kd.R_drew));exact qa.out) hb)
           have qj:=Oa (Kd.R_lower ho28 (keep_size (w:=w) (g:=g) (row:=none) (by repeat(first|(with_reducible first|exact HK.out|apply KeepBut.set_|apply keep_drewN|apply keep_drew|apply keep_alloc|refine keep_far ?_ qx.out _)|exact HK.out))))
           have qk:=Oa (blk_below (g:=qh) (o:=.cells #[.int .i64 qn,.int .i64 (wrap64 ((wrap64 (qn+1))+qu)),.string qg] 40 (0,0)) (by(with_reducible repeat(first|refine blk_drewN ?_ _|refine blk_drew ?_|refine blk_alloc ?_ _));exact qf.out) hb)
           have ql:=Oa (IsS76.below (by repeat(first|(with_reducible first|exact qb.out|apply Ob|apply Od|apply Oc|apply Of|apply Og|refine IsS76.far ?_ qo.out _)|exact qb.out)) hb)
           have qr:=Oa (KeepBut.trans (by repeat(first|(with_reducible first|exact HK.out|apply KeepBut.set_|apply keep_drewN|apply keep_drew|apply keep_alloc|refine keep_far ?_ qx.out _)|exact HK.out)) (KeepBut.of_below hb g none) (.inl rfl))
           have zt:=Oa (below_step (by repeat(first|(with_reducible first|exact HB.out|apply below_alloc|apply pw_below_drewN|apply below_drew1|refine below_set ?_ (Oe qb.out)|refine below_set ?_ yk.out)|exact HB.out)) hb)
           clear qa qf
           clear qb HK
           clear HB
           have qa:=qi
           have yl:=qj
           have qf:=qk
           have qb:=ql
           have HK:=qr
           have HB:=zt
           clear qi qj qk ql qr zt
           clear hb ho28
           obtain⟨Ao29,co29,eo29⟩:=Kd.R_slice yl.out
           subst eo29
           obtain⟨ado29,fo29,_⟩:=Kd.at_string (Kd.R_reads' yl.out).2.2 0 (by decide) (by rw [zq.out];simp)
           cases fo29
           refine hK.out _ _ ⟨(blk_cell qf.out 0).trans rfl,(blk_cell qf.out 1).trans rfl,(blk_cell qf.out 2).trans rfl⟩ (fun qe=>?_)
           clear hK K
           refine norm_ (a':=?_) ?_ ?_;rotate_left;(show Act.put _ (some 37) _=_;simp only[pw];rfl)
           exact norm_ (by simp only [putAll,Act.put,List.setIfInBounds_toArray,List.set_cons_zero,List.set_cons_succ]) (zj (.slice (some ado29) yg.length co29,ado29) _ ⟨qe,(by(with_reducible repeat(first|apply Kd.R_alloc|apply Kd.R_drewN|apply Kd.R_drew));exact yl.out),(by(with_reducible repeat(first|apply Kd.R_alloc|apply Kd.R_drewN|apply Kd.R_drew));exact qa.out),⟨_,rfl⟩,(by(with_reducible repeat(first|refine blk_drewN ?_ _|refine blk_drew ?_|refine blk_alloc ?_ _));exact qf.out),(by repeat(first|(with_reducible first|exact qb.out|apply Ob|apply Od|apply Oc|apply Of|apply Og|refine IsS76.far ?_ qo.out _)|exact qb.out)),(by repeat(first|(with_reducible first|exact HK.out|apply KeepBut.set_|apply keep_drewN|apply keep_drew|apply keep_alloc|refine keep_far ?_ qx.out _)|exact HK.out)),(by repeat(first|(with_reducible first|exact HB.out|apply below_alloc|apply pw_below_drewN|apply below_drew1|refine below_set ?_ (Oe qb.out)|refine below_set ?_ yk.out)|exact HB.out))⟩)
         rintro⟨v308,adz_v308⟩ w30 ⟨hS_,h0_,h1_,h2_,h3_,h4_,h5_,h6_⟩
         have qi:Aside0 (Kd.R Kd.string 9 w30 w.heap.size (fun _=>True) v308 yg):=⟨h0_⟩
         have qj:Aside0 (Kd.R k40 40 w30 w.heap.size (fun k_=>k_≠qh) u3 qd):=⟨h1_⟩
         have qk:Aside0 (∃ c_,(v308:Value)=.slice (some adz_v308) yg.length c_):=⟨h2_⟩
         have ql:Aside0 (w30.heap[qh]? = some (.cells #[.int .i64 qn,.int .i64 (wrap64 ((wrap64 (qn+1))+qu)),.string qg] 40 (0,0))):=⟨h3_⟩
         have qr:Aside0 (IsS76 w0 w30 g s0_0 t311 t312):=⟨h4_⟩
         have zt:Aside0 (KeepBut w w30 g none):=⟨h5_⟩
         have n6_:Aside0 (Below w0.heap.size w0 w30):=⟨h6_⟩
         clear qa qf
         clear qb HK
         clear HB
         clear h0_ h1_ h2_ h3_ h4_ h5_ h6_
         have yl:=qi
         have qa:=qj
         have HA_HO309:=qk
         have qf:=ql
         have qb:=qr
         have HK:=zt
         have HB:=n6_
         clear qi qj qk ql qr zt n6_
         have qe:w30.cell? ⟨qh,0,none⟩=some (.int .i64 qn)∧w30.cell? ⟨qh,1,none⟩=some (.int .i64 (wrap64 ((wrap64 (qn+1))+qu)))∧w30.cell? ⟨qh,2,none⟩=some (.string qg):=hS_
         obtain⟨co31,eo31⟩:=HA_HO309.out
         clear HA_HO309
         subst eo31
         refine norm_ (a':=?_) ?_ ?_
         rotate_left
         ·simp only [putAll,Act.put,List.setIfInBounds_toArray,List.set_cons_zero,List.set_cons_succ]
          rfl
         refine pz 5 40 (bm 10 63) HT_ ?_
         refine one_ (i:=6) (N:=some 41) (bm 10 127) rfl rfl (one_of HT_.out (by kernel_rfl)) (by decide) (fun K hK=>?_)
         (have p313:0≤(yw:Int):=of_decide_eq_true (by first|(with_reducible assumption)|assumption);have q313:yw < (yg.length:Int):=of_decide_eq_true (by first|(with_reducible assumption)|assumption);obtain⟨ad313,e313,hx313_0⟩:=Kd.at_string (Kd.R_reads' yl.out).2.2 yw p313 q313;obtain rfl:adz_v308=ad313:=(by injection e313))
         refine value_ (w1:=?_) (v:=?_) (by rfl) rfl ?_ ?_
         rotate_left 2
         ·go_simp
          constructor
          ·rfl
          ·rfl
         clear hx313_0
         refine hK.out _ _ ⟨(blk_cell qf.out 0).trans rfl,(blk_cell qf.out 1).trans rfl,(blk_cell qf.out 2).trans rfl⟩ (fun qe=>?_)
         clear hK K
         refine norm_ (a':=?_) ?_ ?_;rotate_left;(show Act.put _ (some 41) _=_;simp only[pw];rfl)
         refine pz 7 42 (bm 10 255) HT_ ?_
         refine pz 8 43 (bm 10 511) HT_ ?_
         refine last_ (i:=9) (N:=none) (bm 10 1023) rfl rfl (one_of HT_.out (by kernel_rfl)) (by decide) (fun K hK=>?_)
         have hs32:w30.cell? ⟨qh,2,none⟩=some (.string qg):=(blk_cell qf.out 2).trans rfl
         have hfs32:=blk_frozen qf.out 2
         refine skip_ (w1:=?_) (by rfl) rfl ?_ ?_
         rotate_left
         ·go_simp
          rfl
         refine hK.out _ _ ?_
         clear hK K
         refine done_ (done_of HT_.out (by kernel_rfl)) ?_
         try go_wp2
         go_roundg k3
         case measure=>have:=HJ3.out;have:=HK2.out;have:=HK3.out;omega
         case rel=>exact⟨(wrap64 (x7_3 - 1)),(t311),(t312),(qg ++ (rdOf ByteArray.empty yg yw)),(by first|rfl|(simp;done)|(simp [*];done)),H',⟨by have:=HJ3.out;have:=HK2.out;have:=HK3.out;omega⟩,⟨by(with_reducible repeat(first|apply Kd.R_alloc|apply Kd.R_drewN|apply Kd.R_drew));exact Kd.R_mono (Kd.R_far (p:=⟨qh,2,none⟩) (Kd.R_mono qa.out (fun k_ hk=>(⟨hk,hk⟩:_∧k_≠qh))) (fun _ hk=>hk.2) (.string (qg ++ (rdOf ByteArray.empty yg yw)))) (fun _ hk=>hk.1)⟩,⟨by(with_reducible repeat(first|refine blk_drewN ?_ _|refine blk_drew ?_|refine blk_alloc ?_ _));refine blk_put (cs:=#[.int .i64 qn,.int .i64 (wrap64 ((wrap64 (qn+1))+qu)),.string qg]) ?_ 2 _ rfl;(with_reducible repeat(first|refine blk_drewN ?_ _|refine blk_drew ?_|refine blk_alloc ?_ _));exact qf.out⟩,⟨by repeat(first|(with_reducible first|exact qb.out|apply Ob|apply Od|apply Oc|apply Of|apply Og|refine IsS76.far ?_ qo.out _)|exact qb.out)⟩,⟨by repeat(first|(with_reducible first|exact HK.out|apply KeepBut.set_|apply keep_drewN|apply keep_drew|apply keep_alloc|refine keep_far ?_ qx.out _)|exact HK.out)⟩,⟨by repeat(first|(with_reducible first|exact HB.out|apply below_alloc|apply pw_below_drewN|apply below_drew1|refine below_set ?_ (Oe qb.out)|refine below_set ?_ yk.out)|exact HB.out)⟩⟩
        ·rw [if_neg c20] at H
         have c20b0:=decide_eq_false c20
         clear c20
         by_cases c33:qd.length < 4398046511104
         case neg=>rw[if_neg c33] at H;exact absurd H (by simp)
         rw[if_pos c33] at H
         have LMc33:=Oa c33
         clear c33
         obtain⟨y314,hy314⟩:∃ y_:List (S40),y_=(qd ++ [(⟨qn,(wrap64 ((wrap64 (qn+1))+qu)),qg⟩:S40)]):=⟨_,rfl⟩
         replace H:((spec_l1Below.f s0_0 qs qt 200).bind fun bt317=>(spec_l12DrawTitles.l0 k3 y314 (wrap64 ((wrap64 ((wrap64 (qn+1))+qu))+bt317.1)) (wrap64 (x5_2 - 1)) s0_0 bt317.2.1 bt317.2.2))=some (r1,r2,r3):=by first|(rw [hy314];with_reducible exact H)|(have yd:=(Option.bind_some _ _).symm.trans H;rw [hy314];with_reducible exact yd)|(have yd:=(Option.bind_some _ _).symm.trans H;with_reducible exact yd)|with_reducible exact H|(rw [hy314];exact H)|exact H
         have Ny314:=Oa hy314
         clear hy314
         replace H:=Option.bind_eq_some_iff.mp H
         obtain⟨⟨t317,t318,t319⟩,A340,H⟩:=H
         try dsimp only at H
         have A34:=Oa A340
         clear A340
         have H':=Oa H
         clear H
         have hnb35:=ys.out
         have hnc35:=qo.out
         have hcz36_0:wr.cell? ⟨qh,0,none⟩=some (.int .i64 qn):=(blk_cell qf.out 0).trans rfl
         have hcz36_1:wr.cell? ⟨qh,1,none⟩=some (.int .i64 (wrap64 ((wrap64 (qn+1))+qu))):=(blk_cell qf.out 1).trans rfl
         have hcz36_2:wr.cell? ⟨qh,2,none⟩=some (.string qg):=(blk_cell qf.out 2).trans rfl
         have hfz36_0:=blk_frozen qf.out 0
         have hfz36_1:=blk_frozen qf.out 1
         have hfz36_2:=blk_frozen qf.out 2
         try go_wp2_with (first|((with_reducible refine gate_builtin (b:=.append) (xs:=#[.tmp 44,.tmp 46]) rfl ?_);(try(refine gate_guard (by rfl) ?_;dsimp only));at_builtin;refine Kd.R_append k40 w.heap.size rfl (.tmp 44) (.tmp 46) 25 40 (.agg #[(.int .i64 0),(.int .i64 0),(.string ⟨#[]⟩)]) 32 rfl Tryd.underlying25 info40 rfl (by decide) (by omega) u3 qd (⟨qn,(wrap64 ((wrap64 (qn+1))+qu)),qg⟩:S40) [.int .i64 qn,.int .i64 (wrap64 ((wrap64 (qn+1))+qu)),.string qg] (fun k_=>k_≠qh) (fun _=>False) rfl rfl ?aP (fun _ hk=>hk.elim) ?aF ?aO (Below.refl _ _) ?aS ?aL ?_;(case aP=>exact k40_mkM _ _ _ (⟨qn,(wrap64 ((wrap64 (qn+1))+qu)),qg⟩:S40));(case aF=>exact(fun k_ hk=>Kd.freshB (g:=qh) (o:=.cells #[.int .i64 qn,.int .i64 (wrap64 ((wrap64 (qn+1))+qu)),.string qg] 40 (0,0)) (by(with_reducible repeat(first|refine blk_drewN ?_ _|refine blk_drew ?_|refine blk_alloc ?_ _));exact qf.out) k_ hk));(case aO=>exact(by(with_reducible repeat(first|apply Kd.R_alloc|apply Kd.R_drewN|apply Kd.R_drew));exact qa.out));(case aS=>exact(keep_size (w:=w) (g:=g) (row:=none) (by repeat(first|(with_reducible first|exact HK.out|apply KeepBut.set_|apply keep_drewN|apply keep_drew|apply keep_alloc|refine keep_far ?_ qx.out _)|exact HK.out))));(case aL=>have:=LMc33.out;omega);intro v315 w37 ho hb hg hat;rw [← Ny314.out] at ho;have qi:=Oa (blk_grown (g:=qh) (o:=.cells #[.int .i64 qn,.int .i64 (wrap64 ((wrap64 (qn+1))+qu)),.string qg] 40 (0,0)) (by(with_reducible repeat(first|refine blk_drewN ?_ _|refine blk_drew ?_|refine blk_alloc ?_ _));exact qf.out) hg (Kd.R_away qa.out (fun _ hk=>hk)));have qj:=Oa (IsS76.grown (by repeat(first|(with_reducible first|exact qb.out|apply Ob|apply Od|apply Oc|apply Of|apply Og|refine IsS76.far ?_ qo.out _)|exact qb.out)) hg (IsS76.own_ne qb.out qa.out (by decide)));have qk:=Oa (below_weaken (by repeat(first|(with_reducible first|exact HB.out|apply below_alloc|apply pw_below_drewN|apply below_drew1|refine below_set ?_ (Oe qb.out)|refine below_set ?_ yk.out)|exact HB.out)) HL.out hb);have ql:=Oa (KeepBut.trans (by repeat(first|(with_reducible first|exact HK.out|apply KeepBut.set_|apply keep_drewN|apply keep_drew|apply keep_alloc|refine keep_far ?_ qx.out _)|exact HK.out)) (KeepBut.of_grown hg g) (Kd.R_base2 qa.out));have qr:=Oa (ho);clear qf;clear qb;clear HB;clear HK;clear qa;have qf:=qi;have qb:=qj;have HB:=qk;have HK:=ql;have zh:=qr;clear qi qj qk ql qr;clear ho hb hg hat))
         have qi:=Oa (Kd.R_drew zh.out)
         have qj:=Oa (blk_drew qf.out)
         have qk:=Oa (Oc qb.out)
         have ql:=Oa (keep_drew HK.out)
         have qr:=Oa (below_drew1 HB.out)
         clear zh qf
         clear qb HK
         clear HB
         have zh:=qi
         have qf:=qj
         have qb:=qk
         have HK:=ql
         have HB:=qr
         clear qi qj qk ql qr
         refine start_ (n:=6) (S:=fun w'=>w'.cell? ⟨qh,0,none⟩=some (.int .i64 qn)∧w'.cell? ⟨qh,1,none⟩=some (.int .i64 (wrap64 ((wrap64 (qn+1))+qu)))∧w'.cell? ⟨qh,2,none⟩=some (.string qg)) (ds:=[]) #[false,false,false,false,false,false] (by kernel_rfl) rfl rfl ⟨(blk_cell qf.out 0).trans rfl,(blk_cell qf.out 1).trans rfl,(blk_cell qf.out 2).trans rfl⟩ (fun qe=>?_)
         generalize w37.drew=w38 at zh qf qb HK HB qe ⊢
         refine pure_ (i:=0) (N:=some 48) (v:=?_) (a':=?_) (bm 6 1) rfl rfl (by kernel_rfl) (fun _ _ _ h=>h) (Or.inl ⟨by rfl,?_⟩) ?_ ?_;rotate_left;(intro w';go_simp;with_reducible rfl);rotate_left;(simp only[pw];rfl)
         refine pure_ (i:=2) (N:=some 50) (v:=?_) (a':=?_) (bm 6 5) rfl rfl (by kernel_rfl) (fun _ _ _ h=>h) (Or.inl ⟨by rfl,?_⟩) ?_ ?_;rotate_left;(intro w';go_simp;with_reducible rfl);rotate_left;(simp only[pw];rfl)
         refine take_ (i:=1) (N:=some 49) (v:=?_) (a':=?_) (bm 6 7) rfl rfl (by kernel_rfl) (fun _ _ _ h=>h) (Or.inl ⟨by rfl,?_⟩) qe ?_ ?_;rotate_left;(rintro w' ⟨s0,s1,s2⟩;go_simp;with_reducible rfl);rotate_left;(simp only[pw];rfl)
         refine one_ (i:=3) (N:=some 51) (bm 6 15) rfl rfl (by kernel_rfl) (by decide) (fun K hK=>?_)
         refine goes_ Tryd.func38 (by kernel_rfl) rfl #[.pointer (some ⟨g,0,none⟩),.int .i64 200] (by rfl) rfl rfl (by(try simp only [List.map_toArray,List.map_cons,List.map_nil]);first|done|rfl|(simp only [List.length_drop,List.length_take];rfl)) ?_
         with_reducible refine(spec_l1Below.calls g s0_0 qs qt 200 t317 t318 t319 w0 _ ?side1 ?side2 A34.out).mono ?_
         (case side1=>repeat(first|(with_reducible first|exact qb.out|apply Ob|apply Od|apply Oc|apply Of|apply Og|refine IsS76.far ?_ qo.out _)|exact qb.out))
         (case side2=>repeat(first|(with_reducible first|exact HB.out|apply below_alloc|apply pw_below_drewN|apply below_drew1|refine below_set ?_ (Oe qb.out)|refine below_set ?_ yk.out)|exact HB.out))
         rintro e w39 ⟨rfl,hi,hb,hk⟩
         refine⟨_,rfl,?_⟩
         have qi:=Oa (KeepBut.blk hk (g':=qh) (o:=.cells #[.int .i64 qn,.int .i64 (wrap64 ((wrap64 (qn+1))+qu)),.string qg] 40 (0,0)) (by(with_reducible repeat(first|refine blk_drewN ?_ _|refine blk_drew ?_|refine blk_alloc ?_ _));exact qf.out) ys.out (by simp))
         have qj:=Oa (Kd.R_mono (Kd.R_keep (IsS76.apart (show IsS76 w0 _ g s0_0 qs qt from by repeat(first|(with_reducible first|exact qb.out|apply Ob|apply Od|apply Oc|apply Of|apply Og|refine IsS76.far ?_ qo.out _)|exact qb.out)) (by(with_reducible repeat(first|apply Kd.R_alloc|apply Kd.R_drewN|apply Kd.R_drew));exact zh.out) (by decide)) hk (fun _ h=>h.2)) (fun _ h=>h.1))
         have qk:=Oa (KeepBut.trans (by repeat(first|(with_reducible first|exact HK.out|apply KeepBut.set_|apply keep_drewN|apply keep_drew|apply keep_alloc|refine keep_far ?_ qx.out _)|exact HK.out)) hk (.inl rfl))
         have ql:=Oa (hb)
         have qr:=Oa (hi)
         clear qf zh
         clear HK HB
         clear qb
         have qf:=qi
         have zh:=qj
         have HK:=qk
         have HB:=ql
         have qb:=qr
         clear qi qj qk ql qr
         (try clear hb)
         (try clear hb2)
         (try clear hk)
         (try clear hi)
         refine hK.out _ _ ⟨(blk_cell qf.out 0).trans rfl,(blk_cell qf.out 1).trans rfl,(blk_cell qf.out 2).trans rfl⟩ (fun qe=>?_)
         clear hK K
         refine norm_ (a':=?_) ?_ ?_;rotate_left;(show Act.put _ (some 51) _=_;simp only[pw];rfl)
         refine pure_ (i:=4) (N:=some 52) (v:=?_) (a':=?_) (bm 6 31) rfl rfl (by kernel_rfl) (fun _ _ _ h=>h) (Or.inl ⟨by rfl,?_⟩) ?_ ?_;rotate_left;(intro w';go_simp;with_reducible rfl);rotate_left;(simp only[pw];rfl)
         refine pure_ (i:=5) (N:=some 4) (v:=?_) (a':=?_) (bm 6 63) rfl rfl (by kernel_rfl) (fun _ _ _ h=>h) (Or.inl ⟨by rfl,?_⟩) ?_ ?_;rotate_left;(intro w';go_simp;with_reducible rfl);rotate_left;(simp only[pw];rfl)
         refine done_ (by kernel_rfl) ?_
         try go_wp2
         go_roundg k3
         case measure=>have:=HJ3.out;have:=HK2.out;have:=HK3.out;omega
         case rel=>exact⟨(y314),(wrap64 ((wrap64 ((wrap64 (qn+1))+qu))+t317)),(wrap64 (x5_2 - 1)),(t318),(t319),(by first|rfl|(simp;done)|(simp [*];done)),(by first|rfl|(simp;done)|(simp [*];done)),H',⟨by have:=HJ3.out;have:=HK2.out;have:=HK3.out;omega⟩,⟨by(with_reducible repeat(first|apply Kd.R_alloc|apply Kd.R_drewN|apply Kd.R_drew));exact Kd.R_mono zh.out (fun _ hk=>trivial)⟩,⟨by repeat(first|(with_reducible first|exact qb.out|apply Ob|apply Od|apply Oc|apply Of|apply Og|refine IsS76.far ?_ qo.out _)|exact qb.out)⟩,⟨by repeat(first|(with_reducible first|exact HK.out|apply KeepBut.set_|apply keep_drewN|apply keep_drew|apply keep_alloc|refine keep_far ?_ qx.out _)|exact HK.out)⟩,⟨by repeat(first|(with_reducible first|exact HB.out|apply below_alloc|apply pw_below_drewN|apply below_drew1|refine below_set ?_ (Oe qb.out)|refine below_set ?_ yk.out)|exact HB.out)⟩⟩
     ·rw [if_neg c12] at H
      have c12b0:=decide_eq_false c12
      clear c12
      have HC40:=Oa H
      clear H
      go_upto_region 15 with (fail)
      go_cut [59] (fun v59 wc=>∃ (kq:Nat) (x59_39:Bool) (qp:Int) (qq:Int),v59=.bool x59_39∧Aside0 (spec_l12DrawTitles.j3 kq qd x59_39 s0_0 qp qq=some (r1,r2,r3))∧Aside0 (kq≤k2)∧Aside0 (Kd.R k40 40 wc w.heap.size (fun _=>True) u3 qd)∧Aside0 (IsS76 w0 wc g s0_0 qp qq)∧Aside0 (KeepBut w wc g none)∧Aside0 (Below w0.heap.size w0 wc))
      case first=>
       have H:=HC40.out
       clear HC40
       replace H:=Option.bind_eq_some_iff.mp H
       obtain⟨⟨t320,t321,t322⟩,A410,H⟩:=H
       try dsimp only at H
       have A41:=Oa A410
       clear A410
       by_cases c42:t320=true
       ·subst c42
        rw[if_pos rfl] at H
        have H':=Oa H
        clear H
        go_wp2_with (first|((with_reducible refine gate_callee (f:=50) rfl ?_);refine goesL_ (some 54) rfl rfl Tryd.func50 (by kernel_rfl) rfl #[.pointer (some ⟨g,0,none⟩),.int .i64 14] rfl (by(try simp only [List.map_toArray,List.map_cons,List.map_nil]);first|done|rfl|(simp only [List.length_drop,List.length_take];rfl)) ?_;(with_reducible refine(spec_l1Once.calls g s0_0 qv qw 14 true t321 t322 w0 _ ?side1 ?side2 A41.out).mono ?_);(case side1=>repeat(first|(with_reducible first|exact qb.out|apply Ob|apply Od|apply Oc|apply Of|apply Og)|exact qb.out));(case side2=>repeat(first|(with_reducible first|exact HB.out|apply below_alloc|apply pw_below_drewN|apply below_drew1|refine below_set ?_ (Oe qb.out))|exact HB.out));rintro e w43 ⟨rfl,hi,hb,hk⟩;refine⟨_,rfl,?_⟩;have qi:=Oa (Kd.R_mono (Kd.R_keep (IsS76.apart (show IsS76 w0 _ g s0_0 qv qw from by repeat(first|(with_reducible first|exact qb.out|apply Ob|apply Od|apply Oc|apply Of|apply Og)|exact qb.out)) (by(with_reducible repeat(first|apply Kd.R_alloc|apply Kd.R_drewN|apply Kd.R_drew));exact qa.out) (by decide)) hk (fun _ h=>h.2)) (fun _ h=>h.1));have qj:=Oa (KeepBut.trans (by repeat(first|(with_reducible first|exact HK.out|apply KeepBut.set_|apply keep_drewN|apply keep_drew|apply keep_alloc)|exact HK.out)) hk (.inl rfl));have qk:=Oa (hb);have ql:=Oa (hi);clear qa;clear HK;clear HB;clear qb;have qa:=qi;have HK:=qj;have HB:=qk;have qb:=ql;clear qi qj qk ql;(try clear hb);(try clear hb2);(try clear hk);(try clear hi);obtain⟨Ao44,co44,eo44⟩:=Kd.R_slice qa.out;subst eo44))
        go_meet
        case rel=>exact⟨_,(decide ((qd.length:Int) > 0)),(t321),(t322),(by first|rfl|(simp;done)|(simp [*];done)),H',⟨by have:=HJ3.out;have:=HK2.out;first|omega|exact Nat.le_refl _⟩,⟨by(with_reducible repeat(first|apply Kd.R_alloc|apply Kd.R_drewN|apply Kd.R_drew));exact qa.out⟩,⟨by repeat(first|(with_reducible first|exact qb.out|apply Ob|apply Od|apply Oc|apply Of|apply Og)|exact qb.out)⟩,⟨by repeat(first|(with_reducible first|exact HK.out|apply KeepBut.set_|apply keep_drewN|apply keep_drew|apply keep_alloc)|exact HK.out)⟩,⟨by repeat(first|(with_reducible first|exact HB.out|apply below_alloc|apply pw_below_drewN|apply below_drew1|refine below_set ?_ (Oe qb.out))|exact HB.out)⟩⟩
       ·replace c42:=Bool.eq_false_iff.mpr c42
        subst c42
        have H1:(spec_l12DrawTitles.j3 k2 qd false s0_0 t321 t322)=some (r1,r2,r3):=by rw [if_neg (show ¬ (false=true) by decide)] at H;exact H
        clear H
        have H:=H1
        clear H1
        have H':=Oa H
        clear H
        go_wp2_with (first|((with_reducible refine gate_callee (f:=50) rfl ?_);refine goesL_ (some 54) rfl rfl Tryd.func50 (by kernel_rfl) rfl #[.pointer (some ⟨g,0,none⟩),.int .i64 14] rfl (by(try simp only [List.map_toArray,List.map_cons,List.map_nil]);first|done|rfl|(simp only [List.length_drop,List.length_take];rfl)) ?_;(with_reducible refine(spec_l1Once.calls g s0_0 qv qw 14 false t321 t322 w0 _ ?side1 ?side2 A41.out).mono ?_);(case side1=>repeat(first|(with_reducible first|exact qb.out|apply Ob|apply Od|apply Oc|apply Of|apply Og)|exact qb.out));(case side2=>repeat(first|(with_reducible first|exact HB.out|apply below_alloc|apply pw_below_drewN|apply below_drew1|refine below_set ?_ (Oe qb.out))|exact HB.out));rintro e w45 ⟨rfl,hi,hb,hk⟩;refine⟨_,rfl,?_⟩;have qi:=Oa (Kd.R_mono (Kd.R_keep (IsS76.apart (show IsS76 w0 _ g s0_0 qv qw from by repeat(first|(with_reducible first|exact qb.out|apply Ob|apply Od|apply Oc|apply Of|apply Og)|exact qb.out)) (by(with_reducible repeat(first|apply Kd.R_alloc|apply Kd.R_drewN|apply Kd.R_drew));exact qa.out) (by decide)) hk (fun _ h=>h.2)) (fun _ h=>h.1));have qj:=Oa (KeepBut.trans (by repeat(first|(with_reducible first|exact HK.out|apply KeepBut.set_|apply keep_drewN|apply keep_drew|apply keep_alloc)|exact HK.out)) hk (.inl rfl));have qk:=Oa (hb);have ql:=Oa (hi);clear qa;clear HK;clear HB;clear qb;have qa:=qi;have HK:=qj;have HB:=qk;have qb:=ql;clear qi qj qk ql;(try clear hb);(try clear hb2);(try clear hk);(try clear hi)))
        go_meet
        case rel=>exact⟨_,(false),(t321),(t322),(by first|rfl|(simp;done)|(simp [*];done)),H',⟨by have:=HJ3.out;have:=HK2.out;first|omega|exact Nat.le_refl _⟩,⟨by(with_reducible repeat(first|apply Kd.R_alloc|apply Kd.R_drewN|apply Kd.R_drew));exact qa.out⟩,⟨by repeat(first|(with_reducible first|exact qb.out|apply Ob|apply Od|apply Oc|apply Of|apply Og)|exact qb.out)⟩,⟨by repeat(first|(with_reducible first|exact HK.out|apply KeepBut.set_|apply keep_drewN|apply keep_drew|apply keep_alloc)|exact HK.out)⟩,⟨by repeat(first|(with_reducible first|exact HB.out|apply below_alloc|apply pw_below_drewN|apply below_drew1|refine below_set ?_ (Oe qb.out))|exact HB.out)⟩⟩
      case rest=>
       clear HC40;try clear c1;try clear c2;try clear p2;try clear c3;try clear p3;try clear q3;try clear hx3;try clear qi3;try clear c4;try clear c5;try clear p6;try clear c9;try clear c12;try clear c12b0;try clear c17;try clear c20;try clear c20b0;try clear c22;try clear c22b0;try clear c23;try clear c23b0;try clear c24;try clear c24b0;try clear c24b1;try clear c24b2;try clear p31;try clear q31;try clear hx31;try clear qi31;try clear c33;try clear c35;try clear c37;try clear c38;try clear c42;try clear hcz18_0;try clear hcz18_1;try clear hcz18_2;try clear hcz36_0;try clear hcz36_1;try clear hcz36_2;try clear hfz18_0;try clear hfz18_1;try clear hfz18_2;try clear hfz36_0;try clear hfz36_1;try clear hfz36_2;try clear hx313_0;try clear p2;try clear p313;try clear p6;try clear q313
       obtain⟨kq,x59_39,qp,qq,rfl,HA,HJ39,qa,qb,HK,HB⟩:=hcut
       cases kq with
       | zero => exact absurd HA.out (by simp [spec_l12DrawTitles.j3])
       | succ kj39 =>
        have H:=HA.out
        clear HA
        simp only [spec_l12DrawTitles.j3] at H
        have HC46:=Oa H
        clear H
        go_upto_if 59 with (fail)
        go_cut [] (fun wc=>∃ (kq:Nat) (x3_45:List (S40)) (qy:Int) (qz:Int),Aside0 (spec_l12DrawTitles.j4 kq x3_45 s0_0 qy qz=some (r1,r2,r3))∧Aside0 (kq≤kj39)∧Aside0 (Kd.R k40 40 wc w.heap.size (fun _=>True) u3 x3_45)∧Aside0 (IsS76 w0 wc g s0_0 qy qz)∧Aside0 (KeepBut w wc g none)∧Aside0 (Below w0.heap.size w0 wc))
        case first=>
         have H:=HC46.out
         clear HC46
         by_cases c47:x59_39=true
         ·subst c47
          rw[if_pos rfl] at H
          replace H:=Option.bind_eq_some_iff.mp H
          obtain⟨⟨qc,zk,zl⟩,A480,H⟩:=H
          try dsimp only at H
          have A48:=Oa A480
          clear A480
          by_cases c49:0≤qc
          case neg=>rw[if_neg c49] at H;exact absurd H (by simp)
          rw[if_pos c49] at H
          have c49b0:=decide_eq_true c49
          clear c49
          (first|rw [c49b0]|(simp only [i64_w,i32_w];rw [c49b0])|skip)
          by_cases c50:qc < (qd.length:Int)
          case neg=>rw[if_neg c50] at H;exact absurd H (by simp)
          rw[if_pos c50] at H
          have c50b0:=decide_eq_true c50
          clear c50
          replace H:=Option.bind_eq_some_iff.mp H
          obtain⟨⟨yh,ye,yf⟩,A510,H⟩:=H
          try dsimp only at H
          have A51:=Oa A510
          clear A510
          by_cases c52:yh=0
          ·rw [if_pos c52] at H
           have c52b0:(yh == 0)=true:=beq_iff_eq.mpr c52
           have c52b1:(yh != 0)=false:=bne_eq_false_iff_eq.mpr c52
           clear c52
           obtain⟨zn,hy330⟩:∃ y_:List ByteArray,y_=(([(⟨#[]⟩:ByteArray),(⟨#[10]⟩:ByteArray),(⟨#[97,10,10,98]⟩:ByteArray),(⟨#[97,10]⟩:ByteArray),(⟨#[127]⟩:ByteArray),(⟨#[97,9,98]⟩:ByteArray),(⟨#[111,107]⟩:ByteArray)]:List ByteArray)):=⟨_,rfl⟩
           replace H:((spec_l1Below.f s0_0 ye yf 7).bind fun bt333=>(if 0≤bt333.1 then (if bt333.1 < (zn.length:Int) then (spec_l12DrawTitles.j4 kj39 (qd.set (qc:Int).toNat (⟨(rd_T40 qd qc).f0,(rd_T40 qd qc).f1,rdOf ByteArray.empty zn bt333.1⟩:S40)) s0_0 bt333.2.1 bt333.2.2) else (none)) else (none)))=some (r1,r2,r3):=by first|(rw [hy330];with_reducible exact H)|(have yd:=(Option.bind_some _ _).symm.trans H;rw [hy330];with_reducible exact yd)|(have yd:=(Option.bind_some _ _).symm.trans H;with_reducible exact yd)|with_reducible exact H|(rw [hy330];exact H)|exact H
           have Ny330:=Oa hy330
           clear hy330
           replace H:=Option.bind_eq_some_iff.mp H
           obtain⟨⟨zp,t334,t335⟩,A530,H⟩:=H
           try dsimp only at H
           have A53:=Oa A530
           clear A530
           by_cases c54:0≤zp
           case neg=>rw[if_neg c54] at H;exact absurd H (by simp)
           rw[if_pos c54] at H
           have c54b0:=decide_eq_true c54
           clear c54
           by_cases c55:zp < (zn.length:Int)
           case neg=>rw[if_neg c55] at H;exact absurd H (by simp)
           rw[if_pos c55] at H
           have c55b0:=decide_eq_true c55
           clear c55
           obtain⟨y337,hy337⟩:∃ y_:List (S40),y_=(qd.set (qc:Int).toNat (⟨(rd_T40 qd qc).f0,(rd_T40 qd qc).f1,rdOf ByteArray.empty zn zp⟩:S40)):=⟨_,rfl⟩
           replace H:(spec_l12DrawTitles.j4 kj39 y337 s0_0 t334 t335)=some (r1,r2,r3):=by first|(rw [hy337];with_reducible exact H)|(have yd:=(Option.bind_some _ _).symm.trans H;rw [hy337];with_reducible exact yd)|(have yd:=(Option.bind_some _ _).symm.trans H;with_reducible exact yd)|with_reducible exact H|(rw [hy337];exact H)|exact H
           have Ny337:=Oa hy337
           clear hy337
           have H':=Oa H
           clear H
           obtain⟨Ao57,co57,eo57⟩:=Kd.R_slice qa.out
           subst eo57
           go_wp2_with (first|((with_reducible refine gate_callee (f:=38) rfl ?_);refine goesL_ (some 64) rfl rfl Tryd.func38 (by kernel_rfl) rfl #[.pointer (some ⟨g,0,none⟩),.int .i64 (qd.length:Int)] rfl (by(try simp only [List.map_toArray,List.map_cons,List.map_nil]);first|done|rfl|(simp only [List.length_drop,List.length_take];rfl)) ?_;(with_reducible refine(spec_l1Below.calls g s0_0 qp qq (qd.length:Int) qc zk zl w0 _ ?side1 ?side2 A48.out).mono ?_);(case side1=>repeat(first|(with_reducible first|exact qb.out|apply Ob|apply Od|apply Oc|apply Of|apply Og)|exact qb.out));(case side2=>repeat(first|(with_reducible first|exact HB.out|apply below_alloc|apply pw_below_drewN|apply below_drew1|refine below_set ?_ (Oe qb.out))|exact HB.out));rintro e w58 ⟨rfl,hi,hb,hk⟩;refine⟨_,rfl,?_⟩;have qi:=Oa (Kd.R_mono (Kd.R_keep (IsS76.apart (show IsS76 w0 _ g s0_0 qp qq from by repeat(first|(with_reducible first|exact qb.out|apply Ob|apply Od|apply Oc|apply Of|apply Og)|exact qb.out)) (by(with_reducible repeat(first|apply Kd.R_alloc|apply Kd.R_drewN|apply Kd.R_drew));exact qa.out) (by decide)) hk (fun _ h=>h.2)) (fun _ h=>h.1));have qj:=Oa (KeepBut.trans (by repeat(first|(with_reducible first|exact HK.out|apply KeepBut.set_|apply keep_drewN|apply keep_drew|apply keep_alloc)|exact HK.out)) hk (.inl rfl));have qk:=Oa (hb);have ql:=Oa (hi);clear qa;clear HK;clear HB;clear qb;have qa:=qi;have HK:=qj;have HB:=qk;have qb:=ql;clear qi qj qk ql;(try clear hb);(try clear hb2);(try clear hk);(try clear hi);have yq:0≤(qc:Int):=of_decide_eq_true (by first|(with_reducible assumption)|assumption);have yr:qc < (qd.length:Int):=of_decide_eq_true (by first|(with_reducible assumption)|assumption);obtain⟨qm,e326,ya,yb,yc⟩:=at_T40 (Kd.R_reads' qa.out).2.2 qc yq yr;cases e326;replace yq:=eq_true yq;replace yr:=eq_true yr)|((with_reducible refine gate_callee (f:=38) rfl ?_);refine goesL_ (some 67) rfl rfl Tryd.func38 (by kernel_rfl) rfl #[.pointer (some ⟨g,0,none⟩),.int .i64 3] rfl (by(try simp only [List.map_toArray,List.map_cons,List.map_nil]);first|done|rfl|(simp only [List.length_drop,List.length_take];rfl)) ?_;(with_reducible refine(spec_l1Below.calls g s0_0 zk zl 3 yh ye yf w0 _ ?side1 ?side2 A51.out).mono ?_);(case side1=>repeat(first|(with_reducible first|exact qb.out|apply Ob|apply Od|apply Oc|apply Of|apply Og)|exact qb.out));(case side2=>repeat(first|(with_reducible first|exact HB.out|apply below_alloc|apply pw_below_drewN|apply below_drew1|refine below_set ?_ (Oe qb.out))|exact HB.out));rintro e w59 ⟨rfl,hi,hb,hk⟩;refine⟨_,rfl,?_⟩;have qi:=Oa (Kd.R_mono (Kd.R_keep (IsS76.apart (show IsS76 w0 _ g s0_0 zk zl from by repeat(first|(with_reducible first|exact qb.out|apply Ob|apply Od|apply Oc|apply Of|apply Og)|exact qb.out)) (by(with_reducible repeat(first|apply Kd.R_alloc|apply Kd.R_drewN|apply Kd.R_drew));exact qa.out) (by decide)) hk (fun _ h=>h.2)) (fun _ h=>h.1));have qj:=Oa (KeepBut.trans (by repeat(first|(with_reducible first|exact HK.out|apply KeepBut.set_|apply keep_drewN|apply keep_drew|apply keep_alloc)|exact HK.out)) hk (.inl rfl));have qk:=Oa (hb);have ql:=Oa (hi);clear qa;clear HK;clear HB;clear qb;have qa:=qi;have HK:=qj;have HB:=qk;have qb:=ql;clear qi qj qk ql;(try clear hb);(try clear hb2);(try clear hk);(try clear hi))|((with_reducible refine gate_dst (N:=71) rfl ?_);(try(refine gate_guard (by rfl) ?_;dsimp only));refine Kd.R_lit Kd.string _ 9 ?hg (N:=71) ?hd (xs:=([(⟨#[]⟩:ByteArray),(⟨#[10]⟩:ByteArray),(⟨#[97,10,10,98]⟩:ByteArray),(⟨#[97,10]⟩:ByteArray),(⟨#[127]⟩:ByteArray),(⟨#[97,9,98]⟩:ByteArray),(⟨#[111,107]⟩:ByteArray)]:List ByteArray)) (inner:=[.string (⟨#[]⟩:ByteArray),.string (⟨#[10]⟩:ByteArray),.string (⟨#[97,10,10,98]⟩:ByteArray),.string (⟨#[97,10]⟩:ByteArray),.string (⟨#[127]⟩:ByteArray),.string (⟨#[97,9,98]⟩:ByteArray),.string (⟨#[111,107]⟩:ByteArray)]) (ok:=fun _=>True) (okp:=fun _=>True) ?hr ?hp (fun _ hk=>hk) trivial (Below.refl _ _) (Nat.le_refl _) (by simp) ?_;(case hd=>rfl);(case hg=>rfl);(case hr=>first|(go_simp;done)|(go_simp;rfl));(case hp=>exact(Reps.one (show Kd.M Kd.string _ _ _ (⟨#[]⟩:ByteArray) [.string (⟨#[]⟩:ByteArray)] from rfl) (Reps.one (show Kd.M Kd.string _ _ _ (⟨#[10]⟩:ByteArray) [.string (⟨#[10]⟩:ByteArray)] from rfl) (Reps.one (show Kd.M Kd.string _ _ _ (⟨#[97,10,10,98]⟩:ByteArray) [.string (⟨#[97,10,10,98]⟩:ByteArray)] from rfl) (Reps.one (show Kd.M Kd.string _ _ _ (⟨#[97,10]⟩:ByteArray) [.string (⟨#[97,10]⟩:ByteArray)] from rfl) (Reps.one (show Kd.M Kd.string _ _ _ (⟨#[127]⟩:ByteArray) [.string (⟨#[127]⟩:ByteArray)] from rfl) (Reps.one (show Kd.M Kd.string _ _ _ (⟨#[97,9,98]⟩:ByteArray) [.string (⟨#[97,9,98]⟩:ByteArray)] from rfl) (Reps.one (show Kd.M Kd.string _ _ _ (⟨#[111,107]⟩:ByteArray) [.string (⟨#[111,107]⟩:ByteArray)] from rfl) (Reps.none _ _)))))))));intro v331 w60 ho61 hb hg_ hnew_;clear hg_ hnew_;(first|rw [← Ny330.out] at ho61|(simp only [Int.reduceToNat] at ho61;rw [← Ny330.out] at ho61));have qi:=Oa (Kd.R_below (by(with_reducible repeat(first|apply Kd.R_alloc|apply Kd.R_drewN|apply Kd.R_drew));exact qa.out) hb);have qj:=Oa (Kd.R_lower ho61 (keep_size (w:=w) (g:=g) (row:=none) (by repeat(first|(with_reducible first|exact HK.out|apply KeepBut.set_|apply keep_drewN|apply keep_drew|apply keep_alloc)|exact HK.out))));have qk:=Oa (IsS76.below (by repeat(first|(with_reducible first|exact qb.out|apply Ob|apply Od|apply Oc|apply Of|apply Og)|exact qb.out)) hb);have ql:=Oa (KeepBut.trans (by repeat(first|(with_reducible first|exact HK.out|apply KeepBut.set_|apply keep_drewN|apply keep_drew|apply keep_alloc)|exact HK.out)) (KeepBut.of_below hb g none) (.inl rfl));have qr:=Oa (below_step (by repeat(first|(with_reducible first|exact HB.out|apply below_alloc|apply pw_below_drewN|apply below_drew1|refine below_set ?_ (Oe qb.out))|exact HB.out)) hb);clear qa;clear qb;clear HK;clear HB;have qa:=qi;have zi:=qj;have qb:=qk;have HK:=ql;have HB:=qr;clear qi qj qk ql qr;clear hb ho61)|((with_reducible refine gate_callee (f:=38) rfl ?_);refine goesL_ (some 73) rfl rfl Tryd.func38 (by kernel_rfl) rfl #[.pointer (some ⟨g,0,none⟩),.int .i64 7] rfl (by(try simp only [List.map_toArray,List.map_cons,List.map_nil]);first|done|rfl|(simp only [List.length_drop,List.length_take];rfl)) ?_;(with_reducible refine(spec_l1Below.calls g s0_0 ye yf 7 zp t334 t335 w0 _ ?side1 ?side2 A53.out).mono ?_);(case side1=>repeat(first|(with_reducible first|exact qb.out|apply Ob|apply Od|apply Oc|apply Of|apply Og)|exact qb.out));(case side2=>repeat(first|(with_reducible first|exact HB.out|apply below_alloc|apply pw_below_drewN|apply below_drew1|refine below_set ?_ (Oe qb.out))|exact HB.out));rintro e w62 ⟨rfl,hi,hb,hk⟩;refine⟨_,rfl,?_⟩;have qi:=Oa (Kd.R_mono (Kd.R_keep (IsS76.apart (show IsS76 w0 _ g s0_0 ye yf from by repeat(first|(with_reducible first|exact qb.out|apply Ob|apply Od|apply Oc|apply Of|apply Og)|exact qb.out)) (by(with_reducible repeat(first|apply Kd.R_alloc|apply Kd.R_drewN|apply Kd.R_drew));exact qa.out) (by decide)) hk (fun _ h=>h.2)) (fun _ h=>h.1));have qj:=Oa (Kd.R_mono (Kd.R_keep (IsS76.apart (show IsS76 w0 _ g s0_0 ye yf from by repeat(first|(with_reducible first|exact qb.out|apply Ob|apply Od|apply Oc|apply Of|apply Og)|exact qb.out)) (by(with_reducible repeat(first|apply Kd.R_alloc|apply Kd.R_drewN|apply Kd.R_drew));exact zi.out) (by decide)) hk (fun _ h=>h.2)) (fun _ h=>h.1));have qk:=Oa (KeepBut.trans (by repeat(first|(with_reducible first|exact HK.out|apply KeepBut.set_|apply keep_drewN|apply keep_drew|apply keep_alloc)|exact HK.out)) hk (.inl rfl));have ql:=Oa (hb);have qr:=Oa (hi);clear qa;clear zi;clear HK;clear HB;clear qb;have qa:=qi;have zi:=qj;have HK:=qk;have HB:=ql;have qb:=qr;clear qi qj qk ql qr;(try clear hb);(try clear hb2);(try clear hk);(try clear hi);obtain⟨Ao63,co63,eo63⟩:=Kd.R_slice zi.out;subst eo63;have p336:0≤(zp:Int):=of_decide_eq_true (by first|(with_reducible assumption)|assumption);have q336:zp < (zn.length:Int):=of_decide_eq_true (by first|(with_reducible assumption)|assumption);obtain⟨ad336,e336,hx336_0⟩:=Kd.at_string (Kd.R_reads' zi.out).2.2 zp p336 q336;cases e336;replace p336:=eq_true p336;replace q336:=eq_true q336;have p56:0≤(qc:Int):=of_decide_eq_true (by first|(with_reducible assumption)|assumption);have q56:(qc:Int) < ((qd.length:Int):Int):=of_decide_eq_true (by first|(with_reducible assumption)|assumption);obtain⟨zo,co56,eo56,gb56,gl56,cl56,HG56⟩:=Kd.R_form qa.out (by omega);(first|cases eo56|(injection eo56 with ea_ en_ ec_;(first|subst ea_|(injection ea_ with ea_;subst ea_));subst ec_;clear en_));have GB56:=Oa gb56;have GG56:=Oa HG56;clear gb56 gl56 HG56;(first|simp only [add_plain] at ya|skip);(first|simp only [add_plain] at yb|skip);(first|simp only [add_plain] at yc|skip);obtain⟨ce56,hcl56,hM56,hcc56,hfr56⟩:=Kd.R_elem qa.out z40 (qc:Int) p56 q56;obtain rfl:=k40_openM hM56;have hx56_0:w62.cell? ⟨zo,(qc:Int).toNat*3,none⟩=some (.int .i64 ((rd_T40 qd qc).f0)):=hcc56 0 _ rfl;have hx56_1:w62.cell? ⟨zo,(qc:Int).toNat*3+1,none⟩=some (.int .i64 ((rd_T40 qd qc).f1)):=hcc56 1 _ rfl;have hx56_2:w62.cell? ⟨zo,(qc:Int).toNat*3+2,none⟩=some (.string ((rd_T40 qd qc).f2)):=hcc56 2 _ rfl;have hf56_0:w62.frozen? ⟨zo,(qc:Int).toNat*3,none⟩=false:=hfr56 0;have hf56_1:w62.frozen? ⟨zo,(qc:Int).toNat*3+1,none⟩=false:=hfr56 1;have hf56_2:w62.frozen? ⟨zo,(qc:Int).toNat*3+2,none⟩=false:=hfr56 2;clear hcl56 hcc56 hfr56 hM56;replace p56:=eq_true p56;replace q56:=eq_true q56;have HX64:=Oa (show Kd.R k40 40 w62 w.heap.size (fun _=>True) (.slice (some ⟨zo,0,none⟩) qd.length co57) qd from(by(with_reducible repeat(first|apply Kd.R_alloc|apply Kd.R_drewN|apply Kd.R_drew));exact qa.out));obtain⟨ce64,hcl64,hM64,hcc64,hfr64⟩:=Kd.R_elem HX64.out z40 (qc:Int) (of_decide_eq_true (by first|(with_reducible assumption)|assumption)) (by have h_:(qc:Int) < ((qd.length:Int):Int):=of_decide_eq_true (by first|(with_reducible assumption)|assumption);first|exact h_|(have e_:=(Kd.R_reads' qa.out).1;omega)|simpa using h_);obtain rfl:=k40_openM hM64;have HP64:=Kd.R_seg HX64.out (qc:Int) (of_decide_eq_true (by first|(with_reducible assumption)|assumption)) (by have h_:(qc:Int) < ((qd.length:Int):Int):=of_decide_eq_true (by first|(with_reducible assumption)|assumption);first|exact h_|(have e_:=(Kd.R_reads' qa.out).1;omega)|simpa using h_) (seg:=[.string (rdOf ByteArray.empty zn zp)]) (j:=2) hcl64 hcc64 (show 3≤3 from by decide) (x':=(⟨(rd_T40 qd qc).f0,(rd_T40 qd qc).f1,rdOf ByteArray.empty zn zp⟩:S40)) (k40_mkM _ _ _ (⟨(rd_T40 qd qc).f0,(rd_T40 qd qc).f1,rdOf ByteArray.empty zn zp⟩:S40) ) (fun _ hk=>hk);have hx64_2:=hcc64 2 _ rfl;(try simp only [show(k40).sz=3 from rfl,Nat.mul_one,Nat.add_zero] at hx64_2);have hf64_2:=hfr64 2;(try simp only [show(k40).sz=3 from rfl,Nat.mul_one,Nat.add_zero] at hf64_2);clear hcl64 hcc64 hfr64 hM64)|((with_reducible refine gate_store (t:=9) (p:=77) rfl ?_);refine store_event (t:=9) (p:=77) (v:=?vo_w65) (w1:=(w62.setCell ⟨zo,(qc:Int).toNat*3+2,none⟩ (.string (rdOf ByteArray.empty zn zp)))) ?hg ?ho ?hn ?hr ?_;(case ho=>rfl);(case hg=>rfl);(case hn=>rfl);(case hr=>first|(go_simp;done)|(go_simp;rfl));intro w65 hw;have hg:w62.grownBy w65 (some zo):=(by rw [hw];exact HP64.2);have hp_:Kd.R k40 40 w65 w.heap.size (fun _=>True) (.slice (some ⟨zo,0,none⟩) qd.length co57) y337:=(by rw [hw,Ny337.out];exact HP64.1);clear HP64;have qi:=Oa (hp_);have qj:=Oa (IsS76.grown (by repeat(first|(with_reducible first|exact qb.out|apply Ob|apply Od|apply Oc|apply Of|apply Og)|exact qb.out)) hg (IsS76.own_ne qb.out qa.out (by decide)));have qk:=Oa (Kd.R_over' (v:=(.slice (some ⟨zo,0,none⟩) qd.length co57)) (by(with_reducible repeat(first|apply Kd.R_alloc|apply Kd.R_drewN|apply Kd.R_drew));exact zi.out) (Kd.R_typed qa.out) (by decide) hg);have ql:=Oa ((by rw [hw];exact below_set (HB.out) (Nat.le_trans HL.out GB56.out):Below w0.heap.size w0 w65));have qr:=Oa (KeepBut.trans (by repeat(first|(with_reducible first|exact HK.out|apply KeepBut.set_|apply keep_drewN|apply keep_drew|apply keep_alloc)|exact HK.out)) (KeepBut.of_grown hg g) (Kd.R_base2 qa.out));clear qa;clear qb;clear zi;clear HB;clear HK;have qa:=qi;have qb:=qj;have zi:=qk;have HB:=ql;have HK:=qr;clear qi qj qk ql qr;clear hg hw hp_))
           go_meet
           case rel=>exact⟨_,(y337),(t334),(t335),H',⟨by have:=HJ3.out;have:=HK2.out;have:=HJ39.out;first|omega|exact Nat.le_refl _⟩,⟨by(with_reducible repeat(first|apply Kd.R_alloc|apply Kd.R_drewN|apply Kd.R_drew));exact qa.out⟩,⟨by repeat(first|(with_reducible first|exact qb.out|apply Ob|apply Od|apply Oc|apply Of|apply Og)|exact qb.out)⟩,⟨by repeat(first|(with_reducible first|exact HK.out|apply KeepBut.set_|apply keep_drewN|apply keep_drew|apply keep_alloc)|exact HK.out)⟩,⟨by repeat(first|(with_reducible first|exact HB.out|apply below_alloc|apply pw_below_drewN|apply below_drew1|refine below_set ?_ (Oe qb.out))|exact HB.out)⟩⟩
          ·rw [if_neg c52] at H
           have c52b0:(yh == 0)=false:=beq_eq_false_iff_ne.mpr c52
           have c52b1:(yh != 0)=true:=bne_iff_ne.mpr c52
           by_cases c66:yh=1
           ·rw [if_pos c66] at H
            have c66b0:(yh == 1)=true:=beq_iff_eq.mpr c66
            have c66b1:(yh != 1)=false:=bne_eq_false_iff_eq.mpr c66
            clear c66
            obtain⟨yo,hy339⟩:∃ y_:List Int,y_=(([(-1),(rd_T40 qd qc).f1,0]:List Int)):=⟨_,rfl⟩
            replace H:((spec_l1Below.f s0_0 ye yf 3).bind fun bt342=>(if 0≤bt342.1 then (if bt342.1 < (yo.length:Int) then (spec_l12DrawTitles.j4 kj39 (qd.set (qc:Int).toNat (⟨rd yo bt342.1,(rd_T40 qd qc).f1,(rd_T40 qd qc).f2⟩:S40)) s0_0 bt342.2.1 bt342.2.2) else (none)) else (none)))=some (r1,r2,r3):=by first|(rw [hy339];with_reducible exact H)|(have yd:=(Option.bind_some _ _).symm.trans H;rw [hy339];with_reducible exact yd)|(have yd:=(Option.bind_some _ _).symm.trans H;with_reducible exact yd)|with_reducible exact H|(rw [hy339];exact H)|exact H
            have zr:=Oa hy339
            clear hy339
            replace H:=Option.bind_eq_some_iff.mp H
            obtain⟨⟨zd,t343,t344⟩,A670,H⟩:=H
            try dsimp only at H
            have A67:=Oa A670
            clear A670
            by_cases c68:0≤zd
            case neg=>rw[if_neg c68] at H;exact absurd H (by simp)
            rw[if_pos c68] at H
            have c68b0:=decide_eq_true c68
            clear c68
            by_cases c69:zd < (yo.length:Int)
            case neg=>rw[if_neg c69] at H;exact absurd H (by simp)
            rw[if_pos c69] at H
            have c69b0:=decide_eq_true c69
            clear c69
            obtain⟨y346,hy346⟩:∃ y_:List (S40),y_=(qd.set (qc:Int).toNat (⟨rd yo zd,(rd_T40 qd qc).f1,(rd_T40 qd qc).f2⟩:S40)):=⟨_,rfl⟩
            replace H:(spec_l12DrawTitles.j4 kj39 y346 s0_0 t343 t344)=some (r1,r2,r3):=by first|(rw [hy346];with_reducible exact H)|(have yd:=(Option.bind_some _ _).symm.trans H;rw [hy346];with_reducible exact yd)|(have yd:=(Option.bind_some _ _).symm.trans H;with_reducible exact yd)|with_reducible exact H|(rw [hy346];exact H)|exact H
            have Ny346:=Oa hy346
            clear hy346
            have H':=Oa H
            clear H
            obtain⟨Ao71,co71,eo71⟩:=Kd.R_slice qa.out
            subst eo71
            try go_wp2_with (first|((with_reducible refine gate_callee (f:=38) rfl ?_);refine goesL_ (some 64) rfl rfl Tryd.func38 (by kernel_rfl) rfl #[.pointer (some ⟨g,0,none⟩),.int .i64 (qd.length:Int)] rfl (by(try simp only [List.map_toArray,List.map_cons,List.map_nil]);first|done|rfl|(simp only [List.length_drop,List.length_take];rfl)) ?_;(with_reducible refine(spec_l1Below.calls g s0_0 qp qq (qd.length:Int) qc zk zl w0 _ ?side1 ?side2 A48.out).mono ?_);(case side1=>repeat(first|(with_reducible first|exact qb.out|apply Ob|apply Od|apply Oc|apply Of|apply Og)|exact qb.out));(case side2=>repeat(first|(with_reducible first|exact HB.out|apply below_alloc|apply pw_below_drewN|apply below_drew1|refine below_set ?_ (Oe qb.out))|exact HB.out));rintro e w72 ⟨rfl,hi,hb,hk⟩;refine⟨_,rfl,?_⟩;have qi:=Oa (Kd.R_mono (Kd.R_keep (IsS76.apart (show IsS76 w0 _ g s0_0 qp qq from by repeat(first|(with_reducible first|exact qb.out|apply Ob|apply Od|apply Oc|apply Of|apply Og)|exact qb.out)) (by(with_reducible repeat(first|apply Kd.R_alloc|apply Kd.R_drewN|apply Kd.R_drew));exact qa.out) (by decide)) hk (fun _ h=>h.2)) (fun _ h=>h.1));have qj:=Oa (KeepBut.trans (by repeat(first|(with_reducible first|exact HK.out|apply KeepBut.set_|apply keep_drewN|apply keep_drew|apply keep_alloc)|exact HK.out)) hk (.inl rfl));have qk:=Oa (hb);have ql:=Oa (hi);clear qa;clear HK;clear HB;clear qb;have qa:=qi;have HK:=qj;have HB:=qk;have qb:=ql;clear qi qj qk ql;(try clear hb);(try clear hb2);(try clear hk);(try clear hi);have yq:0≤(qc:Int):=of_decide_eq_true (by first|(with_reducible assumption)|assumption);have yr:qc < (qd.length:Int):=of_decide_eq_true (by first|(with_reducible assumption)|assumption);obtain⟨qm,e326,ya,yb,yc⟩:=at_T40 (Kd.R_reads' qa.out).2.2 qc yq yr;cases e326;replace yq:=eq_true yq;replace yr:=eq_true yr)|((with_reducible refine gate_callee (f:=38) rfl ?_);refine goesL_ (some 67) rfl rfl Tryd.func38 (by kernel_rfl) rfl #[.pointer (some ⟨g,0,none⟩),.int .i64 3] rfl (by(try simp only [List.map_toArray,List.map_cons,List.map_nil]);first|done|rfl|(simp only [List.length_drop,List.length_take];rfl)) ?_;(with_reducible refine(spec_l1Below.calls g s0_0 zk zl 3 yh ye yf w0 _ ?side1 ?side2 A51.out).mono ?_);(case side1=>repeat(first|(with_reducible first|exact qb.out|apply Ob|apply Od|apply Oc|apply Of|apply Og)|exact qb.out));(case side2=>repeat(first|(with_reducible first|exact HB.out|apply below_alloc|apply pw_below_drewN|apply below_drew1|refine below_set ?_ (Oe qb.out))|exact HB.out));rintro e w73 ⟨rfl,hi,hb,hk⟩;refine⟨_,rfl,?_⟩;have qi:=Oa (Kd.R_mono (Kd.R_keep (IsS76.apart (show IsS76 w0 _ g s0_0 zk zl from by repeat(first|(with_reducible first|exact qb.out|apply Ob|apply Od|apply Oc|apply Of|apply Og)|exact qb.out)) (by(with_reducible repeat(first|apply Kd.R_alloc|apply Kd.R_drewN|apply Kd.R_drew));exact qa.out) (by decide)) hk (fun _ h=>h.2)) (fun _ h=>h.1));have qj:=Oa (KeepBut.trans (by repeat(first|(with_reducible first|exact HK.out|apply KeepBut.set_|apply keep_drewN|apply keep_drew|apply keep_alloc)|exact HK.out)) hk (.inl rfl));have qk:=Oa (hb);have ql:=Oa (hi);clear qa;clear HK;clear HB;clear qb;have qa:=qi;have HK:=qj;have HB:=qk;have qb:=ql;clear qi qj qk ql;(try clear hb);(try clear hb2);(try clear hk);(try clear hi)))
            have pi345:(0≤(zd:Int))=True:=eq_true (of_decide_eq_true (by first|(with_reducible assumption)|assumption))
            have qi345:(zd < (yo.length:Int))=True:=eq_true (of_decide_eq_true (by first|(with_reducible assumption)|assumption))
            have qi:=Oa (Kd.R_drew qa.out)
            have qj:=Oa (Oc qb.out)
            have qk:=Oa (keep_drew HK.out)
            have ql:=Oa (below_drew1 HB.out)
            clear qa qb
            clear HK HB
            have qa:=qi
            have qb:=qj
            have HK:=qk
            have HB:=ql
            clear qi qj qk ql
            have p338:0≤(qc:Int):=of_decide_eq_true (by first|(with_reducible assumption)|assumption)
            have q338:qc < (qd.length:Int):=of_decide_eq_true (by first|(with_reducible assumption)|assumption)
            obtain⟨ad338,e338,yx,yy,yz⟩:=at_T40 (Kd.R_reads' qa.out).2.2 qc p338 q338
            obtain rfl:qm=ad338:=(by injection e338)
            replace p338:=eq_true p338
            replace q338:=eq_true q338
            refine start_ (n:=13) (S:=fun w'=>w'.cell? (qm.add ((qc).toNat*3))=some (.int .i64 ((rd_T40 qd qc).f0))∧w'.cell? ⟨(qm.add ((qc).toNat*3)).block,(qm.add ((qc).toNat*3)).off+1,none⟩=some (.int .i64 ((rd_T40 qd qc).f1))∧w'.cell? ⟨(qm.add ((qc).toNat*3)).block,(qm.add ((qc).toNat*3)).off+2,none⟩=some (.string ((rd_T40 qd qc).f2))) (ds:=[12]) #[false,false,false,false,false,false,false,false,false,false,false,false,false] (by kernel_rfl) rfl rfl ⟨yx,yy,yz⟩ (fun qe=>?_);refine with_tabW spec_l12DrawTitles.tab21 spec_l12DrawTitles.bits21 (fun HT_ HW_=>?_)
            generalize w73.drew=w74 at qa qb HK HB yx yy yz qe ⊢
            refine pz 0 80 (bm 13 1) HT_ ?_
            refine pz 1 81 (bm 13 3) HT_ ?_
            refine pz 2 82 (bm 13 7) HT_ ?_
            refine pz 3 83 (bm 13 15) HT_ ?_
            refine pz 6 86 (bm 13 79) HT_ ?_
            refine tz 4 84 (bm 13 95) HT_ HW_ qe rfl (by rintro w' ⟨s0,s1,s2⟩;go_simp;with_reducible rfl) ?_
            refine join_ (σ:=Value × Addr) 5 #[true,true,true,true,true,true,true,true,false,false,false,false,false] (fun s_=>[(85,s_.1),(87,.int .i64 zd)]) (fun s_ w'=>(w'.cell? (qm.add ((qc).toNat*3))=some (.int .i64 ((rd_T40 qd qc).f0))∧w'.cell? ⟨(qm.add ((qc).toNat*3)).block,(qm.add ((qc).toNat*3)).off+1,none⟩=some (.int .i64 ((rd_T40 qd qc).f1))∧w'.cell? ⟨(qm.add ((qc).toNat*3)).block,(qm.add ((qc).toNat*3)).off+2,none⟩=some (.string ((rd_T40 qd qc).f2)))∧(Kd.R (Kd.int .i64) 2 w' w.heap.size (fun _=>True) s_.1 yo)∧(Kd.R k40 40 w' w.heap.size (fun _=>True) (.slice (some qm) qd.length co71) qd)∧(∃ c_,(s_.1:Value)=.slice (some s_.2) yo.length c_)∧(IsS76 w0 w' g s0_0 t343 t344)∧(KeepBut w w' g none)∧(Below w0.heap.size w0 w')) ?_ ?_
            rotate_left
            ·intro zj
             refine two_ (i:=5) (j:=7) (Ni:=some 85) (Nj:=some 87) (bm 13 127) (bm 13 223) rfl rfl rfl rfl (two_of HT_.out (by kernel_rfl)) (by decide) (by decide) (fun K hK=>?_) (fun K hK=>?_)
             ·skip
              refine Kd.R_lit_step (Kd.int .i64) _ 2 ?hg (N:=85) ?hd (xs:=([(-1),(rd_T40 qd qc).f1,0]:List Int)) (inner:=[.int .i64 (-1),.int .i64 ((rd_T40 qd qc).f1),.int .i64 0]) (ok:=fun _=>True) (okp:=fun _=>True) ?hr ?hp (fun _ hk=>hk) trivial (Below.refl _ _) (Nat.le_refl _) (by simp) ?_;(case hd=>rfl);(case hg=>rfl);(case hr=>first|(go_simp;done)|(go_simp;rfl));(case hp=>exact(Reps.one (show Kd.M (Kd.int .i64) _ _ _ (-1) [.int .i64 (-1)] from rfl) (Reps.one (show Kd.M (Kd.int .i64) _ _ _ ((rd_T40 qd qc).f1) [.int .i64 ((rd_T40 qd qc).f1)] from rfl) (Reps.one (show Kd.M (Kd.int .i64) _ _ _ 0 [.int .i64 0] from rfl) (Reps.none _ _)))))
              intro v340 w75 ho76 hb hg_ hnew_
              have yt:=(hb.cell (World.block_lt_of_cell? _ _ (qe.1))).trans (qe.1)
              have yu:=(hb.cell (World.block_lt_of_cell? _ _ (qe.2.1))).trans (qe.2.1)
              have yv:=(hb.cell (World.block_lt_of_cell? _ _ (qe.2.2))).trans (qe.2.2)
              clear hg_ hnew_
              (first|rw [← zr.out] at ho76|(simp only [Int.reduceToNat] at ho76;rw [← zr.out] at ho76))
              have qi:=Oa (Kd.R_below (by(with_reducible repeat(first|apply Kd.R_alloc|apply Kd.R_drewN|apply Kd.R_drew));exact qa.out) hb)
              have qj:=Oa (Kd.R_lower ho76 (keep_size (w:=w) (g:=g) (row:=none) (by repeat(first|(with_reducible first|exact HK.out|apply KeepBut.set_|apply keep_drewN|apply keep_drew|apply keep_alloc)|exact HK.out))))
              have qk:=Oa (IsS76.below (by repeat(first|(with_reducible first|exact qb.out|apply Ob|apply Od|apply Oc|apply Of|apply Og)|exact qb.out)) hb)
              have ql:=Oa (KeepBut.trans (by repeat(first|(with_reducible first|exact HK.out|apply KeepBut.set_|apply keep_drewN|apply keep_drew|apply keep_alloc)|exact HK.out)) (KeepBut.of_below hb g none) (.inl rfl))
              have qr:=Oa (below_step (by repeat(first|(with_reducible first|exact HB.out|apply below_alloc|apply pw_below_drewN|apply below_drew1|refine below_set ?_ (Oe qb.out))|exact HB.out)) hb)
              clear qa qb
              clear HK HB
              have qa:=qi
              have ym:=qj
              have qb:=qk
              have HK:=ql
              have HB:=qr
              clear qi qj qk ql qr
              clear hb ho76
              obtain⟨Ao77,co77,eo77⟩:=Kd.R_slice ym.out
              subst eo77
              obtain⟨ado77,fo77,_⟩:=Kd.at_int (Kd.R_reads' ym.out).2.2 0 (by decide) (by rw [zr.out];simp)
              cases fo77
              refine hK.out _ _ ⟨yt,yu,yv⟩ (fun qe=>?_)
              clear hK K
              refine norm_ (a':=?_) ?_ ?_;rotate_left;(show Act.put _ (some 85) _=_;simp only[pw];rfl)
              refine one_ (i:=7) (N:=some 87) (bm 13 255) rfl rfl (one_of HT_.out (by kernel_rfl)) (by decide) (fun K hK=>?_)
              refine goes_ Tryd.func38 (by kernel_rfl) rfl #[.pointer (some ⟨g,0,none⟩),.int .i64 3] (by rfl) rfl rfl (by(try simp only [List.map_toArray,List.map_cons,List.map_nil]);first|done|rfl|(simp only [List.length_drop,List.length_take];rfl)) ?_
              with_reducible refine(spec_l1Below.calls g s0_0 ye yf 3 zd t343 t344 w0 _ ?side1 ?side2 A67.out).mono ?_
              (case side1=>repeat(first|(with_reducible first|exact qb.out|apply Ob|apply Od|apply Oc|apply Of|apply Og)|exact qb.out))
              (case side2=>repeat(first|(with_reducible first|exact HB.out|apply below_alloc|apply pw_below_drewN|apply below_drew1|refine below_set ?_ (Oe qb.out))|exact HB.out))
              rintro e w78 ⟨rfl,hi,hb,hk⟩
              have yt:=keep_cell hk (qe.1) (by first|(rw [add_block];exact Kd.own_blk (IsS76.own_ne qb.out qa.out (by decide)))|(show(Addr.add _ _).block≠_;rw [add_block];exact Kd.own_blk (IsS76.own_ne qb.out qa.out (by decide)))|exact Kd.own_blk (IsS76.own_ne qb.out qa.out (by decide)))
              have yu:=keep_cell hk (qe.2.1) (by first|(rw [add_block];exact Kd.own_blk (IsS76.own_ne qb.out qa.out (by decide)))|(show(Addr.add _ _).block≠_;rw [add_block];exact Kd.own_blk (IsS76.own_ne qb.out qa.out (by decide)))|exact Kd.own_blk (IsS76.own_ne qb.out qa.out (by decide)))
              have yv:=keep_cell hk (qe.2.2) (by first|(rw [add_block];exact Kd.own_blk (IsS76.own_ne qb.out qa.out (by decide)))|(show(Addr.add _ _).block≠_;rw [add_block];exact Kd.own_blk (IsS76.own_ne qb.out qa.out (by decide)))|exact Kd.own_blk (IsS76.own_ne qb.out qa.out (by decide)))
              refine⟨_,rfl,?_⟩
              have qi:=Oa (Kd.R_mono (Kd.R_keep (IsS76.apart (show IsS76 w0 _ g s0_0 ye yf from by repeat(first|(with_reducible first|exact qb.out|apply Ob|apply Od|apply Oc|apply Of|apply Og)|exact qb.out)) (by(with_reducible repeat(first|apply Kd.R_alloc|apply Kd.R_drewN|apply Kd.R_drew));exact qa.out) (by decide)) hk (fun _ h=>h.2)) (fun _ h=>h.1))
              have qj:=Oa (Kd.R_mono (Kd.R_keep (IsS76.apart (show IsS76 w0 _ g s0_0 ye yf from by repeat(first|(with_reducible first|exact qb.out|apply Ob|apply Od|apply Oc|apply Of|apply Og)|exact qb.out)) (by(with_reducible repeat(first|apply Kd.R_alloc|apply Kd.R_drewN|apply Kd.R_drew));exact ym.out) (by decide)) hk (fun _ h=>h.2)) (fun _ h=>h.1))
              have qk:=Oa (KeepBut.trans (by repeat(first|(with_reducible first|exact HK.out|apply KeepBut.set_|apply keep_drewN|apply keep_drew|apply keep_alloc)|exact HK.out)) hk (.inl rfl))
              have ql:=Oa (hb)
              have qr:=Oa (hi)
              clear qa ym
              clear HK HB
              clear qb
              have qa:=qi
              have ym:=qj
              have HK:=qk
              have HB:=ql
              have qb:=qr
              clear qi qj qk ql qr
              (try clear hb)
              (try clear hb2)
              (try clear hk)
              (try clear hi)
              refine hK.out _ _ ⟨yt,yu,yv⟩ (fun qe=>?_)
              clear hK K
              refine norm_ (a':=?_) ?_ ?_;rotate_left;(show Act.put _ (some 87) _=_;simp only[pw];rfl)
              exact norm_ (by simp only [putAll,Act.put,List.setIfInBounds_toArray,List.set_cons_zero,List.set_cons_succ]) (zj (.slice (some ado77) yo.length co77,ado77) _ ⟨qe,(by(with_reducible repeat(first|apply Kd.R_alloc|apply Kd.R_drewN|apply Kd.R_drew));exact ym.out),(by(with_reducible repeat(first|apply Kd.R_alloc|apply Kd.R_drewN|apply Kd.R_drew));exact qa.out),⟨_,rfl⟩,(by repeat(first|(with_reducible first|exact qb.out|apply Ob|apply Od|apply Oc|apply Of|apply Og)|exact qb.out)),(by repeat(first|(with_reducible first|exact HK.out|apply KeepBut.set_|apply keep_drewN|apply keep_drew|apply keep_alloc)|exact HK.out)),(by repeat(first|(with_reducible first|exact HB.out|apply below_alloc|apply pw_below_drewN|apply below_drew1|refine below_set ?_ (Oe qb.out))|exact HB.out))⟩)
             ·skip
              refine goes_ Tryd.func38 (by kernel_rfl) rfl #[.pointer (some ⟨g,0,none⟩),.int .i64 3] (by rfl) rfl rfl (by(try simp only [List.map_toArray,List.map_cons,List.map_nil]);first|done|rfl|(simp only [List.length_drop,List.length_take];rfl)) ?_
              with_reducible refine(spec_l1Below.calls g s0_0 ye yf 3 zd t343 t344 w0 _ ?side1 ?side2 A67.out).mono ?_
              (case side1=>repeat(first|(with_reducible first|exact qb.out|apply Ob|apply Od|apply Oc|apply Of|apply Og)|exact qb.out))
              (case side2=>repeat(first|(with_reducible first|exact HB.out|apply below_alloc|apply pw_below_drewN|apply below_drew1|refine below_set ?_ (Oe qb.out))|exact HB.out))
              rintro e w75 ⟨rfl,hi,hb,hk⟩
              have yt:=keep_cell hk (qe.1) (by first|(rw [add_block];exact Kd.own_blk (IsS76.own_ne qb.out qa.out (by decide)))|(show(Addr.add _ _).block≠_;rw [add_block];exact Kd.own_blk (IsS76.own_ne qb.out qa.out (by decide)))|exact Kd.own_blk (IsS76.own_ne qb.out qa.out (by decide)))
              have yu:=keep_cell hk (qe.2.1) (by first|(rw [add_block];exact Kd.own_blk (IsS76.own_ne qb.out qa.out (by decide)))|(show(Addr.add _ _).block≠_;rw [add_block];exact Kd.own_blk (IsS76.own_ne qb.out qa.out (by decide)))|exact Kd.own_blk (IsS76.own_ne qb.out qa.out (by decide)))
              have yv:=keep_cell hk (qe.2.2) (by first|(rw [add_block];exact Kd.own_blk (IsS76.own_ne qb.out qa.out (by decide)))|(show(Addr.add _ _).block≠_;rw [add_block];exact Kd.own_blk (IsS76.own_ne qb.out qa.out (by decide)))|exact Kd.own_blk (IsS76.own_ne qb.out qa.out (by decide)))
              refine⟨_,rfl,?_⟩
              have qi:=Oa (Kd.R_mono (Kd.R_keep (IsS76.apart (show IsS76 w0 _ g s0_0 ye yf from by repeat(first|(with_reducible first|exact qb.out|apply Ob|apply Od|apply Oc|apply Of|apply Og)|exact qb.out)) (by(with_reducible repeat(first|apply Kd.R_alloc|apply Kd.R_drewN|apply Kd.R_drew));exact qa.out) (by decide)) hk (fun _ h=>h.2)) (fun _ h=>h.1))
              have qj:=Oa (KeepBut.trans (by repeat(first|(with_reducible first|exact HK.out|apply KeepBut.set_|apply keep_drewN|apply keep_drew|apply keep_alloc)|exact HK.out)) hk (.inl rfl))
              have qk:=Oa (hb)
              have ql:=Oa (hi)
              clear qa HK
              clear HB qb
              have qa:=qi
              have HK:=qj
              have HB:=qk
              have qb:=ql
              clear qi qj qk ql
              (try clear hb)
              (try clear hb2)
              (try clear hk)
              (try clear hi)
              refine hK.out _ _ ⟨yt,yu,yv⟩ (fun qe=>?_)
              clear hK K
              refine norm_ (a':=?_) ?_ ?_;rotate_left;(show Act.put _ (some 87) _=_;simp only[pw];rfl)
              refine one_ (i:=5) (N:=some 85) (bm 13 255) rfl rfl (one_of HT_.out (by kernel_rfl)) (by decide) (fun K hK=>?_)
              refine Kd.R_lit_step (Kd.int .i64) _ 2 ?hg (N:=85) ?hd (xs:=([(-1),(rd_T40 qd qc).f1,0]:List Int)) (inner:=[.int .i64 (-1),.int .i64 ((rd_T40 qd qc).f1),.int .i64 0]) (ok:=fun _=>True) (okp:=fun _=>True) ?hr ?hp (fun _ hk=>hk) trivial (Below.refl _ _) (Nat.le_refl _) (by simp) ?_;(case hd=>rfl);(case hg=>rfl);(case hr=>first|(go_simp;done)|(go_simp;rfl));(case hp=>exact(Reps.one (show Kd.M (Kd.int .i64) _ _ _ (-1) [.int .i64 (-1)] from rfl) (Reps.one (show Kd.M (Kd.int .i64) _ _ _ ((rd_T40 qd qc).f1) [.int .i64 ((rd_T40 qd qc).f1)] from rfl) (Reps.one (show Kd.M (Kd.int .i64) _ _ _ 0 [.int .i64 0] from rfl) (Reps.none _ _)))))
              intro v340 w76 ho77 hb hg_ hnew_
              have yt:=(hb.cell (World.block_lt_of_cell? _ _ (qe.1))).trans (qe.1)
              have yu:=(hb.cell (World.block_lt_of_cell? _ _ (qe.2.1))).trans (qe.2.1)
              have yv:=(hb.cell (World.block_lt_of_cell? _ _ (qe.2.2))).trans (qe.2.2)
              clear hg_ hnew_
              (first|rw [← zr.out] at ho77|(simp only [Int.reduceToNat] at ho77;rw [← zr.out] at ho77))
              have qi:=Oa (Kd.R_below (by(with_reducible repeat(first|apply Kd.R_alloc|apply Kd.R_drewN|apply Kd.R_drew));exact qa.out) hb)
              have qj:=Oa (Kd.R_lower ho77 (keep_size (w:=w) (g:=g) (row:=none) (by repeat(first|(with_reducible first|exact HK.out|apply KeepBut.set_|apply keep_drewN|apply keep_drew|apply keep_alloc)|exact HK.out))))
              have qk:=Oa (IsS76.below (by repeat(first|(with_reducible first|exact qb.out|apply Ob|apply Od|apply Oc|apply Of|apply Og)|exact qb.out)) hb)
              have ql:=Oa (KeepBut.trans (by repeat(first|(with_reducible first|exact HK.out|apply KeepBut.set_|apply keep_drewN|apply keep_drew|apply keep_alloc)|exact HK.out)) (KeepBut.of_below hb g none) (.inl rfl))
              have qr:=Oa (below_step (by repeat(first|(with_reducible first|exact HB.out|apply below_alloc|apply pw_below_drewN|apply below_drew1|refine below_set ?_ (Oe qb.out))|exact HB.out)) hb)
              clear qa qb
              clear HK HB
              have qa:=qi
              have ym:=qj
              have qb:=qk
              have HK:=ql
              have HB:=qr
              clear qi qj qk ql qr
              clear hb ho77
              obtain⟨Ao78,co78,eo78⟩:=Kd.R_slice ym.out
              subst eo78
              obtain⟨ado78,fo78,_⟩:=Kd.at_int (Kd.R_reads' ym.out).2.2 0 (by decide) (by rw [zr.out];simp)
              cases fo78
              refine hK.out _ _ ⟨yt,yu,yv⟩ (fun qe=>?_)
              clear hK K
              refine norm_ (a':=?_) ?_ ?_;rotate_left;(show Act.put _ (some 85) _=_;simp only[pw];rfl)
              exact norm_ (by simp only [putAll,Act.put,List.setIfInBounds_toArray,List.set_cons_zero,List.set_cons_succ]) (zj (.slice (some ado78) yo.length co78,ado78) _ ⟨qe,(by(with_reducible repeat(first|apply Kd.R_alloc|apply Kd.R_drewN|apply Kd.R_drew));exact ym.out),(by(with_reducible repeat(first|apply Kd.R_alloc|apply Kd.R_drewN|apply Kd.R_drew));exact qa.out),⟨_,rfl⟩,(by repeat(first|(with_reducible first|exact qb.out|apply Ob|apply Od|apply Oc|apply Of|apply Og)|exact qb.out)),(by repeat(first|(with_reducible first|exact HK.out|apply KeepBut.set_|apply keep_drewN|apply keep_drew|apply keep_alloc)|exact HK.out)),(by repeat(first|(with_reducible first|exact HB.out|apply below_alloc|apply pw_below_drewN|apply below_drew1|refine below_set ?_ (Oe qb.out))|exact HB.out))⟩)
            rintro⟨v340,adz_v340⟩ w79 ⟨hS_,h0_,h1_,h2_,h3_,h4_,h5_⟩
            have qi:Aside0 (Kd.R (Kd.int .i64) 2 w79 w.heap.size (fun _=>True) v340 yo):=⟨h0_⟩
            have qj:Aside0 (Kd.R k40 40 w79 w.heap.size (fun _=>True) (.slice (some qm) qd.length co71) qd):=⟨h1_⟩
            have qk:Aside0 (∃ c_,(v340:Value)=.slice (some adz_v340) yo.length c_):=⟨h2_⟩
            have ql:Aside0 (IsS76 w0 w79 g s0_0 t343 t344):=⟨h3_⟩
            have qr:Aside0 (KeepBut w w79 g none):=⟨h4_⟩
            have zt:Aside0 (Below w0.heap.size w0 w79):=⟨h5_⟩
            clear qa qb
            clear HK HB
            clear h0_ h1_ h2_ h3_ h4_ h5_
            have ym:=qi
            have qa:=qj
            have HA_HO341:=qk
            have qb:=ql
            have HK:=qr
            have HB:=zt
            clear qi qj qk ql qr zt
            have qe:w79.cell? (qm.add ((qc).toNat*3))=some (.int .i64 ((rd_T40 qd qc).f0))∧w79.cell? ⟨(qm.add ((qc).toNat*3)).block,(qm.add ((qc).toNat*3)).off+1,none⟩=some (.int .i64 ((rd_T40 qd qc).f1))∧w79.cell? ⟨(qm.add ((qc).toNat*3)).block,(qm.add ((qc).toNat*3)).off+2,none⟩=some (.string ((rd_T40 qd qc).f2)):=hS_
            obtain⟨co80,eo80⟩:=HA_HO341.out
            clear HA_HO341
            subst eo80
            have p70:0≤(qc:Int):=of_decide_eq_true (by first|(with_reducible assumption)|assumption)
            have q70:(qc:Int) < ((qd.length:Int):Int):=of_decide_eq_true (by first|(with_reducible assumption)|assumption)
            obtain⟨go70,co70,eo70,gb70,gl70,cl70,HG70⟩:=Kd.R_form qa.out (by omega)
            (first|cases eo70|(injection eo70 with ea_ en_ ec_;(first|subst ea_|(injection ea_ with ea_;subst ea_));subst ec_;clear en_))
            have GB70:=Oa gb70
            have GG70:=Oa HG70
            clear gb70 gl70 HG70
            (first|simp only [add_plain] at ya|skip)
            (first|simp only [add_plain] at yb|skip)
            (first|simp only [add_plain] at yc|skip)
            (first|simp only [add_plain] at yx|skip)
            (first|simp only [add_plain] at yy|skip)
            (first|simp only [add_plain] at yz|skip)
            obtain⟨ce70,hcl70,hM70,hcc70,hfr70⟩:=Kd.R_elem qa.out z40 (qc:Int) p70 q70
            obtain rfl:=k40_openM hM70
            have hx70_0:World.cell? _ ⟨go70,(qc:Int).toNat*3,none⟩=some (.int .i64 ((rd_T40 qd qc).f0)):=hcc70 0 _ rfl
            have hx70_1:World.cell? _ ⟨go70,(qc:Int).toNat*3+1,none⟩=some (.int .i64 ((rd_T40 qd qc).f1)):=hcc70 1 _ rfl
            have hx70_2:World.cell? _ ⟨go70,(qc:Int).toNat*3+2,none⟩=some (.string ((rd_T40 qd qc).f2)):=hcc70 2 _ rfl
            have hf70_0:World.frozen? _ ⟨go70,(qc:Int).toNat*3,none⟩=false:=hfr70 0
            have hf70_1:World.frozen? _ ⟨go70,(qc:Int).toNat*3+1,none⟩=false:=hfr70 1
            have hf70_2:World.frozen? _ ⟨go70,(qc:Int).toNat*3+2,none⟩=false:=hfr70 2
            clear hcl70 hcc70 hfr70 hM70
            replace p70:=eq_true p70
            replace q70:=eq_true q70
            have HN0_go70:=Oa (show g≠go70 from by have h_:=IsS76.own_ne qb.out qa.out (by decide);intro e_;exact h_ (by rw [e_];rfl))
            obtain⟨ce81,hcl81,hM81,hcc81,hfr81⟩:=Kd.R_elem qa.out z40 (qc:Int) (of_decide_eq_true (by first|(with_reducible assumption)|assumption)) (by have h_:(qc:Int) < ((qd.length:Int):Int):=of_decide_eq_true (by first|(with_reducible assumption)|assumption);first|exact h_|(have e_:=(Kd.R_reads' qa.out).1;omega)|simpa using h_)
            obtain rfl:=k40_openM hM81
            have HP81:=(Kd.R_seg qa.out (qc:Int) (of_decide_eq_true (by first|(with_reducible assumption)|assumption)) (by have h_:(qc:Int) < ((qd.length:Int):Int):=of_decide_eq_true (by first|(with_reducible assumption)|assumption);first|exact h_|(have e_:=(Kd.R_reads' qa.out).1;omega)|simpa using h_) (seg:=[.int .i64 (rd yo zd)]) (j:=0) hcl81 hcc81 (show 1≤3 from by decide) (x':=(⟨rd yo zd,(rd_T40 qd qc).f1,(rd_T40 qd qc).f2⟩:S40)) (k40_mkM _ _ _ (⟨rd yo zd,(rd_T40 qd qc).f1,(rd_T40 qd qc).f2⟩:S40) ) (fun _ hk=>hk)).1
            rw [← Ny346.out] at HP81
            have HQ81:=Oa HP81
            clear hcl81 hcc81 hfr81 hM81 HP81
            refine norm_ (a':=?_) ?_ ?_
            rotate_left
            ·simp only [putAll,Act.put,List.setIfInBounds_toArray,List.set_cons_zero,List.set_cons_succ]
             rfl
            refine pz 8 88 (bm 13 511) HT_ ?_
            refine one_ (i:=9) (N:=some 89) (bm 13 1023) rfl rfl (one_of HT_.out (by kernel_rfl)) (by decide) (fun K hK=>?_)
            (have p345:0≤(zd:Int):=of_decide_eq_true (by first|(with_reducible assumption)|assumption);have q345:zd < (yo.length:Int):=of_decide_eq_true (by first|(with_reducible assumption)|assumption);obtain⟨ad345,e345,hx345_0⟩:=Kd.at_int (Kd.R_reads' ym.out).2.2 zd p345 q345;obtain rfl:adz_v340=ad345:=(by injection e345))
            refine value_ (w1:=?_) (v:=?_) (by rfl) rfl ?_ ?_
            rotate_left 2
            ·go_simp
             constructor
             ·rfl
             ·rfl
            clear hx345_0
            refine hK.out _ _ ⟨qe.1,qe.2.1,qe.2.2⟩ (fun qe=>?_)
            clear hK K
            refine norm_ (a':=?_) ?_ ?_;rotate_left;(show Act.put _ (some 89) _=_;simp only[pw];rfl)
            refine pz 10 90 (bm 13 2047) HT_ ?_
            refine pz 11 91 (bm 13 4095) HT_ ?_
            refine last_ (i:=12) (N:=none) (bm 13 8191) rfl rfl (one_of HT_.out (by kernel_rfl)) (by decide) (fun K hK=>?_)
            refine skip_ (w1:=?_) (by rfl) rfl ?_ ?_
            rotate_left
            ·go_simp
             rfl
            refine hK.out _ _ ?_
            clear hK K
            refine done_ (done_of HT_.out (by kernel_rfl)) ?_
            try go_wp2
            go_meet
            case rel=>exact⟨_,(y346),(t343),(t344),H',⟨by have:=HJ3.out;have:=HK2.out;have:=HJ39.out;first|omega|exact Nat.le_refl _⟩,⟨by(with_reducible repeat(first|apply Kd.R_alloc|apply Kd.R_drewN|apply Kd.R_drew));exact HQ81.out⟩,⟨by repeat(first|(with_reducible first|exact qb.out|apply Ob|apply Od|apply Oc|apply Of|apply Og|refine IsS76.far ?_ HN0_go70.out _)|exact qb.out)⟩,⟨by repeat(first|(with_reducible first|exact HK.out|apply KeepBut.set_|apply keep_drewN|apply keep_drew|apply keep_alloc|refine keep_far ?_ GB70.out _)|exact HK.out)⟩,⟨by repeat(first|(with_reducible first|exact HB.out|apply below_alloc|apply pw_below_drewN|apply below_drew1|refine below_set ?_ (Nat.le_trans HL.out GB70.out)|refine below_set ?_ (Oe qb.out))|exact HB.out)⟩⟩
           ·rw [if_neg c66] at H
            have c66b0:(yh == 1)=false:=beq_eq_false_iff_ne.mpr c66
            have c66b1:(yh != 1)=true:=bne_iff_ne.mpr c66
            by_cases c82:yh=2
            ·rw [if_pos c82] at H
             have c82b0:(yh == 2)=true:=beq_iff_eq.mpr c82
             have c82b1:(yh != 2)=false:=bne_eq_false_iff_eq.mpr c82
             clear c82
             obtain⟨yp,hy348⟩:∃ y_:List Int,y_=(([359999999,360000000,(rd_T40 qd qc).f0]:List Int)):=⟨_,rfl⟩
             replace H:((spec_l1Below.f s0_0 ye yf 3).bind fun bt351=>(if 0≤bt351.1 then (if bt351.1 < (yp.length:Int) then (spec_l12DrawTitles.j4 kj39 (qd.set (qc:Int).toNat (⟨(rd_T40 qd qc).f0,rd yp bt351.1,(rd_T40 qd qc).f2⟩:S40)) s0_0 bt351.2.1 bt351.2.2) else (none)) else (none)))=some (r1,r2,r3):=by first|(rw [hy348];with_reducible exact H)|(have yd:=(Option.bind_some _ _).symm.trans H;rw [hy348];with_reducible exact yd)|(have yd:=(Option.bind_some _ _).symm.trans H;with_reducible exact yd)|with_reducible exact H|(rw [hy348];exact H)|exact H
             have zs:=Oa hy348
             clear hy348
             replace H:=Option.bind_eq_some_iff.mp H
             obtain⟨⟨ze,t352,t353⟩,A830,H⟩:=H
             try dsimp only at H
             have A83:=Oa A830
             clear A830
             by_cases c84:0≤ze
             case neg=>rw[if_neg c84] at H;exact absurd H (by simp)
             rw[if_pos c84] at H
             have c84b0:=decide_eq_true c84
             clear c84
             by_cases c85:ze < (yp.length:Int)
             case neg=>rw[if_neg c85] at H;exact absurd H (by simp)
             rw[if_pos c85] at H
             have c85b0:=decide_eq_true c85
             clear c85
             obtain⟨y355,hy355⟩:∃ y_:List (S40),y_=(qd.set (qc:Int).toNat (⟨(rd_T40 qd qc).f0,rd yp ze,(rd_T40 qd qc).f2⟩:S40)):=⟨_,rfl⟩
             replace H:(spec_l12DrawTitles.j4 kj39 y355 s0_0 t352 t353)=some (r1,r2,r3):=by first|(rw [hy355];with_reducible exact H)|(have yd:=(Option.bind_some _ _).symm.trans H;rw [hy355];with_reducible exact yd)|(have yd:=(Option.bind_some _ _).symm.trans H;with_reducible exact yd)|with_reducible exact H|(rw [hy355];exact H)|exact H
             have Ny355:=Oa hy355
             clear hy355
             have H':=Oa H
             clear H
             obtain⟨Ao87,co87,eo87⟩:=Kd.R_slice qa.out
             subst eo87
             try go_wp2_with (first|((with_reducible refine gate_callee (f:=38) rfl ?_);refine goesL_ (some 64) rfl rfl Tryd.func38 (by kernel_rfl) rfl #[.pointer (some ⟨g,0,none⟩),.int .i64 (qd.length:Int)] rfl (by(try simp only [List.map_toArray,List.map_cons,List.map_nil]);first|done|rfl|(simp only [List.length_drop,List.length_take];rfl)) ?_;(with_reducible refine(spec_l1Below.calls g s0_0 qp qq (qd.length:Int) qc zk zl w0 _ ?side1 ?side2 A48.out).mono ?_);(case side1=>repeat(first|(with_reducible first|exact qb.out|apply Ob|apply Od|apply Oc|apply Of|apply Og)|exact qb.out));(case side2=>repeat(first|(with_reducible first|exact HB.out|apply below_alloc|apply pw_below_drewN|apply below_drew1|refine below_set ?_ (Oe qb.out))|exact HB.out));rintro e w88 ⟨rfl,hi,hb,hk⟩;refine⟨_,rfl,?_⟩;have qi:=Oa (Kd.R_mono (Kd.R_keep (IsS76.apart (show IsS76 w0 _ g s0_0 qp qq from by repeat(first|(with_reducible first|exact qb.out|apply Ob|apply Od|apply Oc|apply Of|apply Og)|exact qb.out)) (by(with_reducible repeat(first|apply Kd.R_alloc|apply Kd.R_drewN|apply Kd.R_drew));exact qa.out) (by decide)) hk (fun _ h=>h.2)) (fun _ h=>h.1));have qj:=Oa (KeepBut.trans (by repeat(first|(with_reducible first|exact HK.out|apply KeepBut.set_|apply keep_drewN|apply keep_drew|apply keep_alloc)|exact HK.out)) hk (.inl rfl));have qk:=Oa (hb);have ql:=Oa (hi);clear qa;clear HK;clear HB;clear qb;have qa:=qi;have HK:=qj;have HB:=qk;have qb:=ql;clear qi qj qk ql;(try clear hb);(try clear hb2);(try clear hk);(try clear hi);have yq:0≤(qc:Int):=of_decide_eq_true (by first|(with_reducible assumption)|assumption);have yr:qc < (qd.length:Int):=of_decide_eq_true (by first|(with_reducible assumption)|assumption);obtain⟨qm,e326,ya,yb,yc⟩:=at_T40 (Kd.R_reads' qa.out).2.2 qc yq yr;cases e326;replace yq:=eq_true yq;replace yr:=eq_true yr)|((with_reducible refine gate_callee (f:=38) rfl ?_);refine goesL_ (some 67) rfl rfl Tryd.func38 (by kernel_rfl) rfl #[.pointer (some ⟨g,0,none⟩),.int .i64 3] rfl (by(try simp only [List.map_toArray,List.map_cons,List.map_nil]);first|done|rfl|(simp only [List.length_drop,List.length_take];rfl)) ?_;(with_reducible refine(spec_l1Below.calls g s0_0 zk zl 3 yh ye yf w0 _ ?side1 ?side2 A51.out).mono ?_);(case side1=>repeat(first|(with_reducible first|exact qb.out|apply Ob|apply Od|apply Oc|apply Of|apply Og)|exact qb.out));(case side2=>repeat(first|(with_reducible first|exact HB.out|apply below_alloc|apply pw_below_drewN|apply below_drew1|refine below_set ?_ (Oe qb.out))|exact HB.out));rintro e w89 ⟨rfl,hi,hb,hk⟩;refine⟨_,rfl,?_⟩;have qi:=Oa (Kd.R_mono (Kd.R_keep (IsS76.apart (show IsS76 w0 _ g s0_0 zk zl from by repeat(first|(with_reducible first|exact qb.out|apply Ob|apply Od|apply Oc|apply Of|apply Og)|exact qb.out)) (by(with_reducible repeat(first|apply Kd.R_alloc|apply Kd.R_drewN|apply Kd.R_drew));exact qa.out) (by decide)) hk (fun _ h=>h.2)) (fun _ h=>h.1));have qj:=Oa (KeepBut.trans (by repeat(first|(with_reducible first|exact HK.out|apply KeepBut.set_|apply keep_drewN|apply keep_drew|apply keep_alloc)|exact HK.out)) hk (.inl rfl));have qk:=Oa (hb);have ql:=Oa (hi);clear qa;clear HK;clear HB;clear qb;have qa:=qi;have HK:=qj;have HB:=qk;have qb:=ql;clear qi qj qk ql;(try clear hb);(try clear hb2);(try clear hk);(try clear hi)))
             have pi354:(0≤(ze:Int))=True:=eq_true (of_decide_eq_true (by first|(with_reducible assumption)|assumption))
             have qi354:(ze < (yp.length:Int))=True:=eq_true (of_decide_eq_true (by first|(with_reducible assumption)|assumption))
             have qi:=Oa (Kd.R_drew qa.out)
             have qj:=Oa (Oc qb.out)
             have qk:=Oa (keep_drew HK.out)
             have ql:=Oa (below_drew1 HB.out)
             clear qa qb
             clear HK HB
             have qa:=qi
             have qb:=qj
             have HK:=qk
             have HB:=ql
             clear qi qj qk ql
             have p347:0≤(qc:Int):=of_decide_eq_true (by first|(with_reducible assumption)|assumption)
             have q347:qc < (qd.length:Int):=of_decide_eq_true (by first|(with_reducible assumption)|assumption)
             obtain⟨ad347,e347,za,zb,zc⟩:=at_T40 (Kd.R_reads' qa.out).2.2 qc p347 q347
             obtain rfl:qm=ad347:=(by injection e347)
             replace p347:=eq_true p347
             replace q347:=eq_true q347
             refine start_ (n:=13) (S:=fun w'=>w'.cell? (qm.add ((qc).toNat*3))=some (.int .i64 ((rd_T40 qd qc).f0))∧w'.cell? ⟨(qm.add ((qc).toNat*3)).block,(qm.add ((qc).toNat*3)).off+1,none⟩=some (.int .i64 ((rd_T40 qd qc).f1))∧w'.cell? ⟨(qm.add ((qc).toNat*3)).block,(qm.add ((qc).toNat*3)).off+2,none⟩=some (.string ((rd_T40 qd qc).f2))) (ds:=[12]) #[false,false,false,false,false,false,false,false,false,false,false,false,false] (by kernel_rfl) rfl rfl ⟨za,zb,zc⟩ (fun qe=>?_);refine with_tabW spec_l12DrawTitles.tab23 spec_l12DrawTitles.bits23 (fun HT_ HW_=>?_)
             generalize w89.drew=w90 at qa qb HK HB za zb zc qe ⊢
             refine pz 0 94 (bm 13 1) HT_ ?_
             refine pz 1 95 (bm 13 3) HT_ ?_
             refine pz 2 96 (bm 13 7) HT_ ?_
             refine pz 3 97 (bm 13 15) HT_ ?_
             refine pz 6 100 (bm 13 79) HT_ ?_
             refine tz 4 98 (bm 13 95) HT_ HW_ qe rfl (by rintro w' ⟨s0,s1,s2⟩;go_simp;with_reducible rfl) ?_
             refine join_ (σ:=Value × Addr) 5 #[true,true,true,true,true,true,true,true,false,false,false,false,false] (fun s_=>[(99,s_.1),(101,.int .i64 ze)]) (fun s_ w'=>(w'.cell? (qm.add ((qc).toNat*3))=some (.int .i64 ((rd_T40 qd qc).f0))∧w'.cell? ⟨(qm.add ((qc).toNat*3)).block,(qm.add ((qc).toNat*3)).off+1,none⟩=some (.int .i64 ((rd_T40 qd qc).f1))∧w'.cell? ⟨(qm.add ((qc).toNat*3)).block,(qm.add ((qc).toNat*3)).off+2,none⟩=some (.string ((rd_T40 qd qc).f2)))∧(Kd.R (Kd.int .i64) 2 w' w.heap.size (fun _=>True) s_.1 yp)∧(Kd.R k40 40 w' w.heap.size (fun _=>True) (.slice (some qm) qd.length co87) qd)∧(∃ c_,(s_.1:Value)=.slice (some s_.2) yp.length c_)∧(IsS76 w0 w' g s0_0 t352 t353)∧(KeepBut w w' g none)∧(Below w0.heap.size w0 w')) ?_ ?_
             rotate_left
             ·intro zj
              refine two_ (i:=5) (j:=7) (Ni:=some 99) (Nj:=some 101) (bm 13 127) (bm 13 223) rfl rfl rfl rfl (two_of HT_.out (by kernel_rfl)) (by decide) (by decide) (fun K hK=>?_) (fun K hK=>?_)
              ·skip
               refine Kd.R_lit_step (Kd.int .i64) _ 2 ?hg (N:=99) ?hd (xs:=([359999999,360000000,(rd_T40 qd qc).f0]:List Int)) (inner:=[.int .i64 359999999,.int .i64 360000000,.int .i64 ((rd_T40 qd qc).f0)]) (ok:=fun _=>True) (okp:=fun _=>True) ?hr ?hp (fun _ hk=>hk) trivial (Below.refl _ _) (Nat.le_refl _) (by simp) ?_;(case hd=>rfl);(case hg=>rfl);(case hr=>first|(go_simp;done)|(go_simp;rfl));(case hp=>exact(Reps.one (show Kd.M (Kd.int .i64) _ _ _ 359999999 [.int .i64 359999999] from rfl) (Reps.one (show Kd.M (Kd.int .i64) _ _ _ 360000000 [.int .i64 360000000] from rfl) (Reps.one (show Kd.M (Kd.int .i64) _ _ _ ((rd_T40 qd qc).f0) [.int .i64 ((rd_T40 qd qc).f0)] from rfl) (Reps.none _ _)))))
               intro v349 w91 ho92 hb hg_ hnew_
               have yt:=(hb.cell (World.block_lt_of_cell? _ _ (qe.1))).trans (qe.1)
               have yu:=(hb.cell (World.block_lt_of_cell? _ _ (qe.2.1))).trans (qe.2.1)
               have yv:=(hb.cell (World.block_lt_of_cell? _ _ (qe.2.2))).trans (qe.2.2)
               clear hg_ hnew_
               (first|rw [← zs.out] at ho92|(simp only [Int.reduceToNat] at ho92;rw [← zs.out] at ho92))
               have qi:=Oa (Kd.R_below (by(with_reducible repeat(first|apply Kd.R_alloc|apply Kd.R_drewN|apply Kd.R_drew));exact qa.out) hb)
               have qj:=Oa (Kd.R_lower ho92 (keep_size (w:=w) (g:=g) (row:=none) (by repeat(first|(with_reducible first|exact HK.out|apply KeepBut.set_|apply keep_drewN|apply keep_drew|apply keep_alloc)|exact HK.out))))
               have qk:=Oa (IsS76.below (by repeat(first|(with_reducible first|exact qb.out|apply Ob|apply Od|apply Oc|apply Of|apply Og)|exact qb.out)) hb)
               have ql:=Oa (KeepBut.trans (by repeat(first|(with_reducible first|exact HK.out|apply KeepBut.set_|apply keep_drewN|apply keep_drew|apply keep_alloc)|exact HK.out)) (KeepBut.of_below hb g none) (.inl rfl))
               have qr:=Oa (below_step (by repeat(first|(with_reducible first|exact HB.out|apply below_alloc|apply pw_below_drewN|apply below_drew1|refine below_set ?_ (Oe qb.out))|exact HB.out)) hb)
               clear qa qb
               clear HK HB
               have qa:=qi
               have yn:=qj
               have qb:=qk
               have HK:=ql
               have HB:=qr
               clear qi qj qk ql qr
               clear hb ho92
               obtain⟨Ao93,co93,eo93⟩:=Kd.R_slice yn.out
               subst eo93
               obtain⟨ado93,fo93,_⟩:=Kd.at_int (Kd.R_reads' yn.out).2.2 0 (by decide) (by rw [zs.out];simp)
               cases fo93
               refine hK.out _ _ ⟨yt,yu,yv⟩ (fun qe=>?_)
               clear hK K
               refine norm_ (a':=?_) ?_ ?_;rotate_left;(show Act.put _ (some 99) _=_;simp only[pw];rfl)
               refine one_ (i:=7) (N:=some 101) (bm 13 255) rfl rfl (one_of HT_.out (by kernel_rfl)) (by decide) (fun K hK=>?_)
               refine goes_ Tryd.func38 (by kernel_rfl) rfl #[.pointer (some ⟨g,0,none⟩),.int .i64 3] (by rfl) rfl rfl (by(try simp only [List.map_toArray,List.map_cons,List.map_nil]);first|done|rfl|(simp only [List.length_drop,List.length_take];rfl)) ?_
               with_reducible refine(spec_l1Below.calls g s0_0 ye yf 3 ze t352 t353 w0 _ ?side1 ?side2 A83.out).mono ?_
               (case side1=>repeat(first|(with_reducible first|exact qb.out|apply Ob|apply Od|apply Oc|apply Of|apply Og)|exact qb.out))
               (case side2=>repeat(first|(with_reducible first|exact HB.out|apply below_alloc|apply pw_below_drewN|apply below_drew1|refine below_set ?_ (Oe qb.out))|exact HB.out))
               rintro e w94 ⟨rfl,hi,hb,hk⟩
               have yt:=keep_cell hk (qe.1) (by first|(rw [add_block];exact Kd.own_blk (IsS76.own_ne qb.out qa.out (by decide)))|(show(Addr.add _ _).block≠_;rw [add_block];exact Kd.own_blk (IsS76.own_ne qb.out qa.out (by decide)))|exact Kd.own_blk (IsS76.own_ne qb.out qa.out (by decide)))
               have yu:=keep_cell hk (qe.2.1) (by first|(rw [add_block];exact Kd.own_blk (IsS76.own_ne qb.out qa.out (by decide)))|(show(Addr.add _ _).block≠_;rw [add_block];exact Kd.own_blk (IsS76.own_ne qb.out qa.out (by decide)))|exact Kd.own_blk (IsS76.own_ne qb.out qa.out (by decide)))
               have yv:=keep_cell hk (qe.2.2) (by first|(rw [add_block];exact Kd.own_blk (IsS76.own_ne qb.out qa.out (by decide)))|(show(Addr.add _ _).block≠_;rw [add_block];exact Kd.own_blk (IsS76.own_ne qb.out qa.out (by decide)))|exact Kd.own_blk (IsS76.own_ne qb.out qa.out (by decide)))
               refine⟨_,rfl,?_⟩
               have qi:=Oa (Kd.R_mono (Kd.R_keep (IsS76.apart (show IsS76 w0 _ g s0_0 ye yf from by repeat(first|(with_reducible first|exact qb.out|apply Ob|apply Od|apply Oc|apply Of|apply Og)|exact qb.out)) (by(with_reducible repeat(first|apply Kd.R_alloc|apply Kd.R_drewN|apply Kd.R_drew));exact qa.out) (by decide)) hk (fun _ h=>h.2)) (fun _ h=>h.1))
               have qj:=Oa (Kd.R_mono (Kd.R_keep (IsS76.apart (show IsS76 w0 _ g s0_0 ye yf from by repeat(first|(with_reducible first|exact qb.out|apply Ob|apply Od|apply Oc|apply Of|apply Og)|exact qb.out)) (by(with_reducible repeat(first|apply Kd.R_alloc|apply Kd.R_drewN|apply Kd.R_drew));exact yn.out) (by decide)) hk (fun _ h=>h.2)) (fun _ h=>h.1))
               have qk:=Oa (KeepBut.trans (by repeat(first|(with_reducible first|exact HK.out|apply KeepBut.set_|apply keep_drewN|apply keep_drew|apply keep_alloc)|exact HK.out)) hk (.inl rfl))
               have ql:=Oa (hb)
               have qr:=Oa (hi)
               clear qa yn
               clear HK HB
               clear qb
               have qa:=qi
               have yn:=qj
               have HK:=qk
               have HB:=ql
               have qb:=qr
               clear qi qj qk ql qr
               (try clear hb)
               (try clear hb2)
               (try clear hk)
               (try clear hi)
               refine hK.out _ _ ⟨yt,yu,yv⟩ (fun qe=>?_)
               clear hK K
               refine norm_ (a':=?_) ?_ ?_;rotate_left;(show Act.put _ (some 101) _=_;simp only[pw];rfl)
               exact norm_ (by simp only [putAll,Act.put,List.setIfInBounds_toArray,List.set_cons_zero,List.set_cons_succ]) (zj (.slice (some ado93) yp.length co93,ado93) _ ⟨qe,(by(with_reducible repeat(first|apply Kd.R_alloc|apply Kd.R_drewN|apply Kd.R_drew));exact yn.out),(by(with_reducible repeat(first|apply Kd.R_alloc|apply Kd.R_drewN|apply Kd.R_drew));exact qa.out),⟨_,rfl⟩,(by repeat(first|(with_reducible first|exact qb.out|apply Ob|apply Od|apply Oc|apply Of|apply Og)|exact qb.out)),(by repeat(first|(with_reducible first|exact HK.out|apply KeepBut.set_|apply keep_drewN|apply keep_drew|apply keep_alloc)|exact HK.out)),(by repeat(first|(with_reducible first|exact HB.out|apply below_alloc|apply pw_below_drewN|apply below_drew1|refine below_set ?_ (Oe qb.out))|exact HB.out))⟩)
              ·skip
               refine goes_ Tryd.func38 (by kernel_rfl) rfl #[.pointer (some ⟨g,0,none⟩),.int .i64 3] (by rfl) rfl rfl (by(try simp only [List.map_toArray,List.map_cons,List.map_nil]);first|done|rfl|(simp only [List.length_drop,List.length_take];rfl)) ?_
               with_reducible refine(spec_l1Below.calls g s0_0 ye yf 3 ze t352 t353 w0 _ ?side1 ?side2 A83.out).mono ?_
               (case side1=>repeat(first|(with_reducible first|exact qb.out|apply Ob|apply Od|apply Oc|apply Of|apply Og)|exact qb.out))
               (case side2=>repeat(first|(with_reducible first|exact HB.out|apply below_alloc|apply pw_below_drewN|apply below_drew1|refine below_set ?_ (Oe qb.out))|exact HB.out))
               rintro e w91 ⟨rfl,hi,hb,hk⟩
               have yt:=keep_cell hk (qe.1) (by first|(rw [add_block];exact Kd.own_blk (IsS76.own_ne qb.out qa.out (by decide)))|(show(Addr.add _ _).block≠_;rw [add_block];exact Kd.own_blk (IsS76.own_ne qb.out qa.out (by decide)))|exact Kd.own_blk (IsS76.own_ne qb.out qa.out (by decide)))
               have yu:=keep_cell hk (qe.2.1) (by first|(rw [add_block];exact Kd.own_blk (IsS76.own_ne qb.out qa.out (by decide)))|(show(Addr.add _ _).block≠_;rw [add_block];exact Kd.own_blk (IsS76.own_ne qb.out qa.out (by decide)))|exact Kd.own_blk (IsS76.own_ne qb.out qa.out (by decide)))
               have yv:=keep_cell hk (qe.2.2) (by first|(rw [add_block];exact Kd.own_blk (IsS76.own_ne qb.out qa.out (by decide)))|(show(Addr.add _ _).block≠_;rw [add_block];exact Kd.own_blk (IsS76.own_ne qb.out qa.out (by decide)))|exact Kd.own_blk (IsS76.own_ne qb.out qa.out (by decide)))
               refine⟨_,rfl,?_⟩
               have qi:=Oa (Kd.R_mono (Kd.R_keep (IsS76.apart (show IsS76 w0 _ g s0_0 ye yf from by repeat(first|(with_reducible first|exact qb.out|apply Ob|apply Od|apply Oc|apply Of|apply Og)|exact qb.out)) (by(with_reducible repeat(first|apply Kd.R_alloc|apply Kd.R_drewN|apply Kd.R_drew));exact qa.out) (by decide)) hk (fun _ h=>h.2)) (fun _ h=>h.1))
               have qj:=Oa (KeepBut.trans (by repeat(first|(with_reducible first|exact HK.out|apply KeepBut.set_|apply keep_drewN|apply keep_drew|apply keep_alloc)|exact HK.out)) hk (.inl rfl))
               have qk:=Oa (hb)
               have ql:=Oa (hi)
               clear qa HK
               clear HB qb
               have qa:=qi
               have HK:=qj
               have HB:=qk
               have qb:=ql
               clear qi qj qk ql
               (try clear hb)
               (try clear hb2)
               (try clear hk)
               (try clear hi)
               refine hK.out _ _ ⟨yt,yu,yv⟩ (fun qe=>?_)
               clear hK K
               refine norm_ (a':=?_) ?_ ?_;rotate_left;(show Act.put _ (some 101) _=_;simp only[pw];rfl)
               refine one_ (i:=5) (N:=some 99) (bm 13 255) rfl rfl (one_of HT_.out (by kernel_rfl)) (by decide) (fun K hK=>?_)
               refine Kd.R_lit_step (Kd.int .i64) _ 2 ?hg (N:=99) ?hd (xs:=([359999999,360000000,(rd_T40 qd qc).f0]:List Int)) (inner:=[.int .i64 359999999,.int .i64 360000000,.int .i64 ((rd_T40 qd qc).f0)]) (ok:=fun _=>True) (okp:=fun _=>True) ?hr ?hp (fun _ hk=>hk) trivial (Below.refl _ _) (Nat.le_refl _) (by simp) ?_;(case hd=>rfl);(case hg=>rfl);(case hr=>first|(go_simp;done)|(go_simp;rfl));(case hp=>exact(Reps.one (show Kd.M (Kd.int .i64) _ _ _ 359999999 [.int .i64 359999999] from rfl) (Reps.one (show Kd.M (Kd.int .i64) _ _ _ 360000000 [.int .i64 360000000] from rfl) (Reps.one (show Kd.M (Kd.int .i64) _ _ _ ((rd_T40 qd qc).f0) [.int .i64 ((rd_T40 qd qc).f0)] from rfl) (Reps.none _ _)))))
               intro v349 w92 ho93 hb hg_ hnew_
               have yt:=(hb.cell (World.block_lt_of_cell? _ _ (qe.1))).trans (qe.1)
               have yu:=(hb.cell (World.block_lt_of_cell? _ _ (qe.2.1))).trans (qe.2.1)
               have yv:=(hb.cell (World.block_lt_of_cell? _ _ (qe.2.2))).trans (qe.2.2)
               clear hg_ hnew_
               (first|rw [← zs.out] at ho93|(simp only [Int.reduceToNat] at ho93;rw [← zs.out] at ho93))
               have qi:=Oa (Kd.R_below (by(with_reducible repeat(first|apply Kd.R_alloc|apply Kd.R_drewN|apply Kd.R_drew));exact qa.out) hb)
               have qj:=Oa (Kd.R_lower ho93 (keep_size (w:=w) (g:=g) (row:=none) (by repeat(first|(with_reducible first|exact HK.out|apply KeepBut.set_|apply keep_drewN|apply keep_drew|apply keep_alloc)|exact HK.out))))
               have qk:=Oa (IsS76.below (by repeat(first|(with_reducible first|exact qb.out|apply Ob|apply Od|apply Oc|apply Of|apply Og)|exact qb.out)) hb)
               have ql:=Oa (KeepBut.trans (by repeat(first|(with_reducible first|exact HK.out|apply KeepBut.set_|apply keep_drewN|apply keep_drew|apply keep_alloc)|exact HK.out)) (KeepBut.of_below hb g none) (.inl rfl))
               have qr:=Oa (below_step (by repeat(first|(with_reducible first|exact HB.out|apply below_alloc|apply pw_below_drewN|apply below_drew1|refine below_set ?_ (Oe qb.out))|exact HB.out)) hb)
               clear qa qb
               clear HK HB
               have qa:=qi
               have yn:=qj
               have qb:=qk
               have HK:=ql
               have HB:=qr
               clear qi qj qk ql qr
               clear hb ho93
               obtain⟨Ao94,co94,eo94⟩:=Kd.R_slice yn.out
               subst eo94
               obtain⟨ado94,fo94,_⟩:=Kd.at_int (Kd.R_reads' yn.out).2.2 0 (by decide) (by rw [zs.out];simp)
               cases fo94
               refine hK.out _ _ ⟨yt,yu,yv⟩ (fun qe=>?_)
               clear hK K
               refine norm_ (a':=?_) ?_ ?_;rotate_left;(show Act.put _ (some 99) _=_;simp only[pw];rfl)
               exact norm_ (by simp only [putAll,Act.put,List.setIfInBounds_toArray,List.set_cons_zero,List.set_cons_succ]) (zj (.slice (some ado94) yp.length co94,ado94) _ ⟨qe,(by(with_reducible repeat(first|apply Kd.R_alloc|apply Kd.R_drewN|apply Kd.R_drew));exact yn.out),(by(with_reducible repeat(first|apply Kd.R_alloc|apply Kd.R_drewN|apply Kd.R_drew));exact qa.out),⟨_,rfl⟩,(by repeat(first|(with_reducible first|exact qb.out|apply Ob|apply Od|apply Oc|apply Of|apply Og)|exact qb.out)),(by repeat(first|(with_reducible first|exact HK.out|apply KeepBut.set_|apply keep_drewN|apply keep_drew|apply keep_alloc)|exact HK.out)),(by repeat(first|(with_reducible first|exact HB.out|apply below_alloc|apply pw_below_drewN|apply below_drew1|refine below_set ?_ (Oe qb.out))|exact HB.out))⟩)
             rintro⟨v349,adz_v349⟩ w95 ⟨hS_,h0_,h1_,h2_,h3_,h4_,h5_⟩
             have qi:Aside0 (Kd.R (Kd.int .i64) 2 w95 w.heap.size (fun _=>True) v349 yp):=⟨h0_⟩
             have qj:Aside0 (Kd.R k40 40 w95 w.heap.size (fun _=>True) (.slice (some qm) qd.length co87) qd):=⟨h1_⟩
             have qk:Aside0 (∃ c_,(v349:Value)=.slice (some adz_v349) yp.length c_):=⟨h2_⟩
             have ql:Aside0 (IsS76 w0 w95 g s0_0 t352 t353):=⟨h3_⟩
             have qr:Aside0 (KeepBut w w95 g none):=⟨h4_⟩
             have zt:Aside0 (Below w0.heap.size w0 w95):=⟨h5_⟩
             clear qa qb
             clear HK HB
             clear h0_ h1_ h2_ h3_ h4_ h5_
             have yn:=qi
             have qa:=qj
             have HA_HO350:=qk
             have qb:=ql
             have HK:=qr
             have HB:=zt
             clear qi qj qk ql qr zt
             have qe:w95.cell? (qm.add ((qc).toNat*3))=some (.int .i64 ((rd_T40 qd qc).f0))∧w95.cell? ⟨(qm.add ((qc).toNat*3)).block,(qm.add ((qc).toNat*3)).off+1,none⟩=some (.int .i64 ((rd_T40 qd qc).f1))∧w95.cell? ⟨(qm.add ((qc).toNat*3)).block,(qm.add ((qc).toNat*3)).off+2,none⟩=some (.string ((rd_T40 qd qc).f2)):=hS_
             obtain⟨co96,eo96⟩:=HA_HO350.out
             clear HA_HO350
             subst eo96
             have p86:0≤(qc:Int):=of_decide_eq_true (by first|(with_reducible assumption)|assumption)
             have q86:(qc:Int) < ((qd.length:Int):Int):=of_decide_eq_true (by first|(with_reducible assumption)|assumption)
             obtain⟨go86,co86,eo86,gb86,gl86,cl86,HG86⟩:=Kd.R_form qa.out (by omega)
             (first|cases eo86|(injection eo86 with ea_ en_ ec_;(first|subst ea_|(injection ea_ with ea_;subst ea_));subst ec_;clear en_))
             have GB86:=Oa gb86
             have GG86:=Oa HG86
             clear gb86 gl86 HG86
             (first|simp only [add_plain] at ya|skip)
             (first|simp only [add_plain] at yb|skip)
             (first|simp only [add_plain] at yc|skip)
             (first|simp only [add_plain] at za|skip)
             (first|simp only [add_plain] at zb|skip)
             (first|simp only [add_plain] at zc|skip)
             obtain⟨ce86,hcl86,hM86,hcc86,hfr86⟩:=Kd.R_elem qa.out z40 (qc:Int) p86 q86
             obtain rfl:=k40_openM hM86
             have hx86_0:World.cell? _ ⟨go86,(qc:Int).toNat*3,none⟩=some (.int .i64 ((rd_T40 qd qc).f0)):=hcc86 0 _ rfl
             have hx86_1:World.cell? _ ⟨go86,(qc:Int).toNat*3+1,none⟩=some (.int .i64 ((rd_T40 qd qc).f1)):=hcc86 1 _ rfl
             have hx86_2:World.cell? _ ⟨go86,(qc:Int).toNat*3+2,none⟩=some (.string ((rd_T40 qd qc).f2)):=hcc86 2 _ rfl
             have hf86_0:World.frozen? _ ⟨go86,(qc:Int).toNat*3,none⟩=false:=hfr86 0
             have hf86_1:World.frozen? _ ⟨go86,(qc:Int).toNat*3+1,none⟩=false:=hfr86 1
             have hf86_2:World.frozen? _ ⟨go86,(qc:Int).toNat*3+2,none⟩=false:=hfr86 2
             clear hcl86 hcc86 hfr86 hM86
             replace p86:=eq_true p86
             replace q86:=eq_true q86
             have HN0_go86:=Oa (show g≠go86 from by have h_:=IsS76.own_ne qb.out qa.out (by decide);intro e_;exact h_ (by rw [e_];rfl))
             obtain⟨ce97,hcl97,hM97,hcc97,hfr97⟩:=Kd.R_elem qa.out z40 (qc:Int) (of_decide_eq_true (by first|(with_reducible assumption)|assumption)) (by have h_:(qc:Int) < ((qd.length:Int):Int):=of_decide_eq_true (by first|(with_reducible assumption)|assumption);first|exact h_|(have e_:=(Kd.R_reads' qa.out).1;omega)|simpa using h_)
             obtain rfl:=k40_openM hM97
             have HP97:=(Kd.R_seg qa.out (qc:Int) (of_decide_eq_true (by first|(with_reducible assumption)|assumption)) (by have h_:(qc:Int) < ((qd.length:Int):Int):=of_decide_eq_true (by first|(with_reducible assumption)|assumption);first|exact h_|(have e_:=(Kd.R_reads' qa.out).1;omega)|simpa using h_) (seg:=[.int .i64 (rd yp ze)]) (j:=1) hcl97 hcc97 (show 2≤3 from by decide) (x':=(⟨(rd_T40 qd qc).f0,rd yp ze,(rd_T40 qd qc).f2⟩:S40)) (k40_mkM _ _ _ (⟨(rd_T40 qd qc).f0,rd yp ze,(rd_T40 qd qc).f2⟩:S40) ) (fun _ hk=>hk)).1
             rw [← Ny355.out] at HP97
             have HQ97:=Oa HP97
             clear hcl97 hcc97 hfr97 hM97 HP97
             refine norm_ (a':=?_) ?_ ?_
             rotate_left
             ·simp only [putAll,Act.put,List.setIfInBounds_toArray,List.set_cons_zero,List.set_cons_succ]
              rfl
             refine pz 8 102 (bm 13 511) HT_ ?_
             refine one_ (i:=9) (N:=some 103) (bm 13 1023) rfl rfl (one_of HT_.out (by kernel_rfl)) (by decide) (fun K hK=>?_)
             (have p354:0≤(ze:Int):=of_decide_eq_true (by first|(with_reducible assumption)|assumption);have q354:ze < (yp.length:Int):=of_decide_eq_true (by first|(with_reducible assumption)|assumption);obtain⟨ad354,e354,hx354_0⟩:=Kd.at_int (Kd.R_reads' yn.out).2.2 ze p354 q354;obtain rfl:adz_v349=ad354:=(by injection e354))
             refine value_ (w1:=?_) (v:=?_) (by rfl) rfl ?_ ?_
             rotate_left 2
             ·go_simp
              constructor
              ·rfl
              ·rfl
             clear hx354_0
             refine hK.out _ _ ⟨qe.1,qe.2.1,qe.2.2⟩ (fun qe=>?_)
             clear hK K
             refine norm_ (a':=?_) ?_ ?_;rotate_left;(show Act.put _ (some 103) _=_;simp only[pw];rfl)
             refine pz 10 104 (bm 13 2047) HT_ ?_
             refine pz 11 105 (bm 13 4095) HT_ ?_
             refine last_ (i:=12) (N:=none) (bm 13 8191) rfl rfl (one_of HT_.out (by kernel_rfl)) (by decide) (fun K hK=>?_)
             refine skip_ (w1:=?_) (by rfl) rfl ?_ ?_
             rotate_left
             ·go_simp
              rfl
             refine hK.out _ _ ?_
             clear hK K
             refine done_ (done_of HT_.out (by kernel_rfl)) ?_
             try go_wp2
             go_meet
             case rel=>exact⟨_,(y355),(t352),(t353),H',⟨by have:=HJ3.out;have:=HK2.out;have:=HJ39.out;first|omega|exact Nat.le_refl _⟩,⟨by(with_reducible repeat(first|apply Kd.R_alloc|apply Kd.R_drewN|apply Kd.R_drew));exact HQ97.out⟩,⟨by repeat(first|(with_reducible first|exact qb.out|apply Ob|apply Od|apply Oc|apply Of|apply Og|refine IsS76.far ?_ HN0_go86.out _)|exact qb.out)⟩,⟨by repeat(first|(with_reducible first|exact HK.out|apply KeepBut.set_|apply keep_drewN|apply keep_drew|apply keep_alloc|refine keep_far ?_ GB86.out _)|exact HK.out)⟩,⟨by repeat(first|(with_reducible first|exact HB.out|apply below_alloc|apply pw_below_drewN|apply below_drew1|refine below_set ?_ (Nat.le_trans HL.out GB86.out)|refine below_set ?_ (Oe qb.out))|exact HB.out)⟩⟩
            ·rw [if_neg c82] at H
             have c82b0:(yh == 2)=false:=beq_eq_false_iff_ne.mpr c82
             have c82b1:(yh != 2)=true:=bne_iff_ne.mpr c82
             have H':=Oa H
             clear H
             obtain⟨Ao98,co98,eo98⟩:=Kd.R_slice qa.out
             subst eo98
             go_wp2_with (first|((with_reducible refine gate_callee (f:=38) rfl ?_);refine goesL_ (some 64) rfl rfl Tryd.func38 (by kernel_rfl) rfl #[.pointer (some ⟨g,0,none⟩),.int .i64 (qd.length:Int)] rfl (by(try simp only [List.map_toArray,List.map_cons,List.map_nil]);first|done|rfl|(simp only [List.length_drop,List.length_take];rfl)) ?_;(with_reducible refine(spec_l1Below.calls g s0_0 qp qq (qd.length:Int) qc zk zl w0 _ ?side1 ?side2 A48.out).mono ?_);(case side1=>repeat(first|(with_reducible first|exact qb.out|apply Ob|apply Od|apply Oc|apply Of|apply Og)|exact qb.out));(case side2=>repeat(first|(with_reducible first|exact HB.out|apply below_alloc|apply pw_below_drewN|apply below_drew1|refine below_set ?_ (Oe qb.out))|exact HB.out));rintro e w99 ⟨rfl,hi,hb,hk⟩;refine⟨_,rfl,?_⟩;have qi:=Oa (Kd.R_mono (Kd.R_keep (IsS76.apart (show IsS76 w0 _ g s0_0 qp qq from by repeat(first|(with_reducible first|exact qb.out|apply Ob|apply Od|apply Oc|apply Of|apply Og)|exact qb.out)) (by(with_reducible repeat(first|apply Kd.R_alloc|apply Kd.R_drewN|apply Kd.R_drew));exact qa.out) (by decide)) hk (fun _ h=>h.2)) (fun _ h=>h.1));have qj:=Oa (KeepBut.trans (by repeat(first|(with_reducible first|exact HK.out|apply KeepBut.set_|apply keep_drewN|apply keep_drew|apply keep_alloc)|exact HK.out)) hk (.inl rfl));have qk:=Oa (hb);have ql:=Oa (hi);clear qa;clear HK;clear HB;clear qb;have qa:=qi;have HK:=qj;have HB:=qk;have qb:=ql;clear qi qj qk ql;(try clear hb);(try clear hb2);(try clear hk);(try clear hi);have yq:0≤(qc:Int):=of_decide_eq_true (by first|(with_reducible assumption)|assumption);have yr:qc < (qd.length:Int):=of_decide_eq_true (by first|(with_reducible assumption)|assumption);obtain⟨qm,e326,ya,yb,yc⟩:=at_T40 (Kd.R_reads' qa.out).2.2 qc yq yr;cases e326;replace yq:=eq_true yq;replace yr:=eq_true yr)|((with_reducible refine gate_callee (f:=38) rfl ?_);refine goesL_ (some 67) rfl rfl Tryd.func38 (by kernel_rfl) rfl #[.pointer (some ⟨g,0,none⟩),.int .i64 3] rfl (by(try simp only [List.map_toArray,List.map_cons,List.map_nil]);first|done|rfl|(simp only [List.length_drop,List.length_take];rfl)) ?_;(with_reducible refine(spec_l1Below.calls g s0_0 zk zl 3 yh ye yf w0 _ ?side1 ?side2 A51.out).mono ?_);(case side1=>repeat(first|(with_reducible first|exact qb.out|apply Ob|apply Od|apply Oc|apply Of|apply Og)|exact qb.out));(case side2=>repeat(first|(with_reducible first|exact HB.out|apply below_alloc|apply pw_below_drewN|apply below_drew1|refine below_set ?_ (Oe qb.out))|exact HB.out));rintro e w100 ⟨rfl,hi,hb,hk⟩;refine⟨_,rfl,?_⟩;have qi:=Oa (Kd.R_mono (Kd.R_keep (IsS76.apart (show IsS76 w0 _ g s0_0 zk zl from by repeat(first|(with_reducible first|exact qb.out|apply Ob|apply Od|apply Oc|apply Of|apply Og)|exact qb.out)) (by(with_reducible repeat(first|apply Kd.R_alloc|apply Kd.R_drewN|apply Kd.R_drew));exact qa.out) (by decide)) hk (fun _ h=>h.2)) (fun _ h=>h.1));have qj:=Oa (KeepBut.trans (by repeat(first|(with_reducible first|exact HK.out|apply KeepBut.set_|apply keep_drewN|apply keep_drew|apply keep_alloc)|exact HK.out)) hk (.inl rfl));have qk:=Oa (hb);have ql:=Oa (hi);clear qa;clear HK;clear HB;clear qb;have qa:=qi;have HK:=qj;have HB:=qk;have qb:=ql;clear qi qj qk ql;(try clear hb);(try clear hb2);(try clear hk);(try clear hi)))
             go_meet
             case rel=>exact⟨_,(qd),(ye),(yf),H',⟨by have:=HJ3.out;have:=HK2.out;have:=HJ39.out;first|omega|exact Nat.le_refl _⟩,⟨by(with_reducible repeat(first|apply Kd.R_alloc|apply Kd.R_drewN|apply Kd.R_drew));exact qa.out⟩,⟨by repeat(first|(with_reducible first|exact qb.out|apply Ob|apply Od|apply Oc|apply Of|apply Og)|exact qb.out)⟩,⟨by repeat(first|(with_reducible first|exact HK.out|apply KeepBut.set_|apply keep_drewN|apply keep_drew|apply keep_alloc)|exact HK.out)⟩,⟨by repeat(first|(with_reducible first|exact HB.out|apply below_alloc|apply pw_below_drewN|apply below_drew1|refine below_set ?_ (Oe qb.out))|exact HB.out)⟩⟩
         ·replace c47:=Bool.eq_false_iff.mpr c47
          subst c47
          have H1:(spec_l12DrawTitles.j4 kj39 qd s0_0 qp qq)=some (r1,r2,r3):=by rw [if_neg (show ¬ (false=true) by decide)] at H;exact H
          clear H
          have H:=H1
          clear H1
          have H':=Oa H
          clear H
          go_wp2
          go_meet
          case rel=>exact⟨_,(qd),(qp),(qq),H',⟨by have:=HJ3.out;have:=HK2.out;have:=HJ39.out;first|omega|exact Nat.le_refl _⟩,⟨by(with_reducible repeat(first|apply Kd.R_alloc|apply Kd.R_drewN|apply Kd.R_drew));exact qa.out⟩,⟨by repeat(first|(with_reducible first|exact qb.out|apply Ob|apply Od|apply Oc|apply Of|apply Og)|exact qb.out)⟩,⟨by repeat(first|(with_reducible first|exact HK.out|apply KeepBut.set_|apply keep_drewN|apply keep_drew|apply keep_alloc)|exact HK.out)⟩,⟨by repeat(first|(with_reducible first|exact HB.out|apply below_alloc|apply pw_below_drewN|apply below_drew1|refine below_set ?_ (Oe qb.out))|exact HB.out)⟩⟩
        case rest=>
         clear HC46;try clear p2;try clear c3;try clear p3;try clear q3;try clear hx3;try clear qi3;try clear c4;try clear c5;try clear c6;try clear c7;try clear p7;try clear q7;try clear hx7;try clear hf7;try clear c8;try clear p8;try clear q8;try clear hx8;try clear hf8;try clear c9;try clear p32;try clear q32;try clear hx32;try clear hx33;try clear p34;try clear q34;try clear hx34;try clear p35;try clear q35;try clear hx35;try clear qi35;try clear c38;try clear c47;try clear c49;try clear c50;try clear c66;try clear c66b0;try clear c66b1;try clear c68;try clear c69;try clear c70;try clear p70;try clear q70;try clear hx70;try clear hf70;try clear c81;try clear c82;try clear c82b0;try clear c82b1;try clear c84;try clear c84b0;try clear c85;try clear c85b0;try clear c86;try clear p86;try clear q86;try clear hx86;try clear hf86;try clear c97;try clear ya;try clear yb;try clear yc;try clear yx;try clear yy;try clear yz;try clear hx345_0;try clear za;try clear zb;try clear zc;try clear hx354_0;try clear hx70_0;try clear hx70_1;try clear hx70_2;try clear hx86_0;try clear hx86_1;try clear hx86_2;try clear yq;try clear p345;try clear p347;try clear p354;try clear p70;try clear p86;try clear yr;try clear q345;try clear q347;try clear q354;try clear q70;try clear q86
         obtain⟨kq,x3_45,qy,qz,HA,HJ45,qa,qb,HK,HB⟩:=hcut
         cases kq with
         | zero => exact absurd HA.out (by simp [spec_l12DrawTitles.j4])
         | succ kj45 =>
          have H:=HA.out
          clear HA
          simp only [spec_l12DrawTitles.j4] at H
          replace H:=Option.bind_eq_some_iff.mp H
          obtain⟨⟨t356,t357,t358⟩,A1010,H⟩:=H
          try dsimp only at H
          have A101:=Oa A1010
          clear A1010
          by_cases c102:t356=true
          ·subst c102
           rw[if_pos rfl] at H
           obtain⟨y359,hy359⟩:∃ y_:List (S40),y_=(([]:List (S40))):=⟨_,rfl⟩
           replace H:(spec_l12DrawTitles.l2 kj45 y359 0 s0_0 t357 t358)=some (r1,r2,r3):=by first|(rw [hy359];with_reducible exact H)|(have yd:=(Option.bind_some _ _).symm.trans H;rw [hy359];with_reducible exact yd)|(have yd:=(Option.bind_some _ _).symm.trans H;with_reducible exact yd)|with_reducible exact H|(rw [hy359];exact H)|exact H
           have Ny359:=Oa hy359
           clear hy359
           have H':=Oa H
           clear H
           go_wp2_with (first|((with_reducible refine gate_callee (f:=50) rfl ?_);refine goesL_ (some 107) rfl rfl Tryd.func50 (by kernel_rfl) rfl #[.pointer (some ⟨g,0,none⟩),.int .i64 60] rfl (by(try simp only [List.map_toArray,List.map_cons,List.map_nil]);first|done|rfl|(simp only [List.length_drop,List.length_take];rfl)) ?_;(with_reducible refine(spec_l1Once.calls g s0_0 qy qz 60 true t357 t358 w0 _ ?side1 ?side2 A101.out).mono ?_);(case side1=>repeat(first|(with_reducible first|exact qb.out|apply Ob|apply Od|apply Oc|apply Of|apply Og)|exact qb.out));(case side2=>repeat(first|(with_reducible first|exact HB.out|apply below_alloc|apply pw_below_drewN|apply below_drew1|refine below_set ?_ (Oe qb.out))|exact HB.out));rintro e w103 ⟨rfl,hi,hb,hk⟩;refine⟨_,rfl,?_⟩;have qi:=Oa (Kd.R_mono (Kd.R_keep (IsS76.apart (show IsS76 w0 _ g s0_0 qy qz from by repeat(first|(with_reducible first|exact qb.out|apply Ob|apply Od|apply Oc|apply Of|apply Og)|exact qb.out)) (by(with_reducible repeat(first|apply Kd.R_alloc|apply Kd.R_drewN|apply Kd.R_drew));exact qa.out) (by decide)) hk (fun _ h=>h.2)) (fun _ h=>h.1));have qj:=Oa (KeepBut.trans (by repeat(first|(with_reducible first|exact HK.out|apply KeepBut.set_|apply keep_drewN|apply keep_drew|apply keep_alloc)|exact HK.out)) hk (.inl rfl));have qk:=Oa (hb);have ql:=Oa (hi);clear qa;clear HK;clear HB;clear qb;have qa:=qi;have HK:=qj;have HB:=qk;have qb:=ql;clear qi qj qk ql;(try clear hb);(try clear hb2);(try clear hk);(try clear hi))|((with_reducible refine gate_dst (N:=108) rfl ?_);(try(refine gate_guard (by rfl) ?_;dsimp only));refine Kd.R_lit k40 _ 40 ?hg (N:=108) ?hd (xs:=([]:List (S40))) (inner:=[]) (ok:=fun _=>True) (okp:=fun _=>True) ?hr ?hp (fun _ hk=>hk) trivial (Below.refl _ _) (Nat.le_refl _) (by simp) ?_;(case hd=>rfl);(case hg=>rfl);(case hr=>first|(go_simp;done)|(go_simp;rfl));(case hp=>exact(Reps.none _ _));intro v360 w104 ho105 hb hg_ hnew_;clear hg_ hnew_;(first|rw [← Ny359.out] at ho105|(simp only [Int.reduceToNat] at ho105;rw [← Ny359.out] at ho105));have qi:=Oa (Kd.R_elder' (by(with_reducible repeat(first|apply Kd.R_alloc|apply Kd.R_drewN|apply Kd.R_drew));exact qa.out) (Kd.R_base ho105) hb);have qj:=Oa (Kd.R_lower (Kd.R_new' ho105 (Kd.R_lt (by(with_reducible repeat(first|apply Kd.R_alloc|apply Kd.R_drewN|apply Kd.R_drew));exact qa.out))) (keep_size (w:=w) (g:=g) (row:=none) (by repeat(first|(with_reducible first|exact HK.out|apply KeepBut.set_|apply keep_drewN|apply keep_drew|apply keep_alloc)|exact HK.out))));have qk:=Oa (IsS76.below (by repeat(first|(with_reducible first|exact qb.out|apply Ob|apply Od|apply Oc|apply Of|apply Og)|exact qb.out)) hb);have ql:=Oa (KeepBut.trans (by repeat(first|(with_reducible first|exact HK.out|apply KeepBut.set_|apply keep_drewN|apply keep_drew|apply keep_alloc)|exact HK.out)) (KeepBut.of_below hb g none) (.inl rfl));have qr:=Oa (below_step (by repeat(first|(with_reducible first|exact HB.out|apply below_alloc|apply pw_below_drewN|apply below_drew1|refine below_set ?_ (Oe qb.out))|exact HB.out)) hb);clear qa;clear qb;clear HK;clear HB;have qa:=qi;have HO361:=qj;have qb:=qk;have HK:=ql;have HB:=qr;clear qi qj qk ql qr;clear hb ho105))
           go_loopg [3,9] kj45 (fun kq v3 v9 w'=>∃ (x3_5:List (S40)) (zf:Int) (yi:Int) (yj:Int),v9=.int .i64 zf∧Aside0 (spec_l12DrawTitles.l2 kq x3_5 zf s0_0 yi yj=some (r1,r2,r3))∧Aside0 (kq≤kj45)∧Aside0 (Kd.R k40 40 w' w.heap.size (fun _=>True) v3 x3_5)∧Aside0 (IsS76 w0 w' g s0_0 yi yj)∧Aside0 (KeepBut w w' g none)∧Aside0 (Below w0.heap.size w0 w'))
           case atStart=>exact⟨(y359),(0),(t357),(t358),(by first|rfl|(simp;done)|(simp [*];done)),H',⟨Nat.le_refl _⟩,⟨by(with_reducible repeat(first|apply Kd.R_alloc|apply Kd.R_drewN|apply Kd.R_drew));exact Kd.R_mono HO361.out (fun _ hk=>trivial)⟩,⟨by repeat(first|(with_reducible first|exact qb.out|apply Ob|apply Od|apply Oc|apply Of|apply Og)|exact qb.out)⟩,⟨by repeat(first|(with_reducible first|exact HK.out|apply KeepBut.set_|apply keep_drewN|apply keep_drew|apply keep_alloc)|exact HK.out)⟩,⟨by repeat(first|(with_reducible first|exact HB.out|apply below_alloc|apply pw_below_drewN|apply below_drew1|refine below_set ?_ (Oe qb.out))|exact HB.out)⟩⟩
           case round=>
            clear H';try clear c1;try clear p2;try clear c3;try clear p3;try clear q3;try clear hx3;try clear qi3;try clear c4;try clear c5;try clear c6;try clear c7;try clear p7;try clear q7;try clear hx7;try clear hf7;try clear c8;try clear p8;try clear q8;try clear hx8;try clear hf8;try clear c9;try clear c10;try clear p32;try clear q32;try clear hx32;try clear hx33;try clear p34;try clear q34;try clear hx34;try clear p35;try clear q35;try clear hx35;try clear qi35;try clear c38;try clear c47;try clear c49;try clear c50;try clear c66;try clear c66b0;try clear c66b1;try clear c68;try clear c69;try clear c70;try clear p70;try clear q70;try clear hx70;try clear hf70;try clear c81;try clear c82;try clear c82b0;try clear c82b1;try clear c84;try clear c84b0;try clear c85;try clear c85b0;try clear c86;try clear p86;try clear q86;try clear hx86;try clear hf86;try clear c97;try clear c102;try clear ya;try clear yb;try clear yc;try clear yx;try clear yy;try clear yz;try clear hx345_0;try clear za;try clear zb;try clear zc;try clear hx354_0;try clear hx70_0;try clear hx70_1;try clear hx70_2;try clear hx86_0;try clear hx86_1;try clear hx86_2;try clear p2;try clear p3;try clear p32;try clear yq;try clear p34;try clear p345;try clear p347;try clear p35;try clear p354;try clear p7;try clear p70;try clear p8;try clear p86;try clear q3;try clear q32;try clear yr;try clear q34;try clear q345;try clear q347;try clear q35;try clear q354;try clear q7;try clear q70;try clear q8;try clear q86
            obtain⟨x3_5,zf,yi,yj,rfl,HA,HK5,qa,qb,HK,HB⟩:=hrel
            cases gk with
            | zero => exact absurd HA.out (by simp [spec_l12DrawTitles.l2])
            | succ k5 =>
             have H:=HA.out
             clear HA
             simp only [spec_l12DrawTitles.l2] at H
             replace H:=Option.bind_eq_some_iff.mp H
             obtain⟨⟨t362,t363,t364⟩,A1060,H⟩:=H
             try dsimp only at H
             have A106:=Oa A1060
             clear A1060
             by_cases c107:zf < (wrap64 (200+t362))
             ·rw [if_pos c107] at H
              have c107b0:=decide_eq_true c107
              clear c107
              by_cases c108:x3_5.length < 4398046511104
              case neg=>rw[if_neg c108] at H;exact absurd H (by simp)
              rw[if_pos c108] at H
              have LMc108:=Oa c108
              clear c108
              obtain⟨y365,hy365⟩:∃ y_:List (S40),y_=(x3_5 ++ [(⟨wrap64 (zf*10),wrap64 ((wrap64 (zf*10))+10),(⟨#[116]⟩:ByteArray)⟩:S40)]):=⟨_,rfl⟩
              replace H:(spec_l12DrawTitles.l2 k5 y365 (wrap64 (zf+1)) s0_0 t363 t364)=some (r1,r2,r3):=by first|(rw [hy365];with_reducible exact H)|(have yd:=(Option.bind_some _ _).symm.trans H;rw [hy365];with_reducible exact yd)|(have yd:=(Option.bind_some _ _).symm.trans H;with_reducible exact yd)|with_reducible exact H|(rw [hy365];exact H)|exact H
              have Ny365:=Oa hy365
              clear hy365
              have H':=Oa H
              clear H
              go_wp2_with (first|((with_reducible refine gate_callee (f:=38) rfl ?_);refine goesL_ (some 111) rfl rfl Tryd.func38 (by kernel_rfl) rfl #[.pointer (some ⟨g,0,none⟩),.int .i64 2] rfl (by(try simp only [List.map_toArray,List.map_cons,List.map_nil]);first|done|rfl|(simp only [List.length_drop,List.length_take];rfl)) ?_;(with_reducible refine(spec_l1Below.calls g s0_0 yi yj 2 t362 t363 t364 w0 _ ?side1 ?side2 A106.out).mono ?_);(case side1=>repeat(first|(with_reducible first|exact qb.out|apply Ob|apply Od|apply Oc|apply Of|apply Og)|exact qb.out));(case side2=>repeat(first|(with_reducible first|exact HB.out|apply below_alloc|apply pw_below_drewN|apply below_drew1|refine below_set ?_ (Oe qb.out))|exact HB.out));rintro e w109 ⟨rfl,hi,hb,hk⟩;refine⟨_,rfl,?_⟩;have qi:=Oa (Kd.R_mono (Kd.R_keep (IsS76.apart (show IsS76 w0 _ g s0_0 yi yj from by repeat(first|(with_reducible first|exact qb.out|apply Ob|apply Od|apply Oc|apply Of|apply Og)|exact qb.out)) (by(with_reducible repeat(first|apply Kd.R_alloc|apply Kd.R_drewN|apply Kd.R_drew));exact qa.out) (by decide)) hk (fun _ h=>h.2)) (fun _ h=>h.1));have qj:=Oa (KeepBut.trans (by repeat(first|(with_reducible first|exact HK.out|apply KeepBut.set_|apply keep_drewN|apply keep_drew|apply keep_alloc)|exact HK.out)) hk (.inl rfl));have qk:=Oa (hb);have ql:=Oa (hi);clear qa;clear HK;clear HB;clear qb;have qa:=qi;have HK:=qj;have HB:=qk;have qb:=ql;clear qi qj qk ql;(try clear hb);(try clear hb2);(try clear hk);(try clear hi))|((with_reducible refine gate_builtin (b:=.append) (xs:=#[.tmp 116,.tmp 123]) rfl ?_);(try(refine gate_guard (by rfl) ?_;dsimp only));at_builtin;refine Kd.R_append k40 w.heap.size rfl (.tmp 116) (.tmp 123) 25 40 (.agg #[(.int .i64 0),(.int .i64 0),(.string ⟨#[]⟩)]) 32 rfl Tryd.underlying25 info40 rfl (by decide) (by omega) u3 x3_5 (⟨wrap64 (zf*10),wrap64 ((wrap64 (zf*10))+10),(⟨#[116]⟩:ByteArray)⟩:S40) [.int .i64 (wrap64 (zf*10)),.int .i64 (wrap64 ((wrap64 (zf*10))+10)),.string (⟨#[116]⟩:ByteArray)] (fun _=>True) (fun _=>False) rfl rfl ?aP (fun _ hk=>hk.elim) ?aF ?aO (Below.refl _ _) ?aS ?aL ?_;(case aP=>exact k40_mkM _ _ _ (⟨wrap64 (zf*10),wrap64 ((wrap64 (zf*10))+10),(⟨#[116]⟩:ByteArray)⟩:S40));(case aF=>exact(fun _ _=>trivial));(case aO=>exact(by(with_reducible repeat(first|apply Kd.R_alloc|apply Kd.R_drewN|apply Kd.R_drew));exact qa.out));(case aS=>exact(keep_size (w:=w) (g:=g) (row:=none) (by repeat(first|(with_reducible first|exact HK.out|apply KeepBut.set_|apply keep_drewN|apply keep_drew|apply keep_alloc)|exact HK.out))));(case aL=>have:=LMc108.out;omega);intro v366 w110 ho hb hg hat;rw [← Ny365.out] at ho;have qi:=Oa (IsS76.grown (by repeat(first|(with_reducible first|exact qb.out|apply Ob|apply Od|apply Oc|apply Of|apply Og)|exact qb.out)) hg (IsS76.own_ne qb.out qa.out (by decide)));have qj:=Oa (below_weaken (by repeat(first|(with_reducible first|exact HB.out|apply below_alloc|apply pw_below_drewN|apply below_drew1|refine below_set ?_ (Oe qb.out))|exact HB.out)) HL.out hb);have qk:=Oa (KeepBut.trans (by repeat(first|(with_reducible first|exact HK.out|apply KeepBut.set_|apply keep_drewN|apply keep_drew|apply keep_alloc)|exact HK.out)) (KeepBut.of_grown hg g) (Kd.R_base2 qa.out));have ql:=Oa (ho);clear qb;clear HB;clear HK;clear qa;have qb:=qi;have HB:=qj;have HK:=qk;have HO367:=ql;clear qi qj qk ql;clear ho hb hg hat))
              go_roundg k5
              case measure=>have:=HJ3.out;have:=HK2.out;have:=HJ39.out;have:=HJ45.out;have:=HK5.out;omega
              case rel=>exact⟨(y365),(wrap64 (zf+1)),(t363),(t364),(by first|rfl|(simp;done)|(simp [*];done)),H',⟨by have:=HJ3.out;have:=HK2.out;have:=HJ39.out;have:=HJ45.out;have:=HK5.out;omega⟩,⟨by(with_reducible repeat(first|apply Kd.R_alloc|apply Kd.R_drewN|apply Kd.R_drew));exact HO367.out⟩,⟨by repeat(first|(with_reducible first|exact qb.out|apply Ob|apply Od|apply Oc|apply Of|apply Og)|exact qb.out)⟩,⟨by repeat(first|(with_reducible first|exact HK.out|apply KeepBut.set_|apply keep_drewN|apply keep_drew|apply keep_alloc)|exact HK.out)⟩,⟨by repeat(first|(with_reducible first|exact HB.out|apply below_alloc|apply pw_below_drewN|apply below_drew1|refine below_set ?_ (Oe qb.out))|exact HB.out)⟩⟩
             ·rw [if_neg c107] at H
              have c107b0:=decide_eq_false c107
              clear c107
              simp only [Option.some.injEq,Prod.mk.injEq] at H
              obtain⟨rfl,rfl,rfl⟩:=H
              go_wp2_with (first|((with_reducible refine gate_callee (f:=38) rfl ?_);refine goesL_ (some 111) rfl rfl Tryd.func38 (by kernel_rfl) rfl #[.pointer (some ⟨g,0,none⟩),.int .i64 2] rfl (by(try simp only [List.map_toArray,List.map_cons,List.map_nil]);first|done|rfl|(simp only [List.length_drop,List.length_take];rfl)) ?_;(with_reducible refine(spec_l1Below.calls g s0_0 yi yj 2 t362 t363 t364 w0 _ ?side1 ?side2 A106.out).mono ?_);(case side1=>repeat(first|(with_reducible first|exact qb.out|apply Ob|apply Od|apply Oc|apply Of|apply Og)|exact qb.out));(case side2=>repeat(first|(with_reducible first|exact HB.out|apply below_alloc|apply pw_below_drewN|apply below_drew1|refine below_set ?_ (Oe qb.out))|exact HB.out));rintro e w111 ⟨rfl,hi,hb,hk⟩;refine⟨_,rfl,?_⟩;have qi:=Oa (Kd.R_mono (Kd.R_keep (IsS76.apart (show IsS76 w0 _ g s0_0 yi yj from by repeat(first|(with_reducible first|exact qb.out|apply Ob|apply Od|apply Oc|apply Of|apply Og)|exact qb.out)) (by(with_reducible repeat(first|apply Kd.R_alloc|apply Kd.R_drewN|apply Kd.R_drew));exact qa.out) (by decide)) hk (fun _ h=>h.2)) (fun _ h=>h.1));have qj:=Oa (KeepBut.trans (by repeat(first|(with_reducible first|exact HK.out|apply KeepBut.set_|apply keep_drewN|apply keep_drew|apply keep_alloc)|exact HK.out)) hk (.inl rfl));have qk:=Oa (hb);have ql:=Oa (hi);clear qa;clear HK;clear HB;clear qb;have qa:=qi;have HK:=qj;have HB:=qk;have qb:=ql;clear qi qj qk ql;(try clear hb);(try clear hb2);(try clear hk);(try clear hi)))
              go_ret
              exact⟨_,by first|rfl|(simp [errW_none,errW_some] <;> rfl)|(simp [*,errW_none,errW_some] <;> rfl),by(with_reducible repeat(first|apply Kd.R_alloc|apply Kd.R_drewN|apply Kd.R_drew));exact qa.out,by repeat(first|(with_reducible first|exact qb.out|apply Ob|apply Od|apply Oc|apply Of|apply Og)|exact qb.out),by repeat(first|(with_reducible first|exact HB.out|apply below_alloc|apply pw_below_drewN|apply below_drew1|refine below_set ?_ (Oe qb.out))|exact HB.out),by repeat(first|(with_reducible first|exact HK.out|apply KeepBut.set_|apply keep_drewN|apply keep_drew|apply keep_alloc)|exact HK.out)⟩
          ·replace c102:=Bool.eq_false_iff.mpr c102
           subst c102
           have H1:(some (x3_45,t357,t358))=some (r1,r2,r3):=by rw [if_neg (show ¬ (false=true) by decide)] at H;exact H
           clear H
           have H:=H1
           clear H1
           simp only [Option.some.injEq,Prod.mk.injEq] at H
           obtain⟨rfl,rfl,rfl⟩:=H
           go_wp2_with (first|((with_reducible refine gate_callee (f:=50) rfl ?_);refine goesL_ (some 107) rfl rfl Tryd.func50 (by kernel_rfl) rfl #[.pointer (some ⟨g,0,none⟩),.int .i64 60] rfl (by(try simp only [List.map_toArray,List.map_cons,List.map_nil]);first|done|rfl|(simp only [List.length_drop,List.length_take];rfl)) ?_;(with_reducible refine(spec_l1Once.calls g s0_0 qy qz 60 false t357 t358 w0 _ ?side1 ?side2 A101.out).mono ?_);(case side1=>repeat(first|(with_reducible first|exact qb.out|apply Ob|apply Od|apply Oc|apply Of|apply Og)|exact qb.out));(case side2=>repeat(first|(with_reducible first|exact HB.out|apply below_alloc|apply pw_below_drewN|apply below_drew1|refine below_set ?_ (Oe qb.out))|exact HB.out));rintro e w112 ⟨rfl,hi,hb,hk⟩;refine⟨_,rfl,?_⟩;have qi:=Oa (Kd.R_mono (Kd.R_keep (IsS76.apart (show IsS76 w0 _ g s0_0 qy qz from by repeat(first|(with_reducible first|exact qb.out|apply Ob|apply Od|apply Oc|apply Of|apply Og)|exact qb.out)) (by(with_reducible repeat(first|apply Kd.R_alloc|apply Kd.R_drewN|apply Kd.R_drew));exact qa.out) (by decide)) hk (fun _ h=>h.2)) (fun _ h=>h.1));have qj:=Oa (KeepBut.trans (by repeat(first|(with_reducible first|exact HK.out|apply KeepBut.set_|apply keep_drewN|apply keep_drew|apply keep_alloc)|exact HK.out)) hk (.inl rfl));have qk:=Oa (hb);have ql:=Oa (hi);clear qa;clear HK;clear HB;clear qb;have qa:=qi;have HK:=qj;have HB:=qk;have qb:=ql;clear qi qj qk ql;(try clear hb);(try clear hb2);(try clear hk);(try clear hi)))
           go_ret
           exact⟨_,by first|rfl|(simp [errW_none,errW_some] <;> rfl)|(simp [*,errW_none,errW_some] <;> rfl),by(with_reducible repeat(first|apply Kd.R_alloc|apply Kd.R_drewN|apply Kd.R_drew));exact qa.out,by repeat(first|(with_reducible first|exact qb.out|apply Ob|apply Od|apply Oc|apply Of|apply Og)|exact qb.out),by repeat(first|(with_reducible first|exact HB.out|apply below_alloc|apply pw_below_drewN|apply below_drew1|refine below_set ?_ (Oe qb.out))|exact HB.out),by repeat(first|(with_reducible first|exact HK.out|apply KeepBut.set_|apply keep_drewN|apply keep_drew|apply keep_alloc)|exact HK.out)⟩

end Go.Proofs.YtidogkjhjmcliaaDoor.HFnTitlesBack
